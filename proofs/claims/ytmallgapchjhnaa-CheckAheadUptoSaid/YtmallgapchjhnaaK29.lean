/- The reference's comparisons, of what is the same. No condition: plain theorems. -/
import Derived.Test.YtmallgapchjhnaaK22
import Derived.Test.YtmallgapchjhnaaTq
set_option linter.unusedVariables false
set_option linter.unusedSimpArgs false
namespace Go.Proofs.Ytmallgapchjhnaa
set_option maxRecDepth 100000
open Go Go.Ax
attribute [local irreducible] X XL XE XQ PV

theorem sameInts_r (l : List Int) : AC Try.prog 42 [.list 1 (l.map iv), .list 1 (l.map iv)] [] (RetIs (bv true) []) := by
  refine ac_intro Try.func42 rfl rfl fun I w => ?_
  simp only [argEnv]
  refine x_llen 0 rfl (fun hl => ?_)
  simp only [List.length_map] at hl
  refine x_seq ?_
  refine x_region ?_
  refine xl_pv (pv_assign rfl) rfl ?_
  refine xl_nil ?_
  refine xq_norm (xe_code ?_)
  refine x_seq ?_
  refine x_seq ?_
  refine x_region ?_
  refine xl_pv (pv_move rfl) rfl ?_
  refine xl_pv (pv_len rfl) rfl ?_
  refine xl_pv (pv_move rfl) rfl ?_
  refine xl_pv (pv_len rfl) rfl ?_
  refine xl_pv (pv_bin rfl rfl (v := .bool false) (by simp [intBin])) rfl ?_
  refine xl_nil ?_
  refine xq_norm (xe_code ?_)
  refine x_cond rfl (fun h => nomatch h) (fun _ => ?_)
  refine x_skip ?_
  refine xq_norm (xe_code ?_)
  refine x_seq ?_
  refine x_seq ?_
  refine x_region ?_
  refine xl_pv (pv_assign rfl) rfl ?_
  refine xl_nil ?_
  refine xq_norm (xe_code ?_)
  refine x_block ?_
  -- slots turned in the loop and not told: [4]
  refine x_loopS (S := Nat) (fun i => i ≤ l.length) (fun i => l.length - i) (fun i => [(5, iv i)]) (fun i => _) (0) (by simp) (.cons rfl (.cons (i := 4) rfl (.cons (i := 0) rfl (.cons (i := 1) rfl (.nil _))))) (rfl) ?_
  rintro i hi
  simp only [List.cons_append, List.nil_append]
  refine x_seq ?_
  refine x_seq ?_
  refine x_region ?_
  refine xl_pv (pv_move rfl) rfl ?_
  refine xl_pv (pv_move rfl) rfl ?_
  refine xl_pv (pv_len rfl) rfl ?_
  refine xl_pv (pv_bin rfl rfl rfl) rfl ?_
  refine xl_nil ?_
  refine xq_norm (xe_code ?_)
  refine x_condT rfl (fun h => ?_) (fun h => ?_)
  · skip
    have hlt : i < l.length := by simpa using h
    obtain ⟨z, hz⟩ := get_lt hlt
    refine x_skip ?_
    refine xq_norm (xe_code ?_)
    refine x_seq ?_
    refine x_block ?_
    refine x_seq ?_
    refine x_draw rfl ?_
    refine xd_v 0 rfl rfl rfl (gv_v (pv_move rfl) rfl) ?_
    refine xd_v 1 rfl rfl rfl (gv_v (pv_move rfl) rfl) ?_
    refine xd_v 2 rfl rfl rfl (gv_v (pv_at rfl rfl (by omega) ((get_map hz))) rfl) ?_
    refine xd_v 3 rfl rfl rfl (gv_v (pv_load1_i rfl rfl) rfl) ?_
    refine xd_v 4 rfl rfl rfl (gv_v (pv_move rfl) rfl) ?_
    refine xd_v 5 rfl rfl rfl (gv_v (pv_move rfl) rfl) ?_
    refine xd_v 6 rfl rfl rfl (gv_v (pv_at rfl rfl (by omega) ((get_map hz))) rfl) ?_
    refine xd_v 7 rfl rfl rfl (gv_v (pv_load1_i rfl rfl) rfl) ?_
    refine xd_v 8 rfl rfl rfl (gv_v (pv_bin rfl rfl (v := .bool false) (by simp [intBin])) rfl) ?_
    refine xd_end rfl rfl rfl rfl ?_
    refine xq_sub (.cons (i := 25) rfl (.cons (i := 24) rfl (.cons (i := 23) rfl (.cons (i := 22) rfl (.cons (i := 21) rfl (.cons (i := 20) rfl (.cons (i := 19) rfl (.cons (i := 18) rfl (.cons (i := 17) rfl (.cons (i := 14) rfl (.cons (i := 13) rfl (.cons (i := 12) rfl (.cons (i := 11) rfl (.cons (i := 5) rfl (.cons (i := 4) rfl (.cons (i := 0) rfl (.cons (i := 1) rfl (.nil _)))))))))))))))))) ?_
    refine xq_norm (xe_code ?_)
    refine x_cond rfl (fun h => nomatch h) (fun _ => ?_)
    refine x_skip ?_
    refine xq_bnorm ?_
    refine xq_norm (xe_code ?_)
    refine x_region ?_
    refine xl_pv (pv_move rfl) rfl ?_
    refine xl_pv (pv_add rfl rfl (by first | omega | (simp only [List.length_map]; omega) | (simp; omega)) (by first | omega | (simp only [List.length_map]; omega) | (simp; omega))) rfl ?_
    refine xl_pv (pv_assign rfl) rfl ?_
    refine xl_nil ?_
    refine xe_loopF (i + 1) (hlt) (by first | omega | (simp at *; omega)) (.cons rfl (.cons rfl (.cons rfl (.cons rfl (.nil _))))) (rfl)
  · skip
    refine x_exit ?_
    refine xq_exit ?_
    refine xq_exit ?_
    refine xq_hit ?_
    refine xq_norm (xe_code ?_)
    refine x_seq ?_
    refine x_region ?_
    refine xl_pv (pv_assign rfl) rfl ?_
    refine xl_nil ?_
    refine xq_norm (xe_code ?_)
    refine x_ret ?_
    refine xq_done (.inr rfl) _ (res1 rfl rfl) ?_
    exact ⟨rfl, rfl⟩
theorem sameTexts_r (l : List ByteArray) : AC Try.prog 38 [strs l, strs l] [] (RetIs (bv true) []) := by
  refine ac_intro Try.func38 rfl rfl fun I w => ?_
  simp only [argEnv]
  refine x_llen 0 rfl (fun hl => ?_)
  simp only [List.length_map] at hl
  refine x_seq ?_
  refine x_region ?_
  refine xl_pv (pv_assign rfl) rfl ?_
  refine xl_nil ?_
  refine xq_norm (xe_code ?_)
  refine x_seq ?_
  refine x_seq ?_
  refine x_region ?_
  refine xl_pv (pv_move rfl) rfl ?_
  refine xl_pv (pv_len rfl) rfl ?_
  refine xl_pv (pv_move rfl) rfl ?_
  refine xl_pv (pv_len rfl) rfl ?_
  refine xl_pv (pv_bin rfl rfl (v := .bool false) (by simp [intBin])) rfl ?_
  refine xl_nil ?_
  refine xq_norm (xe_code ?_)
  refine x_cond rfl (fun h => nomatch h) (fun _ => ?_)
  refine x_skip ?_
  refine xq_norm (xe_code ?_)
  refine x_seq ?_
  refine x_seq ?_
  refine x_region ?_
  refine xl_pv (pv_assign rfl) rfl ?_
  refine xl_nil ?_
  refine xq_norm (xe_code ?_)
  refine x_block ?_
  -- slots turned in the loop and not told: [4]
  refine x_loopS (S := Nat) (fun i => i ≤ l.length) (fun i => l.length - i) (fun i => [(5, iv i)]) (fun i => _) (0) (by simp) (.cons rfl (.cons (i := 4) rfl (.cons (i := 0) rfl (.cons (i := 1) rfl (.nil _))))) (rfl) ?_
  rintro i hi
  simp only [List.cons_append, List.nil_append]
  refine x_seq ?_
  refine x_seq ?_
  refine x_region ?_
  refine xl_pv (pv_move rfl) rfl ?_
  refine xl_pv (pv_move rfl) rfl ?_
  refine xl_pv (pv_len rfl) rfl ?_
  refine xl_pv (pv_bin rfl rfl rfl) rfl ?_
  refine xl_nil ?_
  refine xq_norm (xe_code ?_)
  refine x_condT rfl (fun h => ?_) (fun h => ?_)
  · skip
    have hlt : i < l.length := by simpa using h
    obtain ⟨z, hz⟩ := get_lt hlt
    refine x_skip ?_
    refine xq_norm (xe_code ?_)
    refine x_seq ?_
    refine x_block ?_
    refine x_seq ?_
    refine x_draw rfl ?_
    refine xd_v 0 rfl rfl rfl (gv_v (pv_move rfl) rfl) ?_
    refine xd_v 1 rfl rfl rfl (gv_v (pv_move rfl) rfl) ?_
    refine xd_v 2 rfl rfl rfl (gv_v (pv_at rfl rfl (by omega) ((get_map hz))) rfl) ?_
    refine xd_v 3 rfl rfl rfl (gv_v (pv_load1_i rfl rfl) rfl) ?_
    refine xd_v 4 rfl rfl rfl (gv_v (pv_move rfl) rfl) ?_
    refine xd_v 5 rfl rfl rfl (gv_v (pv_move rfl) rfl) ?_
    refine xd_v 6 rfl rfl rfl (gv_v (pv_at rfl rfl (by omega) ((get_map hz))) rfl) ?_
    refine xd_v 7 rfl rfl rfl (gv_v (pv_load1_i rfl rfl) rfl) ?_
    refine xd_v 8 rfl rfl rfl (gv_v (pv_wk (.val (.bool false)) (pv_str_ne rfl rfl) (Wk.of_eq (by simp))) rfl) ?_
    refine xd_end rfl rfl rfl rfl ?_
    refine xq_sub (.cons (i := 25) rfl (.cons (i := 24) rfl (.cons (i := 23) rfl (.cons (i := 22) rfl (.cons (i := 21) rfl (.cons (i := 20) rfl (.cons (i := 19) rfl (.cons (i := 18) rfl (.cons (i := 17) rfl (.cons (i := 14) rfl (.cons (i := 13) rfl (.cons (i := 12) rfl (.cons (i := 11) rfl (.cons (i := 5) rfl (.cons (i := 4) rfl (.cons (i := 0) rfl (.cons (i := 1) rfl (.nil _)))))))))))))))))) ?_
    refine xq_norm (xe_code ?_)
    refine x_cond rfl (fun h => nomatch h) (fun _ => ?_)
    refine x_skip ?_
    refine xq_bnorm ?_
    refine xq_norm (xe_code ?_)
    refine x_region ?_
    refine xl_pv (pv_move rfl) rfl ?_
    refine xl_pv (pv_add rfl rfl (by first | omega | (simp only [List.length_map]; omega) | (simp; omega)) (by first | omega | (simp only [List.length_map]; omega) | (simp; omega))) rfl ?_
    refine xl_pv (pv_assign rfl) rfl ?_
    refine xl_nil ?_
    refine xe_loopF (i + 1) (hlt) (by first | omega | (simp at *; omega)) (.cons rfl (.cons rfl (.cons rfl (.cons rfl (.nil _))))) (rfl)
  · skip
    refine x_exit ?_
    refine xq_exit ?_
    refine xq_exit ?_
    refine xq_hit ?_
    refine xq_norm (xe_code ?_)
    refine x_seq ?_
    refine x_region ?_
    refine xl_pv (pv_assign rfl) rfl ?_
    refine xl_nil ?_
    refine xq_norm (xe_code ?_)
    refine x_ret ?_
    refine xq_done (.inr rfl) _ (res1 rfl rfl) ?_
    exact ⟨rfl, rfl⟩
theorem samePoints_r (l : List CPoint) : AC Try.prog 24 [.list 3 (l.map CPoint.av), .list 3 (l.map CPoint.av)] [] (RetIs (bv true) []) := by
  refine ac_intro Try.func24 rfl rfl fun I w => ?_
  simp only [argEnv]
  refine x_llen 0 rfl (fun hl => ?_)
  simp only [List.length_map] at hl
  refine x_seq ?_
  refine x_region ?_
  refine xl_pv (pv_assign rfl) rfl ?_
  refine xl_nil ?_
  refine xq_norm (xe_code ?_)
  refine x_seq ?_
  refine x_seq ?_
  refine x_region ?_
  refine xl_pv (pv_move rfl) rfl ?_
  refine xl_pv (pv_len rfl) rfl ?_
  refine xl_pv (pv_move rfl) rfl ?_
  refine xl_pv (pv_len rfl) rfl ?_
  refine xl_pv (pv_bin rfl rfl (v := .bool false) (by simp [intBin])) rfl ?_
  refine xl_nil ?_
  refine xq_norm (xe_code ?_)
  refine x_cond rfl (fun h => nomatch h) (fun _ => ?_)
  refine x_skip ?_
  refine xq_norm (xe_code ?_)
  refine x_seq ?_
  refine x_seq ?_
  refine x_region ?_
  refine xl_pv (pv_assign rfl) rfl ?_
  refine xl_nil ?_
  refine xq_norm (xe_code ?_)
  refine x_block ?_
  -- slots turned in the loop and not told: [4]
  refine x_loopS (S := Nat) (fun i => i ≤ l.length) (fun i => l.length - i) (fun i => [(5, iv i)]) (fun i => _) (0) (by simp) (.cons rfl (.cons (i := 4) rfl (.cons (i := 0) rfl (.cons (i := 1) rfl (.nil _))))) (rfl) ?_
  rintro i hi
  simp only [List.cons_append, List.nil_append]
  refine x_seq ?_
  refine x_seq ?_
  refine x_region ?_
  refine xl_pv (pv_move rfl) rfl ?_
  refine xl_pv (pv_move rfl) rfl ?_
  refine xl_pv (pv_len rfl) rfl ?_
  refine xl_pv (pv_bin rfl rfl rfl) rfl ?_
  refine xl_nil ?_
  refine xq_norm (xe_code ?_)
  refine x_condT rfl (fun h => ?_) (fun h => ?_)
  · skip
    have hlt : i < l.length := by simpa using h
    obtain ⟨z, hz⟩ := get_lt hlt
    refine x_skip ?_
    refine xq_norm (xe_code ?_)
    refine x_seq ?_
    refine x_block ?_
    refine x_seq ?_
    refine x_draw rfl ?_
    refine xd_v 0 rfl rfl rfl (gv_v (pv_move rfl) rfl) ?_
    refine xd_v 1 rfl rfl rfl (gv_v (pv_move rfl) rfl) ?_
    refine xd_v 2 rfl rfl rfl (gv_v (pv_at rfl rfl (by omega) ((get_map hz))) rfl) ?_
    refine xd_v 3 rfl rfl rfl (gv_v (pv_field_i rfl) rfl) ?_
    refine xd_v 4 rfl rfl rfl (gv_v (pv_load1_i rfl rfl) rfl) ?_
    refine xd_v 5 rfl rfl rfl (gv_v (pv_move rfl) rfl) ?_
    refine xd_v 6 rfl rfl rfl (gv_v (pv_move rfl) rfl) ?_
    refine xd_v 7 rfl rfl rfl (gv_v (pv_at rfl rfl (by omega) ((get_map hz))) rfl) ?_
    refine xd_v 8 rfl rfl rfl (gv_v (pv_field_i rfl) rfl) ?_
    refine xd_v 9 rfl rfl rfl (gv_v (pv_load1_i rfl rfl) rfl) ?_
    refine xd_v 10 rfl rfl rfl (gv_v (pv_bin rfl rfl (v := .bool false) (by simp [intBin])) rfl) ?_
    refine xd_v 11 rfl rfl rfl (gv_v (pv_move rfl) rfl) ?_
    refine xd_v 12 rfl rfl rfl (gv_take rfl rfl rfl (pv_move rfl) rfl) ?_
    refine xd_v 13 rfl rfl rfl (gv_take rfl rfl rfl (pv_move rfl) rfl) ?_
    refine xd_v 14 rfl rfl rfl (gv_take rfl rfl rfl (pv_at rfl rfl (by omega) ((get_map hz))) rfl) ?_
    refine xd_v 15 rfl rfl rfl (gv_take rfl rfl rfl (pv_field_i rfl) rfl) ?_
    refine xd_v 16 rfl rfl rfl (gv_take rfl rfl rfl (pv_load1_i rfl rfl) rfl) ?_
    refine xd_v 17 rfl rfl rfl (gv_take rfl rfl rfl (pv_move rfl) rfl) ?_
    refine xd_v 18 rfl rfl rfl (gv_take rfl rfl rfl (pv_move rfl) rfl) ?_
    refine xd_v 19 rfl rfl rfl (gv_take rfl rfl rfl (pv_at rfl rfl (by omega) ((get_map hz))) rfl) ?_
    refine xd_v 20 rfl rfl rfl (gv_take rfl rfl rfl (pv_field_i rfl) rfl) ?_
    refine xd_v 21 rfl rfl rfl (gv_take rfl rfl rfl (pv_load1_i rfl rfl) rfl) ?_
    refine xd_v 22 rfl rfl rfl (gv_take rfl rfl rfl (pv_bin rfl rfl (v := .bool false) (by simp [intBin])) rfl) ?_
    refine xd_v 23 rfl rfl rfl (gv_v (pv_pick_f rfl rfl) rfl) ?_
    refine xd_v 24 rfl rfl rfl (gv_v (pv_move rfl) rfl) ?_
    refine xd_v 25 rfl rfl rfl (gv_take rfl rfl rfl (pv_move rfl) rfl) ?_
    refine xd_v 26 rfl rfl rfl (gv_take rfl rfl rfl (pv_move rfl) rfl) ?_
    refine xd_v 27 rfl rfl rfl (gv_take rfl rfl rfl (pv_at rfl rfl (by omega) ((get_map hz))) rfl) ?_
    refine xd_v 28 rfl rfl rfl (gv_take rfl rfl rfl (pv_field_i rfl) rfl) ?_
    refine xd_v 29 rfl rfl rfl (gv_take rfl rfl rfl (pv_load1_i rfl rfl) rfl) ?_
    refine xd_v 30 rfl rfl rfl (gv_take rfl rfl rfl (pv_move rfl) rfl) ?_
    refine xd_v 31 rfl rfl rfl (gv_take rfl rfl rfl (pv_move rfl) rfl) ?_
    refine xd_v 32 rfl rfl rfl (gv_take rfl rfl rfl (pv_at rfl rfl (by omega) ((get_map hz))) rfl) ?_
    refine xd_v 33 rfl rfl rfl (gv_take rfl rfl rfl (pv_field_i rfl) rfl) ?_
    refine xd_v 34 rfl rfl rfl (gv_take rfl rfl rfl (pv_load1_i rfl rfl) rfl) ?_
    refine xd_eg rfl 35 rfl rfl rfl (by rintro _ ⟨⟩ <;> exact Nat.le_of_ble_eq_true rfl) rfl (evg_take rfl rfl rfl (ev_go (sameInts_r z.scope) rfl (.cons rfl (Wk.refl _) (.cons rfl (Wk.refl _) .nil)) .d)) ?_
    rintro _ _ ⟨rfl, rfl⟩
    refine ⟨?_, ?_⟩
    · skip
      intro m hm o' y ho hy
      have hm' : m ∈ [33, 32, 31, 30, 28, 27, 26, 25, 23, 22, 21, 20, 19, 18, 17, 16, 15, 14, 13, 12, 11, 10, 9, 8, 7, 6, 5, 4, 3, 2, 1, 0] := hm
      clear hm
      rcases List.mem_cons.1 hm' with rfl | hm'
      · cases ho; cases hy
        exact gv_take rfl rfl rfl (pv_field_i rfl) rfl
      rcases List.mem_cons.1 hm' with rfl | hm'
      · cases ho; cases hy
        exact gv_take rfl rfl rfl (pv_at rfl rfl (by omega) ((get_map hz))) rfl
      rcases List.mem_cons.1 hm' with rfl | hm'
      · cases ho; cases hy
        exact gv_take rfl rfl rfl (pv_move rfl) rfl
      rcases List.mem_cons.1 hm' with rfl | hm'
      · cases ho; cases hy
        exact gv_take rfl rfl rfl (pv_move rfl) rfl
      rcases List.mem_cons.1 hm' with rfl | hm'
      · cases ho; cases hy
        exact gv_take rfl rfl rfl (pv_field_i rfl) rfl
      rcases List.mem_cons.1 hm' with rfl | hm'
      · cases ho; cases hy
        exact gv_take rfl rfl rfl (pv_at rfl rfl (by omega) ((get_map hz))) rfl
      rcases List.mem_cons.1 hm' with rfl | hm'
      · cases ho; cases hy
        exact gv_take rfl rfl rfl (pv_move rfl) rfl
      rcases List.mem_cons.1 hm' with rfl | hm'
      · cases ho; cases hy
        exact gv_take rfl rfl rfl (pv_move rfl) rfl
      rcases List.mem_cons.1 hm' with rfl | hm'
      · cases ho; cases hy
        exact gv_v (pv_pick_f rfl rfl) rfl
      rcases List.mem_cons.1 hm' with rfl | hm'
      · cases ho; cases hy
        exact gv_take rfl rfl rfl (pv_bin rfl rfl (v := .bool false) (by simp [intBin])) rfl
      rcases List.mem_cons.1 hm' with rfl | hm'
      · cases ho; cases hy
        exact gv_take rfl rfl rfl (pv_load1_i rfl rfl) rfl
      rcases List.mem_cons.1 hm' with rfl | hm'
      · cases ho; cases hy
        exact gv_take rfl rfl rfl (pv_field_i rfl) rfl
      rcases List.mem_cons.1 hm' with rfl | hm'
      · cases ho; cases hy
        exact gv_take rfl rfl rfl (pv_at rfl rfl (by omega) ((get_map hz))) rfl
      rcases List.mem_cons.1 hm' with rfl | hm'
      · cases ho; cases hy
        exact gv_take rfl rfl rfl (pv_move rfl) rfl
      rcases List.mem_cons.1 hm' with rfl | hm'
      · cases ho; cases hy
        exact gv_take rfl rfl rfl (pv_move rfl) rfl
      rcases List.mem_cons.1 hm' with rfl | hm'
      · cases ho; cases hy
        exact gv_take rfl rfl rfl (pv_load1_i rfl rfl) rfl
      rcases List.mem_cons.1 hm' with rfl | hm'
      · cases ho; cases hy
        exact gv_take rfl rfl rfl (pv_field_i rfl) rfl
      rcases List.mem_cons.1 hm' with rfl | hm'
      · cases ho; cases hy
        exact gv_take rfl rfl rfl (pv_at rfl rfl (by omega) ((get_map hz))) rfl
      rcases List.mem_cons.1 hm' with rfl | hm'
      · cases ho; cases hy
        exact gv_take rfl rfl rfl (pv_move rfl) rfl
      rcases List.mem_cons.1 hm' with rfl | hm'
      · cases ho; cases hy
        exact gv_take rfl rfl rfl (pv_move rfl) rfl
      rcases List.mem_cons.1 hm' with rfl | hm'
      · cases ho; cases hy
        exact gv_v (pv_move rfl) rfl
      rcases List.mem_cons.1 hm' with rfl | hm'
      · cases ho; cases hy
        exact gv_v (pv_bin rfl rfl (v := .bool false) (by simp [intBin])) rfl
      rcases List.mem_cons.1 hm' with rfl | hm'
      · cases ho; cases hy
        exact gv_v (pv_load1_i rfl rfl) rfl
      rcases List.mem_cons.1 hm' with rfl | hm'
      · cases ho; cases hy
        exact gv_v (pv_field_i rfl) rfl
      rcases List.mem_cons.1 hm' with rfl | hm'
      · cases ho; cases hy
        exact gv_v (pv_at rfl rfl (by omega) ((get_map hz))) rfl
      rcases List.mem_cons.1 hm' with rfl | hm'
      · cases ho; cases hy
        exact gv_v (pv_move rfl) rfl
      rcases List.mem_cons.1 hm' with rfl | hm'
      · cases ho; cases hy
        exact gv_v (pv_move rfl) rfl
      rcases List.mem_cons.1 hm' with rfl | hm'
      · cases ho; cases hy
        exact gv_v (pv_load1_i rfl rfl) rfl
      rcases List.mem_cons.1 hm' with rfl | hm'
      · cases ho; cases hy
        exact gv_v (pv_field_i rfl) rfl
      rcases List.mem_cons.1 hm' with rfl | hm'
      · cases ho; cases hy
        exact gv_v (pv_at rfl rfl (by omega) ((get_map hz))) rfl
      rcases List.mem_cons.1 hm' with rfl | hm'
      · cases ho; cases hy
        exact gv_v (pv_move rfl) rfl
      rcases List.mem_cons.1 hm' with rfl | hm'
      · cases ho; cases hy
        exact gv_v (pv_move rfl) rfl
      cases hm'
    refine xd_v 36 rfl rfl rfl (gv_take rfl rfl rfl (pv_not rfl) rfl) ?_
    refine xd_v 37 rfl rfl rfl (gv_v (pv_pick_f rfl rfl) rfl) ?_
    refine xd_end rfl rfl rfl rfl ?_
    refine xq_sub (.cons (i := 54) rfl (.cons (i := 53) rfl (.cons (i := 52) rfl (.cons (i := 51) rfl (.cons (i := 50) rfl (.cons (i := 49) rfl (.cons (i := 48) rfl (.cons (i := 47) rfl (.cons (i := 46) rfl (.cons (i := 45) rfl (.cons (i := 44) rfl (.cons (i := 43) rfl (.cons (i := 42) rfl (.cons (i := 41) rfl (.cons (i := 40) rfl (.cons (i := 39) rfl (.cons (i := 38) rfl (.cons (i := 37) rfl (.cons (i := 36) rfl (.cons (i := 35) rfl (.cons (i := 34) rfl (.cons (i := 33) rfl (.cons (i := 32) rfl (.cons (i := 31) rfl (.cons (i := 30) rfl (.cons (i := 29) rfl (.cons (i := 28) rfl (.cons (i := 27) rfl (.cons (i := 26) rfl (.cons (i := 25) rfl (.cons (i := 24) rfl (.cons (i := 23) rfl (.cons (i := 22) rfl (.cons (i := 21) rfl (.cons (i := 20) rfl (.cons (i := 19) rfl (.cons (i := 18) rfl (.cons (i := 17) rfl (.cons (i := 14) rfl (.cons (i := 13) rfl (.cons (i := 12) rfl (.cons (i := 11) rfl (.cons (i := 5) rfl (.cons (i := 4) rfl (.cons (i := 0) rfl (.cons (i := 1) rfl (.nil _))))))))))))))))))))))))))))))))))))))))))))))) ?_
    refine xq_norm (xe_code ?_)
    refine x_cond rfl (fun h => nomatch h) (fun _ => ?_)
    refine x_skip ?_
    refine xq_bnorm ?_
    refine xq_norm (xe_code ?_)
    refine x_region ?_
    refine xl_pv (pv_move rfl) rfl ?_
    refine xl_pv (pv_add rfl rfl (by first | omega | (simp only [List.length_map]; omega) | (simp; omega)) (by first | omega | (simp only [List.length_map]; omega) | (simp; omega))) rfl ?_
    refine xl_pv (pv_assign rfl) rfl ?_
    refine xl_nil ?_
    refine xe_loopF (i + 1) (hlt) (by first | omega | (simp at *; omega)) (.cons rfl (.cons rfl (.cons rfl (.cons rfl (.nil _))))) (rfl)
  · skip
    refine x_exit ?_
    refine xq_exit ?_
    refine xq_exit ?_
    refine xq_hit ?_
    refine xq_norm (xe_code ?_)
    refine x_seq ?_
    refine x_region ?_
    refine xl_pv (pv_assign rfl) rfl ?_
    refine xl_nil ?_
    refine xq_norm (xe_code ?_)
    refine x_ret ?_
    refine xq_done (.inr rfl) _ (res1 rfl rfl) ?_
    exact ⟨rfl, rfl⟩
theorem sameVars_r (l : List CVar) : AC Try.prog 19 [.list 6 (l.map CVar.av), .list 6 (l.map CVar.av)] [] (RetIs (bv true) []) := by
  refine ac_intro Try.func19 rfl rfl fun I w => ?_
  simp only [argEnv]
  refine x_llen 0 rfl (fun hl => ?_)
  simp only [List.length_map] at hl
  refine x_seq ?_
  refine x_region ?_
  refine xl_pv (pv_assign rfl) rfl ?_
  refine xl_nil ?_
  refine xq_norm (xe_code ?_)
  refine x_seq ?_
  refine x_seq ?_
  refine x_region ?_
  refine xl_pv (pv_move rfl) rfl ?_
  refine xl_pv (pv_len rfl) rfl ?_
  refine xl_pv (pv_move rfl) rfl ?_
  refine xl_pv (pv_len rfl) rfl ?_
  refine xl_pv (pv_bin rfl rfl (v := .bool false) (by simp [intBin])) rfl ?_
  refine xl_nil ?_
  refine xq_norm (xe_code ?_)
  refine x_cond rfl (fun h => nomatch h) (fun _ => ?_)
  refine x_skip ?_
  refine xq_norm (xe_code ?_)
  refine x_seq ?_
  refine x_seq ?_
  refine x_region ?_
  refine xl_pv (pv_assign rfl) rfl ?_
  refine xl_nil ?_
  refine xq_norm (xe_code ?_)
  refine x_block ?_
  -- slots turned in the loop and not told: [4]
  refine x_loopS (S := Nat) (fun i => i ≤ l.length) (fun i => l.length - i) (fun i => [(5, iv i)]) (fun i => _) (0) (by simp) (.cons rfl (.cons (i := 4) rfl (.cons (i := 0) rfl (.cons (i := 1) rfl (.nil _))))) (rfl) ?_
  rintro i hi
  simp only [List.cons_append, List.nil_append]
  refine x_seq ?_
  refine x_seq ?_
  refine x_region ?_
  refine xl_pv (pv_move rfl) rfl ?_
  refine xl_pv (pv_move rfl) rfl ?_
  refine xl_pv (pv_len rfl) rfl ?_
  refine xl_pv (pv_bin rfl rfl rfl) rfl ?_
  refine xl_nil ?_
  refine xq_norm (xe_code ?_)
  refine x_condT rfl (fun h => ?_) (fun h => ?_)
  · skip
    have hlt : i < l.length := by simpa using h
    obtain ⟨⟨z1, ⟨t1, t2, t3⟩, z3, z4⟩, hz⟩ := get_lt hlt
    refine x_skip ?_
    refine xq_norm (xe_code ?_)
    refine x_seq ?_
    refine x_block ?_
    refine x_seq ?_
    refine x_draw rfl ?_
    refine xd_v 0 rfl rfl rfl (gv_v (pv_move rfl) rfl) ?_
    refine xd_v 1 rfl rfl rfl (gv_v (pv_move rfl) rfl) ?_
    refine xd_v 2 rfl rfl rfl (gv_v (pv_at rfl rfl (by omega) ((get_map hz))) rfl) ?_
    refine xd_v 3 rfl rfl rfl (gv_v (pv_field_i rfl) rfl) ?_
    refine xd_v 4 rfl rfl rfl (gv_v (pv_load1_i rfl rfl) rfl) ?_
    refine xd_v 5 rfl rfl rfl (gv_v (pv_move rfl) rfl) ?_
    refine xd_v 6 rfl rfl rfl (gv_v (pv_move rfl) rfl) ?_
    refine xd_v 7 rfl rfl rfl (gv_v (pv_at rfl rfl (by omega) ((get_map hz))) rfl) ?_
    refine xd_v 8 rfl rfl rfl (gv_v (pv_field_i rfl) rfl) ?_
    refine xd_v 9 rfl rfl rfl (gv_v (pv_load1_i rfl rfl) rfl) ?_
    refine xd_v 10 rfl rfl rfl (gv_v (pv_wk (.val (.bool false)) (pv_str_ne rfl rfl) (Wk.of_eq (by simp))) rfl) ?_
    refine xd_v 11 rfl rfl rfl (gv_v (pv_move rfl) rfl) ?_
    refine xd_v 12 rfl rfl rfl (gv_take rfl rfl rfl (pv_move rfl) rfl) ?_
    refine xd_v 13 rfl rfl rfl (gv_take rfl rfl rfl (pv_move rfl) rfl) ?_
    refine xd_v 14 rfl rfl rfl (gv_take rfl rfl rfl (pv_at rfl rfl (by omega) ((get_map hz))) rfl) ?_
    refine xd_v 15 rfl rfl rfl (gv_take rfl rfl rfl (pv_field_i rfl) rfl) ?_
    refine xd_v 16 rfl rfl rfl (gv_take rfl rfl rfl (pv_loadN_i rfl rfl) rfl) ?_
    refine xd_v 17 rfl rfl rfl (gv_take rfl rfl rfl (pv_move rfl) rfl) ?_
    refine xd_v 18 rfl rfl rfl (gv_take rfl rfl rfl (pv_move rfl) rfl) ?_
    refine xd_v 19 rfl rfl rfl (gv_take rfl rfl rfl (pv_at rfl rfl (by omega) ((get_map hz))) rfl) ?_
    refine xd_v 20 rfl rfl rfl (gv_take rfl rfl rfl (pv_field_i rfl) rfl) ?_
    refine xd_v 21 rfl rfl rfl (gv_take rfl rfl rfl (pv_loadN_i rfl rfl) rfl) ?_
    refine xd_v 22 rfl rfl rfl (gv_take rfl rfl rfl (pv_wk (.val (.bool false)) (pv_agg_ne ([.int .u8 t1, .int .i64 t2, .string t3]) ([.int .u8 t1, .int .i64 t2, .string t3]) rfl rfl (by repeat (first | exact Wk.refl _ | exact Wk.nil _ | exact All2.nil | refine Wk.tuple ?_ | refine Wk.agg ?_ | refine All2.cons ?_ ?_)) (by repeat (first | exact Wk.refl _ | exact Wk.nil _ | exact All2.nil | refine Wk.tuple ?_ | refine Wk.agg ?_ | refine All2.cons ?_ ?_)) (by repeat (first | exact All2.nil | refine All2.cons (by constructor) ?_)) (by repeat (first | exact All2.nil | refine All2.cons (by constructor) ?_))) (Wk.of_eq (by simp [eqVs, eqV]))) rfl) ?_
    refine xd_v 23 rfl rfl rfl (gv_v (pv_pick_f rfl rfl) rfl) ?_
    refine xd_v 24 rfl rfl rfl (gv_v (pv_move rfl) rfl) ?_
    refine xd_v 25 rfl rfl rfl (gv_take rfl rfl rfl (pv_move rfl) rfl) ?_
    refine xd_v 26 rfl rfl rfl (gv_take rfl rfl rfl (pv_move rfl) rfl) ?_
    refine xd_v 27 rfl rfl rfl (gv_take rfl rfl rfl (pv_at rfl rfl (by omega) ((get_map hz))) rfl) ?_
    refine xd_v 28 rfl rfl rfl (gv_take rfl rfl rfl (pv_field_i rfl) rfl) ?_
    refine xd_v 29 rfl rfl rfl (gv_take rfl rfl rfl (pv_load1_i rfl rfl) rfl) ?_
    refine xd_v 30 rfl rfl rfl (gv_take rfl rfl rfl (pv_move rfl) rfl) ?_
    refine xd_v 31 rfl rfl rfl (gv_take rfl rfl rfl (pv_move rfl) rfl) ?_
    refine xd_v 32 rfl rfl rfl (gv_take rfl rfl rfl (pv_at rfl rfl (by omega) ((get_map hz))) rfl) ?_
    refine xd_v 33 rfl rfl rfl (gv_take rfl rfl rfl (pv_field_i rfl) rfl) ?_
    refine xd_v 34 rfl rfl rfl (gv_take rfl rfl rfl (pv_load1_i rfl rfl) rfl) ?_
    refine xd_v 35 rfl rfl rfl (gv_take rfl rfl rfl (pv_bin rfl rfl (v := .bool false) (by simp [intBin])) rfl) ?_
    refine xd_v 36 rfl rfl rfl (gv_v (pv_pick_f rfl rfl) rfl) ?_
    refine xd_v 37 rfl rfl rfl (gv_v (pv_move rfl) rfl) ?_
    refine xd_v 38 rfl rfl rfl (gv_take rfl rfl rfl (pv_move rfl) rfl) ?_
    refine xd_v 39 rfl rfl rfl (gv_take rfl rfl rfl (pv_move rfl) rfl) ?_
    refine xd_v 40 rfl rfl rfl (gv_take rfl rfl rfl (pv_at rfl rfl (by omega) ((get_map hz))) rfl) ?_
    refine xd_v 41 rfl rfl rfl (gv_take rfl rfl rfl (pv_field_i rfl) rfl) ?_
    refine xd_v 42 rfl rfl rfl (gv_take rfl rfl rfl (pv_load1_i rfl rfl) rfl) ?_
    refine xd_v 43 rfl rfl rfl (gv_take rfl rfl rfl (pv_move rfl) rfl) ?_
    refine xd_v 44 rfl rfl rfl (gv_take rfl rfl rfl (pv_move rfl) rfl) ?_
    refine xd_v 45 rfl rfl rfl (gv_take rfl rfl rfl (pv_at rfl rfl (by omega) ((get_map hz))) rfl) ?_
    refine xd_v 46 rfl rfl rfl (gv_take rfl rfl rfl (pv_field_i rfl) rfl) ?_
    refine xd_v 47 rfl rfl rfl (gv_take rfl rfl rfl (pv_load1_i rfl rfl) rfl) ?_
    refine xd_eg rfl 48 rfl rfl rfl (by rintro _ ⟨⟩ <;> exact Nat.le_of_ble_eq_true rfl) rfl (evg_take rfl rfl rfl (ev_go (sameTexts_r z4) rfl (.cons rfl (Wk.refl _) (.cons rfl (Wk.refl _) .nil)) .d)) ?_
    rintro _ _ ⟨rfl, rfl⟩
    refine ⟨?_, ?_⟩
    · skip
      intro m hm o' y ho hy
      have hm' : m ∈ [46, 45, 44, 43, 41, 40, 39, 38, 36, 35, 34, 33, 32, 31, 30, 29, 28, 27, 26, 25, 24, 23, 22, 21, 20, 19, 18, 17, 16, 15, 14, 13, 12, 11, 10, 9, 8, 7, 6, 5, 4, 3, 2, 1, 0] := hm
      clear hm
      rcases List.mem_cons.1 hm' with rfl | hm'
      · cases ho; cases hy
        exact gv_take rfl rfl rfl (pv_field_i rfl) rfl
      rcases List.mem_cons.1 hm' with rfl | hm'
      · cases ho; cases hy
        exact gv_take rfl rfl rfl (pv_at rfl rfl (by omega) ((get_map hz))) rfl
      rcases List.mem_cons.1 hm' with rfl | hm'
      · cases ho; cases hy
        exact gv_take rfl rfl rfl (pv_move rfl) rfl
      rcases List.mem_cons.1 hm' with rfl | hm'
      · cases ho; cases hy
        exact gv_take rfl rfl rfl (pv_move rfl) rfl
      rcases List.mem_cons.1 hm' with rfl | hm'
      · cases ho; cases hy
        exact gv_take rfl rfl rfl (pv_field_i rfl) rfl
      rcases List.mem_cons.1 hm' with rfl | hm'
      · cases ho; cases hy
        exact gv_take rfl rfl rfl (pv_at rfl rfl (by omega) ((get_map hz))) rfl
      rcases List.mem_cons.1 hm' with rfl | hm'
      · cases ho; cases hy
        exact gv_take rfl rfl rfl (pv_move rfl) rfl
      rcases List.mem_cons.1 hm' with rfl | hm'
      · cases ho; cases hy
        exact gv_take rfl rfl rfl (pv_move rfl) rfl
      rcases List.mem_cons.1 hm' with rfl | hm'
      · cases ho; cases hy
        exact gv_v (pv_pick_f rfl rfl) rfl
      rcases List.mem_cons.1 hm' with rfl | hm'
      · cases ho; cases hy
        exact gv_take rfl rfl rfl (pv_bin rfl rfl (v := .bool false) (by simp [intBin])) rfl
      rcases List.mem_cons.1 hm' with rfl | hm'
      · cases ho; cases hy
        exact gv_take rfl rfl rfl (pv_load1_i rfl rfl) rfl
      rcases List.mem_cons.1 hm' with rfl | hm'
      · cases ho; cases hy
        exact gv_take rfl rfl rfl (pv_field_i rfl) rfl
      rcases List.mem_cons.1 hm' with rfl | hm'
      · cases ho; cases hy
        exact gv_take rfl rfl rfl (pv_at rfl rfl (by omega) ((get_map hz))) rfl
      rcases List.mem_cons.1 hm' with rfl | hm'
      · cases ho; cases hy
        exact gv_take rfl rfl rfl (pv_move rfl) rfl
      rcases List.mem_cons.1 hm' with rfl | hm'
      · cases ho; cases hy
        exact gv_take rfl rfl rfl (pv_move rfl) rfl
      rcases List.mem_cons.1 hm' with rfl | hm'
      · cases ho; cases hy
        exact gv_take rfl rfl rfl (pv_load1_i rfl rfl) rfl
      rcases List.mem_cons.1 hm' with rfl | hm'
      · cases ho; cases hy
        exact gv_take rfl rfl rfl (pv_field_i rfl) rfl
      rcases List.mem_cons.1 hm' with rfl | hm'
      · cases ho; cases hy
        exact gv_take rfl rfl rfl (pv_at rfl rfl (by omega) ((get_map hz))) rfl
      rcases List.mem_cons.1 hm' with rfl | hm'
      · cases ho; cases hy
        exact gv_take rfl rfl rfl (pv_move rfl) rfl
      rcases List.mem_cons.1 hm' with rfl | hm'
      · cases ho; cases hy
        exact gv_take rfl rfl rfl (pv_move rfl) rfl
      rcases List.mem_cons.1 hm' with rfl | hm'
      · cases ho; cases hy
        exact gv_v (pv_move rfl) rfl
      rcases List.mem_cons.1 hm' with rfl | hm'
      · cases ho; cases hy
        exact gv_v (pv_pick_f rfl rfl) rfl
      rcases List.mem_cons.1 hm' with rfl | hm'
      · cases ho; cases hy
        exact gv_take rfl rfl rfl (pv_wk (.val (.bool false)) (pv_agg_ne ([.int .u8 t1, .int .i64 t2, .string t3]) ([.int .u8 t1, .int .i64 t2, .string t3]) rfl rfl (by repeat (first | exact Wk.refl _ | exact Wk.nil _ | exact All2.nil | refine Wk.tuple ?_ | refine Wk.agg ?_ | refine All2.cons ?_ ?_)) (by repeat (first | exact Wk.refl _ | exact Wk.nil _ | exact All2.nil | refine Wk.tuple ?_ | refine Wk.agg ?_ | refine All2.cons ?_ ?_)) (by repeat (first | exact All2.nil | refine All2.cons (by constructor) ?_)) (by repeat (first | exact All2.nil | refine All2.cons (by constructor) ?_))) (Wk.of_eq (by simp [eqVs, eqV]))) rfl
      rcases List.mem_cons.1 hm' with rfl | hm'
      · cases ho; cases hy
        exact gv_take rfl rfl rfl (pv_loadN_i rfl rfl) rfl
      rcases List.mem_cons.1 hm' with rfl | hm'
      · cases ho; cases hy
        exact gv_take rfl rfl rfl (pv_field_i rfl) rfl
      rcases List.mem_cons.1 hm' with rfl | hm'
      · cases ho; cases hy
        exact gv_take rfl rfl rfl (pv_at rfl rfl (by omega) ((get_map hz))) rfl
      rcases List.mem_cons.1 hm' with rfl | hm'
      · cases ho; cases hy
        exact gv_take rfl rfl rfl (pv_move rfl) rfl
      rcases List.mem_cons.1 hm' with rfl | hm'
      · cases ho; cases hy
        exact gv_take rfl rfl rfl (pv_move rfl) rfl
      rcases List.mem_cons.1 hm' with rfl | hm'
      · cases ho; cases hy
        exact gv_take rfl rfl rfl (pv_loadN_i rfl rfl) rfl
      rcases List.mem_cons.1 hm' with rfl | hm'
      · cases ho; cases hy
        exact gv_take rfl rfl rfl (pv_field_i rfl) rfl
      rcases List.mem_cons.1 hm' with rfl | hm'
      · cases ho; cases hy
        exact gv_take rfl rfl rfl (pv_at rfl rfl (by omega) ((get_map hz))) rfl
      rcases List.mem_cons.1 hm' with rfl | hm'
      · cases ho; cases hy
        exact gv_take rfl rfl rfl (pv_move rfl) rfl
      rcases List.mem_cons.1 hm' with rfl | hm'
      · cases ho; cases hy
        exact gv_take rfl rfl rfl (pv_move rfl) rfl
      rcases List.mem_cons.1 hm' with rfl | hm'
      · cases ho; cases hy
        exact gv_v (pv_move rfl) rfl
      rcases List.mem_cons.1 hm' with rfl | hm'
      · cases ho; cases hy
        exact gv_v (pv_wk (.val (.bool false)) (pv_str_ne rfl rfl) (Wk.of_eq (by simp))) rfl
      rcases List.mem_cons.1 hm' with rfl | hm'
      · cases ho; cases hy
        exact gv_v (pv_load1_i rfl rfl) rfl
      rcases List.mem_cons.1 hm' with rfl | hm'
      · cases ho; cases hy
        exact gv_v (pv_field_i rfl) rfl
      rcases List.mem_cons.1 hm' with rfl | hm'
      · cases ho; cases hy
        exact gv_v (pv_at rfl rfl (by omega) ((get_map hz))) rfl
      rcases List.mem_cons.1 hm' with rfl | hm'
      · cases ho; cases hy
        exact gv_v (pv_move rfl) rfl
      rcases List.mem_cons.1 hm' with rfl | hm'
      · cases ho; cases hy
        exact gv_v (pv_move rfl) rfl
      rcases List.mem_cons.1 hm' with rfl | hm'
      · cases ho; cases hy
        exact gv_v (pv_load1_i rfl rfl) rfl
      rcases List.mem_cons.1 hm' with rfl | hm'
      · cases ho; cases hy
        exact gv_v (pv_field_i rfl) rfl
      rcases List.mem_cons.1 hm' with rfl | hm'
      · cases ho; cases hy
        exact gv_v (pv_at rfl rfl (by omega) ((get_map hz))) rfl
      rcases List.mem_cons.1 hm' with rfl | hm'
      · cases ho; cases hy
        exact gv_v (pv_move rfl) rfl
      rcases List.mem_cons.1 hm' with rfl | hm'
      · cases ho; cases hy
        exact gv_v (pv_move rfl) rfl
      cases hm'
    refine xd_v 49 rfl rfl rfl (gv_take rfl rfl rfl (pv_not rfl) rfl) ?_
    refine xd_v 50 rfl rfl rfl (gv_v (pv_pick_f rfl rfl) rfl) ?_
    refine xd_end rfl rfl rfl rfl ?_
    refine xq_sub (.cons (i := 67) rfl (.cons (i := 66) rfl (.cons (i := 65) rfl (.cons (i := 64) rfl (.cons (i := 63) rfl (.cons (i := 62) rfl (.cons (i := 61) rfl (.cons (i := 60) rfl (.cons (i := 59) rfl (.cons (i := 58) rfl (.cons (i := 57) rfl (.cons (i := 56) rfl (.cons (i := 55) rfl (.cons (i := 54) rfl (.cons (i := 53) rfl (.cons (i := 52) rfl (.cons (i := 51) rfl (.cons (i := 50) rfl (.cons (i := 49) rfl (.cons (i := 48) rfl (.cons (i := 47) rfl (.cons (i := 46) rfl (.cons (i := 45) rfl (.cons (i := 44) rfl (.cons (i := 43) rfl (.cons (i := 42) rfl (.cons (i := 41) rfl (.cons (i := 40) rfl (.cons (i := 39) rfl (.cons (i := 38) rfl (.cons (i := 37) rfl (.cons (i := 36) rfl (.cons (i := 35) rfl (.cons (i := 34) rfl (.cons (i := 33) rfl (.cons (i := 32) rfl (.cons (i := 31) rfl (.cons (i := 30) rfl (.cons (i := 29) rfl (.cons (i := 28) rfl (.cons (i := 27) rfl (.cons (i := 26) rfl (.cons (i := 25) rfl (.cons (i := 24) rfl (.cons (i := 23) rfl (.cons (i := 22) rfl (.cons (i := 21) rfl (.cons (i := 20) rfl (.cons (i := 19) rfl (.cons (i := 18) rfl (.cons (i := 17) rfl (.cons (i := 14) rfl (.cons (i := 13) rfl (.cons (i := 12) rfl (.cons (i := 11) rfl (.cons (i := 5) rfl (.cons (i := 4) rfl (.cons (i := 0) rfl (.cons (i := 1) rfl (.nil _)))))))))))))))))))))))))))))))))))))))))))))))))))))))))))) ?_
    refine xq_norm (xe_code ?_)
    refine x_cond rfl (fun h => nomatch h) (fun _ => ?_)
    refine x_skip ?_
    refine xq_bnorm ?_
    refine xq_norm (xe_code ?_)
    refine x_region ?_
    refine xl_pv (pv_move rfl) rfl ?_
    refine xl_pv (pv_add rfl rfl (by first | omega | (simp only [List.length_map]; omega) | (simp; omega)) (by first | omega | (simp only [List.length_map]; omega) | (simp; omega))) rfl ?_
    refine xl_pv (pv_assign rfl) rfl ?_
    refine xl_nil ?_
    refine xe_loopF (i + 1) (hlt) (by first | omega | (simp at *; omega)) (.cons rfl (.cons rfl (.cons rfl (.cons rfl (.nil _))))) (rfl)
  · skip
    refine x_exit ?_
    refine xq_exit ?_
    refine xq_exit ?_
    refine xq_hit ?_
    refine xq_norm (xe_code ?_)
    refine x_seq ?_
    refine x_region ?_
    refine xl_pv (pv_assign rfl) rfl ?_
    refine xl_nil ?_
    refine xq_norm (xe_code ?_)
    refine x_ret ?_
    refine xq_done (.inr rfl) _ (res1 rfl rfl) ?_
    exact ⟨rfl, rfl⟩
theorem sameVals_n (n : Nat) : ∀ (l : List CVal), SizeOf.sizeOf l < n → AC Try.prog 37 [.list 5 (l.map CVal.av), .list 5 (l.map CVal.av)] [] (RetIs (bv true) []) := by
  induction n with
  | zero => exact fun l h => absurd h (by omega)
  | succ n ih =>
    intro l hn
    refine ac_intro Try.func37 rfl rfl fun I w => ?_
    simp only [argEnv]
    refine x_llen 0 rfl (fun hl => ?_)
    simp only [List.length_map] at hl
    refine x_seq ?_
    refine x_region ?_
    refine xl_pv (pv_assign rfl) rfl ?_
    refine xl_nil ?_
    refine xq_norm (xe_code ?_)
    refine x_seq ?_
    refine x_seq ?_
    refine x_region ?_
    refine xl_pv (pv_move rfl) rfl ?_
    refine xl_pv (pv_len rfl) rfl ?_
    refine xl_pv (pv_move rfl) rfl ?_
    refine xl_pv (pv_len rfl) rfl ?_
    refine xl_pv (pv_bin rfl rfl (v := .bool false) (by simp [intBin])) rfl ?_
    refine xl_nil ?_
    refine xq_norm (xe_code ?_)
    refine x_cond rfl (fun h => nomatch h) (fun _ => ?_)
    refine x_skip ?_
    refine xq_norm (xe_code ?_)
    refine x_seq ?_
    refine x_seq ?_
    refine x_region ?_
    refine xl_pv (pv_assign rfl) rfl ?_
    refine xl_nil ?_
    refine xq_norm (xe_code ?_)
    refine x_block ?_
    -- slots turned in the loop and not told: [4]
    refine x_loopS (S := Nat) (fun i => i ≤ l.length) (fun i => l.length - i) (fun i => [(5, iv i)]) (fun i => _) (0) (by simp) (.cons rfl (.cons (i := 4) rfl (.cons (i := 0) rfl (.cons (i := 1) rfl (.nil _))))) (rfl) ?_
    rintro i hi
    simp only [List.cons_append, List.nil_append]
    refine x_seq ?_
    refine x_seq ?_
    refine x_region ?_
    refine xl_pv (pv_move rfl) rfl ?_
    refine xl_pv (pv_move rfl) rfl ?_
    refine xl_pv (pv_len rfl) rfl ?_
    refine xl_pv (pv_bin rfl rfl rfl) rfl ?_
    refine xl_nil ?_
    refine xq_norm (xe_code ?_)
    refine x_condT rfl (fun h => ?_) (fun h => ?_)
    · skip
      have hlt : i < l.length := by simpa using h
      obtain ⟨⟨z1, z2, z3, z4, z5⟩, hz⟩ := get_lt hlt
      have hsz := List.sizeOf_lt_of_mem (List.mem_of_getElem? hz)
      refine x_skip ?_
      refine xq_norm (xe_code ?_)
      refine x_seq ?_
      refine x_block ?_
      refine x_seq ?_
      refine x_draw rfl ?_
      refine xd_v 0 rfl rfl rfl (gv_v (pv_move rfl) rfl) ?_
      refine xd_v 1 rfl rfl rfl (gv_v (pv_move rfl) rfl) ?_
      refine xd_v 2 rfl rfl rfl (gv_v (pv_at rfl rfl (by omega) ((get_map hz))) rfl) ?_
      refine xd_v 3 rfl rfl rfl (gv_v (pv_field_i rfl) rfl) ?_
      refine xd_v 4 rfl rfl rfl (gv_v (pv_load1_i rfl rfl) rfl) ?_
      refine xd_v 5 rfl rfl rfl (gv_v (pv_move rfl) rfl) ?_
      refine xd_v 6 rfl rfl rfl (gv_v (pv_move rfl) rfl) ?_
      refine xd_v 7 rfl rfl rfl (gv_v (pv_at rfl rfl (by omega) ((get_map hz))) rfl) ?_
      refine xd_v 8 rfl rfl rfl (gv_v (pv_field_i rfl) rfl) ?_
      refine xd_v 9 rfl rfl rfl (gv_v (pv_load1_i rfl rfl) rfl) ?_
      refine xd_v 10 rfl rfl rfl (gv_v (pv_bin rfl rfl (v := .bool false) (by simp [intBin])) rfl) ?_
      refine xd_v 11 rfl rfl rfl (gv_v (pv_move rfl) rfl) ?_
      refine xd_v 12 rfl rfl rfl (gv_take rfl rfl rfl (pv_move rfl) rfl) ?_
      refine xd_v 13 rfl rfl rfl (gv_take rfl rfl rfl (pv_move rfl) rfl) ?_
      refine xd_v 14 rfl rfl rfl (gv_take rfl rfl rfl (pv_at rfl rfl (by omega) ((get_map hz))) rfl) ?_
      refine xd_v 15 rfl rfl rfl (gv_take rfl rfl rfl (pv_field_i rfl) rfl) ?_
      refine xd_v 16 rfl rfl rfl (gv_take rfl rfl rfl (pv_load1_i rfl rfl) rfl) ?_
      refine xd_v 17 rfl rfl rfl (gv_take rfl rfl rfl (pv_move rfl) rfl) ?_
      refine xd_v 18 rfl rfl rfl (gv_take rfl rfl rfl (pv_move rfl) rfl) ?_
      refine xd_v 19 rfl rfl rfl (gv_take rfl rfl rfl (pv_at rfl rfl (by omega) ((get_map hz))) rfl) ?_
      refine xd_v 20 rfl rfl rfl (gv_take rfl rfl rfl (pv_field_i rfl) rfl) ?_
      refine xd_v 21 rfl rfl rfl (gv_take rfl rfl rfl (pv_load1_i rfl rfl) rfl) ?_
      refine xd_v 22 rfl rfl rfl (gv_take rfl rfl rfl (pv_bin rfl rfl (v := .bool false) (by simp [intBin])) rfl) ?_
      refine xd_v 23 rfl rfl rfl (gv_v (pv_pick_f rfl rfl) rfl) ?_
      refine xd_v 24 rfl rfl rfl (gv_v (pv_move rfl) rfl) ?_
      refine xd_v 25 rfl rfl rfl (gv_take rfl rfl rfl (pv_move rfl) rfl) ?_
      refine xd_v 26 rfl rfl rfl (gv_take rfl rfl rfl (pv_move rfl) rfl) ?_
      refine xd_v 27 rfl rfl rfl (gv_take rfl rfl rfl (pv_at rfl rfl (by omega) ((get_map hz))) rfl) ?_
      refine xd_v 28 rfl rfl rfl (gv_take rfl rfl rfl (pv_field_i rfl) rfl) ?_
      refine xd_v 29 rfl rfl rfl (gv_take rfl rfl rfl (pv_load1_i rfl rfl) rfl) ?_
      refine xd_v 30 rfl rfl rfl (gv_take rfl rfl rfl (pv_move rfl) rfl) ?_
      refine xd_v 31 rfl rfl rfl (gv_take rfl rfl rfl (pv_move rfl) rfl) ?_
      refine xd_v 32 rfl rfl rfl (gv_take rfl rfl rfl (pv_at rfl rfl (by omega) ((get_map hz))) rfl) ?_
      refine xd_v 33 rfl rfl rfl (gv_take rfl rfl rfl (pv_field_i rfl) rfl) ?_
      refine xd_v 34 rfl rfl rfl (gv_take rfl rfl rfl (pv_load1_i rfl rfl) rfl) ?_
      refine xd_v 35 rfl rfl rfl (gv_take rfl rfl rfl (pv_bin rfl rfl (v := .bool false) (by simp [intBin])) rfl) ?_
      refine xd_v 36 rfl rfl rfl (gv_v (pv_pick_f rfl rfl) rfl) ?_
      refine xd_v 37 rfl rfl rfl (gv_v (pv_move rfl) rfl) ?_
      refine xd_v 38 rfl rfl rfl (gv_take rfl rfl rfl (pv_move rfl) rfl) ?_
      refine xd_v 39 rfl rfl rfl (gv_take rfl rfl rfl (pv_move rfl) rfl) ?_
      refine xd_v 40 rfl rfl rfl (gv_take rfl rfl rfl (pv_at rfl rfl (by omega) ((get_map hz))) rfl) ?_
      refine xd_v 41 rfl rfl rfl (gv_take rfl rfl rfl (pv_field_i rfl) rfl) ?_
      refine xd_v 42 rfl rfl rfl (gv_take rfl rfl rfl (pv_load1_i rfl rfl) rfl) ?_
      refine xd_v 43 rfl rfl rfl (gv_take rfl rfl rfl (pv_move rfl) rfl) ?_
      refine xd_v 44 rfl rfl rfl (gv_take rfl rfl rfl (pv_move rfl) rfl) ?_
      refine xd_v 45 rfl rfl rfl (gv_take rfl rfl rfl (pv_at rfl rfl (by omega) ((get_map hz))) rfl) ?_
      refine xd_v 46 rfl rfl rfl (gv_take rfl rfl rfl (pv_field_i rfl) rfl) ?_
      refine xd_v 47 rfl rfl rfl (gv_take rfl rfl rfl (pv_load1_i rfl rfl) rfl) ?_
      refine xd_v 48 rfl rfl rfl (gv_take rfl rfl rfl (pv_bin rfl rfl (v := .bool false) (by simp [intBin])) rfl) ?_
      refine xd_v 49 rfl rfl rfl (gv_v (pv_pick_f rfl rfl) rfl) ?_
      refine xd_v 50 rfl rfl rfl (gv_v (pv_move rfl) rfl) ?_
      refine xd_v 51 rfl rfl rfl (gv_take rfl rfl rfl (pv_move rfl) rfl) ?_
      refine xd_v 52 rfl rfl rfl (gv_take rfl rfl rfl (pv_move rfl) rfl) ?_
      refine xd_v 53 rfl rfl rfl (gv_take rfl rfl rfl (pv_at rfl rfl (by omega) ((get_map hz))) rfl) ?_
      refine xd_v 54 rfl rfl rfl (gv_take rfl rfl rfl (pv_field_i rfl) rfl) ?_
      refine xd_v 55 rfl rfl rfl (gv_take rfl rfl rfl (pv_load1_i rfl rfl) rfl) ?_
      refine xd_v 56 rfl rfl rfl (gv_take rfl rfl rfl (pv_move rfl) rfl) ?_
      refine xd_v 57 rfl rfl rfl (gv_take rfl rfl rfl (pv_move rfl) rfl) ?_
      refine xd_v 58 rfl rfl rfl (gv_take rfl rfl rfl (pv_at rfl rfl (by omega) ((get_map hz))) rfl) ?_
      refine xd_v 59 rfl rfl rfl (gv_take rfl rfl rfl (pv_field_i rfl) rfl) ?_
      refine xd_v 60 rfl rfl rfl (gv_take rfl rfl rfl (pv_load1_i rfl rfl) rfl) ?_
      refine xd_eg rfl 61 rfl rfl rfl (by rintro _ ⟨⟩ <;> exact Nat.le_of_ble_eq_true rfl) rfl (evg_take rfl rfl rfl (ev_go (ih z5 (by simp only [CVal.mk.sizeOf_spec] at hsz; omega)) rfl (.cons rfl (Wk.of_eq (by rw [CVal.avs_eq])) (.cons rfl (Wk.of_eq (by rw [CVal.avs_eq])) .nil)) .d)) ?_
      rintro _ _ ⟨rfl, rfl⟩
      refine ⟨?_, ?_⟩
      · skip
        intro m hm o' y ho hy
        have hm' : m ∈ [59, 58, 57, 56, 54, 53, 52, 51, 49, 48, 47, 46, 45, 44, 43, 42, 41, 40, 39, 38, 37, 36, 35, 34, 33, 32, 31, 30, 29, 28, 27, 26, 25, 24, 23, 22, 21, 20, 19, 18, 17, 16, 15, 14, 13, 12, 11, 10, 9, 8, 7, 6, 5, 4, 3, 2, 1, 0] := hm
        clear hm
        rcases List.mem_cons.1 hm' with rfl | hm'
        · cases ho; cases hy
          exact gv_take rfl rfl rfl (pv_field_i rfl) rfl
        rcases List.mem_cons.1 hm' with rfl | hm'
        · cases ho; cases hy
          exact gv_take rfl rfl rfl (pv_at rfl rfl (by omega) ((get_map hz))) rfl
        rcases List.mem_cons.1 hm' with rfl | hm'
        · cases ho; cases hy
          exact gv_take rfl rfl rfl (pv_move rfl) rfl
        rcases List.mem_cons.1 hm' with rfl | hm'
        · cases ho; cases hy
          exact gv_take rfl rfl rfl (pv_move rfl) rfl
        rcases List.mem_cons.1 hm' with rfl | hm'
        · cases ho; cases hy
          exact gv_take rfl rfl rfl (pv_field_i rfl) rfl
        rcases List.mem_cons.1 hm' with rfl | hm'
        · cases ho; cases hy
          exact gv_take rfl rfl rfl (pv_at rfl rfl (by omega) ((get_map hz))) rfl
        rcases List.mem_cons.1 hm' with rfl | hm'
        · cases ho; cases hy
          exact gv_take rfl rfl rfl (pv_move rfl) rfl
        rcases List.mem_cons.1 hm' with rfl | hm'
        · cases ho; cases hy
          exact gv_take rfl rfl rfl (pv_move rfl) rfl
        rcases List.mem_cons.1 hm' with rfl | hm'
        · cases ho; cases hy
          exact gv_v (pv_pick_f rfl rfl) rfl
        rcases List.mem_cons.1 hm' with rfl | hm'
        · cases ho; cases hy
          exact gv_take rfl rfl rfl (pv_bin rfl rfl (v := .bool false) (by simp [intBin])) rfl
        rcases List.mem_cons.1 hm' with rfl | hm'
        · cases ho; cases hy
          exact gv_take rfl rfl rfl (pv_load1_i rfl rfl) rfl
        rcases List.mem_cons.1 hm' with rfl | hm'
        · cases ho; cases hy
          exact gv_take rfl rfl rfl (pv_field_i rfl) rfl
        rcases List.mem_cons.1 hm' with rfl | hm'
        · cases ho; cases hy
          exact gv_take rfl rfl rfl (pv_at rfl rfl (by omega) ((get_map hz))) rfl
        rcases List.mem_cons.1 hm' with rfl | hm'
        · cases ho; cases hy
          exact gv_take rfl rfl rfl (pv_move rfl) rfl
        rcases List.mem_cons.1 hm' with rfl | hm'
        · cases ho; cases hy
          exact gv_take rfl rfl rfl (pv_move rfl) rfl
        rcases List.mem_cons.1 hm' with rfl | hm'
        · cases ho; cases hy
          exact gv_take rfl rfl rfl (pv_load1_i rfl rfl) rfl
        rcases List.mem_cons.1 hm' with rfl | hm'
        · cases ho; cases hy
          exact gv_take rfl rfl rfl (pv_field_i rfl) rfl
        rcases List.mem_cons.1 hm' with rfl | hm'
        · cases ho; cases hy
          exact gv_take rfl rfl rfl (pv_at rfl rfl (by omega) ((get_map hz))) rfl
        rcases List.mem_cons.1 hm' with rfl | hm'
        · cases ho; cases hy
          exact gv_take rfl rfl rfl (pv_move rfl) rfl
        rcases List.mem_cons.1 hm' with rfl | hm'
        · cases ho; cases hy
          exact gv_take rfl rfl rfl (pv_move rfl) rfl
        rcases List.mem_cons.1 hm' with rfl | hm'
        · cases ho; cases hy
          exact gv_v (pv_move rfl) rfl
        rcases List.mem_cons.1 hm' with rfl | hm'
        · cases ho; cases hy
          exact gv_v (pv_pick_f rfl rfl) rfl
        rcases List.mem_cons.1 hm' with rfl | hm'
        · cases ho; cases hy
          exact gv_take rfl rfl rfl (pv_bin rfl rfl (v := .bool false) (by simp [intBin])) rfl
        rcases List.mem_cons.1 hm' with rfl | hm'
        · cases ho; cases hy
          exact gv_take rfl rfl rfl (pv_load1_i rfl rfl) rfl
        rcases List.mem_cons.1 hm' with rfl | hm'
        · cases ho; cases hy
          exact gv_take rfl rfl rfl (pv_field_i rfl) rfl
        rcases List.mem_cons.1 hm' with rfl | hm'
        · cases ho; cases hy
          exact gv_take rfl rfl rfl (pv_at rfl rfl (by omega) ((get_map hz))) rfl
        rcases List.mem_cons.1 hm' with rfl | hm'
        · cases ho; cases hy
          exact gv_take rfl rfl rfl (pv_move rfl) rfl
        rcases List.mem_cons.1 hm' with rfl | hm'
        · cases ho; cases hy
          exact gv_take rfl rfl rfl (pv_move rfl) rfl
        rcases List.mem_cons.1 hm' with rfl | hm'
        · cases ho; cases hy
          exact gv_take rfl rfl rfl (pv_load1_i rfl rfl) rfl
        rcases List.mem_cons.1 hm' with rfl | hm'
        · cases ho; cases hy
          exact gv_take rfl rfl rfl (pv_field_i rfl) rfl
        rcases List.mem_cons.1 hm' with rfl | hm'
        · cases ho; cases hy
          exact gv_take rfl rfl rfl (pv_at rfl rfl (by omega) ((get_map hz))) rfl
        rcases List.mem_cons.1 hm' with rfl | hm'
        · cases ho; cases hy
          exact gv_take rfl rfl rfl (pv_move rfl) rfl
        rcases List.mem_cons.1 hm' with rfl | hm'
        · cases ho; cases hy
          exact gv_take rfl rfl rfl (pv_move rfl) rfl
        rcases List.mem_cons.1 hm' with rfl | hm'
        · cases ho; cases hy
          exact gv_v (pv_move rfl) rfl
        rcases List.mem_cons.1 hm' with rfl | hm'
        · cases ho; cases hy
          exact gv_v (pv_pick_f rfl rfl) rfl
        rcases List.mem_cons.1 hm' with rfl | hm'
        · cases ho; cases hy
          exact gv_take rfl rfl rfl (pv_bin rfl rfl (v := .bool false) (by simp [intBin])) rfl
        rcases List.mem_cons.1 hm' with rfl | hm'
        · cases ho; cases hy
          exact gv_take rfl rfl rfl (pv_load1_i rfl rfl) rfl
        rcases List.mem_cons.1 hm' with rfl | hm'
        · cases ho; cases hy
          exact gv_take rfl rfl rfl (pv_field_i rfl) rfl
        rcases List.mem_cons.1 hm' with rfl | hm'
        · cases ho; cases hy
          exact gv_take rfl rfl rfl (pv_at rfl rfl (by omega) ((get_map hz))) rfl
        rcases List.mem_cons.1 hm' with rfl | hm'
        · cases ho; cases hy
          exact gv_take rfl rfl rfl (pv_move rfl) rfl
        rcases List.mem_cons.1 hm' with rfl | hm'
        · cases ho; cases hy
          exact gv_take rfl rfl rfl (pv_move rfl) rfl
        rcases List.mem_cons.1 hm' with rfl | hm'
        · cases ho; cases hy
          exact gv_take rfl rfl rfl (pv_load1_i rfl rfl) rfl
        rcases List.mem_cons.1 hm' with rfl | hm'
        · cases ho; cases hy
          exact gv_take rfl rfl rfl (pv_field_i rfl) rfl
        rcases List.mem_cons.1 hm' with rfl | hm'
        · cases ho; cases hy
          exact gv_take rfl rfl rfl (pv_at rfl rfl (by omega) ((get_map hz))) rfl
        rcases List.mem_cons.1 hm' with rfl | hm'
        · cases ho; cases hy
          exact gv_take rfl rfl rfl (pv_move rfl) rfl
        rcases List.mem_cons.1 hm' with rfl | hm'
        · cases ho; cases hy
          exact gv_take rfl rfl rfl (pv_move rfl) rfl
        rcases List.mem_cons.1 hm' with rfl | hm'
        · cases ho; cases hy
          exact gv_v (pv_move rfl) rfl
        rcases List.mem_cons.1 hm' with rfl | hm'
        · cases ho; cases hy
          exact gv_v (pv_bin rfl rfl (v := .bool false) (by simp [intBin])) rfl
        rcases List.mem_cons.1 hm' with rfl | hm'
        · cases ho; cases hy
          exact gv_v (pv_load1_i rfl rfl) rfl
        rcases List.mem_cons.1 hm' with rfl | hm'
        · cases ho; cases hy
          exact gv_v (pv_field_i rfl) rfl
        rcases List.mem_cons.1 hm' with rfl | hm'
        · cases ho; cases hy
          exact gv_v (pv_at rfl rfl (by omega) ((get_map hz))) rfl
        rcases List.mem_cons.1 hm' with rfl | hm'
        · cases ho; cases hy
          exact gv_v (pv_move rfl) rfl
        rcases List.mem_cons.1 hm' with rfl | hm'
        · cases ho; cases hy
          exact gv_v (pv_move rfl) rfl
        rcases List.mem_cons.1 hm' with rfl | hm'
        · cases ho; cases hy
          exact gv_v (pv_load1_i rfl rfl) rfl
        rcases List.mem_cons.1 hm' with rfl | hm'
        · cases ho; cases hy
          exact gv_v (pv_field_i rfl) rfl
        rcases List.mem_cons.1 hm' with rfl | hm'
        · cases ho; cases hy
          exact gv_v (pv_at rfl rfl (by omega) ((get_map hz))) rfl
        rcases List.mem_cons.1 hm' with rfl | hm'
        · cases ho; cases hy
          exact gv_v (pv_move rfl) rfl
        rcases List.mem_cons.1 hm' with rfl | hm'
        · cases ho; cases hy
          exact gv_v (pv_move rfl) rfl
        cases hm'
      refine xd_v 62 rfl rfl rfl (gv_take rfl rfl rfl (pv_not rfl) rfl) ?_
      refine xd_v 63 rfl rfl rfl (gv_v (pv_pick_f rfl rfl) rfl) ?_
      refine xd_end rfl rfl rfl rfl ?_
      refine xq_sub (.cons (i := 80) rfl (.cons (i := 79) rfl (.cons (i := 78) rfl (.cons (i := 77) rfl (.cons (i := 76) rfl (.cons (i := 75) rfl (.cons (i := 74) rfl (.cons (i := 73) rfl (.cons (i := 72) rfl (.cons (i := 71) rfl (.cons (i := 70) rfl (.cons (i := 69) rfl (.cons (i := 68) rfl (.cons (i := 67) rfl (.cons (i := 66) rfl (.cons (i := 65) rfl (.cons (i := 64) rfl (.cons (i := 63) rfl (.cons (i := 62) rfl (.cons (i := 61) rfl (.cons (i := 60) rfl (.cons (i := 59) rfl (.cons (i := 58) rfl (.cons (i := 57) rfl (.cons (i := 56) rfl (.cons (i := 55) rfl (.cons (i := 54) rfl (.cons (i := 53) rfl (.cons (i := 52) rfl (.cons (i := 51) rfl (.cons (i := 50) rfl (.cons (i := 49) rfl (.cons (i := 48) rfl (.cons (i := 47) rfl (.cons (i := 46) rfl (.cons (i := 45) rfl (.cons (i := 44) rfl (.cons (i := 43) rfl (.cons (i := 42) rfl (.cons (i := 41) rfl (.cons (i := 40) rfl (.cons (i := 39) rfl (.cons (i := 38) rfl (.cons (i := 37) rfl (.cons (i := 36) rfl (.cons (i := 35) rfl (.cons (i := 34) rfl (.cons (i := 33) rfl (.cons (i := 32) rfl (.cons (i := 31) rfl (.cons (i := 30) rfl (.cons (i := 29) rfl (.cons (i := 28) rfl (.cons (i := 27) rfl (.cons (i := 26) rfl (.cons (i := 25) rfl (.cons (i := 24) rfl (.cons (i := 23) rfl (.cons (i := 22) rfl (.cons (i := 21) rfl (.cons (i := 20) rfl (.cons (i := 19) rfl (.cons (i := 18) rfl (.cons (i := 17) rfl (.cons (i := 14) rfl (.cons (i := 13) rfl (.cons (i := 12) rfl (.cons (i := 11) rfl (.cons (i := 5) rfl (.cons (i := 4) rfl (.cons (i := 0) rfl (.cons (i := 1) rfl (.nil _))))))))))))))))))))))))))))))))))))))))))))))))))))))))))))))))))))))))) ?_
      refine xq_norm (xe_code ?_)
      refine x_cond rfl (fun h => nomatch h) (fun _ => ?_)
      refine x_skip ?_
      refine xq_bnorm ?_
      refine xq_norm (xe_code ?_)
      refine x_region ?_
      refine xl_pv (pv_move rfl) rfl ?_
      refine xl_pv (pv_add rfl rfl (by first | omega | (simp only [List.length_map]; omega) | (simp; omega)) (by first | omega | (simp only [List.length_map]; omega) | (simp; omega))) rfl ?_
      refine xl_pv (pv_assign rfl) rfl ?_
      refine xl_nil ?_
      refine xe_loopF (i + 1) (hlt) (by first | omega | (simp at *; omega)) (.cons rfl (.cons rfl (.cons rfl (.cons rfl (.nil _))))) (rfl)
    · skip
      refine x_exit ?_
      refine xq_exit ?_
      refine xq_exit ?_
      refine xq_hit ?_
      refine xq_norm (xe_code ?_)
      refine x_seq ?_
      refine x_region ?_
      refine xl_pv (pv_assign rfl) rfl ?_
      refine xl_nil ?_
      refine xq_norm (xe_code ?_)
      refine x_ret ?_
      refine xq_done (.inr rfl) _ (res1 rfl rfl) ?_
      exact ⟨rfl, rfl⟩
theorem sameVals_r (l : List CVal) : AC Try.prog 37 [.list 5 (l.map CVal.av), .list 5 (l.map CVal.av)] [] (RetIs (bv true) []) := sameVals_n _ l (Nat.lt_succ_self _)
theorem sameActs_n (n : Nat) : ∀ (l : List CAct), SizeOf.sizeOf l < n → AC Try.prog 18 [.list 8 (l.map CAct.av), .list 8 (l.map CAct.av)] [] (RetIs (bv true) []) := by
  induction n with
  | zero => exact fun l h => absurd h (by omega)
  | succ n ih =>
    intro l hn
    refine ac_intro Try.func18 rfl rfl fun I w => ?_
    simp only [argEnv]
    refine x_llen 0 rfl (fun hl => ?_)
    simp only [List.length_map] at hl
    refine x_seq ?_
    refine x_region ?_
    refine xl_pv (pv_assign rfl) rfl ?_
    refine xl_nil ?_
    refine xq_norm (xe_code ?_)
    refine x_seq ?_
    refine x_seq ?_
    refine x_region ?_
    refine xl_pv (pv_move rfl) rfl ?_
    refine xl_pv (pv_len rfl) rfl ?_
    refine xl_pv (pv_move rfl) rfl ?_
    refine xl_pv (pv_len rfl) rfl ?_
    refine xl_pv (pv_bin rfl rfl (v := .bool false) (by simp [intBin])) rfl ?_
    refine xl_nil ?_
    refine xq_norm (xe_code ?_)
    refine x_cond rfl (fun h => nomatch h) (fun _ => ?_)
    refine x_skip ?_
    refine xq_norm (xe_code ?_)
    refine x_seq ?_
    refine x_seq ?_
    refine x_region ?_
    refine xl_pv (pv_assign rfl) rfl ?_
    refine xl_nil ?_
    refine xq_norm (xe_code ?_)
    refine x_block ?_
    -- slots turned in the loop and not told: [4]
    refine x_loopS (S := Nat) (fun i => i ≤ l.length) (fun i => l.length - i) (fun i => [(5, iv i)]) (fun i => _) (0) (by simp) (.cons rfl (.cons (i := 4) rfl (.cons (i := 0) rfl (.cons (i := 1) rfl (.nil _))))) (rfl) ?_
    rintro i hi
    simp only [List.cons_append, List.nil_append]
    refine x_seq ?_
    refine x_seq ?_
    refine x_region ?_
    refine xl_pv (pv_move rfl) rfl ?_
    refine xl_pv (pv_move rfl) rfl ?_
    refine xl_pv (pv_len rfl) rfl ?_
    refine xl_pv (pv_bin rfl rfl rfl) rfl ?_
    refine xl_nil ?_
    refine xq_norm (xe_code ?_)
    refine x_condT rfl (fun h => ?_) (fun h => ?_)
    · skip
      have hlt : i < l.length := by simpa using h
      obtain ⟨⟨z1, z2, z3, z4, z5, z6, z7, z8⟩, hz⟩ := get_lt hlt
      have hsz := List.sizeOf_lt_of_mem (List.mem_of_getElem? hz)
      refine x_skip ?_
      refine xq_norm (xe_code ?_)
      refine x_seq ?_
      refine x_block ?_
      refine x_seq ?_
      refine x_region ?_
      refine xl_pv (pv_move rfl) rfl ?_
      refine xl_pv (pv_move rfl) rfl ?_
      refine xl_pv (pv_at rfl rfl (by omega) ((get_map hz))) rfl ?_
      refine xl_pv (pv_loadN_i rfl rfl) rfl ?_
      refine xl_alloc rfl (fun b6 => ?_)
      refine xl_put .h rfl rfl (by first | rfl | (simp [AV.cs, oneB, *]; done) | (simp [AV.cs, oneB, *]; repeat' constructor)) rfl (.c (.c (.c (.c (.c (.c (.c (.c .z)))))))) ?_
      refine xl_nil ?_
      refine xq_norm (xe_code ?_)
      refine x_seq ?_
      refine x_region ?_
      refine xl_pv (pv_move rfl) rfl ?_
      refine xl_pv (pv_move rfl) rfl ?_
      refine xl_pv (pv_at rfl rfl (by omega) ((get_map hz))) rfl ?_
      refine xl_pv (pv_loadN_i rfl rfl) rfl ?_
      refine xl_alloc rfl (fun b7 => ?_)
      refine xl_put .h rfl rfl (by first | rfl | (simp [AV.cs, oneB, *]; done) | (simp [AV.cs, oneB, *]; repeat' constructor)) rfl (.c (.c (.c (.c (.c (.c (.c (.c .z)))))))) ?_
      refine xl_nil ?_
      refine xq_norm (xe_code ?_)
      refine x_seq ?_
      refine x_region ?_
      refine xl_pv (pv_field_a rfl) rfl ?_
      refine xl_pv (pv_load1 rfl (.there .here) rfl) rfl ?_
      refine xl_pv (pv_field_a rfl) rfl ?_
      refine xl_pv (pv_load1 rfl .here rfl) rfl ?_
      refine xl_pv (pv_bin rfl rfl (v := .bool false) (by simp [intBin])) rfl ?_
      refine xl_pv (pv_move rfl) rfl ?_
      refine xl_take rfl rfl rfl ?_
      refine xl_pv (pv_field_a rfl) rfl ?_
      refine xl_take rfl rfl rfl ?_
      refine xl_pv (pv_load1 rfl (.there .here) rfl) rfl ?_
      refine xl_take rfl rfl rfl ?_
      refine xl_pv (pv_field_a rfl) rfl ?_
      refine xl_take rfl rfl rfl ?_
      refine xl_pv (pv_load1 rfl .here rfl) rfl ?_
      refine xl_take rfl rfl rfl ?_
      refine xl_pv (pv_bin rfl rfl (v := .bool false) (by simp [intBin])) rfl ?_
      refine xl_pv (pv_pick_f rfl rfl) rfl ?_
      refine xl_pv (pv_move rfl) rfl ?_
      refine xl_take rfl rfl rfl ?_
      refine xl_pv (pv_field_a rfl) rfl ?_
      refine xl_take rfl rfl rfl ?_
      refine xl_pv (pv_load1 rfl (.there .here) rfl) rfl ?_
      refine xl_take rfl rfl rfl ?_
      refine xl_pv (pv_field_a rfl) rfl ?_
      refine xl_take rfl rfl rfl ?_
      refine xl_pv (pv_load1 rfl .here rfl) rfl ?_
      refine xl_take rfl rfl rfl ?_
      refine xl_pv (pv_bin rfl rfl (v := .bool false) (by simp [intBin])) rfl ?_
      refine xl_pv (pv_pick_f rfl rfl) rfl ?_
      refine xl_pv (pv_move rfl) rfl ?_
      refine xl_take rfl rfl rfl ?_
      refine xl_pv (pv_field_a rfl) rfl ?_
      refine xl_take rfl rfl rfl ?_
      refine xl_pv (pv_load1 rfl (.there .here) rfl) rfl ?_
      refine xl_take rfl rfl rfl ?_
      refine xl_pv (pv_field_a rfl) rfl ?_
      refine xl_take rfl rfl rfl ?_
      refine xl_pv (pv_load1 rfl .here rfl) rfl ?_
      refine xl_take rfl rfl rfl ?_
      refine xl_pv (pv_bin rfl rfl (v := .bool false) (by simp [intBin])) rfl ?_
      refine xl_pv (pv_pick_f rfl rfl) rfl ?_
      refine xl_pv (pv_move rfl) rfl ?_
      refine xl_take rfl rfl rfl ?_
      refine xl_pv (pv_field_a rfl) rfl ?_
      refine xl_take rfl rfl rfl ?_
      refine xl_pv (pv_load1 rfl (.there .here) rfl) rfl ?_
      refine xl_take rfl rfl rfl ?_
      refine xl_pv (pv_field_a rfl) rfl ?_
      refine xl_take rfl rfl rfl ?_
      refine xl_pv (pv_load1 rfl .here rfl) rfl ?_
      refine xl_take rfl rfl rfl ?_
      refine xl_pv (pv_bin rfl rfl (v := .bool false) (by simp [intBin])) rfl ?_
      refine xl_pv (pv_pick_f rfl rfl) rfl ?_
      refine xl_pv (pv_move rfl) rfl ?_
      refine xl_take rfl rfl rfl ?_
      refine xl_pv (pv_field_a rfl) rfl ?_
      refine xl_take rfl rfl rfl ?_
      refine xl_pv (pv_load1 rfl (.there .here) rfl) rfl ?_
      refine xl_take rfl rfl rfl ?_
      refine xl_pv (pv_field_a rfl) rfl ?_
      refine xl_take rfl rfl rfl ?_
      refine xl_pv (pv_load1 rfl .here rfl) rfl ?_
      refine xl_take rfl rfl rfl ?_
      refine xl_go (sameVals_r z6) rfl (.cons rfl (Wk.refl _) (.cons rfl (Wk.refl _) .nil)) .d rfl ?_
      refine xl_take rfl rfl rfl ?_
      refine xl_pv (pv_not rfl) rfl ?_
      refine xl_pv (pv_pick_f rfl rfl) rfl ?_
      refine xl_pv (pv_move rfl) rfl ?_
      refine xl_take rfl rfl rfl ?_
      refine xl_pv (pv_field_a rfl) rfl ?_
      refine xl_take rfl rfl rfl ?_
      refine xl_pv (pv_load1 rfl (.there .here) rfl) rfl ?_
      refine xl_take rfl rfl rfl ?_
      refine xl_pv (pv_field_a rfl) rfl ?_
      refine xl_take rfl rfl rfl ?_
      refine xl_pv (pv_load1 rfl .here rfl) rfl ?_
      refine xl_take rfl rfl rfl ?_
      refine xl_go (ih z7 (by simp only [CAct.mk.sizeOf_spec] at hsz; omega)) rfl (.cons rfl (Wk.of_eq (by rw [CAct.avs_eq])) (.cons rfl (Wk.of_eq (by rw [CAct.avs_eq])) .nil)) .d rfl ?_
      refine xl_take rfl rfl rfl ?_
      refine xl_pv (pv_not rfl) rfl ?_
      refine xl_pv (pv_pick_f rfl rfl) rfl ?_
      refine xl_pv (pv_move rfl) rfl ?_
      refine xl_take rfl rfl rfl ?_
      refine xl_pv (pv_field_a rfl) rfl ?_
      refine xl_take rfl rfl rfl ?_
      refine xl_pv (pv_load1 rfl (.there .here) rfl) rfl ?_
      refine xl_take rfl rfl rfl ?_
      refine xl_pv (pv_field_a rfl) rfl ?_
      refine xl_take rfl rfl rfl ?_
      refine xl_pv (pv_load1 rfl .here rfl) rfl ?_
      refine xl_take rfl rfl rfl ?_
      refine xl_go (ih z8 (by simp only [CAct.mk.sizeOf_spec] at hsz; omega)) rfl (.cons rfl (Wk.of_eq (by rw [CAct.avs_eq])) (.cons rfl (Wk.of_eq (by rw [CAct.avs_eq])) .nil)) .d rfl ?_
      refine xl_take rfl rfl rfl ?_
      refine xl_pv (pv_not rfl) rfl ?_
      refine xl_pv (pv_pick_f rfl rfl) rfl ?_
      refine xl_nil ?_
      refine xq_norm (xe_code ?_)
      refine x_cond rfl (fun h => nomatch h) (fun _ => ?_)
      refine x_skip ?_
      refine xq_bnorm ?_
      refine xq_norm (xe_code ?_)
      refine x_region ?_
      refine xl_pv (pv_move rfl) rfl ?_
      refine xl_pv (pv_add rfl rfl (by first | omega | (simp only [List.length_map]; omega) | (simp; omega)) (by first | omega | (simp only [List.length_map]; omega) | (simp; omega))) rfl ?_
      refine xl_pv (pv_assign rfl) rfl ?_
      refine xl_nil ?_
      refine xq_drop .here ?_
      refine xq_drop .here ?_
      refine xe_loopS (i + 1) (hlt) (by first | omega | (simp at *; omega)) (.cons rfl (.nil _)) (.n rfl (.o rfl (.o rfl (.o rfl (.o rfl (.o rfl (.o rfl (.o rfl (.o rfl (.o rfl (.o rfl (.o rfl (.o rfl (.o rfl (.o rfl (.o rfl (.o rfl (.o rfl (.o rfl (.o rfl (.o rfl (.o rfl (.o rfl (.o rfl (.o rfl (.o rfl (.o rfl (.o rfl (.o rfl (.o rfl (.o rfl (.o rfl (.o rfl (.o rfl (.o rfl (.o rfl (.o rfl (.o rfl (.o rfl (.o rfl (.o rfl (.o rfl (.o rfl (.o rfl (.o rfl (.o rfl (.o rfl (.o rfl (.o rfl (.o rfl (.o rfl (.o rfl (.o rfl (.o rfl (.o rfl (.o rfl (.o rfl (.o rfl (.o rfl (.o rfl (.o rfl (.o rfl (.o rfl (.o rfl (.o rfl (.o rfl (.o rfl (.o rfl (.o rfl (.o rfl (.o rfl (.o rfl (.o rfl (.o rfl (.o rfl (.n rfl .b)))))))))))))))))))))))))))))))))))))))))))))))))))))))))))))))))))))))))))) (rfl)
    · skip
      refine x_exit ?_
      refine xq_exit ?_
      refine xq_exit ?_
      refine xq_hit ?_
      refine xq_norm (xe_code ?_)
      refine x_seq ?_
      refine x_region ?_
      refine xl_pv (pv_assign rfl) rfl ?_
      refine xl_nil ?_
      refine xq_norm (xe_code ?_)
      refine x_ret ?_
      refine xq_done (.inr rfl) _ (res1 rfl rfl) ?_
      exact ⟨rfl, rfl⟩
theorem sameActs_r (l : List CAct) : AC Try.prog 18 [.list 8 (l.map CAct.av), .list 8 (l.map CAct.av)] [] (RetIs (bv true) []) := sameActs_n _ l (Nat.lt_succ_self _)
end Go.Proofs.Ytmallgapchjhnaa
