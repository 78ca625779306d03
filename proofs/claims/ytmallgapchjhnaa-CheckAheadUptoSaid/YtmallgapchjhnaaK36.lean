/- CheckAhead: the walk. Conditions: the programs' sizes within 2^38. -/
import Derived.Test.YtmallgapchjhnaaK35
set_option linter.unusedVariables false
set_option linter.unusedSimpArgs false
namespace Go.Proofs.Ytmallgapchjhnaa
set_option maxRecDepth 100000
open Go Go.Ax
attribute [local irreducible] X XL XE XQ PV

theorem dszs_app : ∀ (l k : List CDecl), dszs (l ++ k) = dszs l + dszs k
  | [], k => by simp [dszs]
  | x :: l, k => by rw [List.cons_append, dszs, dszs_app l k, dszs]; omega
theorem size_both (P Q : CProg) : sizeN (both P Q) ≤ sizeN P + sizeN Q := by
  simp only [sizeN, both, dszs_app, List.length_append]
  omega
theorem mem_take {α : Type} {l : List α} {i : Nat} {z y : α} (hz : l[i]? = some z) (h : y ∈ l.take (i + 1)) : y ∈ l.take i ∨ y = z := by
  rw [List.take_add_one, hz] at h
  simpa using h
theorem ahead_c (P Q : CProg) (hbP : sizeN P ≤ 2 ^ 38) (hbQ : sizeN Q ≤ 2 ^ 38) : AC Try.prog 4 [.agg P.cs, .agg Q.cs] [] (RetIs (bv true) []) := by
  have hN : sizeN P = P.structs.length + P.funcs.length + fszs P.structs + dszs P.funcs := rfl
  have hM : sizeN Q = Q.structs.length + Q.funcs.length + fszs Q.structs + dszs Q.funcs := rfl
  have hB := size_both P Q
  refine ac_intro Try.func4 rfl rfl fun I w => ?_
  simp only [argEnv]
  refine x_seq ?_
  refine x_region ?_
  refine xl_box rfl (by rfl) rfl (fun b2 => ?_)
  refine xl_box rfl (by rfl) rfl (fun b3 => ?_)
  refine xl_pv (pv_assign rfl) rfl ?_
  refine xl_nil ?_
  refine xq_norm (xe_code ?_)
  refine x_seq ?_
  refine x_seq ?_
  refine x_region ?_
  refine xl_pv (pv_loadN rfl (.there .here) rfl) rfl ?_
  refine xl_go (size_c P (by omega)) rfl (.cons rfl (Wk.refl _) .nil) .d rfl ?_
  refine xl_pv (pv_bin rfl rfl rfl) rfl ?_
  refine xl_pv (pv_move rfl) rfl ?_
  refine xl_guard rfl rfl (fun g1 => ?_) (fun g1 => ?_)
  · skip
    refine xl_take rfl rfl rfl ?_
    refine xl_pv (pv_loadN rfl .here rfl) rfl ?_
    refine xl_take rfl rfl rfl ?_
    refine xl_go (size_c Q (by omega)) rfl (.cons rfl (Wk.refl _) .nil) .d rfl ?_
    refine xl_take rfl rfl rfl ?_
    refine xl_pv (pv_bin rfl rfl rfl) rfl ?_
    refine xl_pv (pv_pick_f rfl rfl) rfl ?_
    refine xl_pv (pv_move rfl) rfl ?_
    refine xl_guard rfl rfl (fun g2 => ?_) (fun g2 => ?_)
    · skip
      refine xl_take rfl rfl rfl ?_
      refine xl_pv (pv_field_a rfl) rfl ?_
      refine xl_take rfl rfl rfl ?_
      refine xl_pv (pv_load1 rfl .here rfl) rfl ?_
      refine xl_take rfl rfl rfl ?_
      refine xl_pv (pv_len rfl) rfl ?_
      refine xl_take rfl rfl rfl ?_
      refine xl_pv (pv_bin rfl rfl rfl) rfl ?_
      refine xl_pv (pv_pick_f rfl rfl) rfl ?_
      refine xl_nil ?_
      refine xq_norm (xe_code ?_)
      refine x_condT rfl (fun g3 => ?_) (fun g3 => ?_)
      · skip
        refine x_seq ?_
        refine x_region ?_
        refine xl_go (works_c) rfl .nil .d rfl ?_
        refine xl_pv (pv_assign rfl) rfl ?_
        refine xl_nil ?_
        refine xq_norm (xe_code ?_)
        refine x_ret ?_
        refine xq_ret ?_
        refine xq_drop .here ?_
        refine xq_drop .here ?_
        refine xq_done (.inr rfl) _ (res1 rfl rfl) ?_
        exact ⟨rfl, rfl⟩
      · skip
        simp at g1 g2
        refine x_skip ?_
        refine xq_norm (xe_code ?_)
        refine x_seq ?_
        refine x_seq ?_
        refine x_region ?_
        refine xl_pv (pv_assign rfl) rfl ?_
        refine xl_nil ?_
        refine xq_norm (xe_code ?_)
        refine x_block ?_
        -- slots turned in the loop and not told: [4]
        refine x_loopS (S := Nat) (fun i => i ≤ Q.funcs.length ∧ ∀ q ∈ Q.funcs.take i, ∀ p ∈ P.funcs, q.name ≠ p.name ∧ callsL q.name p.body = false) (fun i => Q.funcs.length - i) (fun i => [(5, iv i)]) (fun i => _) (0) (by simp) (.cons rfl (.cons (i := 4) rfl (.cons (i := 3) rfl (.cons (i := 2) rfl (.nil _))))) (rfl) ?_
        rintro i ⟨hi, hap⟩
        simp only [List.cons_append, List.nil_append]
        refine x_seq ?_
        refine x_seq ?_
        refine x_region ?_
        refine xl_pv (pv_move rfl) rfl ?_
        refine xl_pv (pv_field_a rfl) rfl ?_
        refine xl_pv (pv_load1 rfl .here rfl) rfl ?_
        refine xl_pv (pv_len rfl) rfl ?_
        refine xl_pv (pv_bin rfl rfl rfl) rfl ?_
        refine xl_nil ?_
        refine xq_norm (xe_code ?_)
        refine x_condT rfl (fun h => ?_) (fun h => ?_)
        · skip
          have hlt : i < Q.funcs.length := by simpa using h
          obtain ⟨z, hz⟩ := get_lt hlt
          refine x_skip ?_
          refine xq_norm (xe_code ?_)
          refine x_seq ?_
          refine x_block ?_
          refine x_seq ?_
          refine x_region ?_
          refine xl_pv (pv_assign rfl) rfl ?_
          refine xl_nil ?_
          refine xq_norm (xe_code ?_)
          refine x_block ?_
          -- slots turned in the loop and not told: [4]
          refine x_loopS (S := Nat) (fun k => k ≤ P.funcs.length ∧ ∀ p ∈ P.funcs.take k, z.name ≠ p.name ∧ callsL z.name p.body = false) (fun k => P.funcs.length - k) (fun k => [(6, iv k)]) (fun k => _) (0) (by simp) (.cons rfl (.cons (i := 35) rfl (.cons (i := 34) rfl (.cons (i := 33) rfl (.cons (i := 32) rfl (.cons (i := 31) rfl (.cons (i := 5) rfl (.cons (i := 4) rfl (.cons (i := 3) rfl (.cons (i := 2) rfl (.nil _))))))))))) (rfl) ?_
          rintro k ⟨hk, hbp⟩
          simp only [List.cons_append, List.nil_append]
          refine x_seq ?_
          refine x_seq ?_
          refine x_region ?_
          refine xl_pv (pv_move rfl) rfl ?_
          refine xl_pv (pv_field_a rfl) rfl ?_
          refine xl_pv (pv_load1 rfl (.there .here) rfl) rfl ?_
          refine xl_pv (pv_len rfl) rfl ?_
          refine xl_pv (pv_bin rfl rfl rfl) rfl ?_
          refine xl_nil ?_
          refine xq_norm (xe_code ?_)
          refine x_condT rfl (fun h2 => ?_) (fun h2 => ?_)
          · skip
            have hlt2 : k < P.funcs.length := by simpa using h2
            obtain ⟨y, hy⟩ := get_lt hlt2
            rcases hc : decide (z.name = y.name) with _ | _
            · skip
              refine x_skip ?_
              refine xq_norm (xe_code ?_)
              refine x_seq ?_
              refine x_block ?_
              refine x_seq ?_
              refine x_draw rfl ?_
              refine xd_v 0 rfl rfl rfl (gv_v (pv_field_a rfl) rfl) ?_
              refine xd_v 1 rfl rfl rfl (gv_v (pv_load1 rfl .here rfl) rfl) ?_
              refine xd_v 2 rfl rfl rfl (gv_v (pv_move rfl) rfl) ?_
              refine xd_v 3 rfl rfl rfl (gv_v (pv_at rfl rfl (by omega) ((get_map hz))) rfl) ?_
              refine xd_v 4 rfl rfl rfl (gv_v (pv_field_i rfl) rfl) ?_
              refine xd_v 5 rfl rfl rfl (gv_v (pv_load1_i rfl rfl) rfl) ?_
              refine xd_v 6 rfl rfl rfl (gv_v (pv_field_a rfl) rfl) ?_
              refine xd_v 7 rfl rfl rfl (gv_v (pv_load1 rfl (.there .here) rfl) rfl) ?_
              refine xd_v 8 rfl rfl rfl (gv_v (pv_move rfl) rfl) ?_
              refine xd_v 9 rfl rfl rfl (gv_v (pv_at rfl rfl (by omega) ((get_map hy))) rfl) ?_
              refine xd_v 10 rfl rfl rfl (gv_v (pv_field_i rfl) rfl) ?_
              refine xd_v 11 rfl rfl rfl (gv_v (pv_load1_i rfl rfl) rfl) ?_
              refine xd_v 12 rfl rfl rfl (gv_v (pv_wk (.val (.bool false)) (pv_str_eq rfl rfl) (Wk.of_eq (by rw [hc]))) rfl) ?_
              refine xd_v 13 rfl rfl rfl (gv_v (pv_move rfl) rfl) ?_
              refine xd_v 14 rfl rfl rfl (gv_take rfl rfl rfl (pv_field_a rfl) rfl) ?_
              refine xd_v 15 rfl rfl rfl (gv_take rfl rfl rfl (pv_load1 rfl (.there .here) rfl) rfl) ?_
              refine xd_v 16 rfl rfl rfl (gv_take rfl rfl rfl (pv_move rfl) rfl) ?_
              refine xd_v 17 rfl rfl rfl (gv_take rfl rfl rfl (pv_at rfl rfl (by omega) ((get_map hy))) rfl) ?_
              refine xd_v 18 rfl rfl rfl (gv_take rfl rfl rfl (pv_field_i rfl) rfl) ?_
              refine xd_v 19 rfl rfl rfl (gv_take rfl rfl rfl (pv_load1_i rfl rfl) rfl) ?_
              refine xd_v 20 rfl rfl rfl (gv_take rfl rfl rfl (pv_field_a rfl) rfl) ?_
              refine xd_v 21 rfl rfl rfl (gv_take rfl rfl rfl (pv_load1 rfl .here rfl) rfl) ?_
              refine xd_v 22 rfl rfl rfl (gv_take rfl rfl rfl (pv_move rfl) rfl) ?_
              refine xd_v 23 rfl rfl rfl (gv_take rfl rfl rfl (pv_at rfl rfl (by omega) ((get_map hz))) rfl) ?_
              refine xd_v 24 rfl rfl rfl (gv_take rfl rfl rfl (pv_field_i rfl) rfl) ?_
              refine xd_v 25 rfl rfl rfl (gv_take rfl rfl rfl (pv_load1_i rfl rfl) rfl) ?_
              refine xd_eg rfl 26 rfl rfl rfl (by rintro _ ⟨⟩ <;> exact Nat.le_of_ble_eq_true rfl) rfl (evg_take rfl rfl rfl (ev_go (calls_c z.name y.body) rfl (.cons rfl (Wk.refl _) (.cons rfl (Wk.refl _) .nil)) .d)) ?_
              rintro _ _ ⟨rfl, rfl⟩
              refine ⟨?_, ?_⟩
              · skip
                intro m hm o' y ho hy
                have hm' : m ∈ [24, 23, 22, 21, 20, 18, 17, 16, 15, 14, 12, 11, 10, 9, 8, 7, 6, 5, 4, 3, 2, 1, 0] := hm
                clear hm
                rcases List.mem_cons.1 hm' with rfl | hm'
                · cases ho; cases hy
                  exact gv_take rfl rfl rfl (pv_field_i rfl) rfl
                rcases List.mem_cons.1 hm' with rfl | hm'
                · cases ho; cases hy
                  exact gv_take rfl rfl rfl (pv_at rfl rfl (by omega) ((get_map hz))) rfl
                rcases List.mem_cons.1 hm' with rfl | hm'
                · cases ho; cases hy
                  exact gv_take rfl rfl rfl (pv_move rfl) rfl
                rcases List.mem_cons.1 hm' with rfl | hm'
                · cases ho; cases hy
                  exact gv_take rfl rfl rfl (pv_load1 rfl .here rfl) rfl
                rcases List.mem_cons.1 hm' with rfl | hm'
                · cases ho; cases hy
                  exact gv_take rfl rfl rfl (pv_field_a rfl) rfl
                rcases List.mem_cons.1 hm' with rfl | hm'
                · cases ho; cases hy
                  exact gv_take rfl rfl rfl (pv_field_i rfl) rfl
                rcases List.mem_cons.1 hm' with rfl | hm'
                · cases ho; cases hy
                  exact gv_take rfl rfl rfl (pv_at rfl rfl (by omega) ((get_map hy))) rfl
                rcases List.mem_cons.1 hm' with rfl | hm'
                · cases ho; cases hy
                  exact gv_take rfl rfl rfl (pv_move rfl) rfl
                rcases List.mem_cons.1 hm' with rfl | hm'
                · cases ho; cases hy
                  exact gv_take rfl rfl rfl (pv_load1 rfl (.there .here) rfl) rfl
                rcases List.mem_cons.1 hm' with rfl | hm'
                · cases ho; cases hy
                  exact gv_take rfl rfl rfl (pv_field_a rfl) rfl
                rcases List.mem_cons.1 hm' with rfl | hm'
                · cases ho; cases hy
                  exact gv_v (pv_wk (.val (.bool false)) (pv_str_eq rfl rfl) (Wk.of_eq (by rw [hc]))) rfl
                rcases List.mem_cons.1 hm' with rfl | hm'
                · cases ho; cases hy
                  exact gv_v (pv_load1_i rfl rfl) rfl
                rcases List.mem_cons.1 hm' with rfl | hm'
                · cases ho; cases hy
                  exact gv_v (pv_field_i rfl) rfl
                rcases List.mem_cons.1 hm' with rfl | hm'
                · cases ho; cases hy
                  exact gv_v (pv_at rfl rfl (by omega) ((get_map hy))) rfl
                rcases List.mem_cons.1 hm' with rfl | hm'
                · cases ho; cases hy
                  exact gv_v (pv_move rfl) rfl
                rcases List.mem_cons.1 hm' with rfl | hm'
                · cases ho; cases hy
                  exact gv_v (pv_load1 rfl (.there .here) rfl) rfl
                rcases List.mem_cons.1 hm' with rfl | hm'
                · cases ho; cases hy
                  exact gv_v (pv_field_a rfl) rfl
                rcases List.mem_cons.1 hm' with rfl | hm'
                · cases ho; cases hy
                  exact gv_v (pv_load1_i rfl rfl) rfl
                rcases List.mem_cons.1 hm' with rfl | hm'
                · cases ho; cases hy
                  exact gv_v (pv_field_i rfl) rfl
                rcases List.mem_cons.1 hm' with rfl | hm'
                · cases ho; cases hy
                  exact gv_v (pv_at rfl rfl (by omega) ((get_map hz))) rfl
                rcases List.mem_cons.1 hm' with rfl | hm'
                · cases ho; cases hy
                  exact gv_v (pv_move rfl) rfl
                rcases List.mem_cons.1 hm' with rfl | hm'
                · cases ho; cases hy
                  exact gv_v (pv_load1 rfl .here rfl) rfl
                rcases List.mem_cons.1 hm' with rfl | hm'
                · cases ho; cases hy
                  exact gv_v (pv_field_a rfl) rfl
                cases hm'
              refine xd_v 27 rfl rfl rfl (gv_v (pv_pick_f rfl rfl) rfl) ?_
              refine xd_end rfl rfl rfl rfl ?_
              refine xq_sub (.cons (i := 72) rfl (.cons (i := 71) rfl (.cons (i := 70) rfl (.cons (i := 69) rfl (.cons (i := 68) rfl (.cons (i := 67) rfl (.cons (i := 66) rfl (.cons (i := 65) rfl (.cons (i := 64) rfl (.cons (i := 63) rfl (.cons (i := 62) rfl (.cons (i := 61) rfl (.cons (i := 60) rfl (.cons (i := 59) rfl (.cons (i := 58) rfl (.cons (i := 57) rfl (.cons (i := 56) rfl (.cons (i := 55) rfl (.cons (i := 54) rfl (.cons (i := 53) rfl (.cons (i := 52) rfl (.cons (i := 51) rfl (.cons (i := 50) rfl (.cons (i := 49) rfl (.cons (i := 48) rfl (.cons (i := 47) rfl (.cons (i := 46) rfl (.cons (i := 45) rfl (.cons (i := 42) rfl (.cons (i := 41) rfl (.cons (i := 40) rfl (.cons (i := 39) rfl (.cons (i := 38) rfl (.cons (i := 6) rfl (.cons (i := 35) rfl (.cons (i := 34) rfl (.cons (i := 33) rfl (.cons (i := 32) rfl (.cons (i := 31) rfl (.cons (i := 5) rfl (.cons (i := 4) rfl (.cons (i := 3) rfl (.cons (i := 2) rfl (.nil _)))))))))))))))))))))))))))))))))))))))))))) ?_
              refine xq_norm (xe_code ?_)
              refine x_condT rfl (fun h5 => ?_) (fun h5 => ?_)
              · skip
                refine x_seq ?_
                refine x_region ?_
                refine xl_go (works_c) rfl .nil .d rfl ?_
                refine xl_pv (pv_assign rfl) rfl ?_
                refine xl_nil ?_
                refine xq_norm (xe_code ?_)
                refine x_ret ?_
                refine xq_bret ?_
                refine xq_ret ?_
                refine xq_ret ?_
                refine xq_bret ?_
                refine xq_bret ?_
                refine xq_ret ?_
                refine xq_ret ?_
                refine xq_bret ?_
                refine xq_ret ?_
                refine xq_drop .here ?_
                refine xq_drop .here ?_
                refine xq_done (.inr rfl) _ (res1 rfl rfl) ?_
                exact ⟨rfl, rfl⟩
              · skip
                refine x_skip ?_
                refine xq_bnorm ?_
                refine xq_norm (xe_code ?_)
                refine x_region ?_
                refine xl_pv (pv_move rfl) rfl ?_
                refine xl_pv (pv_add rfl rfl (by first | omega | (simp only [List.length_map]; omega) | (simp; omega)) (by first | omega | (simp only [List.length_map]; omega) | (simp; omega))) rfl ?_
                refine xl_pv (pv_assign rfl) rfl ?_
                refine xl_nil ?_
                refine xe_loopF (k + 1) (⟨hlt2, fun p hp => (mem_take hy hp).elim (hbp p) (fun e => by subst e; exact ⟨by simpa using hc, h5⟩)⟩) (by first | omega | (simp at *; omega)) (.cons rfl (.cons rfl (.cons rfl (.cons rfl (.cons rfl (.cons rfl (.cons rfl (.cons rfl (.cons rfl (.cons rfl (.nil _))))))))))) (rfl)
            · skip
              refine x_skip ?_
              refine xq_norm (xe_code ?_)
              refine x_seq ?_
              refine x_block ?_
              refine x_seq ?_
              refine x_draw rfl ?_
              refine xd_v 0 rfl rfl rfl (gv_v (pv_field_a rfl) rfl) ?_
              refine xd_v 1 rfl rfl rfl (gv_v (pv_load1 rfl .here rfl) rfl) ?_
              refine xd_v 2 rfl rfl rfl (gv_v (pv_move rfl) rfl) ?_
              refine xd_v 3 rfl rfl rfl (gv_v (pv_at rfl rfl (by omega) ((get_map hz))) rfl) ?_
              refine xd_v 4 rfl rfl rfl (gv_v (pv_field_i rfl) rfl) ?_
              refine xd_v 5 rfl rfl rfl (gv_v (pv_load1_i rfl rfl) rfl) ?_
              refine xd_v 6 rfl rfl rfl (gv_v (pv_field_a rfl) rfl) ?_
              refine xd_v 7 rfl rfl rfl (gv_v (pv_load1 rfl (.there .here) rfl) rfl) ?_
              refine xd_v 8 rfl rfl rfl (gv_v (pv_move rfl) rfl) ?_
              refine xd_v 9 rfl rfl rfl (gv_v (pv_at rfl rfl (by omega) ((get_map hy))) rfl) ?_
              refine xd_v 10 rfl rfl rfl (gv_v (pv_field_i rfl) rfl) ?_
              refine xd_v 11 rfl rfl rfl (gv_v (pv_load1_i rfl rfl) rfl) ?_
              refine xd_v 12 rfl rfl rfl (gv_v (pv_wk (.val (.bool true)) (pv_str_eq rfl rfl) (Wk.of_eq (by rw [hc]))) rfl) ?_
              refine xd_v 13 rfl rfl rfl (gv_v (pv_move rfl) rfl) ?_
              refine xd_v 14 rfl rfl rfl (gv_skip rfl rfl rfl rfl) ?_
              refine xd_v 15 rfl rfl rfl (gv_skip rfl rfl rfl rfl) ?_
              refine xd_v 16 rfl rfl rfl (gv_skip rfl rfl rfl rfl) ?_
              refine xd_v 17 rfl rfl rfl (gv_skip rfl rfl rfl rfl) ?_
              refine xd_v 18 rfl rfl rfl (gv_skip rfl rfl rfl rfl) ?_
              refine xd_v 19 rfl rfl rfl (gv_skip rfl rfl rfl rfl) ?_
              refine xd_v 20 rfl rfl rfl (gv_skip rfl rfl rfl rfl) ?_
              refine xd_v 21 rfl rfl rfl (gv_skip rfl rfl rfl rfl) ?_
              refine xd_v 22 rfl rfl rfl (gv_skip rfl rfl rfl rfl) ?_
              refine xd_v 23 rfl rfl rfl (gv_skip rfl rfl rfl rfl) ?_
              refine xd_v 24 rfl rfl rfl (gv_skip rfl rfl rfl rfl) ?_
              refine xd_v 25 rfl rfl rfl (gv_skip rfl rfl rfl rfl) ?_
              refine xd_v 26 rfl rfl rfl (gv_skip rfl rfl rfl rfl) ?_
              refine xd_v 27 rfl rfl rfl (gv_v (pv_pick_t rfl rfl) rfl) ?_
              refine xd_end rfl rfl rfl rfl ?_
              refine xq_sub (.cons (i := 72) rfl (.cons (i := 71) rfl (.cons (i := 70) rfl (.cons (i := 69) rfl (.cons (i := 68) rfl (.cons (i := 67) rfl (.cons (i := 66) rfl (.cons (i := 65) rfl (.cons (i := 64) rfl (.cons (i := 63) rfl (.cons (i := 62) rfl (.cons (i := 61) rfl (.cons (i := 60) rfl (.cons (i := 59) rfl (.cons (i := 58) rfl (.cons (i := 57) rfl (.cons (i := 56) rfl (.cons (i := 55) rfl (.cons (i := 54) rfl (.cons (i := 53) rfl (.cons (i := 52) rfl (.cons (i := 51) rfl (.cons (i := 50) rfl (.cons (i := 49) rfl (.cons (i := 48) rfl (.cons (i := 47) rfl (.cons (i := 46) rfl (.cons (i := 45) rfl (.cons (i := 42) rfl (.cons (i := 41) rfl (.cons (i := 40) rfl (.cons (i := 39) rfl (.cons (i := 38) rfl (.cons (i := 6) rfl (.cons (i := 35) rfl (.cons (i := 34) rfl (.cons (i := 33) rfl (.cons (i := 32) rfl (.cons (i := 31) rfl (.cons (i := 5) rfl (.cons (i := 4) rfl (.cons (i := 3) rfl (.cons (i := 2) rfl (.nil _)))))))))))))))))))))))))))))))))))))))))))) ?_
              refine xq_norm (xe_code ?_)
              refine x_cond rfl (fun _ => ?_) (fun h => nomatch h)
              refine x_seq ?_
              refine x_region ?_
              refine xl_go (works_c) rfl .nil .d rfl ?_
              refine xl_pv (pv_assign rfl) rfl ?_
              refine xl_nil ?_
              refine xq_norm (xe_code ?_)
              refine x_ret ?_
              refine xq_bret ?_
              refine xq_ret ?_
              refine xq_ret ?_
              refine xq_bret ?_
              refine xq_bret ?_
              refine xq_ret ?_
              refine xq_ret ?_
              refine xq_bret ?_
              refine xq_ret ?_
              refine xq_drop .here ?_
              refine xq_drop .here ?_
              refine xq_done (.inr rfl) _ (res1 rfl rfl) ?_
              exact ⟨rfl, rfl⟩
          · skip
            have hall : P.funcs.take k = P.funcs := List.take_of_length_le (by simpa using h2)
            rw [hall] at hbp
            refine x_exit ?_
            refine xq_exit ?_
            refine xq_exit ?_
            refine xq_hit ?_
            refine xq_bnorm ?_
            refine xq_norm (xe_code ?_)
            refine x_region ?_
            refine xl_pv (pv_move rfl) rfl ?_
            refine xl_pv (pv_add rfl rfl (by first | omega | (simp only [List.length_map]; omega) | (simp; omega)) (by first | omega | (simp only [List.length_map]; omega) | (simp; omega))) rfl ?_
            refine xl_pv (pv_assign rfl) rfl ?_
            refine xl_nil ?_
            refine xe_loopF (i + 1) (⟨hlt, fun q hq => (mem_take hz hq).elim (hap q) (fun e => by subst e; exact hbp)⟩) (by first | omega | (simp at *; omega)) (.cons rfl (.cons rfl (.cons rfl (.cons rfl (.nil _))))) (rfl)
        · skip
          have hall : Q.funcs.take i = Q.funcs := List.take_of_length_le (by simpa using h)
          rw [hall] at hap
          have hApart : Apart P Q := hap
          refine x_exit ?_
          refine xq_exit ?_
          refine xq_exit ?_
          refine xq_hit ?_
          refine xq_norm (xe_code ?_)
          refine x_joinE (T := Nat × Value) (fun q => [(7, ptr q.1)]) (fun q => .ref q.1 25 [.list 2 (P.structs.map CStruct.av), .val q.2] :: .vec q.2 53 7 ((P.funcs ++ Q.funcs).map CDecl.av) :: .ref b3 25 [.list 2 (Q.structs.map CStruct.av), .list 7 (Q.funcs.map CDecl.av)] :: .ref b2 25 [.list 2 (P.structs.map CStruct.av), .list 7 (P.funcs.map CDecl.av)] :: []) (.cons (i := 4) rfl (.cons (i := 2) rfl (.nil _))) ?_ ?_
          · skip
            refine x_draw rfl ?_
            refine xd_v 0 rfl rfl rfl (gv_v (pv_field_a rfl) rfl) ?_
            refine xd_v 1 rfl rfl rfl (gv_v (pv_load1 rfl (.there .here) rfl) rfl) ?_
            refine xd_v 3 rfl rfl rfl (gv_v (pv_field_a rfl) rfl) ?_
            refine xd_v 4 rfl rfl rfl (gv_v (pv_load1 rfl (.there .here) rfl) rfl) ?_
            refine xd_v 6 rfl rfl rfl (gv_v (pv_field_a rfl) rfl) ?_
            refine xd_v 7 rfl rfl rfl (gv_v (pv_load1 rfl .here rfl) rfl) ?_
            refine xd_anyG rfl [2, 10] ⟨2, by simp⟩ rfl ?_
            intro i hi
            rcases List.mem_cons.1 hi with rfl | hi
            · skip
              refine ⟨_, _, rfl, rfl, rfl, (by rintro _ ⟨⟩ <;> exact Nat.le_of_ble_eq_true rfl), (EV.toG ((ev_litv .nil rfl (by first | (simp [AV.cs]; done) | exact lits (by rfl) | (intro x hx; cases hx with | head => rfl | tail _ h => cases h)) (by first | rfl | (simp [flat, AV.cs, oneB, *]; done) | (simp [flat, AV.cs, oneB, *]; repeat' constructor)) (by decide)))), ?_⟩
              rintro _ _ ⟨v76, hv76, rfl, rfl⟩
              refine ⟨?_, ?_⟩
              · skip
                intro m hm o' y ho hy
                have hm' : m ∈ [7, 6, 4, 3, 1, 0] := hm
                clear hm
                rcases List.mem_cons.1 hm' with rfl | hm'
                · cases ho; cases hy
                  exact gv_v (pv_load1 rfl (.there .here) rfl) rfl
                rcases List.mem_cons.1 hm' with rfl | hm'
                · cases ho; cases hy
                  exact gv_v (pv_field_a rfl) rfl
                rcases List.mem_cons.1 hm' with rfl | hm'
                · cases ho; cases hy
                  exact gv_v (pv_load1 rfl (.there (.there .here)) rfl) rfl
                rcases List.mem_cons.1 hm' with rfl | hm'
                · cases ho; cases hy
                  exact gv_v (pv_field_a rfl) rfl
                rcases List.mem_cons.1 hm' with rfl | hm'
                · cases ho; cases hy
                  exact gv_v (pv_load1 rfl (.there (.there .here)) rfl) rfl
                rcases List.mem_cons.1 hm' with rfl | hm'
                · cases ho; cases hy
                  exact gv_v (pv_field_a rfl) rfl
                cases hm'
              refine xd_anyG rfl [5, 10] ⟨5, by simp⟩ rfl ?_
              intro i hi
              rcases List.mem_cons.1 hi with rfl | hi
              · skip
                refine ⟨_, _, rfl, rfl, rfl, (by rintro _ ⟨⟩ <;> exact Nat.le_of_ble_eq_true rfl), (EV.toG ((ev_grow .h rfl rfl (flat_ones (fun _ => rfl) _) (by simp; omega)))), ?_⟩
                rintro _ _ ⟨v76_1, hv76_1, rfl, rfl⟩
                refine ⟨?_, ?_⟩
                · skip
                  intro m hm o' y ho hy
                  have hm' : m ∈ [7, 6, 3, 1, 0] := hm
                  clear hm
                  rcases List.mem_cons.1 hm' with rfl | hm'
                  · cases ho; cases hy
                    exact gv_v (pv_load1 rfl (.there .here) rfl) rfl
                  rcases List.mem_cons.1 hm' with rfl | hm'
                  · cases ho; cases hy
                    exact gv_v (pv_field_a rfl) rfl
                  rcases List.mem_cons.1 hm' with rfl | hm'
                  · cases ho; cases hy
                    exact gv_v (pv_field_a rfl) rfl
                  rcases List.mem_cons.1 hm' with rfl | hm'
                  · cases ho; cases hy
                    exact gv_v (pv_load1 rfl (.there (.there .here)) rfl) rfl
                  rcases List.mem_cons.1 hm' with rfl | hm'
                  · cases ho; cases hy
                    exact gv_v (pv_field_a rfl) rfl
                  cases hm'
                refine xd_anyG rfl [8, 10] ⟨8, by simp⟩ rfl ?_
                intro i hi
                rcases List.mem_cons.1 hi with rfl | hi
                · skip
                  refine ⟨_, _, rfl, rfl, rfl, (by rintro _ ⟨⟩ <;> exact Nat.le_of_ble_eq_true rfl), (EV.toG ((ev_grow .h rfl rfl (flat_ones (fun _ => rfl) _) (by simp; omega)))), ?_⟩
                  rintro _ _ ⟨v76_2, hv76_2, rfl, rfl⟩
                  refine ⟨?_, ?_⟩
                  · skip
                    intro m hm o' y ho hy
                    have hm' : m ∈ [6, 3, 1, 0] := hm
                    clear hm
                    rcases List.mem_cons.1 hm' with rfl | hm'
                    · cases ho; cases hy
                      exact gv_v (pv_field_a rfl) rfl
                    rcases List.mem_cons.1 hm' with rfl | hm'
                    · cases ho; cases hy
                      exact gv_v (pv_field_a rfl) rfl
                    rcases List.mem_cons.1 hm' with rfl | hm'
                    · cases ho; cases hy
                      exact gv_v (pv_load1 rfl (.there (.there .here)) rfl) rfl
                    rcases List.mem_cons.1 hm' with rfl | hm'
                    · cases ho; cases hy
                      exact gv_v (pv_field_a rfl) rfl
                    cases hm'
                  refine xd_v 9 rfl rfl rfl (gv_v (pv_build (by exact (.cons rfl rfl rfl (by first | rfl | (simp [AV.cs, oneB, *]; done) | (simp [AV.cs, oneB, *]; repeat' constructor)) (.c .z) (.cons rfl rfl rfl (by first | rfl | (simp [AV.cs, oneB, *]; done) | (simp [AV.cs, oneB, *]; repeat' constructor)) (.s (.c .z)) .nil)))) rfl) ?_
                  refine xd_e rfl 10 rfl rfl rfl (by rintro _ ⟨⟩ <;> exact Nat.le_of_ble_eq_true rfl) rfl ev_alloc ?_
                  rintro _ _ ⟨b7, rfl, rfl⟩
                  refine ⟨?_, ?_⟩
                  · skip
                    intro m hm o' y ho hy
                    have hm' : m ∈ [9, 6, 3, 1, 0] := hm
                    clear hm
                    rcases List.mem_cons.1 hm' with rfl | hm'
                    · cases ho; cases hy
                      exact gv_v (pv_build (by exact (.cons rfl rfl rfl (by first | rfl | (simp [AV.cs, oneB, *]; done) | (simp [AV.cs, oneB, *]; repeat' constructor)) (.c .z) (.cons rfl rfl rfl (by first | rfl | (simp [AV.cs, oneB, *]; done) | (simp [AV.cs, oneB, *]; repeat' constructor)) (.s (.c .z)) .nil)))) rfl
                    rcases List.mem_cons.1 hm' with rfl | hm'
                    · cases ho; cases hy
                      exact gv_v (pv_field_a rfl) rfl
                    rcases List.mem_cons.1 hm' with rfl | hm'
                    · cases ho; cases hy
                      exact gv_v (pv_field_a rfl) rfl
                    rcases List.mem_cons.1 hm' with rfl | hm'
                    · cases ho; cases hy
                      exact gv_v (pv_load1 rfl (.there (.there (.there .here))) rfl) rfl
                    rcases List.mem_cons.1 hm' with rfl | hm'
                    · cases ho; cases hy
                      exact gv_v (pv_field_a rfl) rfl
                    cases hm'
                  refine xd_e rfl 11 rfl rfl rfl (by rintro _ ⟨⟩ <;> exact Nat.le_of_ble_eq_true rfl) rfl (ev_put .h rfl rfl (by first | rfl | (simp [AV.cs, oneB, *]; done) | (simp [AV.cs, oneB, *]; repeat' constructor)) rfl (.c (.c .z))) ?_
                  rintro _ _ ⟨rfl, rfl⟩
                  refine ⟨?_, ?_⟩
                  · skip
                    intro m hm; cases hm
                  refine xd_end rfl rfl rfl rfl ?_
                  refine xq_sub (.cons (i := 7) rfl (.cons (i := 4) rfl (.cons (i := 2) rfl (.nil _)))) ?_
                  refine xq_meetE ((b7, v76_2)) (.cons_wk (i := 7) rfl (Wk.of_eq (rfl)) (.cons rfl (.cons rfl (.nil _)))) (by simp only [List.map_append]; rfl)
                · skip
                  obtain rfl : i = 10 := by simpa using hi
                  refine ⟨_, _, rfl, rfl, rfl, (by rintro _ ⟨⟩ <;> exact Nat.le_of_ble_eq_true rfl), (EV.toG (ev_alloc)), ?_⟩
                  rintro _ _ ⟨b7, rfl, rfl⟩
                  refine ⟨?_, ?_⟩
                  · skip
                    intro m hm o' y ho hy
                    have hm' : m ∈ [7, 6, 3, 1, 0] := hm
                    clear hm
                    rcases List.mem_cons.1 hm' with rfl | hm'
                    · cases ho; cases hy
                      exact gv_v (pv_load1 rfl (.there (.there .here)) rfl) rfl
                    rcases List.mem_cons.1 hm' with rfl | hm'
                    · cases ho; cases hy
                      exact gv_v (pv_field_a rfl) rfl
                    rcases List.mem_cons.1 hm' with rfl | hm'
                    · cases ho; cases hy
                      exact gv_v (pv_field_a rfl) rfl
                    rcases List.mem_cons.1 hm' with rfl | hm'
                    · cases ho; cases hy
                      exact gv_v (pv_load1 rfl (.there (.there (.there .here))) rfl) rfl
                    rcases List.mem_cons.1 hm' with rfl | hm'
                    · cases ho; cases hy
                      exact gv_v (pv_field_a rfl) rfl
                    cases hm'
                  refine xd_e rfl 8 rfl rfl rfl (by rintro _ ⟨⟩ <;> exact Nat.le_of_ble_eq_true rfl) rfl (ev_grow (.t .h) rfl rfl (flat_ones (fun _ => rfl) _) (by simp; omega)) ?_
                  rintro _ _ ⟨v76_3, hv76_3, rfl, rfl⟩
                  refine ⟨?_, ?_⟩
                  · skip
                    intro m hm o' y ho hy
                    have hm' : m ∈ [6, 3, 1, 0] := hm
                    clear hm
                    rcases List.mem_cons.1 hm' with rfl | hm'
                    · cases ho; cases hy
                      exact gv_v (pv_field_a rfl) rfl
                    rcases List.mem_cons.1 hm' with rfl | hm'
                    · cases ho; cases hy
                      exact gv_v (pv_field_a rfl) rfl
                    rcases List.mem_cons.1 hm' with rfl | hm'
                    · cases ho; cases hy
                      exact gv_v (pv_load1 rfl (.there (.there (.there .here))) rfl) rfl
                    rcases List.mem_cons.1 hm' with rfl | hm'
                    · cases ho; cases hy
                      exact gv_v (pv_field_a rfl) rfl
                    cases hm'
                  refine xd_v 9 rfl rfl rfl (gv_v (pv_build (by exact (.cons rfl rfl rfl (by first | rfl | (simp [AV.cs, oneB, *]; done) | (simp [AV.cs, oneB, *]; repeat' constructor)) (.c .z) (.cons rfl rfl rfl (by first | rfl | (simp [AV.cs, oneB, *]; done) | (simp [AV.cs, oneB, *]; repeat' constructor)) (.s (.c .z)) .nil)))) rfl) ?_
                  refine xd_e rfl 11 rfl rfl rfl (by rintro _ ⟨⟩ <;> exact Nat.le_of_ble_eq_true rfl) rfl (ev_put .h rfl rfl (by first | rfl | (simp [AV.cs, oneB, *]; done) | (simp [AV.cs, oneB, *]; repeat' constructor)) rfl (.c (.c .z))) ?_
                  rintro _ _ ⟨rfl, rfl⟩
                  refine ⟨?_, ?_⟩
                  · skip
                    intro m hm; cases hm
                  refine xd_end rfl rfl rfl rfl ?_
                  refine xq_sub (.cons (i := 7) rfl (.cons (i := 4) rfl (.cons (i := 2) rfl (.nil _)))) ?_
                  refine xq_meetE ((b7, v76_3)) (.cons_wk (i := 7) rfl (Wk.of_eq (rfl)) (.cons rfl (.cons rfl (.nil _)))) (by simp only [List.map_append]; rfl)
              · skip
                obtain rfl : i = 10 := by simpa using hi
                refine ⟨_, _, rfl, rfl, rfl, (by rintro _ ⟨⟩ <;> exact Nat.le_of_ble_eq_true rfl), (EV.toG (ev_alloc)), ?_⟩
                rintro _ _ ⟨b7, rfl, rfl⟩
                refine ⟨?_, ?_⟩
                · skip
                  intro m hm o' y ho hy
                  have hm' : m ∈ [7, 6, 4, 3, 1, 0] := hm
                  clear hm
                  rcases List.mem_cons.1 hm' with rfl | hm'
                  · cases ho; cases hy
                    exact gv_v (pv_load1 rfl (.there (.there .here)) rfl) rfl
                  rcases List.mem_cons.1 hm' with rfl | hm'
                  · cases ho; cases hy
                    exact gv_v (pv_field_a rfl) rfl
                  rcases List.mem_cons.1 hm' with rfl | hm'
                  · cases ho; cases hy
                    exact gv_v (pv_load1 rfl (.there (.there (.there .here))) rfl) rfl
                  rcases List.mem_cons.1 hm' with rfl | hm'
                  · cases ho; cases hy
                    exact gv_v (pv_field_a rfl) rfl
                  rcases List.mem_cons.1 hm' with rfl | hm'
                  · cases ho; cases hy
                    exact gv_v (pv_load1 rfl (.there (.there (.there .here))) rfl) rfl
                  rcases List.mem_cons.1 hm' with rfl | hm'
                  · cases ho; cases hy
                    exact gv_v (pv_field_a rfl) rfl
                  cases hm'
                refine xd_e rfl 5 rfl rfl rfl (by rintro _ ⟨⟩ <;> exact Nat.le_of_ble_eq_true rfl) rfl (ev_grow (.t .h) rfl rfl (flat_ones (fun _ => rfl) _) (by simp; omega)) ?_
                rintro _ _ ⟨v76_4, hv76_4, rfl, rfl⟩
                refine ⟨?_, ?_⟩
                · skip
                  intro m hm o' y ho hy
                  have hm' : m ∈ [7, 6, 3, 1, 0] := hm
                  clear hm
                  rcases List.mem_cons.1 hm' with rfl | hm'
                  · cases ho; cases hy
                    exact gv_v (pv_load1 rfl (.there (.there .here)) rfl) rfl
                  rcases List.mem_cons.1 hm' with rfl | hm'
                  · cases ho; cases hy
                    exact gv_v (pv_field_a rfl) rfl
                  rcases List.mem_cons.1 hm' with rfl | hm'
                  · cases ho; cases hy
                    exact gv_v (pv_field_a rfl) rfl
                  rcases List.mem_cons.1 hm' with rfl | hm'
                  · cases ho; cases hy
                    exact gv_v (pv_load1 rfl (.there (.there (.there .here))) rfl) rfl
                  rcases List.mem_cons.1 hm' with rfl | hm'
                  · cases ho; cases hy
                    exact gv_v (pv_field_a rfl) rfl
                  cases hm'
                refine xd_e rfl 8 rfl rfl rfl (by rintro _ ⟨⟩ <;> exact Nat.le_of_ble_eq_true rfl) rfl (ev_grow (.t .h) rfl rfl (flat_ones (fun _ => rfl) _) (by simp; omega)) ?_
                rintro _ _ ⟨v76_5, hv76_5, rfl, rfl⟩
                refine ⟨?_, ?_⟩
                · skip
                  intro m hm o' y ho hy
                  have hm' : m ∈ [6, 3, 1, 0] := hm
                  clear hm
                  rcases List.mem_cons.1 hm' with rfl | hm'
                  · cases ho; cases hy
                    exact gv_v (pv_field_a rfl) rfl
                  rcases List.mem_cons.1 hm' with rfl | hm'
                  · cases ho; cases hy
                    exact gv_v (pv_field_a rfl) rfl
                  rcases List.mem_cons.1 hm' with rfl | hm'
                  · cases ho; cases hy
                    exact gv_v (pv_load1 rfl (.there (.there (.there .here))) rfl) rfl
                  rcases List.mem_cons.1 hm' with rfl | hm'
                  · cases ho; cases hy
                    exact gv_v (pv_field_a rfl) rfl
                  cases hm'
                refine xd_v 9 rfl rfl rfl (gv_v (pv_build (by exact (.cons rfl rfl rfl (by first | rfl | (simp [AV.cs, oneB, *]; done) | (simp [AV.cs, oneB, *]; repeat' constructor)) (.c .z) (.cons rfl rfl rfl (by first | rfl | (simp [AV.cs, oneB, *]; done) | (simp [AV.cs, oneB, *]; repeat' constructor)) (.s (.c .z)) .nil)))) rfl) ?_
                refine xd_e rfl 11 rfl rfl rfl (by rintro _ ⟨⟩ <;> exact Nat.le_of_ble_eq_true rfl) rfl (ev_put .h rfl rfl (by first | rfl | (simp [AV.cs, oneB, *]; done) | (simp [AV.cs, oneB, *]; repeat' constructor)) rfl (.c (.c .z))) ?_
                rintro _ _ ⟨rfl, rfl⟩
                refine ⟨?_, ?_⟩
                · skip
                  intro m hm; cases hm
                refine xd_end rfl rfl rfl rfl ?_
                refine xq_sub (.cons (i := 7) rfl (.cons (i := 4) rfl (.cons (i := 2) rfl (.nil _)))) ?_
                refine xq_meetE ((b7, v76_5)) (.cons_wk (i := 7) rfl (Wk.of_eq (rfl)) (.cons rfl (.cons rfl (.nil _)))) (by simp only [List.map_append]; rfl)
            · skip
              obtain rfl : i = 10 := by simpa using hi
              refine ⟨_, _, rfl, rfl, rfl, (by rintro _ ⟨⟩ <;> exact Nat.le_of_ble_eq_true rfl), (EV.toG (ev_alloc)), ?_⟩
              rintro _ _ ⟨b7, rfl, rfl⟩
              refine ⟨?_, ?_⟩
              · skip
                intro m hm o' y ho hy
                have hm' : m ∈ [7, 6, 4, 3, 1, 0] := hm
                clear hm
                rcases List.mem_cons.1 hm' with rfl | hm'
                · cases ho; cases hy
                  exact gv_v (pv_load1 rfl (.there .here) rfl) rfl
                rcases List.mem_cons.1 hm' with rfl | hm'
                · cases ho; cases hy
                  exact gv_v (pv_field_a rfl) rfl
                rcases List.mem_cons.1 hm' with rfl | hm'
                · cases ho; cases hy
                  exact gv_v (pv_load1 rfl (.there (.there .here)) rfl) rfl
                rcases List.mem_cons.1 hm' with rfl | hm'
                · cases ho; cases hy
                  exact gv_v (pv_field_a rfl) rfl
                rcases List.mem_cons.1 hm' with rfl | hm'
                · cases ho; cases hy
                  exact gv_v (pv_load1 rfl (.there (.there .here)) rfl) rfl
                rcases List.mem_cons.1 hm' with rfl | hm'
                · cases ho; cases hy
                  exact gv_v (pv_field_a rfl) rfl
                cases hm'
              refine xd_e rfl 2 rfl rfl rfl (by rintro _ ⟨⟩ <;> exact Nat.le_of_ble_eq_true rfl) rfl (ev_litv .nil rfl (by first | (simp [AV.cs]; done) | exact lits (by rfl) | (intro x hx; cases hx with | head => rfl | tail _ h => cases h)) (by first | rfl | (simp [flat, AV.cs, oneB, *]; done) | (simp [flat, AV.cs, oneB, *]; repeat' constructor)) (by decide)) ?_
              rintro _ _ ⟨v76, hv76, rfl, rfl⟩
              refine ⟨?_, ?_⟩
              · skip
                intro m hm o' y ho hy
                have hm' : m ∈ [7, 6, 4, 3, 1, 0] := hm
                clear hm
                rcases List.mem_cons.1 hm' with rfl | hm'
                · cases ho; cases hy
                  exact gv_v (pv_load1 rfl (.there (.there .here)) rfl) rfl
                rcases List.mem_cons.1 hm' with rfl | hm'
                · cases ho; cases hy
                  exact gv_v (pv_field_a rfl) rfl
                rcases List.mem_cons.1 hm' with rfl | hm'
                · cases ho; cases hy
                  exact gv_v (pv_load1 rfl (.there (.there (.there .here))) rfl) rfl
                rcases List.mem_cons.1 hm' with rfl | hm'
                · cases ho; cases hy
                  exact gv_v (pv_field_a rfl) rfl
                rcases List.mem_cons.1 hm' with rfl | hm'
                · cases ho; cases hy
                  exact gv_v (pv_load1 rfl (.there (.there (.there .here))) rfl) rfl
                rcases List.mem_cons.1 hm' with rfl | hm'
                · cases ho; cases hy
                  exact gv_v (pv_field_a rfl) rfl
                cases hm'
              refine xd_e rfl 5 rfl rfl rfl (by rintro _ ⟨⟩ <;> exact Nat.le_of_ble_eq_true rfl) rfl (ev_grow .h rfl rfl (flat_ones (fun _ => rfl) _) (by simp; omega)) ?_
              rintro _ _ ⟨v76_6, hv76_6, rfl, rfl⟩
              refine ⟨?_, ?_⟩
              · skip
                intro m hm o' y ho hy
                have hm' : m ∈ [7, 6, 3, 1, 0] := hm
                clear hm
                rcases List.mem_cons.1 hm' with rfl | hm'
                · cases ho; cases hy
                  exact gv_v (pv_load1 rfl (.there (.there .here)) rfl) rfl
                rcases List.mem_cons.1 hm' with rfl | hm'
                · cases ho; cases hy
                  exact gv_v (pv_field_a rfl) rfl
                rcases List.mem_cons.1 hm' with rfl | hm'
                · cases ho; cases hy
                  exact gv_v (pv_field_a rfl) rfl
                rcases List.mem_cons.1 hm' with rfl | hm'
                · cases ho; cases hy
                  exact gv_v (pv_load1 rfl (.there (.there (.there .here))) rfl) rfl
                rcases List.mem_cons.1 hm' with rfl | hm'
                · cases ho; cases hy
                  exact gv_v (pv_field_a rfl) rfl
                cases hm'
              refine xd_e rfl 8 rfl rfl rfl (by rintro _ ⟨⟩ <;> exact Nat.le_of_ble_eq_true rfl) rfl (ev_grow .h rfl rfl (flat_ones (fun _ => rfl) _) (by simp; omega)) ?_
              rintro _ _ ⟨v76_7, hv76_7, rfl, rfl⟩
              refine ⟨?_, ?_⟩
              · skip
                intro m hm o' y ho hy
                have hm' : m ∈ [6, 3, 1, 0] := hm
                clear hm
                rcases List.mem_cons.1 hm' with rfl | hm'
                · cases ho; cases hy
                  exact gv_v (pv_field_a rfl) rfl
                rcases List.mem_cons.1 hm' with rfl | hm'
                · cases ho; cases hy
                  exact gv_v (pv_field_a rfl) rfl
                rcases List.mem_cons.1 hm' with rfl | hm'
                · cases ho; cases hy
                  exact gv_v (pv_load1 rfl (.there (.there (.there .here))) rfl) rfl
                rcases List.mem_cons.1 hm' with rfl | hm'
                · cases ho; cases hy
                  exact gv_v (pv_field_a rfl) rfl
                cases hm'
              refine xd_v 9 rfl rfl rfl (gv_v (pv_build (by exact (.cons rfl rfl rfl (by first | rfl | (simp [AV.cs, oneB, *]; done) | (simp [AV.cs, oneB, *]; repeat' constructor)) (.c .z) (.cons rfl rfl rfl (by first | rfl | (simp [AV.cs, oneB, *]; done) | (simp [AV.cs, oneB, *]; repeat' constructor)) (.s (.c .z)) .nil)))) rfl) ?_
              refine xd_e rfl 11 rfl rfl rfl (by rintro _ ⟨⟩ <;> exact Nat.le_of_ble_eq_true rfl) rfl (ev_put (.t .h) rfl rfl (by first | rfl | (simp [AV.cs, oneB, *]; done) | (simp [AV.cs, oneB, *]; repeat' constructor)) rfl (.c (.c .z))) ?_
              rintro _ _ ⟨rfl, rfl⟩
              refine ⟨?_, ?_⟩
              · skip
                intro m hm; cases hm
              refine xd_end rfl rfl rfl rfl ?_
              refine xq_sub (.cons (i := 7) rfl (.cons (i := 4) rfl (.cons (i := 2) rfl (.nil _)))) ?_
              refine xq_perm (List.Perm.swap _ _ _) ?_
              refine xq_meetE ((b7, v76_7)) (.cons_wk (i := 7) rfl (Wk.of_eq (rfl)) (.cons rfl (.cons rfl (.nil _)))) (by simp only [List.map_append]; rfl)
          rintro ⟨b7, v76⟩
          simp only [List.cons_append, List.nil_append]
          try dsimp only
          refine x_pubc 1 (.there .here) .h rfl (.s (.c .z)) ?_
          have hq1 := prog_of hbP
          have hq2 := prog_of (P := both P Q) (by omega)
          have hA := ahead_says hApart
          generalize programF P = r1 at hq1 hA
          generalize programF (both P Q) = r2 at hq2 hA
          obtain ⟨⟨bs, mn, ps⟩, n, e⟩ := r1
          obtain ⟨⟨us, mm, qs⟩, m, f⟩ := r2
          dsimp only at hq1 hq2 hA
          refine x_seq ?_
          refine x_region ?_
          refine xl_pv (pv_loadN rfl (.there (.there .here)) rfl) rfl ?_
          refine xl_go (hq1) rfl (.cons rfl (Wk.refl _) .nil) .d rfl ?_
          refine xl_pv (pv_move rfl) rfl ?_
          refine xl_pv (pv_extract rfl rfl) rfl ?_
          refine xl_pv (pv_extract rfl rfl) rfl ?_
          refine xl_pv (pv_extract rfl rfl) rfl ?_
          refine xl_alloc rfl (fun b8 => ?_)
          refine xl_put .h rfl rfl (by first | rfl | (simp [AV.cs, oneB, *]; done) | (simp [AV.cs, oneB, *]; repeat' constructor)) rfl (.c (.c (.c .z))) ?_
          refine xl_pv (pv_assign rfl) rfl ?_
          refine xl_pv (pv_assign rfl) rfl ?_
          refine xl_nil ?_
          refine xq_norm (xe_code ?_)
          refine x_seq ?_
          refine x_region ?_
          refine xl_pv (pv_loadN rfl (.there .here) rfl) rfl ?_
          refine xl_go (hq2) rfl (.cons rfl (Wk.of_eq (by simp [CProg.cs, both])) .nil) .d rfl ?_
          rcases he : decide (e = 0) with _ | _
          · skip
            refine xl_pv (pv_move rfl) rfl ?_
            refine xl_pv (pv_extract rfl rfl) rfl ?_
            refine xl_pv (pv_extract rfl rfl) rfl ?_
            refine xl_pv (pv_extract rfl rfl) rfl ?_
            refine xl_alloc rfl (fun b11 => ?_)
            refine xl_put .h rfl rfl (by first | rfl | (simp [AV.cs, oneB, *]; done) | (simp [AV.cs, oneB, *]; repeat' constructor)) rfl (.c (.c (.c .z))) ?_
            refine xl_pv (pv_assign rfl) rfl ?_
            refine xl_pv (pv_assign rfl) rfl ?_
            refine xl_nil ?_
            refine xq_norm (xe_code ?_)
            refine x_seq ?_
            refine x_region ?_
            refine xl_pv (pv_field_a rfl) rfl ?_
            refine xl_pv (pv_load1 rfl (.there (.there (.there (.there .here)))) rfl) rfl ?_
            refine xl_pv (pv_len rfl) rfl ?_
            refine xl_pv (pv_field_a rfl) rfl ?_
            refine xl_pv (pv_load1 rfl (.there (.there (.there (.there .here)))) rfl) rfl ?_
            refine xl_pv (pv_len rfl) rfl ?_
            refine xl_pv (pv_add rfl rfl (by first | omega | (simp only [List.length_map]; omega) | (simp; omega)) (by first | omega | (simp only [List.length_map]; omega) | (simp; omega))) rfl ?_
            refine xl_pv (pv_assign rfl) rfl ?_
            refine xl_nil ?_
            refine xq_norm (xe_code ?_)
            refine x_seq ?_
            refine x_seq ?_
            refine x_region ?_
            refine xl_pv (pv_move rfl) rfl ?_
            refine xl_pv (pv_bin rfl rfl (v := .bool true) (by simp [intBin]; simpa using he)) rfl ?_
            rcases h11 : decide (e = 11) with _ | _
            · skip
              refine xl_pv (pv_move rfl) rfl ?_
              refine xl_take rfl rfl rfl ?_
              refine xl_pv (pv_move rfl) rfl ?_
              refine xl_take rfl rfl rfl ?_
              refine xl_pv (pv_bin rfl rfl (v := .bool true) (by simp [intBin]; simpa using h11)) rfl ?_
              refine xl_pv (pv_pick_t rfl rfl) rfl ?_
              refine xl_pv (pv_move rfl) rfl ?_
              refine xl_take rfl rfl rfl ?_
              refine xl_pv (pv_move rfl) rfl ?_
              refine xl_take rfl rfl rfl ?_
              refine xl_pv (pv_move rfl) rfl ?_
              refine xl_take rfl rfl rfl ?_
              refine xl_pv (pv_bin rfl rfl rfl) rfl ?_
              refine xl_pv (pv_pick_t rfl rfl) rfl ?_
              refine xl_nil ?_
              refine xq_norm (xe_code ?_)
              refine x_condT rfl (fun h6 => ?_) (fun h6 => ?_)
              · skip
                have hmf := hA.1 (by simpa using he) (by simpa using h11) (by simp at h6; omega)
                obtain ⟨rfl, rfl⟩ := Prod.mk.inj hmf
                refine x_seq ?_
                refine x_region ?_
                refine xl_pv (pv_move rfl) rfl ?_
                refine xl_pv (pv_move rfl) rfl ?_
                refine xl_pv (pv_bin rfl rfl (v := .bool true) (by simp [intBin])) rfl ?_
                refine xl_pv (pv_move rfl) rfl ?_
                refine xl_take rfl rfl rfl ?_
                refine xl_pv (pv_move rfl) rfl ?_
                refine xl_take rfl rfl rfl ?_
                refine xl_pv (pv_move rfl) rfl ?_
                refine xl_take rfl rfl rfl ?_
                refine xl_pv (pv_bin rfl rfl (v := .bool true) (by simp [intBin])) rfl ?_
                refine xl_pv (pv_pick_t rfl rfl) rfl ?_
                refine xl_pv (pv_move rfl) rfl ?_
                refine xl_take rfl rfl rfl ?_
                refine xl_go (works_c) rfl .nil .d rfl ?_
                refine xl_pv (pv_pick_t rfl rfl) rfl ?_
                refine xl_pv (pv_assign rfl) rfl ?_
                refine xl_nil ?_
                refine xq_norm (xe_code ?_)
                refine x_ret ?_
                refine xq_ret ?_
                refine xq_drop .here ?_
                refine xq_drop .here ?_
                refine xq_drop .here ?_
                refine xq_drop .here ?_
                refine xq_drop .here ?_
                refine xq_done (.inr rfl) _ (res1 rfl rfl) ?_
                exact ⟨rfl, rfl⟩
              · skip
                refine x_skip ?_
                refine xq_norm (xe_code ?_)
                refine x_seq ?_
                refine x_seq ?_
                refine x_region ?_
                refine xl_pv (pv_move rfl) rfl ?_
                refine xl_pv (pv_bin rfl rfl (v := .bool true) (by simp [intBin]; simpa using he)) rfl ?_
                refine xl_pv (pv_move rfl) rfl ?_
                refine xl_skip rfl rfl rfl rfl ?_
                refine xl_skip rfl rfl rfl rfl ?_
                refine xl_pv (pv_pick_t rfl rfl) rfl ?_
                refine xl_nil ?_
                refine xq_norm (xe_code ?_)
                refine x_cond rfl (fun _ => ?_) (fun h => nomatch h)
                refine x_seq ?_
                refine x_region ?_
                refine xl_go (works_c) rfl .nil .d rfl ?_
                refine xl_pv (pv_assign rfl) rfl ?_
                refine xl_nil ?_
                refine xq_norm (xe_code ?_)
                refine x_ret ?_
                refine xq_ret ?_
                refine xq_drop .here ?_
                refine xq_drop .here ?_
                refine xq_drop .here ?_
                refine xq_drop .here ?_
                refine xq_drop .here ?_
                refine xq_done (.inr rfl) _ (res1 rfl rfl) ?_
                exact ⟨rfl, rfl⟩
            · skip
              refine xl_pv (pv_move rfl) rfl ?_
              refine xl_take rfl rfl rfl ?_
              refine xl_pv (pv_move rfl) rfl ?_
              refine xl_take rfl rfl rfl ?_
              refine xl_pv (pv_bin rfl rfl (v := .bool false) (by simp [intBin]; simpa using h11)) rfl ?_
              refine xl_pv (pv_pick_t rfl rfl) rfl ?_
              refine xl_pv (pv_move rfl) rfl ?_
              refine xl_skip rfl rfl rfl rfl ?_
              refine xl_skip rfl rfl rfl rfl ?_
              refine xl_skip rfl rfl rfl rfl ?_
              refine xl_pv (pv_pick_f rfl rfl) rfl ?_
              refine xl_nil ?_
              refine xq_norm (xe_code ?_)
              refine x_cond rfl (fun h => nomatch h) (fun _ => ?_)
              refine x_skip ?_
              refine xq_norm (xe_code ?_)
              refine x_seq ?_
              refine x_seq ?_
              refine x_region ?_
              refine xl_pv (pv_move rfl) rfl ?_
              refine xl_pv (pv_bin rfl rfl (v := .bool true) (by simp [intBin]; simpa using he)) rfl ?_
              refine xl_pv (pv_move rfl) rfl ?_
              refine xl_skip rfl rfl rfl rfl ?_
              refine xl_skip rfl rfl rfl rfl ?_
              refine xl_pv (pv_pick_t rfl rfl) rfl ?_
              refine xl_nil ?_
              refine xq_norm (xe_code ?_)
              refine x_cond rfl (fun _ => ?_) (fun h => nomatch h)
              refine x_seq ?_
              refine x_region ?_
              refine xl_go (works_c) rfl .nil .d rfl ?_
              refine xl_pv (pv_assign rfl) rfl ?_
              refine xl_nil ?_
              refine xq_norm (xe_code ?_)
              refine x_ret ?_
              refine xq_ret ?_
              refine xq_drop .here ?_
              refine xq_drop .here ?_
              refine xq_drop .here ?_
              refine xq_drop .here ?_
              refine xq_drop .here ?_
              refine xq_done (.inr rfl) _ (res1 rfl rfl) ?_
              exact ⟨rfl, rfl⟩
          · skip
            obtain rfl : e = 0 := by simpa using he
            refine xl_pv (pv_move rfl) rfl ?_
            refine xl_pv (pv_extract rfl rfl) rfl ?_
            refine xl_pv (pv_extract rfl rfl) rfl ?_
            refine xl_pv (pv_extract rfl rfl) rfl ?_
            refine xl_alloc rfl (fun b11 => ?_)
            refine xl_put .h rfl rfl (by first | rfl | (simp [AV.cs, oneB, *]; done) | (simp [AV.cs, oneB, *]; repeat' constructor)) rfl (.c (.c (.c .z))) ?_
            refine xl_pv (pv_assign rfl) rfl ?_
            refine xl_pv (pv_assign rfl) rfl ?_
            refine xl_nil ?_
            refine xq_norm (xe_code ?_)
            refine x_seq ?_
            refine x_region ?_
            refine xl_pv (pv_field_a rfl) rfl ?_
            refine xl_pv (pv_load1 rfl (.there (.there (.there (.there .here)))) rfl) rfl ?_
            refine xl_pv (pv_len rfl) rfl ?_
            refine xl_pv (pv_field_a rfl) rfl ?_
            refine xl_pv (pv_load1 rfl (.there (.there (.there (.there .here)))) rfl) rfl ?_
            refine xl_pv (pv_len rfl) rfl ?_
            refine xl_pv (pv_add rfl rfl (by first | omega | (simp only [List.length_map]; omega) | (simp; omega)) (by first | omega | (simp only [List.length_map]; omega) | (simp; omega))) rfl ?_
            refine xl_pv (pv_assign rfl) rfl ?_
            refine xl_nil ?_
            refine xq_norm (xe_code ?_)
            refine x_seq ?_
            refine x_seq ?_
            refine x_region ?_
            refine xl_pv (pv_move rfl) rfl ?_
            refine xl_pv (pv_bin rfl rfl (v := .bool false) (by simp [intBin])) rfl ?_
            refine xl_pv (pv_move rfl) rfl ?_
            refine xl_skip rfl rfl rfl rfl ?_
            refine xl_skip rfl rfl rfl rfl ?_
            refine xl_pv (pv_pick_f rfl rfl) rfl ?_
            refine xl_pv (pv_move rfl) rfl ?_
            refine xl_skip rfl rfl rfl rfl ?_
            refine xl_skip rfl rfl rfl rfl ?_
            refine xl_skip rfl rfl rfl rfl ?_
            refine xl_pv (pv_pick_f rfl rfl) rfl ?_
            refine xl_nil ?_
            refine xq_norm (xe_code ?_)
            refine x_cond rfl (fun h => nomatch h) (fun _ => ?_)
            refine x_skip ?_
            refine xq_norm (xe_code ?_)
            refine x_seq ?_
            refine x_seq ?_
            refine x_region ?_
            refine xl_pv (pv_move rfl) rfl ?_
            refine xl_pv (pv_bin rfl rfl (v := .bool false) (by simp [intBin])) rfl ?_
            rcases hf : decide (f = 0) with _ | _
            · skip
              refine xl_pv (pv_move rfl) rfl ?_
              refine xl_take rfl rfl rfl ?_
              refine xl_pv (pv_move rfl) rfl ?_
              refine xl_take rfl rfl rfl ?_
              refine xl_pv (pv_bin rfl rfl (v := .bool true) (by simp [intBin]; simpa using hf)) rfl ?_
              refine xl_pv (pv_pick_f rfl rfl) rfl ?_
              refine xl_nil ?_
              refine xq_norm (xe_code ?_)
              refine x_cond rfl (fun _ => ?_) (fun h => nomatch h)
              refine x_seq ?_
              refine x_region ?_
              refine xl_go (works_c) rfl .nil .d rfl ?_
              refine xl_pv (pv_assign rfl) rfl ?_
              refine xl_nil ?_
              refine xq_norm (xe_code ?_)
              refine x_ret ?_
              refine xq_ret ?_
              refine xq_drop .here ?_
              refine xq_drop .here ?_
              refine xq_drop .here ?_
              refine xq_drop .here ?_
              refine xq_drop .here ?_
              refine xq_done (.inr rfl) _ (res1 rfl rfl) ?_
              exact ⟨rfl, rfl⟩
            · skip
              obtain rfl : f = 0 := by simpa using hf
              obtain ⟨r, hr⟩ := hA.2 rfl rfl
              subst hr
              refine xl_pv (pv_move rfl) rfl ?_
              refine xl_take rfl rfl rfl ?_
              refine xl_pv (pv_move rfl) rfl ?_
              refine xl_take rfl rfl rfl ?_
              refine xl_pv (pv_bin rfl rfl (v := .bool false) (by simp [intBin])) rfl ?_
              refine xl_pv (pv_pick_f rfl rfl) rfl ?_
              refine xl_nil ?_
              refine xq_norm (xe_code ?_)
              refine x_cond rfl (fun h => nomatch h) (fun _ => ?_)
              refine x_skip ?_
              refine xq_norm (xe_code ?_)
              refine x_seq ?_
              refine x_seq ?_
              refine x_region ?_
              refine xl_pv (pv_field_a rfl) rfl ?_
              refine xl_pv (pv_load1 rfl .here rfl) rfl ?_
              refine xl_pv (pv_len rfl) rfl ?_
              refine xl_pv (pv_field_a rfl) rfl ?_
              refine xl_pv (pv_load1 rfl (.there .here) rfl) rfl ?_
              refine xl_pv (pv_len rfl) rfl ?_
              refine xl_pv (pv_bin rfl rfl (v := .bool false) (by simp [intBin]; try omega)) rfl ?_
              refine xl_nil ?_
              refine xq_norm (xe_code ?_)
              refine x_cond rfl (fun h => nomatch h) (fun _ => ?_)
              refine x_skip ?_
              refine xq_norm (xe_code ?_)
              refine x_seq ?_
              refine x_seq ?_
              refine x_region ?_
              refine xl_pv (pv_assign rfl) rfl ?_
              refine xl_nil ?_
              refine xq_norm (xe_code ?_)
              refine x_block ?_
              -- slots turned in the loop and not told: [4]
              refine x_loopS (S := Nat) (fun k => k ≤ bs.length) (fun k => bs.length - k) (fun k => [(15, iv k)]) (fun k => _) (0) (by simp) (.cons rfl (.cons (i := 11) rfl (.cons (i := 8) rfl (.cons (i := 4) rfl (.nil _))))) (rfl) ?_
              rintro k hk
              simp only [List.cons_append, List.nil_append]
              refine x_seq ?_
              refine x_seq ?_
              refine x_region ?_
              refine xl_pv (pv_move rfl) rfl ?_
              refine xl_pv (pv_field_a rfl) rfl ?_
              refine xl_pv (pv_load1 rfl (.there .here) rfl) rfl ?_
              refine xl_llen 141 rfl (fun hbl => ?_)
              simp only [List.length_map] at hbl
              refine xl_pv (pv_len rfl) rfl ?_
              refine xl_pv (pv_bin rfl rfl rfl) rfl ?_
              refine xl_nil ?_
              refine xq_norm (xe_code ?_)
              refine x_condT rfl (fun h7 => ?_) (fun h7 => ?_)
              · skip
                have hlt3 : k < bs.length := by simpa using h7
                obtain ⟨z, hz3⟩ := get_lt hlt3
                have hz4 : (bs ++ r)[k]? = some z := by rw [List.getElem?_append_left hlt3]; exact hz3
                refine x_skip ?_
                refine xq_norm (xe_code ?_)
                refine x_seq ?_
                refine x_block ?_
                refine x_seq ?_
                refine x_draw rfl ?_
                refine xd_v 0 rfl rfl rfl (gv_v (pv_field_a rfl) rfl) ?_
                refine xd_v 1 rfl rfl rfl (gv_v (pv_load1 rfl (.there .here) rfl) rfl) ?_
                refine xd_v 2 rfl rfl rfl (gv_v (pv_move rfl) rfl) ?_
                refine xd_v 3 rfl rfl rfl (gv_v (pv_at rfl rfl (by omega) ((get_map hz3))) rfl) ?_
                refine xd_v 4 rfl rfl rfl (gv_v (pv_field_i rfl) rfl) ?_
                refine xd_v 5 rfl rfl rfl (gv_v (pv_load1_i rfl rfl) rfl) ?_
                refine xd_v 6 rfl rfl rfl (gv_v (pv_field_a rfl) rfl) ?_
                refine xd_v 7 rfl rfl rfl (gv_v (pv_load1 rfl .here rfl) rfl) ?_
                refine xd_v 8 rfl rfl rfl (gv_v (pv_move rfl) rfl) ?_
                refine xd_v 9 rfl rfl rfl (gv_v (pv_at rfl rfl (by omega) ((get_map hz4))) rfl) ?_
                refine xd_v 10 rfl rfl rfl (gv_v (pv_field_i rfl) rfl) ?_
                refine xd_v 11 rfl rfl rfl (gv_v (pv_load1_i rfl rfl) rfl) ?_
                refine xd_e rfl 12 rfl rfl rfl (by rintro _ ⟨⟩ <;> exact Nat.le_of_ble_eq_true rfl) rfl (ev_go (sameActs_r z.acts) rfl (.cons rfl (Wk.refl _) (.cons rfl (Wk.refl _) .nil)) .d) ?_
                rintro _ _ ⟨rfl, rfl⟩
                refine ⟨?_, ?_⟩
                · skip
                  intro m hm o' y ho hy
                  have hm' : m ∈ [10, 9, 8, 7, 6, 4, 3, 2, 1, 0] := hm
                  clear hm
                  rcases List.mem_cons.1 hm' with rfl | hm'
                  · cases ho; cases hy
                    exact gv_v (pv_field_i rfl) rfl
                  rcases List.mem_cons.1 hm' with rfl | hm'
                  · cases ho; cases hy
                    exact gv_v (pv_at rfl rfl (by omega) ((get_map hz4))) rfl
                  rcases List.mem_cons.1 hm' with rfl | hm'
                  · cases ho; cases hy
                    exact gv_v (pv_move rfl) rfl
                  rcases List.mem_cons.1 hm' with rfl | hm'
                  · cases ho; cases hy
                    exact gv_v (pv_load1 rfl .here rfl) rfl
                  rcases List.mem_cons.1 hm' with rfl | hm'
                  · cases ho; cases hy
                    exact gv_v (pv_field_a rfl) rfl
                  rcases List.mem_cons.1 hm' with rfl | hm'
                  · cases ho; cases hy
                    exact gv_v (pv_field_i rfl) rfl
                  rcases List.mem_cons.1 hm' with rfl | hm'
                  · cases ho; cases hy
                    exact gv_v (pv_at rfl rfl (by omega) ((get_map hz3))) rfl
                  rcases List.mem_cons.1 hm' with rfl | hm'
                  · cases ho; cases hy
                    exact gv_v (pv_move rfl) rfl
                  rcases List.mem_cons.1 hm' with rfl | hm'
                  · cases ho; cases hy
                    exact gv_v (pv_load1 rfl (.there .here) rfl) rfl
                  rcases List.mem_cons.1 hm' with rfl | hm'
                  · cases ho; cases hy
                    exact gv_v (pv_field_a rfl) rfl
                  cases hm'
                refine xd_v 13 rfl rfl rfl (gv_v (pv_not rfl) rfl) ?_
                refine xd_v 14 rfl rfl rfl (gv_v (pv_move rfl) rfl) ?_
                refine xd_v 15 rfl rfl rfl (gv_take rfl rfl rfl (pv_field_a rfl) rfl) ?_
                refine xd_v 16 rfl rfl rfl (gv_take rfl rfl rfl (pv_load1 rfl (.there .here) rfl) rfl) ?_
                refine xd_v 17 rfl rfl rfl (gv_take rfl rfl rfl (pv_move rfl) rfl) ?_
                refine xd_v 18 rfl rfl rfl (gv_take rfl rfl rfl (pv_at rfl rfl (by omega) ((get_map hz3))) rfl) ?_
                refine xd_v 19 rfl rfl rfl (gv_take rfl rfl rfl (pv_field_i rfl) rfl) ?_
                refine xd_v 20 rfl rfl rfl (gv_take rfl rfl rfl (pv_load1_i rfl rfl) rfl) ?_
                refine xd_v 21 rfl rfl rfl (gv_take rfl rfl rfl (pv_field_a rfl) rfl) ?_
                refine xd_v 22 rfl rfl rfl (gv_take rfl rfl rfl (pv_load1 rfl .here rfl) rfl) ?_
                refine xd_v 23 rfl rfl rfl (gv_take rfl rfl rfl (pv_move rfl) rfl) ?_
                refine xd_v 24 rfl rfl rfl (gv_take rfl rfl rfl (pv_at rfl rfl (by omega) ((get_map hz4))) rfl) ?_
                refine xd_v 25 rfl rfl rfl (gv_take rfl rfl rfl (pv_field_i rfl) rfl) ?_
                refine xd_v 26 rfl rfl rfl (gv_take rfl rfl rfl (pv_load1_i rfl rfl) rfl) ?_
                refine xd_eg rfl 27 rfl rfl rfl (by rintro _ ⟨⟩ <;> exact Nat.le_of_ble_eq_true rfl) rfl (evg_take rfl rfl rfl (ev_go (sameVars_r z.vars) rfl (.cons rfl (Wk.refl _) (.cons rfl (Wk.refl _) .nil)) .d)) ?_
                rintro _ _ ⟨rfl, rfl⟩
                refine ⟨?_, ?_⟩
                · skip
                  intro m hm o' y ho hy
                  have hm' : m ∈ [25, 24, 23, 22, 21, 19, 18, 17, 16, 15, 13, 10, 9, 8, 7, 6, 4, 3, 2, 1, 0] := hm
                  clear hm
                  rcases List.mem_cons.1 hm' with rfl | hm'
                  · cases ho; cases hy
                    exact gv_take rfl rfl rfl (pv_field_i rfl) rfl
                  rcases List.mem_cons.1 hm' with rfl | hm'
                  · cases ho; cases hy
                    exact gv_take rfl rfl rfl (pv_at rfl rfl (by omega) ((get_map hz4))) rfl
                  rcases List.mem_cons.1 hm' with rfl | hm'
                  · cases ho; cases hy
                    exact gv_take rfl rfl rfl (pv_move rfl) rfl
                  rcases List.mem_cons.1 hm' with rfl | hm'
                  · cases ho; cases hy
                    exact gv_take rfl rfl rfl (pv_load1 rfl .here rfl) rfl
                  rcases List.mem_cons.1 hm' with rfl | hm'
                  · cases ho; cases hy
                    exact gv_take rfl rfl rfl (pv_field_a rfl) rfl
                  rcases List.mem_cons.1 hm' with rfl | hm'
                  · cases ho; cases hy
                    exact gv_take rfl rfl rfl (pv_field_i rfl) rfl
                  rcases List.mem_cons.1 hm' with rfl | hm'
                  · cases ho; cases hy
                    exact gv_take rfl rfl rfl (pv_at rfl rfl (by omega) ((get_map hz3))) rfl
                  rcases List.mem_cons.1 hm' with rfl | hm'
                  · cases ho; cases hy
                    exact gv_take rfl rfl rfl (pv_move rfl) rfl
                  rcases List.mem_cons.1 hm' with rfl | hm'
                  · cases ho; cases hy
                    exact gv_take rfl rfl rfl (pv_load1 rfl (.there .here) rfl) rfl
                  rcases List.mem_cons.1 hm' with rfl | hm'
                  · cases ho; cases hy
                    exact gv_take rfl rfl rfl (pv_field_a rfl) rfl
                  rcases List.mem_cons.1 hm' with rfl | hm'
                  · cases ho; cases hy
                    exact gv_v (pv_not rfl) rfl
                  rcases List.mem_cons.1 hm' with rfl | hm'
                  · cases ho; cases hy
                    exact gv_v (pv_field_i rfl) rfl
                  rcases List.mem_cons.1 hm' with rfl | hm'
                  · cases ho; cases hy
                    exact gv_v (pv_at rfl rfl (by omega) ((get_map hz4))) rfl
                  rcases List.mem_cons.1 hm' with rfl | hm'
                  · cases ho; cases hy
                    exact gv_v (pv_move rfl) rfl
                  rcases List.mem_cons.1 hm' with rfl | hm'
                  · cases ho; cases hy
                    exact gv_v (pv_load1 rfl .here rfl) rfl
                  rcases List.mem_cons.1 hm' with rfl | hm'
                  · cases ho; cases hy
                    exact gv_v (pv_field_a rfl) rfl
                  rcases List.mem_cons.1 hm' with rfl | hm'
                  · cases ho; cases hy
                    exact gv_v (pv_field_i rfl) rfl
                  rcases List.mem_cons.1 hm' with rfl | hm'
                  · cases ho; cases hy
                    exact gv_v (pv_at rfl rfl (by omega) ((get_map hz3))) rfl
                  rcases List.mem_cons.1 hm' with rfl | hm'
                  · cases ho; cases hy
                    exact gv_v (pv_move rfl) rfl
                  rcases List.mem_cons.1 hm' with rfl | hm'
                  · cases ho; cases hy
                    exact gv_v (pv_load1 rfl (.there .here) rfl) rfl
                  rcases List.mem_cons.1 hm' with rfl | hm'
                  · cases ho; cases hy
                    exact gv_v (pv_field_a rfl) rfl
                  cases hm'
                refine xd_v 28 rfl rfl rfl (gv_take rfl rfl rfl (pv_not rfl) rfl) ?_
                refine xd_v 29 rfl rfl rfl (gv_v (pv_pick_f rfl rfl) rfl) ?_
                refine xd_end rfl rfl rfl rfl ?_
                refine xq_sub (.cons (i := 175) rfl (.cons (i := 174) rfl (.cons (i := 173) rfl (.cons (i := 172) rfl (.cons (i := 171) rfl (.cons (i := 170) rfl (.cons (i := 169) rfl (.cons (i := 168) rfl (.cons (i := 167) rfl (.cons (i := 166) rfl (.cons (i := 165) rfl (.cons (i := 164) rfl (.cons (i := 163) rfl (.cons (i := 162) rfl (.cons (i := 161) rfl (.cons (i := 160) rfl (.cons (i := 159) rfl (.cons (i := 158) rfl (.cons (i := 157) rfl (.cons (i := 156) rfl (.cons (i := 155) rfl (.cons (i := 154) rfl (.cons (i := 153) rfl (.cons (i := 152) rfl (.cons (i := 151) rfl (.cons (i := 150) rfl (.cons (i := 149) rfl (.cons (i := 148) rfl (.cons (i := 147) rfl (.cons (i := 146) rfl (.cons (i := 143) rfl (.cons (i := 142) rfl (.cons (i := 141) rfl (.cons (i := 140) rfl (.cons (i := 139) rfl (.cons (i := 15) rfl (.cons (i := 11) rfl (.cons (i := 8) rfl (.cons (i := 4) rfl (.nil _)))))))))))))))))))))))))))))))))))))))) ?_
                refine xq_norm (xe_code ?_)
                refine x_cond rfl (fun h => nomatch h) (fun _ => ?_)
                refine x_skip ?_
                refine xq_bnorm ?_
                refine xq_norm (xe_code ?_)
                refine x_region ?_
                refine xl_pv (pv_move rfl) rfl ?_
                refine xl_pv (pv_add rfl rfl (by first | omega | (simp only [List.length_map]; omega) | (simp; omega)) (by first | omega | (simp only [List.length_map]; omega) | (simp; omega))) rfl ?_
                refine xl_pv (pv_assign rfl) rfl ?_
                refine xl_nil ?_
                refine xe_loopF (k + 1) (hlt3) (by first | omega | (simp at *; omega)) (.cons rfl (.cons rfl (.cons rfl (.cons rfl (.nil _))))) (rfl)
              · skip
                refine x_exit ?_
                refine xq_exit ?_
                refine xq_exit ?_
                refine xq_hit ?_
                refine xq_norm (xe_code ?_)
                refine x_seq ?_
                refine x_region ?_
                refine xl_go (works_c) rfl .nil .d rfl ?_
                refine xl_pv (pv_assign rfl) rfl ?_
                refine xl_nil ?_
                refine xq_norm (xe_code ?_)
                refine x_ret ?_
                refine xq_drop .here ?_
                refine xq_drop .here ?_
                refine xq_drop .here ?_
                refine xq_drop .here ?_
                refine xq_drop .here ?_
                refine xq_done (.inr rfl) _ (res1 rfl rfl) ?_
                exact ⟨rfl, rfl⟩
    · skip
      refine xl_skip rfl rfl rfl rfl ?_
      refine xl_skip rfl rfl rfl rfl ?_
      refine xl_skip rfl rfl rfl rfl ?_
      refine xl_skip rfl rfl rfl rfl ?_
      refine xl_pv (pv_pick_t rfl rfl) rfl ?_
      refine xl_nil ?_
      refine xq_norm (xe_code ?_)
      refine x_cond rfl (fun _ => ?_) (fun h => nomatch h)
      refine x_seq ?_
      refine x_region ?_
      refine xl_go (works_c) rfl .nil .d rfl ?_
      refine xl_pv (pv_assign rfl) rfl ?_
      refine xl_nil ?_
      refine xq_norm (xe_code ?_)
      refine x_ret ?_
      refine xq_ret ?_
      refine xq_drop .here ?_
      refine xq_drop .here ?_
      refine xq_done (.inr rfl) _ (res1 rfl rfl) ?_
      exact ⟨rfl, rfl⟩
  · skip
    refine xl_skip rfl rfl rfl rfl ?_
    refine xl_skip rfl rfl rfl rfl ?_
    refine xl_skip rfl rfl rfl rfl ?_
    refine xl_pv (pv_pick_t rfl rfl) rfl ?_
    refine xl_pv (pv_move rfl) rfl ?_
    refine xl_skip rfl rfl rfl rfl ?_
    refine xl_skip rfl rfl rfl rfl ?_
    refine xl_skip rfl rfl rfl rfl ?_
    refine xl_skip rfl rfl rfl rfl ?_
    refine xl_pv (pv_pick_t rfl rfl) rfl ?_
    refine xl_nil ?_
    refine xq_norm (xe_code ?_)
    refine x_cond rfl (fun _ => ?_) (fun h => nomatch h)
    refine x_seq ?_
    refine x_region ?_
    refine xl_go (works_c) rfl .nil .d rfl ?_
    refine xl_pv (pv_assign rfl) rfl ?_
    refine xl_nil ?_
    refine xq_norm (xe_code ?_)
    refine x_ret ?_
    refine xq_ret ?_
    refine xq_drop .here ?_
    refine xq_drop .here ?_
    refine xq_done (.inr rfl) _ (res1 rfl rfl) ?_
    exact ⟨rfl, rfl⟩
end Go.Proofs.Ytmallgapchjhnaa
