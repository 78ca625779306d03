/- How great a program is: the reference's counts. Conditions: the counts within 2^40. -/
import Derived.Test.YtmallgapchjhnaaK22
set_option linter.unusedVariables false
set_option linter.unusedSimpArgs false
namespace Go.Proofs.Ytmallgapchjhnaa
set_option maxRecDepth 100000
open Go Go.Ax
attribute [local irreducible] X XL XE XQ PV

theorem eszs_drop {l : List CExp} {i : Nat} {z : CExp} (h : l[i]? = some z) : CExp.szs (l.drop i) = z.sz + CExp.szs (l.drop (i + 1)) := by rw [get_drop h, CExp.szs]
theorem sszs_drop {l : List CStmt} {i : Nat} {z : CStmt} (h : l[i]? = some z) : CStmt.szs (l.drop i) = z.sz + CStmt.szs (l.drop (i + 1)) := by rw [get_drop h, CStmt.szs]
theorem eszs_le {l : List CExp} (i : Nat) : CExp.szs (l.drop i) ≤ CExp.szs l := by
  induction i with
  | zero => exact Nat.le_refl _
  | succ i ih =>
    rcases Nat.lt_or_ge i l.length with h | h
    · obtain ⟨z, hz⟩ := get_lt h
      have := eszs_drop hz
      omega
    · rw [List.drop_of_length_le (by omega)]
      exact Nat.zero_le _
theorem sszs_le {l : List CStmt} (i : Nat) : CStmt.szs (l.drop i) ≤ CStmt.szs l := by
  induction i with
  | zero => exact Nat.le_refl _
  | succ i ih =>
    rcases Nat.lt_or_ge i l.length with h | h
    · obtain ⟨z, hz⟩ := get_lt h
      have := sszs_drop hz
      omega
    · rw [List.drop_of_length_le (by omega)]
      exact Nat.zero_le _
theorem exps_n : ∀ (n : Nat) (l : List CExp), CExp.szs l ≤ n → n ≤ 2 ^ 40 → AC Try.prog 49 [.list 6 (l.map CExp.av)] [] (RetIs (iv (CExp.szs l : Nat)) [])
  | n, l, hn, hb => by
    have hlen := CExp.szs_len l
    refine ac_intro Try.func49 rfl rfl fun I w => ?_
    simp only [argEnv]
    refine x_seq ?_
    refine x_region ?_
    refine xl_pv (pv_assign rfl) rfl ?_
    refine xl_nil ?_
    refine xq_norm (xe_code ?_)
    refine x_seq ?_
    refine x_region ?_
    refine xl_pv (pv_move rfl) rfl ?_
    refine xl_pv (pv_len rfl) rfl ?_
    refine xl_pv (pv_assign rfl) rfl ?_
    refine xl_nil ?_
    refine xq_norm (xe_code ?_)
    refine x_seq ?_
    refine x_seq ?_
    refine x_region ?_
    refine xl_pv (pv_assign rfl) rfl ?_
    refine xl_nil ?_
    refine xq_norm (xe_code ?_)
    refine x_block ?_
    refine x_loopS (S := Nat × Nat) (fun q => q.1 ≤ l.length ∧ q.2 + CExp.szs (l.drop q.1) = CExp.szs l + (l.drop q.1).length) (fun q => l.length - q.1) (fun q => [(4, iv q.1), (3, iv q.2)]) (fun q => _) ((0, l.length)) (by simp; omega) (.cons rfl (.cons_wk rfl (Wk.of_eq (by simp)) (.cons (i := 2) rfl (.cons (i := 0) rfl (.nil _))))) (rfl) ?_
    rintro ⟨i, m⟩ ⟨hi, hx⟩
    simp only [List.cons_append, List.nil_append]
    dsimp only at hi hx
    have hd1 := CExp.szs_len (l.drop i)
    have hd2 := eszs_le (l := l) i
    refine x_seq ?_
    refine x_seq ?_
    refine x_region ?_
    refine xl_pv (pv_move rfl) rfl ?_
    refine xl_pv (pv_move rfl) rfl ?_
    refine xl_pv (pv_len rfl) rfl ?_
    refine xl_pv (pv_bin rfl rfl rfl) rfl ?_
    refine xl_nil ?_
    refine xq_norm (xe_code ?_)
    refine x_condT rfl (fun h => ?_) (fun h => ?_)
    · skip
      have hlt : i < l.length := by simpa using h
      obtain ⟨z, hz⟩ := get_lt hlt
      have hd := eszs_drop hz
      obtain ⟨z1, z2, z3, z4, z5, z6⟩ := z
      have hzs : (CExp.mk z1 z2 z3 z4 z5 z6).sz = 1 + CExp.szs z6 := by rw [CExp.sz]
      have hl2 : (l.drop i).length = (l.drop (i + 1)).length + 1 := by simp; omega
      refine x_skip ?_
      refine xq_norm (xe_code ?_)
      refine x_seq ?_
      refine x_block ?_
      refine x_region ?_
      refine xl_pv (pv_move rfl) rfl ?_
      refine xl_pv (pv_move rfl) rfl ?_
      refine xl_pv (pv_move rfl) rfl ?_
      refine xl_pv (pv_at rfl rfl (by omega) ((get_map hz))) rfl ?_
      refine xl_pv (pv_field_i rfl) rfl ?_
      refine xl_pv (pv_load1_i rfl rfl) rfl ?_
      refine xl_go (exps_n (CExp.szs z6) z6 (Nat.le_refl _) (by omega)) rfl (.cons rfl (Wk.of_eq (by rw [CExp.avs_eq])) .nil) .d rfl ?_
      refine xl_pv (pv_add rfl rfl (by first | omega | (simp only [List.length_map]; omega) | (simp; omega)) (by first | omega | (simp only [List.length_map]; omega) | (simp; omega))) rfl ?_
      refine xl_pv (pv_assign rfl) rfl ?_
      refine xl_nil ?_
      refine xq_bnorm ?_
      refine xq_norm (xe_code ?_)
      refine x_region ?_
      refine xl_pv (pv_move rfl) rfl ?_
      refine xl_pv (pv_add rfl rfl (by first | omega | (simp only [List.length_map]; omega) | (simp; omega)) (by first | omega | (simp only [List.length_map]; omega) | (simp; omega))) rfl ?_
      refine xl_pv (pv_assign rfl) rfl ?_
      refine xl_nil ?_
      refine xe_loopS ((i + 1, m + CExp.szs z6)) (⟨hlt, by dsimp only; omega⟩) (by first | omega | (simp at *; omega)) (.cons rfl (.cons_wk (i := 3) rfl (Wk.of_eq (by simp)) (.nil _))) (.n rfl (.o rfl (.o rfl (.n rfl (.o rfl (.o rfl (.o rfl (.o rfl (.o rfl (.o rfl (.o rfl (.o rfl (.o rfl (.o rfl (.o rfl (.o rfl (.o rfl (.n rfl (.n rfl .b))))))))))))))))))) (rfl)
    · skip
      have hge : l.length ≤ i := by simpa using h
      have hl0 : l.drop i = [] := List.drop_of_length_le hge
      refine x_exit ?_
      refine xq_exit ?_
      refine xq_exit ?_
      refine xq_hit ?_
      refine xq_norm (xe_code ?_)
      refine x_seq ?_
      refine x_region ?_
      refine xl_pv (pv_move rfl) rfl ?_
      refine xl_pv (pv_assign rfl) rfl ?_
      refine xl_nil ?_
      refine xq_norm (xe_code ?_)
      refine x_ret ?_
      refine xq_done (.inr rfl) _ (res1 rfl rfl) ?_
      exact ⟨by rw [hl0] at hx; simp [CExp.szs] at hx; rw [hx], rfl⟩
termination_by n l => CExp.szs l
decreasing_by all_goals (simp_wf; omega)
theorem stmts_n : ∀ (n : Nat) (l : List CStmt), CStmt.szs l ≤ n → n ≤ 2 ^ 40 → AC Try.prog 33 [.list 11 (l.map CStmt.av)] [] (RetIs (iv (CStmt.szs l : Nat)) [])
  | n, l, hn, hb => by
    have hlen := CStmt.szs_len l
    refine ac_intro Try.func33 rfl rfl fun I w => ?_
    simp only [argEnv]
    refine x_seq ?_
    refine x_region ?_
    refine xl_pv (pv_assign rfl) rfl ?_
    refine xl_nil ?_
    refine xq_norm (xe_code ?_)
    refine x_seq ?_
    refine x_region ?_
    refine xl_pv (pv_move rfl) rfl ?_
    refine xl_pv (pv_len rfl) rfl ?_
    refine xl_pv (pv_assign rfl) rfl ?_
    refine xl_nil ?_
    refine xq_norm (xe_code ?_)
    refine x_seq ?_
    refine x_seq ?_
    refine x_region ?_
    refine xl_pv (pv_assign rfl) rfl ?_
    refine xl_nil ?_
    refine xq_norm (xe_code ?_)
    refine x_block ?_
    refine x_loopS (S := Nat × Nat) (fun q => q.1 ≤ l.length ∧ q.2 + CStmt.szs (l.drop q.1) = CStmt.szs l + (l.drop q.1).length) (fun q => l.length - q.1) (fun q => [(4, iv q.1), (3, iv q.2)]) (fun q => _) ((0, l.length)) (by simp; omega) (.cons rfl (.cons_wk rfl (Wk.of_eq (by simp)) (.cons (i := 2) rfl (.cons (i := 0) rfl (.nil _))))) (rfl) ?_
    rintro ⟨i, m⟩ ⟨hi, hx⟩
    simp only [List.cons_append, List.nil_append]
    dsimp only at hi hx
    have hd1 := CStmt.szs_len (l.drop i)
    have hd2 := sszs_le (l := l) i
    refine x_seq ?_
    refine x_seq ?_
    refine x_region ?_
    refine xl_pv (pv_move rfl) rfl ?_
    refine xl_pv (pv_move rfl) rfl ?_
    refine xl_pv (pv_len rfl) rfl ?_
    refine xl_pv (pv_bin rfl rfl rfl) rfl ?_
    refine xl_nil ?_
    refine xq_norm (xe_code ?_)
    refine x_condT rfl (fun h => ?_) (fun h => ?_)
    · skip
      have hlt : i < l.length := by simpa using h
      obtain ⟨z, hz⟩ := get_lt hlt
      have hd := sszs_drop hz
      obtain ⟨z1, z2, z3, z4, z5, ⟨t1, t2, t3⟩, z6, z7, z8⟩ := z
      have hzs : (CStmt.mk z1 z2 z3 z4 z5 ⟨t1, t2, t3⟩ z6 z7 z8).sz = 1 + CExp.szs z6 + CStmt.szs z7 + CStmt.szs z8 := by rw [CStmt.sz]
      have hl2 : (l.drop i).length = (l.drop (i + 1)).length + 1 := by simp; omega
      refine x_skip ?_
      refine xq_norm (xe_code ?_)
      refine x_seq ?_
      refine x_block ?_
      refine x_draw rfl ?_
      refine xd_v 0 rfl rfl rfl (gv_v (pv_move rfl) rfl) ?_
      refine xd_v 1 rfl rfl rfl (gv_v (pv_move rfl) rfl) ?_
      refine xd_v 2 rfl rfl rfl (gv_v (pv_move rfl) rfl) ?_
      refine xd_v 3 rfl rfl rfl (gv_v (pv_at rfl rfl (by omega) ((get_map hz))) rfl) ?_
      refine xd_v 4 rfl rfl rfl (gv_v (pv_field_i rfl) rfl) ?_
      refine xd_v 5 rfl rfl rfl (gv_v (pv_load1_i rfl rfl) rfl) ?_
      refine xd_v 8 rfl rfl rfl (gv_v (pv_move rfl) rfl) ?_
      refine xd_v 9 rfl rfl rfl (gv_v (pv_move rfl) rfl) ?_
      refine xd_v 10 rfl rfl rfl (gv_v (pv_at rfl rfl (by omega) ((get_map hz))) rfl) ?_
      refine xd_v 11 rfl rfl rfl (gv_v (pv_field_i rfl) rfl) ?_
      refine xd_v 12 rfl rfl rfl (gv_v (pv_load1_i rfl rfl) rfl) ?_
      refine xd_v 15 rfl rfl rfl (gv_v (pv_move rfl) rfl) ?_
      refine xd_v 16 rfl rfl rfl (gv_v (pv_move rfl) rfl) ?_
      refine xd_v 17 rfl rfl rfl (gv_v (pv_at rfl rfl (by omega) ((get_map hz))) rfl) ?_
      refine xd_v 18 rfl rfl rfl (gv_v (pv_field_i rfl) rfl) ?_
      refine xd_v 19 rfl rfl rfl (gv_v (pv_load1_i rfl rfl) rfl) ?_
      refine xd_e rfl 6 rfl rfl rfl (by rintro _ ⟨⟩ <;> exact Nat.le_of_ble_eq_true rfl) rfl (ev_go (exps_n (CExp.szs z6) z6 (Nat.le_refl _) (by omega)) rfl (.cons rfl (Wk.refl _) .nil) .d) ?_
      rintro _ _ ⟨rfl, rfl⟩
      refine ⟨?_, ?_⟩
      · skip
        intro m hm o' y ho hy
        have hm' : m ∈ [19, 18, 17, 16, 15, 12, 11, 10, 9, 8, 4, 3, 2, 1, 0] := hm
        clear hm
        rcases List.mem_cons.1 hm' with rfl | hm'
        · cases ho; cases hy
          exact gv_v (pv_load1_i rfl rfl) rfl
        rcases List.mem_cons.1 hm' with rfl | hm'
        · cases ho; cases hy
          exact gv_v (pv_field_i rfl) rfl
        rcases List.mem_cons.1 hm' with rfl | hm'
        · cases ho; cases hy
          exact gv_v (pv_at rfl rfl (by omega) ((get_map hz))) rfl
        rcases List.mem_cons.1 hm' with rfl | hm'
        · cases ho; cases hy
          exact gv_v (pv_move rfl) rfl
        rcases List.mem_cons.1 hm' with rfl | hm'
        · cases ho; cases hy
          exact gv_v (pv_move rfl) rfl
        rcases List.mem_cons.1 hm' with rfl | hm'
        · cases ho; cases hy
          exact gv_v (pv_load1_i rfl rfl) rfl
        rcases List.mem_cons.1 hm' with rfl | hm'
        · cases ho; cases hy
          exact gv_v (pv_field_i rfl) rfl
        rcases List.mem_cons.1 hm' with rfl | hm'
        · cases ho; cases hy
          exact gv_v (pv_at rfl rfl (by omega) ((get_map hz))) rfl
        rcases List.mem_cons.1 hm' with rfl | hm'
        · cases ho; cases hy
          exact gv_v (pv_move rfl) rfl
        rcases List.mem_cons.1 hm' with rfl | hm'
        · cases ho; cases hy
          exact gv_v (pv_move rfl) rfl
        rcases List.mem_cons.1 hm' with rfl | hm'
        · cases ho; cases hy
          exact gv_v (pv_field_i rfl) rfl
        rcases List.mem_cons.1 hm' with rfl | hm'
        · cases ho; cases hy
          exact gv_v (pv_at rfl rfl (by omega) ((get_map hz))) rfl
        rcases List.mem_cons.1 hm' with rfl | hm'
        · cases ho; cases hy
          exact gv_v (pv_move rfl) rfl
        rcases List.mem_cons.1 hm' with rfl | hm'
        · cases ho; cases hy
          exact gv_v (pv_move rfl) rfl
        rcases List.mem_cons.1 hm' with rfl | hm'
        · cases ho; cases hy
          exact gv_v (pv_move rfl) rfl
        cases hm'
      refine xd_v 7 rfl rfl rfl (gv_v (pv_add rfl rfl (by first | omega | (simp only [List.length_map]; omega) | (simp; omega)) (by first | omega | (simp only [List.length_map]; omega) | (simp; omega))) rfl) ?_
      refine xd_e rfl 13 rfl rfl rfl (by rintro _ ⟨⟩ <;> exact Nat.le_of_ble_eq_true rfl) rfl (ev_go (stmts_n (CStmt.szs z7) z7 (Nat.le_refl _) (by omega)) rfl (.cons rfl (Wk.of_eq (by rw [CStmt.avs_eq])) .nil) .d) ?_
      rintro _ _ ⟨rfl, rfl⟩
      refine ⟨?_, ?_⟩
      · skip
        intro m hm o' y ho hy
        have hm' : m ∈ [7, 19, 18, 17, 16, 15, 11, 10, 9, 8, 4, 3, 2, 1, 0] := hm
        clear hm
        rcases List.mem_cons.1 hm' with rfl | hm'
        · cases ho; cases hy
          exact gv_v (pv_add rfl rfl (by first | omega | (simp only [List.length_map]; omega) | (simp; omega)) (by first | omega | (simp only [List.length_map]; omega) | (simp; omega))) rfl
        rcases List.mem_cons.1 hm' with rfl | hm'
        · cases ho; cases hy
          exact gv_v (pv_load1_i rfl rfl) rfl
        rcases List.mem_cons.1 hm' with rfl | hm'
        · cases ho; cases hy
          exact gv_v (pv_field_i rfl) rfl
        rcases List.mem_cons.1 hm' with rfl | hm'
        · cases ho; cases hy
          exact gv_v (pv_at rfl rfl (by omega) ((get_map hz))) rfl
        rcases List.mem_cons.1 hm' with rfl | hm'
        · cases ho; cases hy
          exact gv_v (pv_move rfl) rfl
        rcases List.mem_cons.1 hm' with rfl | hm'
        · cases ho; cases hy
          exact gv_v (pv_move rfl) rfl
        rcases List.mem_cons.1 hm' with rfl | hm'
        · cases ho; cases hy
          exact gv_v (pv_field_i rfl) rfl
        rcases List.mem_cons.1 hm' with rfl | hm'
        · cases ho; cases hy
          exact gv_v (pv_at rfl rfl (by omega) ((get_map hz))) rfl
        rcases List.mem_cons.1 hm' with rfl | hm'
        · cases ho; cases hy
          exact gv_v (pv_move rfl) rfl
        rcases List.mem_cons.1 hm' with rfl | hm'
        · cases ho; cases hy
          exact gv_v (pv_move rfl) rfl
        rcases List.mem_cons.1 hm' with rfl | hm'
        · cases ho; cases hy
          exact gv_v (pv_field_i rfl) rfl
        rcases List.mem_cons.1 hm' with rfl | hm'
        · cases ho; cases hy
          exact gv_v (pv_at rfl rfl (by omega) ((get_map hz))) rfl
        rcases List.mem_cons.1 hm' with rfl | hm'
        · cases ho; cases hy
          exact gv_v (pv_move rfl) rfl
        rcases List.mem_cons.1 hm' with rfl | hm'
        · cases ho; cases hy
          exact gv_v (pv_move rfl) rfl
        rcases List.mem_cons.1 hm' with rfl | hm'
        · cases ho; cases hy
          exact gv_v (pv_move rfl) rfl
        cases hm'
      refine xd_v 14 rfl rfl rfl (gv_v (pv_add rfl rfl (by first | omega | (simp only [List.length_map]; omega) | (simp; omega)) (by first | omega | (simp only [List.length_map]; omega) | (simp; omega))) rfl) ?_
      refine xd_e rfl 20 rfl rfl rfl (by rintro _ ⟨⟩ <;> exact Nat.le_of_ble_eq_true rfl) rfl (ev_go (stmts_n (CStmt.szs z8) z8 (Nat.le_refl _) (by omega)) rfl (.cons rfl (Wk.of_eq (by rw [CStmt.avs_eq])) .nil) .d) ?_
      rintro _ _ ⟨rfl, rfl⟩
      refine ⟨?_, ?_⟩
      · skip
        intro m hm o' y ho hy
        have hm' : m ∈ [14, 7, 18, 17, 16, 15, 11, 10, 9, 8, 4, 3, 2, 1, 0] := hm
        clear hm
        rcases List.mem_cons.1 hm' with rfl | hm'
        · cases ho; cases hy
          exact gv_v (pv_add rfl rfl (by first | omega | (simp only [List.length_map]; omega) | (simp; omega)) (by first | omega | (simp only [List.length_map]; omega) | (simp; omega))) rfl
        rcases List.mem_cons.1 hm' with rfl | hm'
        · cases ho; cases hy
          exact gv_v (pv_add rfl rfl (by first | omega | (simp only [List.length_map]; omega) | (simp; omega)) (by first | omega | (simp only [List.length_map]; omega) | (simp; omega))) rfl
        rcases List.mem_cons.1 hm' with rfl | hm'
        · cases ho; cases hy
          exact gv_v (pv_field_i rfl) rfl
        rcases List.mem_cons.1 hm' with rfl | hm'
        · cases ho; cases hy
          exact gv_v (pv_at rfl rfl (by omega) ((get_map hz))) rfl
        rcases List.mem_cons.1 hm' with rfl | hm'
        · cases ho; cases hy
          exact gv_v (pv_move rfl) rfl
        rcases List.mem_cons.1 hm' with rfl | hm'
        · cases ho; cases hy
          exact gv_v (pv_move rfl) rfl
        rcases List.mem_cons.1 hm' with rfl | hm'
        · cases ho; cases hy
          exact gv_v (pv_field_i rfl) rfl
        rcases List.mem_cons.1 hm' with rfl | hm'
        · cases ho; cases hy
          exact gv_v (pv_at rfl rfl (by omega) ((get_map hz))) rfl
        rcases List.mem_cons.1 hm' with rfl | hm'
        · cases ho; cases hy
          exact gv_v (pv_move rfl) rfl
        rcases List.mem_cons.1 hm' with rfl | hm'
        · cases ho; cases hy
          exact gv_v (pv_move rfl) rfl
        rcases List.mem_cons.1 hm' with rfl | hm'
        · cases ho; cases hy
          exact gv_v (pv_field_i rfl) rfl
        rcases List.mem_cons.1 hm' with rfl | hm'
        · cases ho; cases hy
          exact gv_v (pv_at rfl rfl (by omega) ((get_map hz))) rfl
        rcases List.mem_cons.1 hm' with rfl | hm'
        · cases ho; cases hy
          exact gv_v (pv_move rfl) rfl
        rcases List.mem_cons.1 hm' with rfl | hm'
        · cases ho; cases hy
          exact gv_v (pv_move rfl) rfl
        rcases List.mem_cons.1 hm' with rfl | hm'
        · cases ho; cases hy
          exact gv_v (pv_move rfl) rfl
        cases hm'
      refine xd_v 21 rfl rfl rfl (gv_v (pv_add rfl rfl (by first | omega | (simp only [List.length_map]; omega) | (simp; omega)) (by first | omega | (simp only [List.length_map]; omega) | (simp; omega))) rfl) ?_
      refine xd_v 22 rfl rfl rfl (gv_v (pv_assign rfl) rfl) ?_
      refine xd_end rfl rfl rfl rfl ?_
      refine xq_sub (.cons (i := 3) rfl (.cons (i := 34) rfl (.cons (i := 33) rfl (.cons (i := 27) rfl (.cons (i := 26) rfl (.cons (i := 20) rfl (.cons (i := 19) rfl (.cons (i := 32) rfl (.cons (i := 31) rfl (.cons (i := 30) rfl (.cons (i := 29) rfl (.cons (i := 28) rfl (.cons (i := 25) rfl (.cons (i := 24) rfl (.cons (i := 23) rfl (.cons (i := 22) rfl (.cons (i := 21) rfl (.cons (i := 18) rfl (.cons (i := 17) rfl (.cons (i := 16) rfl (.cons (i := 15) rfl (.cons (i := 14) rfl (.cons (i := 13) rfl (.cons (i := 10) rfl (.cons (i := 9) rfl (.cons (i := 8) rfl (.cons (i := 7) rfl (.cons (i := 4) rfl (.cons (i := 2) rfl (.cons (i := 0) rfl (.nil _))))))))))))))))))))))))))))))) ?_
      refine xq_bnorm ?_
      refine xq_norm (xe_code ?_)
      refine x_region ?_
      refine xl_pv (pv_move rfl) rfl ?_
      refine xl_pv (pv_add rfl rfl (by first | omega | (simp only [List.length_map]; omega) | (simp; omega)) (by first | omega | (simp only [List.length_map]; omega) | (simp; omega))) rfl ?_
      refine xl_pv (pv_assign rfl) rfl ?_
      refine xl_nil ?_
      refine xe_loopF ((i + 1, m + CExp.szs z6 + CStmt.szs z7 + CStmt.szs z8)) (⟨hlt, by dsimp only; omega⟩) (by first | omega | (simp at *; omega)) (.cons rfl (.cons_wk (i := 3) rfl (Wk.of_eq (by simp)) (.cons rfl (.cons rfl (.nil _))))) (rfl)
    · skip
      have hge : l.length ≤ i := by simpa using h
      have hl0 : l.drop i = [] := List.drop_of_length_le hge
      refine x_exit ?_
      refine xq_exit ?_
      refine xq_exit ?_
      refine xq_hit ?_
      refine xq_norm (xe_code ?_)
      refine x_seq ?_
      refine x_region ?_
      refine xl_pv (pv_move rfl) rfl ?_
      refine xl_pv (pv_assign rfl) rfl ?_
      refine xl_nil ?_
      refine xq_norm (xe_code ?_)
      refine x_ret ?_
      refine xq_done (.inr rfl) _ (res1 rfl rfl) ?_
      exact ⟨by rw [hl0] at hx; simp [CStmt.szs] at hx; rw [hx], rfl⟩
termination_by n l => CStmt.szs l
decreasing_by all_goals (simp_wf; omega)
def fszs : List CStruct → Nat
  | [] => 0
  | s :: r => s.fields.length + fszs r
def sizeN (P : CProg) : Nat := P.structs.length + P.funcs.length + fszs P.structs + dszs P.funcs
theorem fszs_drop {l : List CStruct} {i : Nat} {z : CStruct} (h : l[i]? = some z) : fszs (l.drop i) = z.fields.length + fszs (l.drop (i + 1)) := by rw [get_drop h, fszs]
theorem fszs_le {l : List CStruct} (i : Nat) : fszs (l.drop i) ≤ fszs l := by
  induction i with
  | zero => exact Nat.le_refl _
  | succ i ih =>
    rcases Nat.lt_or_ge i l.length with h | h
    · obtain ⟨z, hz⟩ := get_lt h
      have := fszs_drop hz
      omega
    · rw [List.drop_of_length_le (by omega)]
      exact Nat.zero_le _
theorem dszs_le {l : List CDecl} (i : Nat) : dszs (l.drop i) ≤ dszs l := by
  induction i with
  | zero => exact Nat.le_refl _
  | succ i ih =>
    rcases Nat.lt_or_ge i l.length with h | h
    · obtain ⟨z, hz⟩ := get_lt h
      have := dszs_drop hz
      omega
    · rw [List.drop_of_length_le (by omega)]
      exact Nat.zero_le _
theorem size_c (P : CProg) (hb : sizeN P ≤ 2 ^ 40) : AC Try.prog 15 [.agg P.cs] [] (RetIs (iv (sizeN P : Nat)) []) := by
  have hN : sizeN P = P.structs.length + P.funcs.length + fszs P.structs + dszs P.funcs := rfl
  refine ac_intro Try.func15 rfl rfl fun I w => ?_
  simp only [argEnv]
  refine x_seq ?_
  refine x_region ?_
  refine xl_box rfl (by rfl) rfl (fun b1 => ?_)
  refine xl_pv (pv_assign rfl) rfl ?_
  refine xl_nil ?_
  refine xq_norm (xe_code ?_)
  refine x_seq ?_
  refine x_region ?_
  refine xl_pv (pv_field_a rfl) rfl ?_
  refine xl_pv (pv_load1 rfl .here rfl) rfl ?_
  refine xl_pv (pv_len rfl) rfl ?_
  refine xl_pv (pv_field_a rfl) rfl ?_
  refine xl_pv (pv_load1 rfl .here rfl) rfl ?_
  refine xl_pv (pv_len rfl) rfl ?_
  refine xl_pv (pv_add rfl rfl (by first | omega | (simp only [List.length_map]; omega) | (simp; omega)) (by first | omega | (simp only [List.length_map]; omega) | (simp; omega))) rfl ?_
  refine xl_pv (pv_assign rfl) rfl ?_
  refine xl_nil ?_
  refine xq_norm (xe_code ?_)
  refine x_seq ?_
  refine x_seq ?_
  refine x_region ?_
  refine xl_pv (pv_assign rfl) rfl ?_
  refine xl_nil ?_
  refine xq_norm (xe_code ?_)
  refine x_block ?_
  refine x_loopS (S := Nat × Nat) (fun q => q.1 ≤ P.structs.length ∧ q.2 + fszs (P.structs.drop q.1) = P.structs.length + P.funcs.length + fszs P.structs) (fun q => P.structs.length - q.1) (fun q => [(4, iv q.1), (3, iv q.2)]) (fun q => _) ((0, P.structs.length + P.funcs.length)) (by simp) (.cons rfl (.cons_wk rfl (Wk.of_eq (by simp)) (.cons (i := 2) rfl (.cons (i := 1) rfl (.nil _))))) (rfl) ?_
  rintro ⟨i, m⟩ ⟨hi, hx⟩
  simp only [List.cons_append, List.nil_append]
  dsimp only at hi hx
  have hd2 := fszs_le (l := P.structs) i
  refine x_seq ?_
  refine x_seq ?_
  refine x_region ?_
  refine xl_pv (pv_move rfl) rfl ?_
  refine xl_pv (pv_field_a rfl) rfl ?_
  refine xl_pv (pv_load1 rfl .here rfl) rfl ?_
  refine xl_pv (pv_len rfl) rfl ?_
  refine xl_pv (pv_bin rfl rfl rfl) rfl ?_
  refine xl_nil ?_
  refine xq_norm (xe_code ?_)
  refine x_condT rfl (fun h => ?_) (fun h => ?_)
  · skip
    have hlt : i < P.structs.length := by simpa using h
    obtain ⟨z, hz⟩ := get_lt hlt
    have hd := fszs_drop hz
    refine x_skip ?_
    refine xq_norm (xe_code ?_)
    refine x_seq ?_
    refine x_block ?_
    refine x_region ?_
    refine xl_pv (pv_move rfl) rfl ?_
    refine xl_pv (pv_field_a rfl) rfl ?_
    refine xl_pv (pv_load1 rfl .here rfl) rfl ?_
    refine xl_pv (pv_move rfl) rfl ?_
    refine xl_pv (pv_at rfl rfl (by omega) ((get_map hz))) rfl ?_
    refine xl_pv (pv_field_i rfl) rfl ?_
    refine xl_pv (pv_load1_i rfl rfl) rfl ?_
    refine xl_pv (pv_len rfl) rfl ?_
    refine xl_pv (pv_add rfl rfl (by first | omega | (simp only [List.length_map]; omega) | (simp; omega)) (by first | omega | (simp only [List.length_map]; omega) | (simp; omega))) rfl ?_
    refine xl_pv (pv_assign rfl) rfl ?_
    refine xl_nil ?_
    refine xq_bnorm ?_
    refine xq_norm (xe_code ?_)
    refine x_region ?_
    refine xl_pv (pv_move rfl) rfl ?_
    refine xl_pv (pv_add rfl rfl (by first | omega | (simp only [List.length_map]; omega) | (simp; omega)) (by first | omega | (simp only [List.length_map]; omega) | (simp; omega))) rfl ?_
    refine xl_pv (pv_assign rfl) rfl ?_
    refine xl_nil ?_
    refine xe_loopS ((i + 1, m + z.fields.length)) (⟨hlt, by dsimp only; omega⟩) (by first | omega | (simp at *; omega)) (.cons rfl (.cons_wk (i := 3) rfl (Wk.of_eq (by simp)) (.nil _))) (.n rfl (.o rfl (.o rfl (.n rfl (.o rfl (.o rfl (.o rfl (.o rfl (.o rfl (.o rfl (.o rfl (.o rfl (.o rfl (.o rfl (.o rfl (.o rfl (.o rfl (.o rfl (.o rfl (.n rfl (.n rfl .b))))))))))))))))))))) (rfl)
  · skip
    have hl0 : P.structs.drop i = [] := List.drop_of_length_le (by simpa using h)
    rw [hl0] at hx
    simp only [fszs] at hx
    refine x_exit ?_
    refine xq_exit ?_
    refine xq_exit ?_
    refine xq_hit ?_
    refine xq_norm (xe_code ?_)
    refine x_seq ?_
    refine x_seq ?_
    refine x_region ?_
    refine xl_pv (pv_assign rfl) rfl ?_
    refine xl_nil ?_
    refine xq_norm (xe_code ?_)
    refine x_block ?_
    refine x_loopS (S := Nat × Nat) (fun q => q.1 ≤ P.funcs.length ∧ q.2 + dszs (P.funcs.drop q.1) = sizeN P) (fun q => P.funcs.length - q.1) (fun q => [(5, iv q.1), (3, iv q.2)]) (fun q => _) ((0, m)) (by simp; omega) (.cons rfl (.cons rfl (.cons (i := 2) rfl (.cons (i := 1) rfl (.nil _))))) (rfl) ?_
    rintro ⟨j, m2⟩ ⟨hj, hy⟩
    simp only [List.cons_append, List.nil_append]
    dsimp only at hj hy
    have hd3 := dszs_le (l := P.funcs) j
    refine x_seq ?_
    refine x_seq ?_
    refine x_region ?_
    refine xl_pv (pv_move rfl) rfl ?_
    refine xl_pv (pv_field_a rfl) rfl ?_
    refine xl_pv (pv_load1 rfl .here rfl) rfl ?_
    refine xl_pv (pv_len rfl) rfl ?_
    refine xl_pv (pv_bin rfl rfl rfl) rfl ?_
    refine xl_nil ?_
    refine xq_norm (xe_code ?_)
    refine x_condT rfl (fun h2 => ?_) (fun h2 => ?_)
    · skip
      have hlt : j < P.funcs.length := by simpa using h2
      obtain ⟨z, hz⟩ := get_lt hlt
      have hd := dszs_drop hz
      obtain ⟨d1, d2, d3, ⟨r1, r2, r3⟩, d5⟩ := z
      have hzs : dsz (CDecl.mk d1 d2 d3 ⟨r1, r2, r3⟩ d5) = d3.length + CStmt.szs d5 := rfl
      refine x_skip ?_
      refine xq_norm (xe_code ?_)
      refine x_seq ?_
      refine x_block ?_
      refine x_draw rfl ?_
      refine xd_v 0 rfl rfl rfl (gv_v (pv_move rfl) rfl) ?_
      refine xd_v 1 rfl rfl rfl (gv_v (pv_field_a rfl) rfl) ?_
      refine xd_v 2 rfl rfl rfl (gv_v (pv_load1 rfl .here rfl) rfl) ?_
      refine xd_v 3 rfl rfl rfl (gv_v (pv_move rfl) rfl) ?_
      refine xd_v 4 rfl rfl rfl (gv_v (pv_at rfl rfl (by omega) ((get_map hz))) rfl) ?_
      refine xd_v 5 rfl rfl rfl (gv_v (pv_field_i rfl) rfl) ?_
      refine xd_v 6 rfl rfl rfl (gv_v (pv_load1_i rfl rfl) rfl) ?_
      refine xd_v 7 rfl rfl rfl (gv_v (pv_len rfl) rfl) ?_
      refine xd_v 8 rfl rfl rfl (gv_v (pv_add rfl rfl (by first | omega | (simp only [List.length_map]; omega) | (simp; omega)) (by first | omega | (simp only [List.length_map]; omega) | (simp; omega))) rfl) ?_
      refine xd_v 9 rfl rfl rfl (gv_v (pv_field_a rfl) rfl) ?_
      refine xd_v 10 rfl rfl rfl (gv_v (pv_load1 rfl .here rfl) rfl) ?_
      refine xd_v 11 rfl rfl rfl (gv_v (pv_move rfl) rfl) ?_
      refine xd_v 12 rfl rfl rfl (gv_v (pv_at rfl rfl (by omega) ((get_map hz))) rfl) ?_
      refine xd_v 13 rfl rfl rfl (gv_v (pv_field_i rfl) rfl) ?_
      refine xd_v 14 rfl rfl rfl (gv_v (pv_load1_i rfl rfl) rfl) ?_
      refine xd_e rfl 15 rfl rfl rfl (by rintro _ ⟨⟩ <;> exact Nat.le_of_ble_eq_true rfl) rfl (ev_go (stmts_n (CStmt.szs d5) d5 (Nat.le_refl _) (by omega)) rfl (.cons rfl (Wk.refl _) .nil) .d) ?_
      rintro _ _ ⟨rfl, rfl⟩
      refine ⟨?_, ?_⟩
      · skip
        intro m hm o' y ho hy
        have hm' : m ∈ [13, 12, 11, 10, 9, 8, 7, 6, 5, 4, 3, 2, 1, 0] := hm
        clear hm
        rcases List.mem_cons.1 hm' with rfl | hm'
        · cases ho; cases hy
          exact gv_v (pv_field_i rfl) rfl
        rcases List.mem_cons.1 hm' with rfl | hm'
        · cases ho; cases hy
          exact gv_v (pv_at rfl rfl (by omega) ((get_map hz))) rfl
        rcases List.mem_cons.1 hm' with rfl | hm'
        · cases ho; cases hy
          exact gv_v (pv_move rfl) rfl
        rcases List.mem_cons.1 hm' with rfl | hm'
        · cases ho; cases hy
          exact gv_v (pv_load1 rfl .here rfl) rfl
        rcases List.mem_cons.1 hm' with rfl | hm'
        · cases ho; cases hy
          exact gv_v (pv_field_a rfl) rfl
        rcases List.mem_cons.1 hm' with rfl | hm'
        · cases ho; cases hy
          exact gv_v (pv_add rfl rfl (by first | omega | (simp only [List.length_map]; omega) | (simp; omega)) (by first | omega | (simp only [List.length_map]; omega) | (simp; omega))) rfl
        rcases List.mem_cons.1 hm' with rfl | hm'
        · cases ho; cases hy
          exact gv_v (pv_len rfl) rfl
        rcases List.mem_cons.1 hm' with rfl | hm'
        · cases ho; cases hy
          exact gv_v (pv_load1_i rfl rfl) rfl
        rcases List.mem_cons.1 hm' with rfl | hm'
        · cases ho; cases hy
          exact gv_v (pv_field_i rfl) rfl
        rcases List.mem_cons.1 hm' with rfl | hm'
        · cases ho; cases hy
          exact gv_v (pv_at rfl rfl (by omega) ((get_map hz))) rfl
        rcases List.mem_cons.1 hm' with rfl | hm'
        · cases ho; cases hy
          exact gv_v (pv_move rfl) rfl
        rcases List.mem_cons.1 hm' with rfl | hm'
        · cases ho; cases hy
          exact gv_v (pv_load1 rfl .here rfl) rfl
        rcases List.mem_cons.1 hm' with rfl | hm'
        · cases ho; cases hy
          exact gv_v (pv_field_a rfl) rfl
        rcases List.mem_cons.1 hm' with rfl | hm'
        · cases ho; cases hy
          exact gv_v (pv_move rfl) rfl
        cases hm'
      refine xd_v 16 rfl rfl rfl (gv_v (pv_add rfl rfl (by first | omega | (simp only [List.length_map]; omega) | (simp; omega)) (by first | omega | (simp only [List.length_map]; omega) | (simp; omega))) rfl) ?_
      refine xd_v 17 rfl rfl rfl (gv_v (pv_assign rfl) rfl) ?_
      refine xd_end rfl rfl rfl rfl ?_
      refine xq_sub (.cons (i := 3) rfl (.cons (i := 52) rfl (.cons (i := 51) rfl (.cons (i := 50) rfl (.cons (i := 49) rfl (.cons (i := 48) rfl (.cons (i := 47) rfl (.cons (i := 46) rfl (.cons (i := 45) rfl (.cons (i := 44) rfl (.cons (i := 43) rfl (.cons (i := 42) rfl (.cons (i := 41) rfl (.cons (i := 40) rfl (.cons (i := 39) rfl (.cons (i := 38) rfl (.cons (i := 37) rfl (.cons (i := 36) rfl (.cons (i := 33) rfl (.cons (i := 32) rfl (.cons (i := 31) rfl (.cons (i := 30) rfl (.cons (i := 29) rfl (.cons (i := 5) rfl (.cons (i := 2) rfl (.cons (i := 1) rfl (.nil _))))))))))))))))))))))))))) ?_
      refine xq_bnorm ?_
      refine xq_norm (xe_code ?_)
      refine x_region ?_
      refine xl_pv (pv_move rfl) rfl ?_
      refine xl_pv (pv_add rfl rfl (by first | omega | (simp only [List.length_map]; omega) | (simp; omega)) (by first | omega | (simp only [List.length_map]; omega) | (simp; omega))) rfl ?_
      refine xl_pv (pv_assign rfl) rfl ?_
      refine xl_nil ?_
      refine xe_loopF ((j + 1, m2 + d3.length + CStmt.szs d5)) (⟨hlt, by dsimp only; omega⟩) (by first | omega | (simp at *; omega)) (.cons rfl (.cons_wk (i := 3) rfl (Wk.of_eq (by simp)) (.cons rfl (.cons rfl (.nil _))))) (rfl)
    · skip
      have hl1 : P.funcs.drop j = [] := List.drop_of_length_le (by simpa using h2)
      rw [hl1] at hy
      simp only [dszs] at hy
      refine x_exit ?_
      refine xq_exit ?_
      refine xq_exit ?_
      refine xq_hit ?_
      refine xq_norm (xe_code ?_)
      refine x_seq ?_
      refine x_region ?_
      refine xl_pv (pv_move rfl) rfl ?_
      refine xl_pv (pv_assign rfl) rfl ?_
      refine xl_nil ?_
      refine xq_norm (xe_code ?_)
      refine x_ret ?_
      refine xq_drop .here ?_
      refine xq_done (.inr rfl) _ (res1 rfl rfl) ?_
      exact ⟨by rw [← hy]; simp, rfl⟩
end Go.Proofs.Ytmallgapchjhnaa
