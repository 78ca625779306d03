/- CheckMany: the walk. Conditions: none but that its argument is a byte. -/
import Derived.Test.YtmallgapchjhnaaK23
set_option linter.unusedVariables false
set_option linter.unusedSimpArgs false
namespace Go.Proofs.Ytmallgapchjhnaa
set_option maxRecDepth 100000
open Go Go.Ax

theorem szs_app : ∀ (l k : List CStmt), CStmt.szs (l ++ k) = CStmt.szs l + CStmt.szs k
  | [], k => by simp [CStmt.szs]
  | x :: l, k => by rw [List.cons_append, CStmt.szs, szs_app l k, CStmt.szs]; omega
theorem szs_le (c : Nat) : ∀ l : List CStmt, (∀ x ∈ l, x.sz ≤ c) → CStmt.szs l ≤ c * l.length
  | [], _ => by simp [CStmt.szs]
  | x :: l, h => by
    rw [CStmt.szs, List.length_cons, Nat.mul_succ]
    have h1 := h x (by simp)
    have h2 := szs_le c l (fun y hy => h y (by simp [hy]))
    omega
theorem vSt_sz (i : Nat) : (vSt i).sz = 2 := by simp [vSt, CStmt.sz, CExp.szs, CExp.sz, CStmt.szs]
theorem fix_sz : (pVar 1).sz + pFor.sz ≤ 100 := by decide
theorem szs_two (l : List CStmt) : CStmt.szs (pVar 1 :: pFor :: l) = (pVar 1).sz + (pFor.sz + CStmt.szs l) := by rw [CStmt.szs, CStmt.szs]
theorem dszs_one (l : List CStmt) : dszs (pProg l).funcs = CStmt.szs l := by simp [pProg, dszs, dsz]
theorem vars_sz (k : Nat) (hk : k ≤ 100000) : dszs (pVars k).funcs ≤ 2 ^ 39 := by
  have := szs_le 2 ((List.range k).map vSt) (fun x hx => by obtain ⟨i, _, rfl⟩ := List.mem_map.1 hx; rw [vSt_sz]; exact Nat.le_refl _)
  have := fix_sz
  rw [pVars, dszs_one, szs_two]
  simp at *
  omega
theorem rets_sz (k : Nat) (hk : k ≤ 100000) : dszs (pRets k).funcs ≤ 2 ^ 39 := by
  have := szs_le 1 (List.replicate k rSt) (fun x hx => by rw [List.eq_of_mem_replicate hx]; decide)
  have := fix_sz
  rw [pRets, dszs_one, szs_two]
  simp at *
  omega
theorem fs_sz : ∀ l : List Nat, dszs (l.map fDe) = 0
  | [] => rfl
  | x :: l => by rw [List.map_cons, dszs, fs_sz l]; rfl
theorem funcs_sz (k : Nat) : dszs (pFuncs k).funcs ≤ 2 ^ 39 := by
  have h : dszs (pFuncs k).funcs = CStmt.szs (pVar 1 :: pFor :: []) + dszs ((List.range k).map fDe) := by simp [pFuncs, dszs, dsz]
  have := fix_sz
  rw [h, fs_sz, szs_two]
  simp [CStmt.szs]
  omega
theorem funcs_pok (k : Nat) (hk : k ≤ 100000) : POk (pFuncs k) := ⟨by simp [pFuncs], by simp [pFuncs], by simp [pFuncs]; omega, fun d hd => by
  rcases List.mem_cons.1 hd with rfl | hd
  · simp
  · obtain ⟨i, _, rfl⟩ := List.mem_map.1 hd
    simp [fDe]⟩
def FineC (P : CProg) : Prop := ∃ (t : WTree) (n : Int), AC Try.prog 17 [.agg P.cs] [] (RetIs (.tuple [t.av, iv n, iv 0]) [])
def DeepC (P : CProg) : Prop := AC Try.prog 17 [.agg P.cs] [] (RetIs (.tuple [noTree.av, iv 0, iv 11]) [])
theorem fine_of {P : CProg} (h1 : POk P) (h2 : dszs P.funcs ≤ 2 ^ 39) (h : (programF P).2.2 = 0) : FineC P := by
  have := program_c P h1 h2
  rw [h] at this
  exact ⟨_, _, this⟩
theorem deep_of {P : CProg} (h1 : POk P) (h2 : dszs P.funcs ≤ 2 ^ 39) (h : programF P = (noTree, 0, 11)) : DeepC P := by
  have := program_c P h1 h2
  rw [h] at this
  exact this
theorem v63_c : FineC (pVars 63) := fine_of (pok _) (vars_sz _ (by omega)) v63
theorem v64_c : DeepC (pVars 64) := deep_of (pok _) (vars_sz _ (by omega)) v64
theorem f63_c : FineC (pFuncs 63) := fine_of (funcs_pok _ (by omega)) (funcs_sz _) f63
theorem f64_c : DeepC (pFuncs 64) := deep_of (funcs_pok _ (by omega)) (funcs_sz _) f64
theorem r996_c : FineC (pRets 996) := fine_of (pok _) (rets_sz _ (by omega)) r996
theorem r997_c : DeepC (pRets 997) := deep_of (pok _) (rets_sz _ (by omega)) r997
attribute [local irreducible] X XL XE XQ PV

theorem cs11 (x : CStmt) : x.av.cs.length = 11 := by cases x; rfl
theorem vst_cs (i : Nat) : ∀ x ∈ (pVar 1).av :: pFor.av :: ((List.range i).map vSt).map CStmt.av, x.cs.length = 11 := fun x hx => by
  rcases List.mem_cons.1 hx with rfl | hx
  · rfl
  rcases List.mem_cons.1 hx with rfl | hx
  · rfl
  obtain ⟨y, _, rfl⟩ := List.mem_map.1 hx
  exact cs11 y
theorem vst_cs' (i : Nat) : ∀ x ∈ ((pVar 1).av :: pFor.av :: ((List.range i).map vSt).map CStmt.av) ++ [(vSt i).av], x.cs.length = 11 := fun x hx => by
  rcases List.mem_append.1 hx with hx | hx
  · exact vst_cs i x hx
  · obtain rfl : x = (vSt i).av := by simpa using hx
    rfl
theorem rst_cs (i : Nat) : ∀ x ∈ (pVar 1).av :: pFor.av :: (List.replicate i rSt).map CStmt.av, x.cs.length = 11 := fun x hx => by
  rcases List.mem_cons.1 hx with rfl | hx
  · rfl
  rcases List.mem_cons.1 hx with rfl | hx
  · rfl
  obtain ⟨y, _, rfl⟩ := List.mem_map.1 hx
  exact cs11 y
theorem rst_cs' (i : Nat) : ∀ x ∈ ((pVar 1).av :: pFor.av :: (List.replicate i rSt).map CStmt.av) ++ [rSt.av], x.cs.length = 11 := fun x hx => by
  rcases List.mem_append.1 hx with hx | hx
  · exact rst_cs i x hx
  · obtain rfl : x = rSt.av := by simpa using hx
    rfl
theorem many_c (a0 : Int) (a1 : Bool) (h0 : 0 ≤ a0) (h1 : a0 < 256) : AC Try.prog 6 [kv a0, bv a1] [] (RetIs (bv true) []) := by
  refine ac_intro Try.func6 rfl rfl fun I w => ?_
  simp only [argEnv]
  refine x_seq ?_
  refine x_region ?_
  refine xl_pv (pv_assign rfl) rfl ?_
  refine xl_nil ?_
  refine xq_norm (xe_code ?_)
  refine x_seq ?_
  refine x_region ?_
  refine xl_retE (plain_c 1) rfl (.cons rfl (Wk.refl _) .nil) .nil (fun _ => (.c (.c (.c .n)))) rfl (fun ⟨vf, vl, vk, hvf, hvl, hvk⟩ => ?_)
  dsimp only [memP]
  refine xl_slc .here (fun hs => ?_)
  obtain ⟨gvf, cvf, rfl⟩ := hs.full (by simp)
  refine xl_slc (.there .here) (fun hs => ?_)
  obtain ⟨gvl, cvl, rfl⟩ := hs.full (by simp)
  refine xl_pube ([(pVar 1).av, pFor.av]) 19 (.there (.there .here)) (.t .h) rfl (.s (.s (.s (.s (.s (.s (.s (.s (.s (.s (.s (.s (.s (.s (.s (.s (.s (.s (.s (.c .z)))))))))))))))))))) rfl (lits (by rfl)) ?_
  refine xl_alloc rfl (fun b5 => ?_)
  refine xl_put .h rfl rfl (by first | rfl | (simp [AV.cs, oneB, *]; done) | (simp [AV.cs, oneB, *]; repeat' constructor)) rfl (.c (.c .z)) ?_
  refine xl_nil ?_
  refine xq_norm (xe_code ?_)
  refine x_seq ?_
  refine x_region ?_
  refine xl_pv (pv_assign rfl) rfl ?_
  refine xl_nil ?_
  refine xq_norm (xe_code ?_)
  refine x_join0 [(6, iv (bif a1 then 1 else 0))] (.cons (i := 5) rfl (.cons (i := 4) rfl (.cons (i := 0) rfl (.cons (i := 1) rfl (.nil _))))) ?_ ?_
  · skip
    refine x_seq ?_
    refine x_region ?_
    refine xl_pv (pv_move rfl) rfl ?_
    refine xl_nil ?_
    refine xq_norm (xe_code ?_)
    refine x_condT rfl (fun ha => ?_) (fun ha => ?_)
    · skip
      refine x_region ?_
      refine xl_pv (pv_assign rfl) rfl ?_
      refine xl_nil ?_
      refine xq_meetF (.cons_wk (i := 6) rfl (Wk.of_eq (by rw [ha]; rfl)) (.cons rfl (.cons rfl (.cons rfl (.cons rfl (.nil _)))))) rfl
    · skip
      refine x_skip ?_
      refine xq_meetF (.cons_wk (i := 6) rfl (Wk.of_eq (by rw [ha]; rfl)) (.cons rfl (.cons rfl (.cons rfl (.cons rfl (.nil _)))))) rfl
  simp only [List.cons_append, List.nil_append]
  generalize hn : (bif a1 then (1 : Int) else 0) = n
  have hn01 : 0 ≤ n ∧ n ≤ 1 := by subst hn; cases a1 <;> decide
  refine x_seq ?_
  refine x_seq ?_
  refine x_region ?_
  refine xl_pv (pv_move rfl) rfl ?_
  refine xl_pv (pv_rem rfl rfl (by omega)) rfl ?_
  refine xl_nil ?_
  refine xq_norm (xe_code ?_)
  refine x_block ?_
  refine x_seq ?_
  refine x_region ?_
  refine xl_pv (pv_bin rfl rfl rfl) rfl ?_
  refine xl_pv (pv_assign rfl) rfl ?_
  refine xl_nil ?_
  refine xq_norm (xe_code ?_)
  refine x_condT rfl (fun hc => ?_) (fun hc => ?_)
  · skip
    refine x_seq ?_
    refine x_region ?_
    refine xl_pv (pv_assign rfl) rfl ?_
    refine xl_nil ?_
    refine xq_norm (xe_code ?_)
    refine x_block ?_
    refine x_loopS (S := Nat × Value) (fun q => (q.1 : Int) ≤ 63 + n) (fun q => 100 - q.1) (fun q => [(7, iv q.1)]) (fun q => .ref b5 25 [.list 2 [], .val (.slice (some ⟨gvf, 0, none⟩) 1 cvf)] :: .vec (.slice (some ⟨gvf, 0, none⟩) 1 cvf) 53 7 [pDeclAV q.2] :: .vec q.2 73 11 ((pVar 1).av :: pFor.av :: ((List.range q.1).map vSt).map CStmt.av) :: []) ((0, _)) (by simp; omega) (.cons rfl (.cons (i := 6) rfl (.cons (i := 5) rfl (.cons (i := 4) rfl (.cons (i := 1) rfl (.nil _)))))) (rfl) ?_
    rintro ⟨i, v⟩ hi
    simp only [List.cons_append, List.nil_append]
    dsimp only at hi
    refine x_seq ?_
    refine x_seq ?_
    refine x_region ?_
    refine xl_pv (pv_move rfl) rfl ?_
    refine xl_pv (pv_move rfl) rfl ?_
    refine xl_pv (pv_add rfl rfl (by omega) (by omega)) rfl ?_
    refine xl_pv (pv_bin rfl rfl rfl) rfl ?_
    refine xl_nil ?_
    refine xq_norm (xe_code ?_)
    refine x_condT rfl (fun h => ?_) (fun h => ?_)
    · skip
      refine x_skip ?_
      refine xq_norm (xe_code ?_)
      refine x_seq ?_
      refine x_block ?_
      refine x_seq ?_
      refine x_draw rfl ?_
      refine xd_e rfl 0 rfl rfl rfl (by rintro _ ⟨⟩ <;> exact Nat.le_of_ble_eq_true rfl) rfl ev_alloc ?_
      rintro _ _ ⟨b57, rfl, rfl⟩
      refine ⟨(by intro m hm; cases hm), ?_⟩
      refine xd_any rfl [1, 2] ⟨1, by simp⟩ rfl ?_
      intro i hi
      rcases List.mem_cons.1 hi with rfl | hi
      · skip
        refine ⟨_, _, rfl, rfl, rfl, (by rintro _ ⟨⟩), (ev_put .h rfl rfl (by rfl) rfl (.c .z)), ?_⟩
        rintro _ _ ⟨rfl, rfl⟩
        refine ⟨(by intro m hm; cases hm), ?_⟩
        refine xd_e rfl 2 rfl rfl rfl (by rintro _ ⟨⟩) rfl (ev_put .h rfl rfl (by rfl) rfl (.c .z)) ?_
        rintro _ _ ⟨rfl, rfl⟩
        refine ⟨(by intro m hm; cases hm), ?_⟩
        refine xd_v 3 rfl rfl rfl (gv_v (pv_load1 rfl .here rfl) rfl) ?_
        refine xd_end rfl rfl rfl rfl ?_
        refine xq_sub (.cons (i := 58) rfl (.cons (i := 57) rfl (.cons (i := 54) rfl (.cons (i := 53) rfl (.cons (i := 52) rfl (.cons (i := 51) rfl (.cons (i := 7) rfl (.cons (i := 6) rfl (.cons (i := 5) rfl (.cons (i := 4) rfl (.cons (i := 1) rfl (.nil _)))))))))))) ?_
        refine xq_drop .here ?_
        refine xq_norm (xe_code ?_)
        refine x_cond rfl (fun h => nomatch h) (fun _ => ?_)
        refine x_draw rfl ?_
        refine xd_v 0 rfl rfl rfl (gv_v (pv_field_a rfl) rfl) ?_
        refine xd_v 1 rfl rfl rfl (gv_v (pv_load1 rfl .here rfl) rfl) ?_
        refine xd_v 2 rfl rfl rfl (gv_v (pv_field_a rfl) rfl) ?_
        refine xd_v 3 rfl rfl rfl (gv_v (pv_load1 rfl .here rfl) rfl) ?_
        refine xd_v 4 rfl rfl rfl (gv_v (pv_at_o rfl rfl (by omega) (by first | omega | (simp; done) | (simp; omega))) rfl) ?_
        refine xd_v 5 rfl rfl rfl (gv_v (pv_field_a rfl) rfl) ?_
        refine xd_v 6 rfl rfl rfl (gv_v (pv_load1_o (off := 6) (.there .here) rfl rfl rfl) rfl) ?_
        refine xd_v 7 rfl rfl rfl (gv_v (pv_move rfl) rfl) ?_
        refine xd_v 8 rfl rfl rfl (gv_v (pv_quo rfl rfl (by omega)) rfl) ?_
        refine xd_v 9 rfl rfl rfl (gv_v (pv_conv rfl) rfl) ?_
        refine xd_v 10 rfl rfl rfl (gv_v (pv_bin rfl rfl rfl) rfl) ?_
        refine xd_v 11 rfl rfl rfl (gv_v (pv_move rfl) rfl) ?_
        refine xd_v 12 rfl rfl rfl (gv_v (pv_rem rfl rfl (by omega)) rfl) ?_
        refine xd_v 13 rfl rfl rfl (gv_v (pv_conv rfl) rfl) ?_
        refine xd_v 14 rfl rfl rfl (gv_v (pv_bin rfl rfl rfl) rfl) ?_
        refine xd_v 15 rfl rfl rfl (gv_o (ov_lit (.cons rfl (.cons rfl .nil)) rfl (by first | (simp [AV.cs]; done) | exact lits (by rfl) | (intro x hx; cases hx with | head => rfl | tail _ h => cases h)) (by rfl) (by decide)) rfl) ?_
        refine xd_v 16 rfl rfl rfl (gv_v (pv_bytes_str ([_, _]) rfl (by rfl)) rfl) ?_
        refine xd_v 17 rfl rfl rfl (gv_v (pv_str_add rfl rfl (by first | decide | (simp [strOfNums, ByteArray.size]; done))) rfl) ?_
        refine xd_v 18 rfl rfl rfl (gv_v (pv_build (by exact (.cons rfl rfl rfl (by first | rfl | (simp [AV.cs, oneB, *]; done) | (simp [AV.cs, oneB, *]; repeat' constructor)) (.c .z) .nil))) rfl) ?_
        refine xd_v 19 rfl rfl rfl (gv_v (pv_wk ((CExp.mk 2 0 e0 e0 e0 []).av) (pv_build (by exact (.cons rfl rfl rfl (by first | rfl | (simp [AV.cs, oneB, *]; done) | (simp [AV.cs, oneB, *]; repeat' constructor)) (.c .z) .nil))) (by repeat (first | exact Wk.refl _ | exact Wk.nil _ | exact All2.nil | refine Wk.tuple ?_ | refine Wk.agg ?_ | refine All2.cons ?_ ?_))) rfl) ?_
        refine xd_v 20 rfl rfl rfl (gv_o (ov_lit (.cons rfl .nil) rfl (by first | (simp [AV.cs]; done) | exact lits (by rfl) | (intro x hx; cases hx with | head => rfl | tail _ h => cases h)) (by rfl) (by decide)) rfl) ?_
        refine xd_v 21 rfl rfl rfl (gv_v (pv_wk ((vSt i).av) (pv_build (by exact (.cons rfl rfl rfl (by first | rfl | (simp [AV.cs, oneB, *]; done) | (simp [AV.cs, oneB, *]; repeat' constructor)) (.c .z) (.cons rfl rfl rfl (by first | rfl | (simp [AV.cs, oneB, *]; done) | (simp [AV.cs, oneB, *]; repeat' constructor)) (.s (.s (.c .z))) (.cons rfl rfl rfl (by first | rfl | (simp [AV.cs, oneB, *]; done) | (simp [AV.cs, oneB, *]; repeat' constructor)) (.s (.s (.s (.s (.s (.c (.c (.c .z)))))))) (.cons rfl rfl rfl (by first | rfl | (simp [AV.cs, oneB, *]; done) | (simp [AV.cs, oneB, *]; repeat' constructor)) (.s (.s (.s (.s (.s (.s (.s (.s (.c .z))))))))) .nil)))))) (by repeat (first | exact Wk.refl _ | exact Wk.nil _ | exact All2.nil | refine Wk.tuple ?_ | refine Wk.agg ?_ | refine All2.cons ?_ ?_))) rfl) ?_
        refine xd_v 22 rfl rfl rfl (gv_o (ov_lit (.cons rfl .nil) rfl (by first | (simp [AV.cs]; done) | exact lits (by rfl) | (intro x hx; cases hx with | head => rfl | tail _ h => cases h)) (by rfl) (by decide)) rfl) ?_
        refine xd_e rfl 23 rfl rfl rfl (by rintro _ ⟨⟩ <;> exact Nat.le_of_ble_eq_true rfl) rfl (ev_grow (.t (.t .h)) rfl rfl (by rfl) (by simp; omega)) ?_
        rintro _ _ ⟨vl_1, hvl_1, rfl, rfl⟩
        refine ⟨?_, ?_⟩
        · skip
          intro m hm o' y ho hy
          have hm' : m ∈ [21, 20, 19, 18, 17, 16, 15, 14, 13, 12, 11, 10, 9, 8, 7, 5, 4, 3, 2, 1, 0] := hm
          clear hm
          rcases List.mem_cons.1 hm' with rfl | hm'
          · cases ho; cases hy
            exact gv_v (pv_wk ((vSt i).av) (pv_build (by exact (.cons rfl rfl rfl (by first | rfl | (simp [AV.cs, oneB, *]; done) | (simp [AV.cs, oneB, *]; repeat' constructor)) (.c .z) (.cons rfl rfl rfl (by first | rfl | (simp [AV.cs, oneB, *]; done) | (simp [AV.cs, oneB, *]; repeat' constructor)) (.s (.s (.c .z))) (.cons rfl rfl rfl (by first | rfl | (simp [AV.cs, oneB, *]; done) | (simp [AV.cs, oneB, *]; repeat' constructor)) (.s (.s (.s (.s (.s (.c (.c (.c .z)))))))) (.cons rfl rfl rfl (by first | rfl | (simp [AV.cs, oneB, *]; done) | (simp [AV.cs, oneB, *]; repeat' constructor)) (.s (.s (.s (.s (.s (.s (.s (.s (.c .z))))))))) .nil)))))) (by repeat (first | exact Wk.refl _ | exact Wk.nil _ | exact All2.nil | refine Wk.tuple ?_ | refine Wk.agg ?_ | refine All2.cons ?_ ?_))) rfl
          rcases List.mem_cons.1 hm' with rfl | hm'
          · cases ho; cases hy
            exact gv_o (ov_lit (.cons rfl .nil) rfl (by first | (simp [AV.cs]; done) | exact lits (by rfl) | (intro x hx; cases hx with | head => rfl | tail _ h => cases h)) (by rfl) (by decide)) rfl
          rcases List.mem_cons.1 hm' with rfl | hm'
          · cases ho; cases hy
            exact gv_v (pv_wk ((CExp.mk 2 0 e0 e0 e0 []).av) (pv_build (by exact (.cons rfl rfl rfl (by first | rfl | (simp [AV.cs, oneB, *]; done) | (simp [AV.cs, oneB, *]; repeat' constructor)) (.c .z) .nil))) (by repeat (first | exact Wk.refl _ | exact Wk.nil _ | exact All2.nil | refine Wk.tuple ?_ | refine Wk.agg ?_ | refine All2.cons ?_ ?_))) rfl
          rcases List.mem_cons.1 hm' with rfl | hm'
          · cases ho; cases hy
            exact gv_v (pv_build (by exact (.cons rfl rfl rfl (by first | rfl | (simp [AV.cs, oneB, *]; done) | (simp [AV.cs, oneB, *]; repeat' constructor)) (.c .z) .nil))) rfl
          rcases List.mem_cons.1 hm' with rfl | hm'
          · cases ho; cases hy
            exact gv_v (pv_str_add rfl rfl (by first | decide | (simp [strOfNums, ByteArray.size]; done))) rfl
          rcases List.mem_cons.1 hm' with rfl | hm'
          · cases ho; cases hy
            exact gv_v (pv_bytes_str ([_, _]) rfl (by rfl)) rfl
          rcases List.mem_cons.1 hm' with rfl | hm'
          · cases ho; cases hy
            exact gv_o (ov_lit (.cons rfl (.cons rfl .nil)) rfl (by first | (simp [AV.cs]; done) | exact lits (by rfl) | (intro x hx; cases hx with | head => rfl | tail _ h => cases h)) (by rfl) (by decide)) rfl
          rcases List.mem_cons.1 hm' with rfl | hm'
          · cases ho; cases hy
            exact gv_v (pv_bin rfl rfl rfl) rfl
          rcases List.mem_cons.1 hm' with rfl | hm'
          · cases ho; cases hy
            exact gv_v (pv_conv rfl) rfl
          rcases List.mem_cons.1 hm' with rfl | hm'
          · cases ho; cases hy
            exact gv_v (pv_rem rfl rfl (by omega)) rfl
          rcases List.mem_cons.1 hm' with rfl | hm'
          · cases ho; cases hy
            exact gv_v (pv_move rfl) rfl
          rcases List.mem_cons.1 hm' with rfl | hm'
          · cases ho; cases hy
            exact gv_v (pv_bin rfl rfl rfl) rfl
          rcases List.mem_cons.1 hm' with rfl | hm'
          · cases ho; cases hy
            exact gv_v (pv_conv rfl) rfl
          rcases List.mem_cons.1 hm' with rfl | hm'
          · cases ho; cases hy
            exact gv_v (pv_quo rfl rfl (by omega)) rfl
          rcases List.mem_cons.1 hm' with rfl | hm'
          · cases ho; cases hy
            exact gv_v (pv_move rfl) rfl
          rcases List.mem_cons.1 hm' with rfl | hm'
          · cases ho; cases hy
            exact gv_v (pv_field_a rfl) rfl
          rcases List.mem_cons.1 hm' with rfl | hm'
          · cases ho; cases hy
            exact gv_v (pv_at_o rfl rfl (by omega) (by first | omega | (simp; done) | (simp; omega))) rfl
          rcases List.mem_cons.1 hm' with rfl | hm'
          · cases ho; cases hy
            exact gv_v (pv_load1 rfl .here rfl) rfl
          rcases List.mem_cons.1 hm' with rfl | hm'
          · cases ho; cases hy
            exact gv_v (pv_field_a rfl) rfl
          rcases List.mem_cons.1 hm' with rfl | hm'
          · cases ho; cases hy
            exact gv_v (pv_load1 rfl .here rfl) rfl
          rcases List.mem_cons.1 hm' with rfl | hm'
          · cases ho; cases hy
            exact gv_v (pv_field_a rfl) rfl
          cases hm'
        refine xd_v 24 rfl rfl rfl (gv_v (pv_at_o rfl rfl (by omega) (by first | omega | (simp; done) | (simp; omega))) rfl) ?_
        refine xd_v 25 rfl rfl rfl (gv_v (pv_field_a rfl) rfl) ?_
        refine xd_e rfl 26 rfl rfl rfl (by rintro _ ⟨⟩ <;> exact Nat.le_of_ble_eq_true rfl) rfl (ev_vput ([pDeclAV _]) (.t .h) rfl rfl (by simp [AV.cs, oneB, hvl_1]) rfl (.s (.s (.s (.s (.s (.s (.c .z))))))) rfl (lits (by rfl))) ?_
        rintro _ _ ⟨rfl, rfl⟩
        refine ⟨?_, ?_⟩
        · skip
          intro m hm o' y ho hy
          have hm' : m ∈ [24] := hm
          clear hm
          rcases List.mem_cons.1 hm' with rfl | hm'
          · cases ho; cases hy
            exact gv_v (pv_at_o rfl rfl (by omega) (by first | omega | (simp; done) | (simp; omega))) rfl
          cases hm'
        refine xd_end rfl rfl rfl rfl ?_
        refine xq_sub (.cons (i := 110) rfl (.cons (i := 109) rfl (.cons (i := 108) rfl (.cons (i := 107) rfl (.cons (i := 106) rfl (.cons (i := 105) rfl (.cons (i := 104) rfl (.cons (i := 103) rfl (.cons (i := 102) rfl (.cons (i := 101) rfl (.cons (i := 100) rfl (.cons (i := 99) rfl (.cons (i := 98) rfl (.cons (i := 97) rfl (.cons (i := 96) rfl (.cons (i := 95) rfl (.cons (i := 94) rfl (.cons (i := 93) rfl (.cons (i := 92) rfl (.cons (i := 91) rfl (.cons (i := 90) rfl (.cons (i := 89) rfl (.cons (i := 88) rfl (.cons (i := 87) rfl (.cons (i := 86) rfl (.cons (i := 85) rfl (.cons (i := 58) rfl (.cons (i := 57) rfl (.cons (i := 54) rfl (.cons (i := 53) rfl (.cons (i := 52) rfl (.cons (i := 51) rfl (.cons (i := 7) rfl (.cons (i := 6) rfl (.cons (i := 5) rfl (.cons (i := 4) rfl (.cons (i := 1) rfl (.nil _)))))))))))))))))))))))))))))))))))))) ?_
        refine xq_bnorm ?_
        refine xq_norm (xe_code ?_)
        refine x_region ?_
        refine xl_pv (pv_move rfl) rfl ?_
        refine xl_pv (pv_add rfl rfl (by omega) (by omega)) rfl ?_
        refine xl_pv (pv_assign rfl) rfl ?_
        refine xl_nil ?_
        refine xe_loopF ((i + 1, vl_1)) (by simp at h; simp; omega) (by first | omega | (simp at *; omega)) (.cons rfl (.cons rfl (.cons rfl (.cons rfl (.cons rfl (.nil _)))))) (by simp only [List.range_succ, List.map_append, List.map_cons, List.map_nil]; rfl)
      · skip
        obtain rfl : i = 2 := by simpa using hi
        refine ⟨_, _, rfl, rfl, rfl, (by rintro _ ⟨⟩), (ev_put .h rfl rfl (by rfl) rfl (.c .z)), ?_⟩
        rintro _ _ ⟨rfl, rfl⟩
        refine ⟨(by intro m hm; cases hm), ?_⟩
        refine xd_e rfl 1 rfl rfl rfl (by rintro _ ⟨⟩) rfl (ev_put .h rfl rfl (by rfl) rfl (.c .z)) ?_
        rintro _ _ ⟨rfl, rfl⟩
        refine ⟨(by intro m hm; cases hm), ?_⟩
        refine xd_v 3 rfl rfl rfl (gv_v (pv_load1 rfl .here rfl) rfl) ?_
        refine xd_end rfl rfl rfl rfl ?_
        refine xq_sub (.cons (i := 58) rfl (.cons (i := 57) rfl (.cons (i := 54) rfl (.cons (i := 53) rfl (.cons (i := 52) rfl (.cons (i := 51) rfl (.cons (i := 7) rfl (.cons (i := 6) rfl (.cons (i := 5) rfl (.cons (i := 4) rfl (.cons (i := 1) rfl (.nil _)))))))))))) ?_
        refine xq_drop .here ?_
        refine xq_norm (xe_code ?_)
        refine x_cond rfl (fun _ => ?_) (fun h => nomatch h)
        refine x_seq ?_
        refine x_draw rfl ?_
        refine xd_v 0 rfl rfl rfl (gv_v (pv_field_a rfl) rfl) ?_
        refine xd_v 1 rfl rfl rfl (gv_v (pv_load1 rfl .here rfl) rfl) ?_
        refine xd_v 2 rfl rfl rfl (gv_v (pv_at_o rfl rfl (by omega) (by first | omega | (simp; done) | (simp; omega))) rfl) ?_
        refine xd_v 3 rfl rfl rfl (gv_v (pv_field_a rfl) rfl) ?_
        refine xd_v 4 rfl rfl rfl (gv_v (pv_load1_o (off := 6) (.there .here) rfl rfl rfl) rfl) ?_
        refine xd_v 5 rfl rfl rfl (gv_v (pv_move rfl) rfl) ?_
        refine xd_v 6 rfl rfl rfl (gv_v (pv_quo rfl rfl (by omega)) rfl) ?_
        refine xd_v 7 rfl rfl rfl (gv_v (pv_conv rfl) rfl) ?_
        refine xd_v 8 rfl rfl rfl (gv_v (pv_bin rfl rfl rfl) rfl) ?_
        refine xd_v 9 rfl rfl rfl (gv_v (pv_move rfl) rfl) ?_
        refine xd_v 10 rfl rfl rfl (gv_v (pv_rem rfl rfl (by omega)) rfl) ?_
        refine xd_v 11 rfl rfl rfl (gv_v (pv_conv rfl) rfl) ?_
        refine xd_v 12 rfl rfl rfl (gv_v (pv_bin rfl rfl rfl) rfl) ?_
        refine xd_v 13 rfl rfl rfl (gv_o (ov_lit (.cons rfl (.cons rfl .nil)) rfl (by first | (simp [AV.cs]; done) | exact lits (by rfl) | (intro x hx; cases hx with | head => rfl | tail _ h => cases h)) (by rfl) (by decide)) rfl) ?_
        refine xd_v 14 rfl rfl rfl (gv_v (pv_bytes_str ([_, _]) rfl (by rfl)) rfl) ?_
        refine xd_v 15 rfl rfl rfl (gv_v (pv_str_add rfl rfl (by first | decide | (simp [strOfNums, ByteArray.size]; done))) rfl) ?_
        refine xd_v 16 rfl rfl rfl (gv_v (pv_build (by exact (.cons rfl rfl rfl (by first | rfl | (simp [AV.cs, oneB, *]; done) | (simp [AV.cs, oneB, *]; repeat' constructor)) (.c .z) .nil))) rfl) ?_
        refine xd_v 17 rfl rfl rfl (gv_v (pv_wk ((CExp.mk 2 0 e0 e0 e0 []).av) (pv_build (by exact (.cons rfl rfl rfl (by first | rfl | (simp [AV.cs, oneB, *]; done) | (simp [AV.cs, oneB, *]; repeat' constructor)) (.c .z) .nil))) (by repeat (first | exact Wk.refl _ | exact Wk.nil _ | exact All2.nil | refine Wk.tuple ?_ | refine Wk.agg ?_ | refine All2.cons ?_ ?_))) rfl) ?_
        refine xd_v 18 rfl rfl rfl (gv_o (ov_lit (.cons rfl .nil) rfl (by first | (simp [AV.cs]; done) | exact lits (by rfl) | (intro x hx; cases hx with | head => rfl | tail _ h => cases h)) (by rfl) (by decide)) rfl) ?_
        refine xd_v 19 rfl rfl rfl (gv_v (pv_wk ((vSt i).av) (pv_build (by exact (.cons rfl rfl rfl (by first | rfl | (simp [AV.cs, oneB, *]; done) | (simp [AV.cs, oneB, *]; repeat' constructor)) (.c .z) (.cons rfl rfl rfl (by first | rfl | (simp [AV.cs, oneB, *]; done) | (simp [AV.cs, oneB, *]; repeat' constructor)) (.s (.s (.c .z))) (.cons rfl rfl rfl (by first | rfl | (simp [AV.cs, oneB, *]; done) | (simp [AV.cs, oneB, *]; repeat' constructor)) (.s (.s (.s (.s (.s (.c (.c (.c .z)))))))) (.cons rfl rfl rfl (by first | rfl | (simp [AV.cs, oneB, *]; done) | (simp [AV.cs, oneB, *]; repeat' constructor)) (.s (.s (.s (.s (.s (.s (.s (.s (.c .z))))))))) .nil)))))) (by repeat (first | exact Wk.refl _ | exact Wk.nil _ | exact All2.nil | refine Wk.tuple ?_ | refine Wk.agg ?_ | refine All2.cons ?_ ?_))) rfl) ?_
        refine xd_v 20 rfl rfl rfl (gv_v (pv_len_o (.there (.there .here)) rfl) rfl) ?_
        refine xd_v 21 rfl rfl rfl (gv_o (ov_litw (.cons rfl (wk_agg _) .nil) rfl (by first | (simp [AV.cs]; done) | exact lits (by rfl) | (intro x hx; cases hx with | head => rfl | tail _ h => cases h)) (by rfl) (by decide)) rfl) ?_
        refine xd_e rfl 22 rfl rfl rfl (by rintro _ ⟨⟩ <;> exact Nat.le_of_ble_eq_true rfl) rfl (ev_grow (.t (.t .h)) rfl rfl (by rfl) (by simp; omega)) ?_
        rintro _ _ ⟨vl_2, hvl_2, rfl, rfl⟩
        refine ⟨?_, ?_⟩
        · skip
          intro m hm; cases hm
        refine xd_v 23 rfl rfl rfl (gv_v (pv_at_o rfl rfl (by omega) (by first | omega | (simp; done) | (simp; omega))) rfl) ?_
        refine xd_v 24 rfl rfl rfl (gv_v (pv_field_a rfl) rfl) ?_
        refine xd_e rfl 25 rfl rfl rfl (by rintro _ ⟨⟩ <;> exact Nat.le_of_ble_eq_true rfl) rfl (ev_vput ([pDeclAV _]) (.t .h) rfl rfl (by simp [AV.cs, oneB, hvl_2]) rfl (.s (.s (.s (.s (.s (.s (.c .z))))))) rfl (lits (by rfl))) ?_
        rintro _ _ ⟨rfl, rfl⟩
        refine ⟨?_, ?_⟩
        · skip
          intro m hm o' y ho hy
          have hm' : m ∈ [23] := hm
          clear hm
          rcases List.mem_cons.1 hm' with rfl | hm'
          · cases ho; cases hy
            exact gv_v (pv_at_o rfl rfl (by omega) (by first | omega | (simp; done) | (simp; omega))) rfl
          cases hm'
        refine xd_end rfl rfl rfl rfl ?_
        refine xq_sub (.cons (i := 83) rfl (.cons (i := 82) rfl (.cons (i := 81) rfl (.cons (i := 80) rfl (.cons (i := 79) rfl (.cons (i := 78) rfl (.cons (i := 77) rfl (.cons (i := 76) rfl (.cons (i := 75) rfl (.cons (i := 74) rfl (.cons (i := 73) rfl (.cons (i := 72) rfl (.cons (i := 71) rfl (.cons (i := 70) rfl (.cons (i := 69) rfl (.cons (i := 68) rfl (.cons (i := 67) rfl (.cons (i := 66) rfl (.cons (i := 65) rfl (.cons (i := 64) rfl (.cons (i := 63) rfl (.cons (i := 62) rfl (.cons (i := 61) rfl (.cons (i := 60) rfl (.cons (i := 59) rfl (.cons (i := 58) rfl (.cons (i := 57) rfl (.cons (i := 54) rfl (.cons (i := 53) rfl (.cons (i := 52) rfl (.cons (i := 51) rfl (.cons (i := 7) rfl (.cons (i := 6) rfl (.cons (i := 5) rfl (.cons (i := 4) rfl (.cons (i := 1) rfl (.nil _))))))))))))))))))))))))))))))))))))) ?_
        refine xq_norm (xe_code ?_)
        refine x_slc (.there (.there .here)) (fun hs => ?_)
        obtain ⟨gvl, cvl, rfl⟩ := hs.full (by simp)
        refine x_region ?_
        refine xl_pv (pv_at_o rfl rfl (by omega) (by first | omega | (simp; done) | (simp; omega))) rfl ?_
        refine xl_vput (((pVar 1).av :: pFor.av :: ((List.range i).map vSt).map CStmt.av) ++ [(vSt i).av]) (.t (.t .h)) rfl rfl (by rfl) rfl (setat_last (vst_cs i) rfl) (by simp) (vst_cs' i) ?_
        refine xl_nil ?_
        refine xq_bnorm ?_
        refine xq_norm (xe_code ?_)
        refine x_region ?_
        refine xl_pv (pv_move rfl) rfl ?_
        refine xl_pv (pv_add rfl rfl (by omega) (by omega)) rfl ?_
        refine xl_pv (pv_assign rfl) rfl ?_
        refine xl_nil ?_
        refine xe_loopF ((i + 1, .slice (some ⟨gvl, 0, none⟩) _ cvl)) (by simp at h; simp; omega) (by first | omega | (simp at *; omega)) (.cons rfl (.cons rfl (.cons rfl (.cons rfl (.cons rfl (.nil _)))))) (by simp only [List.range_succ, List.map_append, List.map_cons, List.map_nil]; rfl)
    · skip
      refine x_slc (.there (.there .here)) (fun hs => ?_)
      obtain ⟨gvl, cvl, rfl⟩ := hs.full (by simp)
      refine x_pube ([(CDecl.mk mainB 1 [] ty0 (pVar 1 :: pFor :: (List.range i).map vSt)).av]) 6 (.there (.there .here)) (.t .h) rfl (.s (.s (.s (.s (.s (.s (.c .z))))))) rfl (lits (by rfl)) ?_
      refine x_pubc 1 (.there .here) .h rfl (.s (.c .z)) ?_
      rcases ha : a1 with _ | _
      · skip
        obtain rfl : i = 63 := by simp at h; simp [ha] at hn; omega
        obtain ⟨t, k, hfin⟩ := v63_c
        refine x_exit ?_
        refine xq_exit ?_
        refine xq_exit ?_
        refine xq_hit ?_
        refine xq_bnorm ?_
        refine xq_norm (xe_code ?_)
        refine x_seq ?_
        refine x_region ?_
        refine xl_pv (pv_loadN rfl .here rfl) rfl ?_
        refine xl_go (hfin) rfl (.cons rfl (Wk.refl _) .nil) .d rfl ?_
        refine xl_pv (pv_move rfl) rfl ?_
        refine xl_pv (pv_extract rfl rfl) rfl ?_
        refine xl_pv (pv_extract rfl rfl) rfl ?_
        refine xl_pv (pv_extract rfl rfl) rfl ?_
        refine xl_alloc rfl (fun b10 => ?_)
        refine xl_put .h rfl rfl (by first | rfl | (simp [AV.cs, oneB, *]; done) | (simp [AV.cs, oneB, *]; repeat' constructor)) rfl (.c (.c (.c .z))) ?_
        refine xl_pv (pv_assign rfl) rfl ?_
        refine xl_pv (pv_assign rfl) rfl ?_
        refine xl_nil ?_
        refine xq_norm (xe_code ?_)
        refine x_seq ?_
        refine x_seq ?_
        refine x_region ?_
        refine xl_pv (pv_move rfl) rfl ?_
        refine xl_nil ?_
        refine xq_norm (xe_code ?_)
        refine x_cond rfl (fun h => nomatch h) (fun _ => ?_)
        refine x_skip ?_
        refine xq_norm (xe_code ?_)
        refine x_seq ?_
        refine x_region ?_
        refine xl_pv (pv_move rfl) rfl ?_
        refine xl_pv (pv_bin rfl rfl (v := .bool true) (by rfl)) rfl ?_
        refine xl_pv (pv_move rfl) rfl ?_
        refine xl_take rfl rfl rfl ?_
        refine xl_go (works_c) rfl .nil .d rfl ?_
        refine xl_pv (pv_pick_t rfl rfl) rfl ?_
        refine xl_pv (pv_assign rfl) rfl ?_
        refine xl_nil ?_
        refine xq_norm (xe_code ?_)
        refine x_ret ?_
        refine xq_drop .here ?_
        refine xq_drop .here ?_
        refine xq_done (.inr rfl) _ (res1 rfl rfl) ?_
        exact ⟨rfl, rfl⟩
      · skip
        obtain rfl : i = 64 := by simp at h; simp [ha] at hn; omega
        refine x_exit ?_
        refine xq_exit ?_
        refine xq_exit ?_
        refine xq_hit ?_
        refine xq_bnorm ?_
        refine xq_norm (xe_code ?_)
        refine x_seq ?_
        refine x_region ?_
        refine xl_pv (pv_loadN rfl .here rfl) rfl ?_
        refine xl_go (v64_c) rfl (.cons rfl (Wk.refl _) .nil) .d rfl ?_
        refine xl_pv (pv_move rfl) rfl ?_
        refine xl_pv (pv_extract rfl rfl) rfl ?_
        refine xl_pv (pv_extract rfl rfl) rfl ?_
        refine xl_pv (pv_extract rfl rfl) rfl ?_
        refine xl_alloc rfl (fun b10 => ?_)
        refine xl_put .h rfl rfl (by first | rfl | (simp [AV.cs, oneB, *]; done) | (simp [AV.cs, oneB, *]; repeat' constructor)) rfl (.c (.c (.c .z))) ?_
        refine xl_pv (pv_assign rfl) rfl ?_
        refine xl_pv (pv_assign rfl) rfl ?_
        refine xl_nil ?_
        refine xq_norm (xe_code ?_)
        refine x_seq ?_
        refine x_seq ?_
        refine x_region ?_
        refine xl_pv (pv_move rfl) rfl ?_
        refine xl_nil ?_
        refine xq_norm (xe_code ?_)
        refine x_cond rfl (fun _ => ?_) (fun h => nomatch h)
        refine x_seq ?_
        refine x_region ?_
        refine xl_pv (pv_move rfl) rfl ?_
        refine xl_pv (pv_bin rfl rfl (v := .bool true) (by rfl)) rfl ?_
        refine xl_pv (pv_move rfl) rfl ?_
        refine xl_take rfl rfl rfl ?_
        refine xl_pv (pv_move rfl) rfl ?_
        refine xl_take rfl rfl rfl ?_
        refine xl_pv (pv_bin rfl rfl (v := .bool true) (by rfl)) rfl ?_
        refine xl_pv (pv_pick_t rfl rfl) rfl ?_
        refine xl_pv (pv_move rfl) rfl ?_
        refine xl_take rfl rfl rfl ?_
        refine xl_pv (pv_field_a rfl) rfl ?_
        refine xl_take rfl rfl rfl ?_
        refine xl_pv (pv_load1 rfl .here rfl) rfl ?_
        refine xl_take rfl rfl rfl ?_
        refine xl_pv (pv_len rfl) rfl ?_
        refine xl_take rfl rfl rfl ?_
        refine xl_pv (pv_bin rfl rfl (v := .bool true) (by rfl)) rfl ?_
        refine xl_pv (pv_pick_t rfl rfl) rfl ?_
        refine xl_pv (pv_move rfl) rfl ?_
        refine xl_take rfl rfl rfl ?_
        refine xl_go (works_c) rfl .nil .d rfl ?_
        refine xl_pv (pv_pick_t rfl rfl) rfl ?_
        refine xl_pv (pv_assign rfl) rfl ?_
        refine xl_nil ?_
        refine xq_norm (xe_code ?_)
        refine x_ret ?_
        refine xq_ret ?_
        refine xq_drop .here ?_
        refine xq_drop .here ?_
        refine xq_done (.inr rfl) _ (res1 rfl rfl) ?_
        exact ⟨rfl, rfl⟩
  · skip
    refine x_seq ?_
    refine x_region ?_
    refine xl_pv (pv_bin rfl rfl rfl) rfl ?_
    refine xl_pv (pv_assign rfl) rfl ?_
    refine xl_nil ?_
    refine xq_norm (xe_code ?_)
    refine x_condT rfl (fun hc2 => ?_) (fun hc2 => ?_)
    · skip
      refine x_pube ([(CDecl.mk mainB 1 [] ty0 [pVar 1, pFor]).av]) 6 (.there (.there .here)) (.t .h) rfl (.s (.s (.s (.s (.s (.s (.c .z))))))) rfl (lits (by rfl)) ?_
      refine x_seq ?_
      refine x_region ?_
      refine xl_pv (pv_assign rfl) rfl ?_
      refine xl_nil ?_
      refine xq_norm (xe_code ?_)
      refine x_block ?_
      refine x_loopS (S := Nat × Value) (fun q => (q.1 : Int) ≤ 63 + n) (fun q => 100 - q.1) (fun q => [(8, iv q.1)]) (fun q => .ref b5 25 [.list 2 [], .val q.2] :: .vec q.2 53 7 ((CDecl.mk mainB 1 [] ty0 [pVar 1, pFor]).av :: ((List.range q.1).map fDe).map CDecl.av) :: []) ((0, _)) (by simp; omega) (.cons rfl (.cons (i := 6) rfl (.cons (i := 5) rfl (.cons (i := 4) rfl (.cons (i := 1) rfl (.nil _)))))) (rfl) ?_
      rintro ⟨i, v⟩ hi
      simp only [List.cons_append, List.nil_append]
      dsimp only at hi
      refine x_seq ?_
      refine x_seq ?_
      refine x_region ?_
      refine xl_pv (pv_move rfl) rfl ?_
      refine xl_pv (pv_move rfl) rfl ?_
      refine xl_pv (pv_add rfl rfl (by omega) (by omega)) rfl ?_
      refine xl_pv (pv_bin rfl rfl rfl) rfl ?_
      refine xl_nil ?_
      refine xq_norm (xe_code ?_)
      refine x_condT rfl (fun h => ?_) (fun h => ?_)
      · skip
        refine x_skip ?_
        refine xq_norm (xe_code ?_)
        refine x_seq ?_
        refine x_block ?_
        refine x_region ?_
        refine xl_pv (pv_field_a rfl) rfl ?_
        refine xl_pv (pv_load1 rfl .here rfl) rfl ?_
        refine xl_pv (pv_move rfl) rfl ?_
        refine xl_pv (pv_quo rfl rfl (by omega)) rfl ?_
        refine xl_pv (pv_conv rfl) rfl ?_
        refine xl_pv (pv_bin rfl rfl rfl) rfl ?_
        refine xl_pv (pv_move rfl) rfl ?_
        refine xl_pv (pv_rem rfl rfl (by omega)) rfl ?_
        refine xl_pv (pv_conv rfl) rfl ?_
        refine xl_pv (pv_bin rfl rfl rfl) rfl ?_
        refine xl_lit (.cons rfl (.cons rfl .nil)) rfl (by first | (simp [AV.cs]; done) | exact lits (by rfl) | (intro x hx; cases hx with | head => rfl | tail _ h => cases h)) (by rfl) (by decide) rfl ?_
        refine xl_pv (pv_bytes_str ([_, _]) rfl (by rfl)) rfl ?_
        refine xl_pv (pv_str_add rfl rfl (by first | decide | (simp [strOfNums, ByteArray.size]; done))) rfl ?_
        refine xl_pv (pv_wk ((fDe i).av) (pv_build (by exact (.cons rfl rfl rfl (by first | rfl | (simp [AV.cs, oneB, *]; done) | (simp [AV.cs, oneB, *]; repeat' constructor)) (.c .z) .nil))) (by repeat (first | exact Wk.refl _ | exact Wk.nil _ | exact All2.nil | refine Wk.tuple ?_ | refine Wk.agg ?_ | refine All2.cons ?_ ?_))) rfl ?_
        refine xl_lit (.cons rfl .nil) rfl (by first | (simp [AV.cs]; done) | exact lits (by rfl) | (intro x hx; cases hx with | head => rfl | tail _ h => cases h)) (by rfl) (by decide) rfl ?_
        refine xl_grow (.t .h) rfl rfl (by rfl) (by simp; omega) rfl (fun vf_3 hvf_3 => ?_)
        refine xl_pv (pv_field_a rfl) rfl ?_
        refine xl_put .h rfl rfl (by simp [AV.cs, oneB, hvf_3]) rfl (.s (.c .z)) ?_
        refine xl_nil ?_
        refine xq_bnorm ?_
        refine xq_norm (xe_code ?_)
        refine x_region ?_
        refine xl_pv (pv_move rfl) rfl ?_
        refine xl_pv (pv_add rfl rfl (by omega) (by omega)) rfl ?_
        refine xl_pv (pv_assign rfl) rfl ?_
        refine xl_nil ?_
        refine xe_loopS ((i + 1, vf_3)) (by simp at h; simp; omega) (by first | omega | (simp at *; omega)) (.cons rfl (.nil _)) (.n rfl (.o rfl (.o rfl (.o rfl (.o rfl (.o rfl (.o rfl (.o rfl (.o rfl (.o rfl (.o rfl (.o rfl (.o rfl (.o rfl (.o rfl (.o rfl (.o rfl (.o rfl (.o rfl (.o rfl (.o rfl (.o rfl (.o rfl (.o rfl (.o rfl (.n rfl .b)))))))))))))))))))))))))) (by simp only [List.range_succ, List.map_append, List.map_cons, List.map_nil]; rfl)
      · skip
        refine x_pubc 1 (.there .here) .h rfl (.s (.c .z)) ?_
        rcases ha : a1 with _ | _
        · skip
          obtain rfl : i = 63 := by simp at h; simp [ha] at hn; omega
          obtain ⟨t, k, hfin⟩ := f63_c
          refine x_exit ?_
          refine xq_exit ?_
          refine xq_exit ?_
          refine xq_hit ?_
          refine xq_bnorm ?_
          refine xq_norm (xe_code ?_)
          refine x_seq ?_
          refine x_region ?_
          refine xl_pv (pv_loadN rfl .here rfl) rfl ?_
          refine xl_go (hfin) rfl (.cons rfl (Wk.refl _) .nil) .d rfl ?_
          refine xl_pv (pv_move rfl) rfl ?_
          refine xl_pv (pv_extract rfl rfl) rfl ?_
          refine xl_pv (pv_extract rfl rfl) rfl ?_
          refine xl_pv (pv_extract rfl rfl) rfl ?_
          refine xl_alloc rfl (fun b10 => ?_)
          refine xl_put .h rfl rfl (by first | rfl | (simp [AV.cs, oneB, *]; done) | (simp [AV.cs, oneB, *]; repeat' constructor)) rfl (.c (.c (.c .z))) ?_
          refine xl_pv (pv_assign rfl) rfl ?_
          refine xl_pv (pv_assign rfl) rfl ?_
          refine xl_nil ?_
          refine xq_norm (xe_code ?_)
          refine x_seq ?_
          refine x_seq ?_
          refine x_region ?_
          refine xl_pv (pv_move rfl) rfl ?_
          refine xl_nil ?_
          refine xq_norm (xe_code ?_)
          refine x_cond rfl (fun h => nomatch h) (fun _ => ?_)
          refine x_skip ?_
          refine xq_norm (xe_code ?_)
          refine x_seq ?_
          refine x_region ?_
          refine xl_pv (pv_move rfl) rfl ?_
          refine xl_pv (pv_bin rfl rfl (v := .bool true) (by rfl)) rfl ?_
          refine xl_pv (pv_move rfl) rfl ?_
          refine xl_take rfl rfl rfl ?_
          refine xl_go (works_c) rfl .nil .d rfl ?_
          refine xl_pv (pv_pick_t rfl rfl) rfl ?_
          refine xl_pv (pv_assign rfl) rfl ?_
          refine xl_nil ?_
          refine xq_norm (xe_code ?_)
          refine x_ret ?_
          refine xq_drop .here ?_
          refine xq_drop .here ?_
          refine xq_done (.inr rfl) _ (res1 rfl rfl) ?_
          exact ⟨rfl, rfl⟩
        · skip
          obtain rfl : i = 64 := by simp at h; simp [ha] at hn; omega
          refine x_exit ?_
          refine xq_exit ?_
          refine xq_exit ?_
          refine xq_hit ?_
          refine xq_bnorm ?_
          refine xq_norm (xe_code ?_)
          refine x_seq ?_
          refine x_region ?_
          refine xl_pv (pv_loadN rfl .here rfl) rfl ?_
          refine xl_go (f64_c) rfl (.cons rfl (Wk.refl _) .nil) .d rfl ?_
          refine xl_pv (pv_move rfl) rfl ?_
          refine xl_pv (pv_extract rfl rfl) rfl ?_
          refine xl_pv (pv_extract rfl rfl) rfl ?_
          refine xl_pv (pv_extract rfl rfl) rfl ?_
          refine xl_alloc rfl (fun b10 => ?_)
          refine xl_put .h rfl rfl (by first | rfl | (simp [AV.cs, oneB, *]; done) | (simp [AV.cs, oneB, *]; repeat' constructor)) rfl (.c (.c (.c .z))) ?_
          refine xl_pv (pv_assign rfl) rfl ?_
          refine xl_pv (pv_assign rfl) rfl ?_
          refine xl_nil ?_
          refine xq_norm (xe_code ?_)
          refine x_seq ?_
          refine x_seq ?_
          refine x_region ?_
          refine xl_pv (pv_move rfl) rfl ?_
          refine xl_nil ?_
          refine xq_norm (xe_code ?_)
          refine x_cond rfl (fun _ => ?_) (fun h => nomatch h)
          refine x_seq ?_
          refine x_region ?_
          refine xl_pv (pv_move rfl) rfl ?_
          refine xl_pv (pv_bin rfl rfl (v := .bool true) (by rfl)) rfl ?_
          refine xl_pv (pv_move rfl) rfl ?_
          refine xl_take rfl rfl rfl ?_
          refine xl_pv (pv_move rfl) rfl ?_
          refine xl_take rfl rfl rfl ?_
          refine xl_pv (pv_bin rfl rfl (v := .bool true) (by rfl)) rfl ?_
          refine xl_pv (pv_pick_t rfl rfl) rfl ?_
          refine xl_pv (pv_move rfl) rfl ?_
          refine xl_take rfl rfl rfl ?_
          refine xl_pv (pv_field_a rfl) rfl ?_
          refine xl_take rfl rfl rfl ?_
          refine xl_pv (pv_load1 rfl .here rfl) rfl ?_
          refine xl_take rfl rfl rfl ?_
          refine xl_pv (pv_len rfl) rfl ?_
          refine xl_take rfl rfl rfl ?_
          refine xl_pv (pv_bin rfl rfl (v := .bool true) (by rfl)) rfl ?_
          refine xl_pv (pv_pick_t rfl rfl) rfl ?_
          refine xl_pv (pv_move rfl) rfl ?_
          refine xl_take rfl rfl rfl ?_
          refine xl_go (works_c) rfl .nil .d rfl ?_
          refine xl_pv (pv_pick_t rfl rfl) rfl ?_
          refine xl_pv (pv_assign rfl) rfl ?_
          refine xl_nil ?_
          refine xq_norm (xe_code ?_)
          refine x_ret ?_
          refine xq_ret ?_
          refine xq_drop .here ?_
          refine xq_drop .here ?_
          refine xq_done (.inr rfl) _ (res1 rfl rfl) ?_
          exact ⟨rfl, rfl⟩
    · skip
      refine x_seq ?_
      refine x_region ?_
      refine xl_pv (pv_assign rfl) rfl ?_
      refine xl_nil ?_
      refine xq_norm (xe_code ?_)
      refine x_block ?_
      refine x_loopS (S := Nat × Value) (fun q => (q.1 : Int) ≤ 996 + n) (fun q => 1000 - q.1) (fun q => [(9, iv q.1)]) (fun q => .ref b5 25 [.list 2 [], .val (.slice (some ⟨gvf, 0, none⟩) 1 cvf)] :: .vec (.slice (some ⟨gvf, 0, none⟩) 1 cvf) 53 7 [pDeclAV q.2] :: .vec q.2 73 11 ((pVar 1).av :: pFor.av :: (List.replicate q.1 rSt).map CStmt.av) :: []) ((0, _)) (by simp; omega) (.cons rfl (.cons (i := 6) rfl (.cons (i := 5) rfl (.cons (i := 4) rfl (.cons (i := 1) rfl (.nil _)))))) (rfl) ?_
      rintro ⟨i, v⟩ hi
      simp only [List.cons_append, List.nil_append]
      dsimp only at hi
      refine x_seq ?_
      refine x_seq ?_
      refine x_region ?_
      refine xl_pv (pv_move rfl) rfl ?_
      refine xl_pv (pv_move rfl) rfl ?_
      refine xl_pv (pv_add rfl rfl (by omega) (by omega)) rfl ?_
      refine xl_pv (pv_bin rfl rfl rfl) rfl ?_
      refine xl_nil ?_
      refine xq_norm (xe_code ?_)
      refine x_condT rfl (fun h => ?_) (fun h => ?_)
      · skip
        refine x_skip ?_
        refine xq_norm (xe_code ?_)
        refine x_seq ?_
        refine x_block ?_
        refine x_seq ?_
        refine x_draw rfl ?_
        refine xd_e rfl 0 rfl rfl rfl (by rintro _ ⟨⟩ <;> exact Nat.le_of_ble_eq_true rfl) rfl ev_alloc ?_
        rintro _ _ ⟨b23, rfl, rfl⟩
        refine ⟨(by intro m hm; cases hm), ?_⟩
        refine xd_any rfl [1, 2] ⟨1, by simp⟩ rfl ?_
        intro i hi
        rcases List.mem_cons.1 hi with rfl | hi
        · skip
          refine ⟨_, _, rfl, rfl, rfl, (by rintro _ ⟨⟩), (ev_put .h rfl rfl (by rfl) rfl (.c .z)), ?_⟩
          rintro _ _ ⟨rfl, rfl⟩
          refine ⟨(by intro m hm; cases hm), ?_⟩
          refine xd_e rfl 2 rfl rfl rfl (by rintro _ ⟨⟩) rfl (ev_put .h rfl rfl (by rfl) rfl (.c .z)) ?_
          rintro _ _ ⟨rfl, rfl⟩
          refine ⟨(by intro m hm; cases hm), ?_⟩
          refine xd_v 3 rfl rfl rfl (gv_v (pv_load1 rfl .here rfl) rfl) ?_
          refine xd_end rfl rfl rfl rfl ?_
          refine xq_sub (.cons (i := 24) rfl (.cons (i := 23) rfl (.cons (i := 20) rfl (.cons (i := 19) rfl (.cons (i := 18) rfl (.cons (i := 17) rfl (.cons (i := 9) rfl (.cons (i := 6) rfl (.cons (i := 5) rfl (.cons (i := 4) rfl (.cons (i := 1) rfl (.nil _)))))))))))) ?_
          refine xq_drop .here ?_
          refine xq_norm (xe_code ?_)
          refine x_cond rfl (fun h => nomatch h) (fun _ => ?_)
          refine x_draw rfl ?_
          refine xd_v 0 rfl rfl rfl (gv_v (pv_field_a rfl) rfl) ?_
          refine xd_v 1 rfl rfl rfl (gv_v (pv_load1 rfl .here rfl) rfl) ?_
          refine xd_v 2 rfl rfl rfl (gv_v (pv_field_a rfl) rfl) ?_
          refine xd_v 3 rfl rfl rfl (gv_v (pv_load1 rfl .here rfl) rfl) ?_
          refine xd_v 4 rfl rfl rfl (gv_v (pv_at_o rfl rfl (by omega) (by first | omega | (simp; done) | (simp; omega))) rfl) ?_
          refine xd_v 5 rfl rfl rfl (gv_v (pv_field_a rfl) rfl) ?_
          refine xd_v 6 rfl rfl rfl (gv_v (pv_load1_o (off := 6) (.there .here) rfl rfl rfl) rfl) ?_
          refine xd_v 7 rfl rfl rfl (gv_v (pv_wk (rSt.av) (pv_build (by exact (.cons rfl rfl rfl (by first | rfl | (simp [AV.cs, oneB, *]; done) | (simp [AV.cs, oneB, *]; repeat' constructor)) (.c .z) .nil))) (by repeat (first | exact Wk.refl _ | exact Wk.nil _ | exact All2.nil | refine Wk.tuple ?_ | refine Wk.agg ?_ | refine All2.cons ?_ ?_))) rfl) ?_
          refine xd_v 8 rfl rfl rfl (gv_o (ov_lit (.cons rfl .nil) rfl (by first | (simp [AV.cs]; done) | exact lits (by rfl) | (intro x hx; cases hx with | head => rfl | tail _ h => cases h)) (by rfl) (by decide)) rfl) ?_
          refine xd_e rfl 9 rfl rfl rfl (by rintro _ ⟨⟩ <;> exact Nat.le_of_ble_eq_true rfl) rfl (ev_grow (.t (.t .h)) rfl rfl (by rfl) (by simp; omega)) ?_
          rintro _ _ ⟨vl_4, hvl_4, rfl, rfl⟩
          refine ⟨?_, ?_⟩
          · skip
            intro m hm o' y ho hy
            have hm' : m ∈ [7, 5, 4, 3, 2, 1, 0] := hm
            clear hm
            rcases List.mem_cons.1 hm' with rfl | hm'
            · cases ho; cases hy
              exact gv_v (pv_wk (rSt.av) (pv_build (by exact (.cons rfl rfl rfl (by first | rfl | (simp [AV.cs, oneB, *]; done) | (simp [AV.cs, oneB, *]; repeat' constructor)) (.c .z) .nil))) (by repeat (first | exact Wk.refl _ | exact Wk.nil _ | exact All2.nil | refine Wk.tuple ?_ | refine Wk.agg ?_ | refine All2.cons ?_ ?_))) rfl
            rcases List.mem_cons.1 hm' with rfl | hm'
            · cases ho; cases hy
              exact gv_v (pv_field_a rfl) rfl
            rcases List.mem_cons.1 hm' with rfl | hm'
            · cases ho; cases hy
              exact gv_v (pv_at_o rfl rfl (by omega) (by first | omega | (simp; done) | (simp; omega))) rfl
            rcases List.mem_cons.1 hm' with rfl | hm'
            · cases ho; cases hy
              exact gv_v (pv_load1 rfl .here rfl) rfl
            rcases List.mem_cons.1 hm' with rfl | hm'
            · cases ho; cases hy
              exact gv_v (pv_field_a rfl) rfl
            rcases List.mem_cons.1 hm' with rfl | hm'
            · cases ho; cases hy
              exact gv_v (pv_load1 rfl .here rfl) rfl
            rcases List.mem_cons.1 hm' with rfl | hm'
            · cases ho; cases hy
              exact gv_v (pv_field_a rfl) rfl
            cases hm'
          refine xd_v 10 rfl rfl rfl (gv_v (pv_at_o rfl rfl (by omega) (by first | omega | (simp; done) | (simp; omega))) rfl) ?_
          refine xd_v 11 rfl rfl rfl (gv_v (pv_field_a rfl) rfl) ?_
          refine xd_e rfl 12 rfl rfl rfl (by rintro _ ⟨⟩ <;> exact Nat.le_of_ble_eq_true rfl) rfl (ev_vput ([pDeclAV _]) (.t .h) rfl rfl (by simp [AV.cs, oneB, hvl_4]) rfl (.s (.s (.s (.s (.s (.s (.c .z))))))) rfl (lits (by rfl))) ?_
          rintro _ _ ⟨rfl, rfl⟩
          refine ⟨?_, ?_⟩
          · skip
            intro m hm o' y ho hy
            have hm' : m ∈ [10] := hm
            clear hm
            rcases List.mem_cons.1 hm' with rfl | hm'
            · cases ho; cases hy
              exact gv_v (pv_at_o rfl rfl (by omega) (by first | omega | (simp; done) | (simp; omega))) rfl
            cases hm'
          refine xd_end rfl rfl rfl rfl ?_
          refine xq_sub (.cons (i := 48) rfl (.cons (i := 47) rfl (.cons (i := 46) rfl (.cons (i := 45) rfl (.cons (i := 44) rfl (.cons (i := 43) rfl (.cons (i := 42) rfl (.cons (i := 41) rfl (.cons (i := 40) rfl (.cons (i := 39) rfl (.cons (i := 38) rfl (.cons (i := 37) rfl (.cons (i := 24) rfl (.cons (i := 23) rfl (.cons (i := 20) rfl (.cons (i := 19) rfl (.cons (i := 18) rfl (.cons (i := 17) rfl (.cons (i := 9) rfl (.cons (i := 6) rfl (.cons (i := 5) rfl (.cons (i := 4) rfl (.cons (i := 1) rfl (.nil _)))))))))))))))))))))))) ?_
          refine xq_bnorm ?_
          refine xq_norm (xe_code ?_)
          refine x_region ?_
          refine xl_pv (pv_move rfl) rfl ?_
          refine xl_pv (pv_add rfl rfl (by omega) (by omega)) rfl ?_
          refine xl_pv (pv_assign rfl) rfl ?_
          refine xl_nil ?_
          refine xe_loopF ((i + 1, vl_4)) (by simp at h; simp; omega) (by first | omega | (simp at *; omega)) (.cons rfl (.cons rfl (.cons rfl (.cons rfl (.cons rfl (.nil _)))))) (by simp only [List.replicate_succ', List.map_append, List.map_cons, List.map_nil]; rfl)
        · skip
          obtain rfl : i = 2 := by simpa using hi
          refine ⟨_, _, rfl, rfl, rfl, (by rintro _ ⟨⟩), (ev_put .h rfl rfl (by rfl) rfl (.c .z)), ?_⟩
          rintro _ _ ⟨rfl, rfl⟩
          refine ⟨(by intro m hm; cases hm), ?_⟩
          refine xd_e rfl 1 rfl rfl rfl (by rintro _ ⟨⟩) rfl (ev_put .h rfl rfl (by rfl) rfl (.c .z)) ?_
          rintro _ _ ⟨rfl, rfl⟩
          refine ⟨(by intro m hm; cases hm), ?_⟩
          refine xd_v 3 rfl rfl rfl (gv_v (pv_load1 rfl .here rfl) rfl) ?_
          refine xd_end rfl rfl rfl rfl ?_
          refine xq_sub (.cons (i := 24) rfl (.cons (i := 23) rfl (.cons (i := 20) rfl (.cons (i := 19) rfl (.cons (i := 18) rfl (.cons (i := 17) rfl (.cons (i := 9) rfl (.cons (i := 6) rfl (.cons (i := 5) rfl (.cons (i := 4) rfl (.cons (i := 1) rfl (.nil _)))))))))))) ?_
          refine xq_drop .here ?_
          refine xq_norm (xe_code ?_)
          refine x_cond rfl (fun _ => ?_) (fun h => nomatch h)
          refine x_seq ?_
          refine x_region ?_
          refine xl_pv (pv_field_a rfl) rfl ?_
          refine xl_pv (pv_load1 rfl .here rfl) rfl ?_
          refine xl_pv (pv_at_o rfl rfl (by omega) (by first | omega | (simp; done) | (simp; omega))) rfl ?_
          refine xl_pv (pv_field_a rfl) rfl ?_
          refine xl_pv (pv_load1_o (off := 6) (.there .here) rfl rfl rfl) rfl ?_
          refine xl_pv (pv_wk (rSt.av) (pv_build (by exact (.cons rfl rfl rfl (by first | rfl | (simp [AV.cs, oneB, *]; done) | (simp [AV.cs, oneB, *]; repeat' constructor)) (.c .z) .nil))) (by repeat (first | exact Wk.refl _ | exact Wk.nil _ | exact All2.nil | refine Wk.tuple ?_ | refine Wk.agg ?_ | refine All2.cons ?_ ?_))) rfl ?_
          refine xl_pv (pv_len_o (.there (.there .here)) rfl) rfl ?_
          refine xl_litw (.cons rfl (wk_agg _) .nil) rfl (by first | (simp [AV.cs]; done) | exact lits (by rfl) | (intro x hx; cases hx with | head => rfl | tail _ h => cases h)) (by rfl) (by decide) rfl ?_
          refine xl_grow (.t (.t .h)) rfl rfl (by rfl) (by simp; omega) rfl (fun vl_5 hvl_5 => ?_)
          refine xl_pv (pv_at_o rfl rfl (by omega) (by first | omega | (simp; done) | (simp; omega))) rfl ?_
          refine xl_pv (pv_field_a rfl) rfl ?_
          refine xl_vput ([pDeclAV _]) (.t .h) rfl rfl (by simp [AV.cs, oneB, hvl_5]) rfl (.s (.s (.s (.s (.s (.s (.c .z))))))) rfl (lits (by rfl)) ?_
          refine xl_nil ?_
          refine xq_norm (xe_code ?_)
          refine x_slc (.there (.there .here)) (fun hs => ?_)
          obtain ⟨gvl, cvl, rfl⟩ := hs.full (by simp)
          refine x_region ?_
          refine xl_pv (pv_at_o rfl rfl (by omega) (by first | omega | (simp; done) | (simp; omega))) rfl ?_
          refine xl_vput (((pVar 1).av :: pFor.av :: (List.replicate i rSt).map CStmt.av) ++ [rSt.av]) (.t (.t .h)) rfl rfl (by rfl) rfl (setat_last (rst_cs i) rfl) (by simp) (rst_cs' i) ?_
          refine xl_nil ?_
          refine xq_bnorm ?_
          refine xq_norm (xe_code ?_)
          refine x_region ?_
          refine xl_pv (pv_move rfl) rfl ?_
          refine xl_pv (pv_add rfl rfl (by omega) (by omega)) rfl ?_
          refine xl_pv (pv_assign rfl) rfl ?_
          refine xl_nil ?_
          refine xe_loopF ((i + 1, .slice (some ⟨gvl, 0, none⟩) _ cvl)) (by simp at h; simp; omega) (by first | omega | (simp at *; omega)) (.cons rfl (.cons rfl (.cons rfl (.cons rfl (.cons rfl (.nil _)))))) (by simp only [List.replicate_succ', List.map_append, List.map_cons, List.map_nil]; rfl)
      · skip
        refine x_slc (.there (.there .here)) (fun hs => ?_)
        obtain ⟨gvl, cvl, rfl⟩ := hs.full (by simp)
        refine x_pube ([(CDecl.mk mainB 1 [] ty0 (pVar 1 :: pFor :: List.replicate i rSt)).av]) 6 (.there (.there .here)) (.t .h) rfl (.s (.s (.s (.s (.s (.s (.c .z))))))) rfl (lits (by rfl)) ?_
        refine x_pubc 1 (.there .here) .h rfl (.s (.c .z)) ?_
        rcases ha : a1 with _ | _
        · skip
          obtain rfl : i = 996 := by simp at h; simp [ha] at hn; omega
          obtain ⟨t, k, hfin⟩ := r996_c
          refine x_exit ?_
          refine xq_exit ?_
          refine xq_exit ?_
          refine xq_hit ?_
          refine xq_bnorm ?_
          refine xq_norm (xe_code ?_)
          refine x_seq ?_
          refine x_region ?_
          refine xl_pv (pv_loadN rfl .here rfl) rfl ?_
          refine xl_go (hfin) rfl (.cons rfl (Wk.refl _) .nil) .d rfl ?_
          refine xl_pv (pv_move rfl) rfl ?_
          refine xl_pv (pv_extract rfl rfl) rfl ?_
          refine xl_pv (pv_extract rfl rfl) rfl ?_
          refine xl_pv (pv_extract rfl rfl) rfl ?_
          refine xl_alloc rfl (fun b10 => ?_)
          refine xl_put .h rfl rfl (by first | rfl | (simp [AV.cs, oneB, *]; done) | (simp [AV.cs, oneB, *]; repeat' constructor)) rfl (.c (.c (.c .z))) ?_
          refine xl_pv (pv_assign rfl) rfl ?_
          refine xl_pv (pv_assign rfl) rfl ?_
          refine xl_nil ?_
          refine xq_norm (xe_code ?_)
          refine x_seq ?_
          refine x_seq ?_
          refine x_region ?_
          refine xl_pv (pv_move rfl) rfl ?_
          refine xl_nil ?_
          refine xq_norm (xe_code ?_)
          refine x_cond rfl (fun h => nomatch h) (fun _ => ?_)
          refine x_skip ?_
          refine xq_norm (xe_code ?_)
          refine x_seq ?_
          refine x_region ?_
          refine xl_pv (pv_move rfl) rfl ?_
          refine xl_pv (pv_bin rfl rfl (v := .bool true) (by rfl)) rfl ?_
          refine xl_pv (pv_move rfl) rfl ?_
          refine xl_take rfl rfl rfl ?_
          refine xl_go (works_c) rfl .nil .d rfl ?_
          refine xl_pv (pv_pick_t rfl rfl) rfl ?_
          refine xl_pv (pv_assign rfl) rfl ?_
          refine xl_nil ?_
          refine xq_norm (xe_code ?_)
          refine x_ret ?_
          refine xq_drop .here ?_
          refine xq_drop .here ?_
          refine xq_done (.inr rfl) _ (res1 rfl rfl) ?_
          exact ⟨rfl, rfl⟩
        · skip
          obtain rfl : i = 997 := by simp at h; simp [ha] at hn; omega
          refine x_exit ?_
          refine xq_exit ?_
          refine xq_exit ?_
          refine xq_hit ?_
          refine xq_bnorm ?_
          refine xq_norm (xe_code ?_)
          refine x_seq ?_
          refine x_region ?_
          refine xl_pv (pv_loadN rfl .here rfl) rfl ?_
          refine xl_go (r997_c) rfl (.cons rfl (Wk.refl _) .nil) .d rfl ?_
          refine xl_pv (pv_move rfl) rfl ?_
          refine xl_pv (pv_extract rfl rfl) rfl ?_
          refine xl_pv (pv_extract rfl rfl) rfl ?_
          refine xl_pv (pv_extract rfl rfl) rfl ?_
          refine xl_alloc rfl (fun b10 => ?_)
          refine xl_put .h rfl rfl (by first | rfl | (simp [AV.cs, oneB, *]; done) | (simp [AV.cs, oneB, *]; repeat' constructor)) rfl (.c (.c (.c .z))) ?_
          refine xl_pv (pv_assign rfl) rfl ?_
          refine xl_pv (pv_assign rfl) rfl ?_
          refine xl_nil ?_
          refine xq_norm (xe_code ?_)
          refine x_seq ?_
          refine x_seq ?_
          refine x_region ?_
          refine xl_pv (pv_move rfl) rfl ?_
          refine xl_nil ?_
          refine xq_norm (xe_code ?_)
          refine x_cond rfl (fun _ => ?_) (fun h => nomatch h)
          refine x_seq ?_
          refine x_region ?_
          refine xl_pv (pv_move rfl) rfl ?_
          refine xl_pv (pv_bin rfl rfl (v := .bool true) (by rfl)) rfl ?_
          refine xl_pv (pv_move rfl) rfl ?_
          refine xl_take rfl rfl rfl ?_
          refine xl_pv (pv_move rfl) rfl ?_
          refine xl_take rfl rfl rfl ?_
          refine xl_pv (pv_bin rfl rfl (v := .bool true) (by rfl)) rfl ?_
          refine xl_pv (pv_pick_t rfl rfl) rfl ?_
          refine xl_pv (pv_move rfl) rfl ?_
          refine xl_take rfl rfl rfl ?_
          refine xl_pv (pv_field_a rfl) rfl ?_
          refine xl_take rfl rfl rfl ?_
          refine xl_pv (pv_load1 rfl .here rfl) rfl ?_
          refine xl_take rfl rfl rfl ?_
          refine xl_pv (pv_len rfl) rfl ?_
          refine xl_take rfl rfl rfl ?_
          refine xl_pv (pv_bin rfl rfl (v := .bool true) (by rfl)) rfl ?_
          refine xl_pv (pv_pick_t rfl rfl) rfl ?_
          refine xl_pv (pv_move rfl) rfl ?_
          refine xl_take rfl rfl rfl ?_
          refine xl_go (works_c) rfl .nil .d rfl ?_
          refine xl_pv (pv_pick_t rfl rfl) rfl ?_
          refine xl_pv (pv_assign rfl) rfl ?_
          refine xl_nil ?_
          refine xq_norm (xe_code ?_)
          refine x_ret ?_
          refine xq_ret ?_
          refine xq_drop .here ?_
          refine xq_drop .here ?_
          refine xq_done (.inr rfl) _ (res1 rfl rfl) ?_
          exact ⟨rfl, rfl⟩
end Go.Proofs.Ytmallgapchjhnaa
