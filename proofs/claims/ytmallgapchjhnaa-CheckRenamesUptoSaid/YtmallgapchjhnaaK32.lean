/- CheckRenames: the walk. Conditions: the program's size within 2^38, its names up to 2^40 letters. -/
import Derived.Test.YtmallgapchjhnaaK31
import Derived.Test.YtmallgapchjhnaaK29
set_option linter.unusedVariables false
set_option linter.unusedSimpArgs false
namespace Go.Proofs.Ytmallgapchjhnaa
set_option maxRecDepth 100000
open Go Go.Ax
attribute [local irreducible] X XL XE XQ PV

def turnPa (p : CParam) : CParam := ⟨calledB p.name, p.ty⟩
theorem turnD_ps (d : CDecl) : turnD d = ⟨d.name, d.line, d.params.map turnPa, d.result, CStmt.turns d.body⟩ := rfl
theorem renames_c (P : CProg) (hb : sizeN P ≤ 2 ^ 38) (hok : OkP (2 ^ 40) P) : AC Try.prog 7 [.agg P.cs] [] (RetIs (bv true) []) := by
  have hN : sizeN P = P.structs.length + P.funcs.length + fszs P.structs + dszs P.funcs := rfl
  refine ac_intro Try.func7 rfl rfl fun I w => ?_
  simp only [argEnv]
  refine x_seq ?_
  refine x_region ?_
  refine xl_box rfl (by rfl) rfl (fun b1 => ?_)
  refine xl_pv (pv_assign rfl) rfl ?_
  refine xl_nil ?_
  refine xq_norm (xe_code ?_)
  refine x_seq ?_
  refine x_seq ?_
  refine x_region ?_
  refine xl_pv (pv_loadN rfl .here rfl) rfl ?_
  refine xl_go (size_c P (by omega)) rfl (.cons rfl (Wk.of_eq (by rfl)) .nil) .d rfl ?_
  refine xl_pv (pv_bin rfl rfl rfl) rfl ?_
  refine xl_nil ?_
  refine xq_norm (xe_code ?_)
  refine x_condT rfl (fun hS => ?_) (fun hS => ?_)
  · skip
    refine x_seq ?_
    refine x_region ?_
    refine xl_go (works_c) rfl .nil .d rfl ?_
    refine xl_pv (pv_assign rfl) rfl ?_
    refine xl_nil ?_
    refine xq_norm (xe_code ?_)
    refine x_ret ?_
    refine xq_ret ?_
    refine xq_drop .here ?_
    refine xq_done (.inr rfl) _ (res1 rfl rfl) ?_
    exact ⟨rfl, rfl⟩
  · skip
    refine x_skip ?_
    refine xq_norm (xe_code ?_)
    refine x_seq ?_
    refine x_region ?_
    refine xl_pv (pv_field_a rfl) rfl ?_
    refine xl_pv (pv_load1 rfl .here rfl) rfl ?_
    refine xl_pv (pv_build (by exact (.cons rfl rfl rfl (by first | rfl | (simp [AV.cs, oneB, *]; done) | (simp [AV.cs, oneB, *]; repeat' constructor)) (.c .z) .nil))) rfl ?_
    refine xl_alloc rfl (fun b3 => ?_)
    refine xl_put .h rfl rfl (by first | rfl | (simp [AV.cs, oneB, *]; done) | (simp [AV.cs, oneB, *]; repeat' constructor)) rfl (.c (.c .z)) ?_
    refine xl_nil ?_
    refine xq_norm (xe_code ?_)
    refine x_vnilAt 53 7 (.t .h) ?_
    refine x_seq ?_
    refine x_seq ?_
    refine x_region ?_
    refine xl_pv (pv_assign rfl) rfl ?_
    refine xl_nil ?_
    refine xq_norm (xe_code ?_)
    refine x_block ?_
    refine x_loopS (S := Nat × Value) (fun q => q.1 ≤ P.funcs.length) (fun q => P.funcs.length - q.1) (fun q => [(4, iv q.1)]) (fun q => .ref b3 25 [.list 2 (P.structs.map CStruct.av), .val q.2] :: .vec q.2 53 7 (((P.funcs.take q.1).map turnD).map CDecl.av) :: .ref b1 25 [.list 2 (P.structs.map CStruct.av), .list 7 (P.funcs.map CDecl.av)] :: []) ((0, .slice none 0 0)) (by simp) (.cons rfl (.cons (i := 3) rfl (.cons (i := 2) rfl (.cons (i := 1) rfl (.nil _))))) (rfl) ?_
    rintro ⟨i, v⟩ hi
    simp only [List.cons_append, List.nil_append]
    dsimp only at hi
    refine x_seq ?_
    refine x_seq ?_
    refine x_region ?_
    refine xl_pv (pv_move rfl) rfl ?_
    refine xl_pv (pv_field_a rfl) rfl ?_
    refine xl_pv (pv_load1 rfl (.there (.there .here)) rfl) rfl ?_
    refine xl_pv (pv_len rfl) rfl ?_
    refine xl_pv (pv_bin rfl rfl rfl) rfl ?_
    refine xl_nil ?_
    refine xq_norm (xe_code ?_)
    refine x_condT rfl (fun h => ?_) (fun h => ?_)
    · skip
      have hlt : i < P.funcs.length := by simpa using h
      obtain ⟨z, hz⟩ := get_lt hlt
      have hzo := hok z (List.mem_of_getElem? hz)
      have hzs := dszs_mem (List.mem_of_getElem? hz)
      obtain ⟨d1, d2, d3, ⟨r1, r2, r3⟩, d5⟩ := z
      have hzs2 : dsz (CDecl.mk d1 d2 d3 ⟨r1, r2, r3⟩ d5) = d3.length + CStmt.szs d5 := rfl
      refine x_skip ?_
      refine xq_norm (xe_code ?_)
      refine x_seq ?_
      refine x_block ?_
      refine x_seq ?_
      refine x_region ?_
      refine xl_pv (pv_field_a rfl) rfl ?_
      refine xl_pv (pv_load1 rfl (.there (.there .here)) rfl) rfl ?_
      refine xl_pv (pv_move rfl) rfl ?_
      refine xl_pv (pv_at rfl rfl (by omega) ((get_map hz))) rfl ?_
      refine xl_pv (pv_loadN_i rfl rfl) rfl ?_
      refine xl_alloc rfl (fun b5 => ?_)
      refine xl_put .h rfl rfl (by first | rfl | (simp [AV.cs, oneB, *]; done) | (simp [AV.cs, oneB, *]; repeat' constructor)) rfl (.c (.c (.c (.c (.c (.c (.c .z))))))) ?_
      refine xl_nil ?_
      refine xq_norm (xe_code ?_)
      refine x_seq ?_
      refine x_region ?_
      refine xl_pv (pv_field_a rfl) rfl ?_
      refine xl_pv (pv_load1 rfl .here rfl) rfl ?_
      refine xl_go (turnS_c d5 hzo.body (by omega)) rfl (.cons rfl (Wk.refl _) .nil) .d rfl ?_
      refine xl_pv (pv_field_a rfl) rfl ?_
      refine xl_put .h rfl rfl (by first | rfl | (simp [AV.cs, oneB, *]; done) | (simp [AV.cs, oneB, *]; repeat' constructor)) rfl (.s (.s (.s (.s (.s (.s (.c .z))))))) ?_
      refine xl_nil ?_
      refine xq_norm (xe_code ?_)
      refine x_seq ?_
      refine x_region ?_
      refine xl_pv (pv_field_a rfl) rfl ?_
      refine xl_put .h rfl rfl (by first | rfl | (simp [AV.cs, oneB, *]; done) | (simp [AV.cs, oneB, *]; repeat' constructor)) rfl (.s (.s (.c .z))) ?_
      refine xl_nil ?_
      refine xq_norm (xe_code ?_)
      refine x_vnilAt 78 4 (.t .h) ?_
      refine x_seq ?_
      refine x_seq ?_
      refine x_region ?_
      refine xl_pv (pv_assign rfl) rfl ?_
      refine xl_nil ?_
      refine xq_norm (xe_code ?_)
      refine x_block ?_
      refine x_loopS (S := Nat × Value) (fun q => q.1 ≤ d3.length) (fun q => d3.length - q.1) (fun q => [(6, iv q.1)]) (fun q => .ref b5 53 [sv d1, iv d2, .val q.2, kv r1, iv r2, sv r3, .list 11 ((CStmt.turns d5).map CStmt.av)] :: .vec q.2 78 4 (((d3.take q.1).map turnPa).map CParam.av) :: .ref b3 25 [.list 2 (P.structs.map CStruct.av), .val v] :: .vec v 53 7 (((P.funcs.take i).map turnD).map CDecl.av) :: .ref b1 25 [.list 2 (P.structs.map CStruct.av), .list 7 (P.funcs.map CDecl.av)] :: []) ((0, .slice none 0 0)) (by simp) (.cons rfl (.cons (i := 38) rfl (.cons (i := 37) rfl (.cons (i := 36) rfl (.cons (i := 35) rfl (.cons (i := 34) rfl (.cons (i := 5) rfl (.cons (i := 33) rfl (.cons (i := 32) rfl (.cons (i := 31) rfl (.cons (i := 30) rfl (.cons (i := 29) rfl (.cons (i := 26) rfl (.cons (i := 25) rfl (.cons (i := 24) rfl (.cons (i := 23) rfl (.cons (i := 22) rfl (.cons (i := 4) rfl (.cons (i := 3) rfl (.cons (i := 2) rfl (.cons (i := 1) rfl (.nil _)))))))))))))))))))))) (rfl) ?_
      rintro ⟨j, u⟩ hj
      simp only [List.cons_append, List.nil_append]
      dsimp only at hj
      refine x_seq ?_
      refine x_seq ?_
      refine x_region ?_
      refine xl_pv (pv_move rfl) rfl ?_
      refine xl_pv (pv_field_a rfl) rfl ?_
      refine xl_pv (pv_load1 rfl (.there (.there (.there (.there .here)))) rfl) rfl ?_
      refine xl_pv (pv_move rfl) rfl ?_
      refine xl_pv (pv_at rfl rfl (by omega) ((get_map hz))) rfl ?_
      refine xl_pv (pv_field_i rfl) rfl ?_
      refine xl_pv (pv_load1_i rfl rfl) rfl ?_
      refine xl_pv (pv_len rfl) rfl ?_
      refine xl_pv (pv_bin rfl rfl rfl) rfl ?_
      refine xl_nil ?_
      refine xq_norm (xe_code ?_)
      refine x_condT rfl (fun h2 => ?_) (fun h2 => ?_)
      · skip
        have hlt2 : j < d3.length := by simpa using h2
        obtain ⟨z, hz2⟩ := get_lt hlt2
        have hzp := hzo.ps z (List.mem_of_getElem? hz2)
        obtain ⟨p1, ⟨t1, t2, t3⟩⟩ := z
        refine x_skip ?_
        refine xq_norm (xe_code ?_)
        refine x_seq ?_
        refine x_block ?_
        refine x_draw rfl ?_
        refine xd_v 0 rfl rfl rfl (gv_v (pv_field_a rfl) rfl) ?_
        refine xd_v 1 rfl rfl rfl (gv_v (pv_load1 rfl .here rfl) rfl) ?_
        refine xd_v 2 rfl rfl rfl (gv_v (pv_field_a rfl) rfl) ?_
        refine xd_v 3 rfl rfl rfl (gv_v (pv_load1 rfl (.there (.there (.there (.there .here)))) rfl) rfl) ?_
        refine xd_v 4 rfl rfl rfl (gv_v (pv_move rfl) rfl) ?_
        refine xd_v 5 rfl rfl rfl (gv_v (pv_at rfl rfl (by omega) ((get_map hz))) rfl) ?_
        refine xd_v 6 rfl rfl rfl (gv_v (pv_field_i rfl) rfl) ?_
        refine xd_v 7 rfl rfl rfl (gv_v (pv_load1_i rfl rfl) rfl) ?_
        refine xd_v 8 rfl rfl rfl (gv_v (pv_move rfl) rfl) ?_
        refine xd_v 9 rfl rfl rfl (gv_v (pv_at rfl rfl (by omega) ((get_map hz2))) rfl) ?_
        refine xd_v 10 rfl rfl rfl (gv_v (pv_field_i rfl) rfl) ?_
        refine xd_v 11 rfl rfl rfl (gv_v (pv_load1_i rfl rfl) rfl) ?_
        refine xd_v 13 rfl rfl rfl (gv_v (pv_field_a rfl) rfl) ?_
        refine xd_v 14 rfl rfl rfl (gv_v (pv_load1 rfl (.there (.there (.there (.there .here)))) rfl) rfl) ?_
        refine xd_v 15 rfl rfl rfl (gv_v (pv_move rfl) rfl) ?_
        refine xd_v 16 rfl rfl rfl (gv_v (pv_at rfl rfl (by omega) ((get_map hz))) rfl) ?_
        refine xd_v 17 rfl rfl rfl (gv_v (pv_field_i rfl) rfl) ?_
        refine xd_v 18 rfl rfl rfl (gv_v (pv_load1_i rfl rfl) rfl) ?_
        refine xd_v 19 rfl rfl rfl (gv_v (pv_move rfl) rfl) ?_
        refine xd_v 20 rfl rfl rfl (gv_v (pv_at rfl rfl (by omega) ((get_map hz2))) rfl) ?_
        refine xd_v 21 rfl rfl rfl (gv_v (pv_field_i rfl) rfl) ?_
        refine xd_v 22 rfl rfl rfl (gv_v (pv_loadN_i rfl rfl) rfl) ?_
        refine xd_e rfl 12 rfl rfl rfl (by rintro _ ⟨⟩ <;> exact Nat.le_of_ble_eq_true rfl) rfl (ev_go (called_c p1 hzp) rfl (.cons rfl (Wk.refl _) .nil) .d) ?_
        rintro _ _ ⟨rfl, rfl⟩
        refine ⟨?_, ?_⟩
        · skip
          intro m hm o' y ho hy
          have hm' : m ∈ [22, 21, 20, 19, 18, 17, 16, 15, 14, 13, 10, 9, 8, 7, 6, 5, 4, 3, 2, 1, 0] := hm
          clear hm
          rcases List.mem_cons.1 hm' with rfl | hm'
          · cases ho; cases hy
            exact gv_v (pv_loadN_i rfl rfl) rfl
          rcases List.mem_cons.1 hm' with rfl | hm'
          · cases ho; cases hy
            exact gv_v (pv_field_i rfl) rfl
          rcases List.mem_cons.1 hm' with rfl | hm'
          · cases ho; cases hy
            exact gv_v (pv_at rfl rfl (by omega) ((get_map hz2))) rfl
          rcases List.mem_cons.1 hm' with rfl | hm'
          · cases ho; cases hy
            exact gv_v (pv_move rfl) rfl
          rcases List.mem_cons.1 hm' with rfl | hm'
          · cases ho; cases hy
            exact gv_v (pv_load1_i rfl rfl) rfl
          rcases List.mem_cons.1 hm' with rfl | hm'
          · cases ho; cases hy
            exact gv_v (pv_field_i rfl) rfl
          rcases List.mem_cons.1 hm' with rfl | hm'
          · cases ho; cases hy
            exact gv_v (pv_at rfl rfl (by omega) ((get_map hz))) rfl
          rcases List.mem_cons.1 hm' with rfl | hm'
          · cases ho; cases hy
            exact gv_v (pv_move rfl) rfl
          rcases List.mem_cons.1 hm' with rfl | hm'
          · cases ho; cases hy
            exact gv_v (pv_load1 rfl (.there (.there (.there (.there .here)))) rfl) rfl
          rcases List.mem_cons.1 hm' with rfl | hm'
          · cases ho; cases hy
            exact gv_v (pv_field_a rfl) rfl
          rcases List.mem_cons.1 hm' with rfl | hm'
          · cases ho; cases hy
            exact gv_v (pv_field_i rfl) rfl
          rcases List.mem_cons.1 hm' with rfl | hm'
          · cases ho; cases hy
            exact gv_v (pv_at rfl rfl (by omega) ((get_map hz2))) rfl
          rcases List.mem_cons.1 hm' with rfl | hm'
          · cases ho; cases hy
            exact gv_v (pv_move rfl) rfl
          rcases List.mem_cons.1 hm' with rfl | hm'
          · cases ho; cases hy
            exact gv_v (pv_load1_i rfl rfl) rfl
          rcases List.mem_cons.1 hm' with rfl | hm'
          · cases ho; cases hy
            exact gv_v (pv_field_i rfl) rfl
          rcases List.mem_cons.1 hm' with rfl | hm'
          · cases ho; cases hy
            exact gv_v (pv_at rfl rfl (by omega) ((get_map hz))) rfl
          rcases List.mem_cons.1 hm' with rfl | hm'
          · cases ho; cases hy
            exact gv_v (pv_move rfl) rfl
          rcases List.mem_cons.1 hm' with rfl | hm'
          · cases ho; cases hy
            exact gv_v (pv_load1 rfl (.there (.there (.there (.there .here)))) rfl) rfl
          rcases List.mem_cons.1 hm' with rfl | hm'
          · cases ho; cases hy
            exact gv_v (pv_field_a rfl) rfl
          rcases List.mem_cons.1 hm' with rfl | hm'
          · cases ho; cases hy
            exact gv_v (pv_load1 rfl .here rfl) rfl
          rcases List.mem_cons.1 hm' with rfl | hm'
          · cases ho; cases hy
            exact gv_v (pv_field_a rfl) rfl
          cases hm'
        refine xd_v 23 rfl rfl rfl (gv_v (pv_wk ((turnPa (CParam.mk p1 ⟨t1, t2, t3⟩)).av) (pv_build (by exact (.cons rfl rfl rfl (by first | rfl | (simp [AV.cs, oneB, *]; done) | (simp [AV.cs, oneB, *]; repeat' constructor)) (.c .z) (.cons rfl rfl rfl (by first | rfl | (simp [AV.cs, oneB, *]; done) | (simp [AV.cs, oneB, *]; repeat' constructor)) (.s (.c (.c (.c .z)))) .nil)))) (by repeat (first | exact Wk.refl _ | exact Wk.nil _ | exact All2.nil | refine Wk.tuple ?_ | refine Wk.agg ?_ | refine All2.cons ?_ ?_))) rfl) ?_
        refine xd_v 24 rfl rfl rfl (gv_o (ov_lit (.cons rfl .nil) rfl (by first | (simp [AV.cs]; done) | exact lits (by rfl) | (intro x hx; cases hx with | head => rfl | tail _ h => cases h)) (by rfl) (by decide)) rfl) ?_
        refine xd_e rfl 25 rfl rfl rfl (by rintro _ ⟨⟩ <;> exact Nat.le_of_ble_eq_true rfl) rfl (ev_grow (.t .h) rfl rfl (by rfl) (by simp; omega)) ?_
        rintro _ _ ⟨vp_1, hvp_1, rfl, rfl⟩
        refine ⟨?_, ?_⟩
        · skip
          intro m hm o' y ho hy
          have hm' : m ∈ [23, 22, 21, 20, 19, 18, 17, 16, 15, 14, 13, 10, 9, 8, 7, 6, 5, 4, 3, 2, 0] := hm
          clear hm
          rcases List.mem_cons.1 hm' with rfl | hm'
          · cases ho; cases hy
            exact gv_v (pv_wk ((turnPa (CParam.mk p1 ⟨t1, t2, t3⟩)).av) (pv_build (by exact (.cons rfl rfl rfl (by first | rfl | (simp [AV.cs, oneB, *]; done) | (simp [AV.cs, oneB, *]; repeat' constructor)) (.c .z) (.cons rfl rfl rfl (by first | rfl | (simp [AV.cs, oneB, *]; done) | (simp [AV.cs, oneB, *]; repeat' constructor)) (.s (.c (.c (.c .z)))) .nil)))) (by repeat (first | exact Wk.refl _ | exact Wk.nil _ | exact All2.nil | refine Wk.tuple ?_ | refine Wk.agg ?_ | refine All2.cons ?_ ?_))) rfl
          rcases List.mem_cons.1 hm' with rfl | hm'
          · cases ho; cases hy
            exact gv_v (pv_loadN_i rfl rfl) rfl
          rcases List.mem_cons.1 hm' with rfl | hm'
          · cases ho; cases hy
            exact gv_v (pv_field_i rfl) rfl
          rcases List.mem_cons.1 hm' with rfl | hm'
          · cases ho; cases hy
            exact gv_v (pv_at rfl rfl (by omega) ((get_map hz2))) rfl
          rcases List.mem_cons.1 hm' with rfl | hm'
          · cases ho; cases hy
            exact gv_v (pv_move rfl) rfl
          rcases List.mem_cons.1 hm' with rfl | hm'
          · cases ho; cases hy
            exact gv_v (pv_load1_i rfl rfl) rfl
          rcases List.mem_cons.1 hm' with rfl | hm'
          · cases ho; cases hy
            exact gv_v (pv_field_i rfl) rfl
          rcases List.mem_cons.1 hm' with rfl | hm'
          · cases ho; cases hy
            exact gv_v (pv_at rfl rfl (by omega) ((get_map hz))) rfl
          rcases List.mem_cons.1 hm' with rfl | hm'
          · cases ho; cases hy
            exact gv_v (pv_move rfl) rfl
          rcases List.mem_cons.1 hm' with rfl | hm'
          · cases ho; cases hy
            exact gv_v (pv_load1 rfl (.there (.there (.there (.there .here)))) rfl) rfl
          rcases List.mem_cons.1 hm' with rfl | hm'
          · cases ho; cases hy
            exact gv_v (pv_field_a rfl) rfl
          rcases List.mem_cons.1 hm' with rfl | hm'
          · cases ho; cases hy
            exact gv_v (pv_field_i rfl) rfl
          rcases List.mem_cons.1 hm' with rfl | hm'
          · cases ho; cases hy
            exact gv_v (pv_at rfl rfl (by omega) ((get_map hz2))) rfl
          rcases List.mem_cons.1 hm' with rfl | hm'
          · cases ho; cases hy
            exact gv_v (pv_move rfl) rfl
          rcases List.mem_cons.1 hm' with rfl | hm'
          · cases ho; cases hy
            exact gv_v (pv_load1_i rfl rfl) rfl
          rcases List.mem_cons.1 hm' with rfl | hm'
          · cases ho; cases hy
            exact gv_v (pv_field_i rfl) rfl
          rcases List.mem_cons.1 hm' with rfl | hm'
          · cases ho; cases hy
            exact gv_v (pv_at rfl rfl (by omega) ((get_map hz))) rfl
          rcases List.mem_cons.1 hm' with rfl | hm'
          · cases ho; cases hy
            exact gv_v (pv_move rfl) rfl
          rcases List.mem_cons.1 hm' with rfl | hm'
          · cases ho; cases hy
            exact gv_v (pv_load1 rfl (.there (.there (.there (.there .here)))) rfl) rfl
          rcases List.mem_cons.1 hm' with rfl | hm'
          · cases ho; cases hy
            exact gv_v (pv_field_a rfl) rfl
          rcases List.mem_cons.1 hm' with rfl | hm'
          · cases ho; cases hy
            exact gv_v (pv_field_a rfl) rfl
          cases hm'
        refine xd_v 26 rfl rfl rfl (gv_v (pv_field_a rfl) rfl) ?_
        refine xd_e rfl 27 rfl rfl rfl (by rintro _ ⟨⟩ <;> exact Nat.le_of_ble_eq_true rfl) rfl (ev_put .h rfl rfl (by simp [AV.cs, oneB, hvp_1]) rfl (.s (.s (.c .z)))) ?_
        rintro _ _ ⟨rfl, rfl⟩
        refine ⟨?_, ?_⟩
        · skip
          intro m hm; cases hm
        refine xd_end rfl rfl rfl rfl ?_
        refine xq_sub (.cons (i := 76) rfl (.cons (i := 75) rfl (.cons (i := 74) rfl (.cons (i := 73) rfl (.cons (i := 62) rfl (.cons (i := 72) rfl (.cons (i := 71) rfl (.cons (i := 70) rfl (.cons (i := 69) rfl (.cons (i := 68) rfl (.cons (i := 67) rfl (.cons (i := 66) rfl (.cons (i := 65) rfl (.cons (i := 64) rfl (.cons (i := 63) rfl (.cons (i := 61) rfl (.cons (i := 60) rfl (.cons (i := 59) rfl (.cons (i := 58) rfl (.cons (i := 57) rfl (.cons (i := 56) rfl (.cons (i := 55) rfl (.cons (i := 54) rfl (.cons (i := 53) rfl (.cons (i := 52) rfl (.cons (i := 51) rfl (.cons (i := 50) rfl (.cons (i := 47) rfl (.cons (i := 46) rfl (.cons (i := 45) rfl (.cons (i := 44) rfl (.cons (i := 43) rfl (.cons (i := 42) rfl (.cons (i := 41) rfl (.cons (i := 40) rfl (.cons (i := 39) rfl (.cons (i := 6) rfl (.cons (i := 38) rfl (.cons (i := 37) rfl (.cons (i := 36) rfl (.cons (i := 35) rfl (.cons (i := 34) rfl (.cons (i := 5) rfl (.cons (i := 33) rfl (.cons (i := 32) rfl (.cons (i := 31) rfl (.cons (i := 30) rfl (.cons (i := 29) rfl (.cons (i := 26) rfl (.cons (i := 25) rfl (.cons (i := 24) rfl (.cons (i := 23) rfl (.cons (i := 22) rfl (.cons (i := 4) rfl (.cons (i := 3) rfl (.cons (i := 2) rfl (.cons (i := 1) rfl (.nil _)))))))))))))))))))))))))))))))))))))))))))))))))))))))))) ?_
        refine xq_bnorm ?_
        refine xq_norm (xe_code ?_)
        refine x_region ?_
        refine xl_pv (pv_move rfl) rfl ?_
        refine xl_pv (pv_add rfl rfl (by first | omega | (simp only [List.length_map]; omega) | (simp; omega)) (by first | omega | (simp only [List.length_map]; omega) | (simp; omega))) rfl ?_
        refine xl_pv (pv_assign rfl) rfl ?_
        refine xl_nil ?_
        refine xe_loopF ((j + 1, vp_1)) (hlt2) (by first | omega | (simp at *; omega)) (.cons rfl (.cons rfl (.cons rfl (.cons rfl (.cons rfl (.cons rfl (.cons rfl (.cons rfl (.cons rfl (.cons rfl (.cons rfl (.cons rfl (.cons rfl (.cons rfl (.cons rfl (.cons rfl (.cons rfl (.cons rfl (.cons rfl (.cons rfl (.cons rfl (.nil _)))))))))))))))))))))) (by rw [take_turn hz2]; simp only [List.map_append, List.map_cons, List.map_nil]; try rfl)
      · skip
        have hjl : d3.take j = d3 := List.take_of_length_le (by simpa using h2)
        rw [hjl]
        refine x_pubc 2 (.there .here) .h rfl (.s (.s (.c .z))) ?_
        refine x_exit ?_
        refine xq_exit ?_
        refine xq_exit ?_
        refine xq_hit ?_
        refine xq_norm (xe_code ?_)
        refine x_region ?_
        refine xl_pv (pv_field_a rfl) rfl ?_
        refine xl_pv (pv_load1 rfl (.there .here) rfl) rfl ?_
        refine xl_pv (pv_loadN rfl .here rfl) rfl ?_
        refine xl_lit (.cons rfl .nil) rfl (by first | (simp [AV.cs]; done) | exact lits (by rfl) | (intro x hx; cases hx with | head => rfl | tail _ h => cases h)) (by rfl) (by decide) rfl ?_
        refine xl_grow (.t (.t .h)) rfl rfl (by rfl) (by simp; omega) rfl (fun vq_2 hvq_2 => ?_)
        refine xl_pv (pv_field_a rfl) rfl ?_
        refine xl_put (.t .h) rfl rfl (by simp [AV.cs, oneB, hvq_2]) rfl (.s (.c .z)) ?_
        refine xl_nil ?_
        refine xq_bnorm ?_
        refine xq_norm (xe_code ?_)
        refine x_region ?_
        refine xl_pv (pv_move rfl) rfl ?_
        refine xl_pv (pv_add rfl rfl (by first | omega | (simp only [List.length_map]; omega) | (simp; omega)) (by first | omega | (simp only [List.length_map]; omega) | (simp; omega))) rfl ?_
        refine xl_pv (pv_assign rfl) rfl ?_
        refine xl_nil ?_
        refine xq_drop .here ?_
        refine xe_loopF ((i + 1, vq_2)) (hlt) (by first | omega | (simp at *; omega)) (.cons rfl (.cons rfl (.cons rfl (.cons rfl (.nil _))))) (by rw [take_turn hz]; simp only [List.map_append, List.map_cons, List.map_nil]; try rfl)
    · skip
      have hil : P.funcs.take i = P.funcs := List.take_of_length_le (by simpa using h)
      rw [hil]
      refine x_pubc 1 (.there .here) .h rfl (.s (.c .z)) ?_
      have hq1 := prog_of hb
      have hq2 := prog_turn hb
      have hnm := program_nm hok
      generalize programF P = r at hq1 hq2 hnm
      obtain ⟨⟨bs, mn, ps⟩, n, e⟩ := r
      dsimp only at hq1 hq2 hnm
      refine x_exit ?_
      refine xq_exit ?_
      refine xq_exit ?_
      refine xq_hit ?_
      refine xq_norm (xe_code ?_)
      refine x_seq ?_
      refine x_region ?_
      refine xl_pv (pv_loadN rfl (.there .here) rfl) rfl ?_
      refine xl_go (hq1) rfl (.cons rfl (Wk.refl _) .nil) .d rfl ?_
      refine xl_pv (pv_move rfl) rfl ?_
      refine xl_pv (pv_extract rfl rfl) rfl ?_
      refine xl_pv (pv_extract rfl rfl) rfl ?_
      refine xl_pv (pv_extract rfl rfl) rfl ?_
      refine xl_alloc rfl (fun b7 => ?_)
      refine xl_put .h rfl rfl (by first | rfl | (simp [AV.cs, oneB, *]; done) | (simp [AV.cs, oneB, *]; repeat' constructor)) rfl (.c (.c (.c .z))) ?_
      refine xl_pv (pv_assign rfl) rfl ?_
      refine xl_pv (pv_assign rfl) rfl ?_
      refine xl_nil ?_
      refine xq_norm (xe_code ?_)
      refine x_seq ?_
      refine x_region ?_
      refine xl_pv (pv_loadN rfl (.there .here) rfl) rfl ?_
      refine xl_go (hq2) rfl (.cons rfl (Wk.refl _) .nil) .d rfl ?_
      refine xl_pv (pv_move rfl) rfl ?_
      refine xl_pv (pv_extract rfl rfl) rfl ?_
      refine xl_pv (pv_extract rfl rfl) rfl ?_
      refine xl_pv (pv_extract rfl rfl) rfl ?_
      refine xl_alloc rfl (fun b10 => ?_)
      refine xl_put .h rfl rfl (by first | rfl | (simp [AV.cs, oneB, *]; done) | (simp [AV.cs, oneB, *]; repeat' constructor)) rfl (.c (.c (.c .z))) ?_
      refine xl_pv (pv_assign rfl) rfl ?_
      refine xl_pv (pv_assign rfl) rfl ?_
      refine xl_nil ?_
      refine xq_norm (xe_code ?_)
      refine x_seq ?_
      refine x_seq ?_
      refine x_region ?_
      refine xl_pv (pv_move rfl) rfl ?_
      refine xl_pv (pv_move rfl) rfl ?_
      refine xl_pv (pv_bin rfl rfl (v := .bool false) (by simp [intBin])) rfl ?_
      refine xl_pv (pv_move rfl) rfl ?_
      refine xl_take rfl rfl rfl ?_
      refine xl_pv (pv_move rfl) rfl ?_
      refine xl_take rfl rfl rfl ?_
      refine xl_pv (pv_move rfl) rfl ?_
      refine xl_take rfl rfl rfl ?_
      refine xl_pv (pv_bin rfl rfl (v := .bool false) (by simp [intBin])) rfl ?_
      refine xl_pv (pv_pick_f rfl rfl) rfl ?_
      refine xl_pv (pv_move rfl) rfl ?_
      refine xl_take rfl rfl rfl ?_
      refine xl_pv (pv_field_a rfl) rfl ?_
      refine xl_take rfl rfl rfl ?_
      refine xl_pv (pv_load1 rfl (.there .here) rfl) rfl ?_
      refine xl_take rfl rfl rfl ?_
      refine xl_pv (pv_len rfl) rfl ?_
      refine xl_take rfl rfl rfl ?_
      refine xl_pv (pv_field_a rfl) rfl ?_
      refine xl_take rfl rfl rfl ?_
      refine xl_pv (pv_load1 rfl .here rfl) rfl ?_
      refine xl_take rfl rfl rfl ?_
      refine xl_pv (pv_len rfl) rfl ?_
      refine xl_take rfl rfl rfl ?_
      refine xl_pv (pv_bin rfl rfl (v := .bool false) (by simp [intBin, turnT])) rfl ?_
      refine xl_pv (pv_pick_f rfl rfl) rfl ?_
      refine xl_pv (pv_move rfl) rfl ?_
      refine xl_take rfl rfl rfl ?_
      refine xl_pv (pv_field_a rfl) rfl ?_
      refine xl_take rfl rfl rfl ?_
      refine xl_pv (pv_load1 rfl (.there .here) rfl) rfl ?_
      refine xl_take rfl rfl rfl ?_
      refine xl_pv (pv_field_a rfl) rfl ?_
      refine xl_take rfl rfl rfl ?_
      refine xl_pv (pv_load1 rfl .here rfl) rfl ?_
      refine xl_take rfl rfl rfl ?_
      refine xl_go (samePoints_r ps) rfl (.cons rfl (Wk.refl _) (.cons rfl (Wk.refl _) .nil)) .d rfl ?_
      refine xl_llen 105 rfl (fun hbl => ?_)
      simp only [List.length_map] at hbl
      refine xl_take rfl rfl rfl ?_
      refine xl_pv (pv_not rfl) rfl ?_
      refine xl_pv (pv_pick_f rfl rfl) rfl ?_
      refine xl_nil ?_
      refine xq_norm (xe_code ?_)
      refine x_cond rfl (fun h => nomatch h) (fun _ => ?_)
      refine x_skip ?_
      refine xq_norm (xe_code ?_)
      refine x_seq ?_
      refine x_seq ?_
      refine x_region ?_
      refine xl_pv (pv_assign rfl) rfl ?_
      refine xl_nil ?_
      refine xq_norm (xe_code ?_)
      refine x_block ?_
      -- slots turned in the loop and not told: [2]
      refine x_loopS (S := Nat) (fun k => k ≤ bs.length) (fun k => bs.length - k) (fun k => [(13, iv k)]) (fun k => _) (0) (by simp) (.cons rfl (.cons (i := 10) rfl (.cons (i := 7) rfl (.cons (i := 2) rfl (.nil _))))) (rfl) ?_
      rintro k hk
      simp only [List.cons_append, List.nil_append]
      refine x_seq ?_
      refine x_seq ?_
      refine x_region ?_
      refine xl_pv (pv_move rfl) rfl ?_
      refine xl_pv (pv_field_a rfl) rfl ?_
      refine xl_pv (pv_load1 rfl (.there .here) rfl) rfl ?_
      refine xl_pv (pv_len rfl) rfl ?_
      refine xl_pv (pv_bin rfl rfl rfl) rfl ?_
      refine xl_nil ?_
      refine xq_norm (xe_code ?_)
      refine x_condT rfl (fun h3 => ?_) (fun h3 => ?_)
      · skip
        have hlt3 : k < bs.length := by simpa using h3
        obtain ⟨z, hz3⟩ := get_lt hlt3
        have hzn := hnm z (List.mem_of_getElem? hz3)
        have hz4 : (bs.map turnB)[k]? = some (turnB z) := get_map hz3
        refine x_skip ?_
        refine xq_norm (xe_code ?_)
        refine x_seq ?_
        refine x_block ?_
        refine x_seq ?_
        refine x_seq ?_
        refine x_draw rfl ?_
        refine xd_v 0 rfl rfl rfl (gv_v (pv_field_a rfl) rfl) ?_
        refine xd_v 1 rfl rfl rfl (gv_v (pv_load1 rfl (.there .here) rfl) rfl) ?_
        refine xd_v 2 rfl rfl rfl (gv_v (pv_move rfl) rfl) ?_
        refine xd_v 3 rfl rfl rfl (gv_v (pv_at rfl rfl (by omega) ((get_map hz3))) rfl) ?_
        refine xd_v 4 rfl rfl rfl (gv_v (pv_field_i rfl) rfl) ?_
        refine xd_v 5 rfl rfl rfl (gv_v (pv_load1_i rfl rfl) rfl) ?_
        refine xd_v 6 rfl rfl rfl (gv_v (pv_field_a rfl) rfl) ?_
        refine xd_v 7 rfl rfl rfl (gv_v (pv_load1 rfl .here rfl) rfl) ?_
        refine xd_v 8 rfl rfl rfl (gv_v (pv_move rfl) rfl) ?_
        refine xd_v 9 rfl rfl rfl (gv_v (pv_at rfl rfl (by omega) ((get_map hz4))) rfl) ?_
        refine xd_v 10 rfl rfl rfl (gv_v (pv_field_i rfl) rfl) ?_
        refine xd_v 11 rfl rfl rfl (gv_v (pv_load1_i rfl rfl) rfl) ?_
        refine xd_e rfl 12 rfl rfl rfl (by rintro _ ⟨⟩ <;> exact Nat.le_of_ble_eq_true rfl) rfl (ev_go (sameActs_r z.acts) rfl (.cons rfl (Wk.refl _) (.cons rfl (Wk.refl _) .nil)) .d) ?_
        rintro _ _ ⟨rfl, rfl⟩
        refine ⟨?_, ?_⟩
        · skip
          intro m hm o' y ho hy
          have hm' : m ∈ [10, 9, 8, 7, 6, 4, 3, 2, 1, 0] := hm
          clear hm
          rcases List.mem_cons.1 hm' with rfl | hm'
          · cases ho; cases hy
            exact gv_v (pv_field_i rfl) rfl
          rcases List.mem_cons.1 hm' with rfl | hm'
          · cases ho; cases hy
            exact gv_v (pv_at rfl rfl (by omega) ((get_map hz4))) rfl
          rcases List.mem_cons.1 hm' with rfl | hm'
          · cases ho; cases hy
            exact gv_v (pv_move rfl) rfl
          rcases List.mem_cons.1 hm' with rfl | hm'
          · cases ho; cases hy
            exact gv_v (pv_load1 rfl .here rfl) rfl
          rcases List.mem_cons.1 hm' with rfl | hm'
          · cases ho; cases hy
            exact gv_v (pv_field_a rfl) rfl
          rcases List.mem_cons.1 hm' with rfl | hm'
          · cases ho; cases hy
            exact gv_v (pv_field_i rfl) rfl
          rcases List.mem_cons.1 hm' with rfl | hm'
          · cases ho; cases hy
            exact gv_v (pv_at rfl rfl (by omega) ((get_map hz3))) rfl
          rcases List.mem_cons.1 hm' with rfl | hm'
          · cases ho; cases hy
            exact gv_v (pv_move rfl) rfl
          rcases List.mem_cons.1 hm' with rfl | hm'
          · cases ho; cases hy
            exact gv_v (pv_load1 rfl (.there .here) rfl) rfl
          rcases List.mem_cons.1 hm' with rfl | hm'
          · cases ho; cases hy
            exact gv_v (pv_field_a rfl) rfl
          cases hm'
        refine xd_v 13 rfl rfl rfl (gv_v (pv_not rfl) rfl) ?_
        refine xd_v 14 rfl rfl rfl (gv_v (pv_move rfl) rfl) ?_
        refine xd_v 15 rfl rfl rfl (gv_take rfl rfl rfl (pv_field_a rfl) rfl) ?_
        refine xd_v 16 rfl rfl rfl (gv_take rfl rfl rfl (pv_load1 rfl (.there .here) rfl) rfl) ?_
        refine xd_v 17 rfl rfl rfl (gv_take rfl rfl rfl (pv_move rfl) rfl) ?_
        refine xd_v 18 rfl rfl rfl (gv_take rfl rfl rfl (pv_at rfl rfl (by omega) ((get_map hz3))) rfl) ?_
        refine xd_v 19 rfl rfl rfl (gv_take rfl rfl rfl (pv_field_i rfl) rfl) ?_
        refine xd_v 20 rfl rfl rfl (gv_take rfl rfl rfl (pv_load1_i rfl rfl) rfl) ?_
        refine xd_v 21 rfl rfl rfl (gv_take rfl rfl rfl (pv_len rfl) rfl) ?_
        refine xd_v 22 rfl rfl rfl (gv_take rfl rfl rfl (pv_field_a rfl) rfl) ?_
        refine xd_v 23 rfl rfl rfl (gv_take rfl rfl rfl (pv_load1 rfl .here rfl) rfl) ?_
        refine xd_v 24 rfl rfl rfl (gv_take rfl rfl rfl (pv_move rfl) rfl) ?_
        refine xd_v 25 rfl rfl rfl (gv_take rfl rfl rfl (pv_at rfl rfl (by omega) ((get_map hz4))) rfl) ?_
        refine xd_v 26 rfl rfl rfl (gv_take rfl rfl rfl (pv_field_i rfl) rfl) ?_
        refine xd_v 27 rfl rfl rfl (gv_take rfl rfl rfl (pv_load1_i rfl rfl) rfl) ?_
        refine xd_v 28 rfl rfl rfl (gv_take rfl rfl rfl (pv_len rfl) rfl) ?_
        refine xd_v 29 rfl rfl rfl (gv_take rfl rfl rfl (pv_bin rfl rfl (v := .bool false) (by simp [intBin, turnB])) rfl) ?_
        refine xd_v 30 rfl rfl rfl (gv_v (pv_pick_f rfl rfl) rfl) ?_
        refine xd_end rfl rfl rfl rfl ?_
        refine xq_sub (.cons (i := 157) rfl (.cons (i := 156) rfl (.cons (i := 155) rfl (.cons (i := 154) rfl (.cons (i := 153) rfl (.cons (i := 152) rfl (.cons (i := 151) rfl (.cons (i := 150) rfl (.cons (i := 149) rfl (.cons (i := 148) rfl (.cons (i := 147) rfl (.cons (i := 146) rfl (.cons (i := 145) rfl (.cons (i := 144) rfl (.cons (i := 143) rfl (.cons (i := 142) rfl (.cons (i := 141) rfl (.cons (i := 140) rfl (.cons (i := 139) rfl (.cons (i := 138) rfl (.cons (i := 137) rfl (.cons (i := 136) rfl (.cons (i := 135) rfl (.cons (i := 134) rfl (.cons (i := 133) rfl (.cons (i := 132) rfl (.cons (i := 131) rfl (.cons (i := 130) rfl (.cons (i := 129) rfl (.cons (i := 128) rfl (.cons (i := 127) rfl (.cons (i := 124) rfl (.cons (i := 123) rfl (.cons (i := 122) rfl (.cons (i := 121) rfl (.cons (i := 120) rfl (.cons (i := 13) rfl (.cons (i := 10) rfl (.cons (i := 7) rfl (.cons (i := 2) rfl (.nil _))))))))))))))))))))))))))))))))))))))))) ?_
        refine xq_norm (xe_code ?_)
        refine x_cond rfl (fun h => nomatch h) (fun _ => ?_)
        refine x_skip ?_
        refine xq_norm (xe_code ?_)
        refine x_seq ?_
        refine x_region ?_
        refine xl_pv (pv_assign rfl) rfl ?_
        refine xl_nil ?_
        refine xq_norm (xe_code ?_)
        refine x_block ?_
        -- slots turned in the loop and not told: [2]
        refine x_loopS (S := Nat) (fun m => m ≤ z.vars.length) (fun m => z.vars.length - m) (fun m => [(14, iv m)]) (fun m => _) (0) (by simp) (.cons rfl (.cons (i := 157) rfl (.cons (i := 156) rfl (.cons (i := 155) rfl (.cons (i := 154) rfl (.cons (i := 153) rfl (.cons (i := 152) rfl (.cons (i := 151) rfl (.cons (i := 150) rfl (.cons (i := 149) rfl (.cons (i := 148) rfl (.cons (i := 147) rfl (.cons (i := 146) rfl (.cons (i := 145) rfl (.cons (i := 144) rfl (.cons (i := 143) rfl (.cons (i := 142) rfl (.cons (i := 141) rfl (.cons (i := 140) rfl (.cons (i := 139) rfl (.cons (i := 138) rfl (.cons (i := 137) rfl (.cons (i := 136) rfl (.cons (i := 135) rfl (.cons (i := 134) rfl (.cons (i := 133) rfl (.cons (i := 132) rfl (.cons (i := 131) rfl (.cons (i := 130) rfl (.cons (i := 129) rfl (.cons (i := 128) rfl (.cons (i := 127) rfl (.cons (i := 124) rfl (.cons (i := 123) rfl (.cons (i := 122) rfl (.cons (i := 121) rfl (.cons (i := 120) rfl (.cons (i := 13) rfl (.cons (i := 10) rfl (.cons (i := 7) rfl (.cons (i := 2) rfl (.nil _)))))))))))))))))))))))))))))))))))))))))) (rfl) ?_
        rintro m hm
        simp only [List.cons_append, List.nil_append]
        refine x_seq ?_
        refine x_seq ?_
        refine x_region ?_
        refine xl_pv (pv_move rfl) rfl ?_
        refine xl_pv (pv_field_a rfl) rfl ?_
        refine xl_pv (pv_load1 rfl (.there .here) rfl) rfl ?_
        refine xl_pv (pv_move rfl) rfl ?_
        refine xl_pv (pv_at rfl rfl (by omega) ((get_map hz3))) rfl ?_
        refine xl_pv (pv_field_i rfl) rfl ?_
        refine xl_pv (pv_load1_i rfl rfl) rfl ?_
        refine xl_llen 164 rfl (fun hvl => ?_)
        simp only [List.length_map] at hvl
        refine xl_pv (pv_len rfl) rfl ?_
        refine xl_pv (pv_bin rfl rfl rfl) rfl ?_
        refine xl_nil ?_
        refine xq_norm (xe_code ?_)
        refine x_condT rfl (fun h4 => ?_) (fun h4 => ?_)
        · skip
          have hlt4 : m < z.vars.length := by simpa using h4
          obtain ⟨y, hy⟩ := get_lt hlt4
          have hyn := hzn y (List.mem_of_getElem? hy)
          have hy2 : (z.vars.map turnV)[m]? = some (turnV y) := get_map hy
          refine x_skip ?_
          refine xq_norm (xe_code ?_)
          refine x_seq ?_
          refine x_block ?_
          refine x_seq ?_
          refine x_draw rfl ?_
          refine xd_v 0 rfl rfl rfl (gv_v (pv_field_a rfl) rfl) ?_
          refine xd_v 1 rfl rfl rfl (gv_v (pv_load1 rfl (.there .here) rfl) rfl) ?_
          refine xd_v 2 rfl rfl rfl (gv_v (pv_move rfl) rfl) ?_
          refine xd_v 3 rfl rfl rfl (gv_v (pv_at rfl rfl (by omega) ((get_map hz3))) rfl) ?_
          refine xd_v 4 rfl rfl rfl (gv_v (pv_field_i rfl) rfl) ?_
          refine xd_v 5 rfl rfl rfl (gv_v (pv_load1_i rfl rfl) rfl) ?_
          refine xd_v 6 rfl rfl rfl (gv_v (pv_move rfl) rfl) ?_
          refine xd_v 7 rfl rfl rfl (gv_v (pv_at rfl rfl (by omega) ((get_map hy))) rfl) ?_
          refine xd_v 8 rfl rfl rfl (gv_v (pv_field_i rfl) rfl) ?_
          refine xd_v 9 rfl rfl rfl (gv_v (pv_load1_i rfl rfl) rfl) ?_
          refine xd_v 11 rfl rfl rfl (gv_v (pv_field_a rfl) rfl) ?_
          refine xd_v 12 rfl rfl rfl (gv_v (pv_load1 rfl .here rfl) rfl) ?_
          refine xd_v 13 rfl rfl rfl (gv_v (pv_move rfl) rfl) ?_
          refine xd_v 14 rfl rfl rfl (gv_v (pv_at rfl rfl (by omega) ((get_map hz4))) rfl) ?_
          refine xd_v 15 rfl rfl rfl (gv_v (pv_field_i rfl) rfl) ?_
          refine xd_v 16 rfl rfl rfl (gv_v (pv_load1_i rfl rfl) rfl) ?_
          refine xd_v 17 rfl rfl rfl (gv_v (pv_move rfl) rfl) ?_
          refine xd_v 18 rfl rfl rfl (gv_v (pv_at rfl rfl (by omega) ((get_map hy2))) rfl) ?_
          refine xd_v 19 rfl rfl rfl (gv_v (pv_field_i rfl) rfl) ?_
          refine xd_v 20 rfl rfl rfl (gv_v (pv_load1_i rfl rfl) rfl) ?_
          refine xd_e rfl 10 rfl rfl rfl (by rintro _ ⟨⟩ <;> exact Nat.le_of_ble_eq_true rfl) rfl (ev_go (called_c y.name hyn) rfl (.cons rfl (Wk.refl _) .nil) .d) ?_
          rintro _ _ ⟨rfl, rfl⟩
          refine ⟨?_, ?_⟩
          · skip
            intro m hm o' y ho hy
            have hm' : m ∈ [20, 19, 18, 17, 16, 15, 14, 13, 12, 11, 8, 7, 6, 5, 4, 3, 2, 1, 0] := hm
            clear hm
            rcases List.mem_cons.1 hm' with rfl | hm'
            · cases ho; cases hy
              exact gv_v (pv_load1_i rfl rfl) rfl
            rcases List.mem_cons.1 hm' with rfl | hm'
            · cases ho; cases hy
              exact gv_v (pv_field_i rfl) rfl
            rcases List.mem_cons.1 hm' with rfl | hm'
            · cases ho; cases hy
              exact gv_v (pv_at rfl rfl (by omega) ((get_map hy2))) rfl
            rcases List.mem_cons.1 hm' with rfl | hm'
            · cases ho; cases hy
              exact gv_v (pv_move rfl) rfl
            rcases List.mem_cons.1 hm' with rfl | hm'
            · cases ho; cases hy
              exact gv_v (pv_load1_i rfl rfl) rfl
            rcases List.mem_cons.1 hm' with rfl | hm'
            · cases ho; cases hy
              exact gv_v (pv_field_i rfl) rfl
            rcases List.mem_cons.1 hm' with rfl | hm'
            · cases ho; cases hy
              exact gv_v (pv_at rfl rfl (by omega) ((get_map hz4))) rfl
            rcases List.mem_cons.1 hm' with rfl | hm'
            · cases ho; cases hy
              exact gv_v (pv_move rfl) rfl
            rcases List.mem_cons.1 hm' with rfl | hm'
            · cases ho; cases hy
              exact gv_v (pv_load1 rfl .here rfl) rfl
            rcases List.mem_cons.1 hm' with rfl | hm'
            · cases ho; cases hy
              exact gv_v (pv_field_a rfl) rfl
            rcases List.mem_cons.1 hm' with rfl | hm'
            · cases ho; cases hy
              exact gv_v (pv_field_i rfl) rfl
            rcases List.mem_cons.1 hm' with rfl | hm'
            · cases ho; cases hy
              exact gv_v (pv_at rfl rfl (by omega) ((get_map hy))) rfl
            rcases List.mem_cons.1 hm' with rfl | hm'
            · cases ho; cases hy
              exact gv_v (pv_move rfl) rfl
            rcases List.mem_cons.1 hm' with rfl | hm'
            · cases ho; cases hy
              exact gv_v (pv_load1_i rfl rfl) rfl
            rcases List.mem_cons.1 hm' with rfl | hm'
            · cases ho; cases hy
              exact gv_v (pv_field_i rfl) rfl
            rcases List.mem_cons.1 hm' with rfl | hm'
            · cases ho; cases hy
              exact gv_v (pv_at rfl rfl (by omega) ((get_map hz3))) rfl
            rcases List.mem_cons.1 hm' with rfl | hm'
            · cases ho; cases hy
              exact gv_v (pv_move rfl) rfl
            rcases List.mem_cons.1 hm' with rfl | hm'
            · cases ho; cases hy
              exact gv_v (pv_load1 rfl (.there .here) rfl) rfl
            rcases List.mem_cons.1 hm' with rfl | hm'
            · cases ho; cases hy
              exact gv_v (pv_field_a rfl) rfl
            cases hm'
          refine xd_v 21 rfl rfl rfl (gv_v (pv_wk (.val (.bool false)) (pv_str_ne rfl rfl) (Wk.of_eq (by simp [turnV]))) rfl) ?_
          refine xd_end rfl rfl rfl rfl ?_
          refine xq_sub (.cons (i := 190) rfl (.cons (i := 179) rfl (.cons (i := 189) rfl (.cons (i := 188) rfl (.cons (i := 187) rfl (.cons (i := 186) rfl (.cons (i := 185) rfl (.cons (i := 184) rfl (.cons (i := 183) rfl (.cons (i := 182) rfl (.cons (i := 181) rfl (.cons (i := 180) rfl (.cons (i := 178) rfl (.cons (i := 177) rfl (.cons (i := 176) rfl (.cons (i := 175) rfl (.cons (i := 174) rfl (.cons (i := 173) rfl (.cons (i := 172) rfl (.cons (i := 171) rfl (.cons (i := 170) rfl (.cons (i := 169) rfl (.cons (i := 166) rfl (.cons (i := 165) rfl (.cons (i := 164) rfl (.cons (i := 163) rfl (.cons (i := 162) rfl (.cons (i := 161) rfl (.cons (i := 160) rfl (.cons (i := 159) rfl (.cons (i := 158) rfl (.cons (i := 14) rfl (.cons (i := 157) rfl (.cons (i := 156) rfl (.cons (i := 155) rfl (.cons (i := 154) rfl (.cons (i := 153) rfl (.cons (i := 152) rfl (.cons (i := 151) rfl (.cons (i := 150) rfl (.cons (i := 149) rfl (.cons (i := 148) rfl (.cons (i := 147) rfl (.cons (i := 146) rfl (.cons (i := 145) rfl (.cons (i := 144) rfl (.cons (i := 143) rfl (.cons (i := 142) rfl (.cons (i := 141) rfl (.cons (i := 140) rfl (.cons (i := 139) rfl (.cons (i := 138) rfl (.cons (i := 137) rfl (.cons (i := 136) rfl (.cons (i := 135) rfl (.cons (i := 134) rfl (.cons (i := 133) rfl (.cons (i := 132) rfl (.cons (i := 131) rfl (.cons (i := 130) rfl (.cons (i := 129) rfl (.cons (i := 128) rfl (.cons (i := 127) rfl (.cons (i := 124) rfl (.cons (i := 123) rfl (.cons (i := 122) rfl (.cons (i := 121) rfl (.cons (i := 120) rfl (.cons (i := 13) rfl (.cons (i := 10) rfl (.cons (i := 7) rfl (.cons (i := 2) rfl (.nil _))))))))))))))))))))))))))))))))))))))))))))))))))))))))))))))))))))))))) ?_
          refine xq_norm (xe_code ?_)
          refine x_cond rfl (fun h => nomatch h) (fun _ => ?_)
          refine x_skip ?_
          refine xq_bnorm ?_
          refine xq_norm (xe_code ?_)
          refine x_region ?_
          refine xl_pv (pv_move rfl) rfl ?_
          refine xl_pv (pv_add rfl rfl (by first | omega | (simp only [List.length_map]; omega) | (simp; omega)) (by first | omega | (simp only [List.length_map]; omega) | (simp; omega))) rfl ?_
          refine xl_pv (pv_assign rfl) rfl ?_
          refine xl_nil ?_
          refine xe_loopF (m + 1) (hlt4) (by first | omega | (simp at *; omega)) (.cons rfl (.cons rfl (.cons rfl (.cons rfl (.cons rfl (.cons rfl (.cons rfl (.cons rfl (.cons rfl (.cons rfl (.cons rfl (.cons rfl (.cons rfl (.cons rfl (.cons rfl (.cons rfl (.cons rfl (.cons rfl (.cons rfl (.cons rfl (.cons rfl (.cons rfl (.cons rfl (.cons rfl (.cons rfl (.cons rfl (.cons rfl (.cons rfl (.cons rfl (.cons rfl (.cons rfl (.cons rfl (.cons rfl (.cons rfl (.cons rfl (.cons rfl (.cons rfl (.cons rfl (.cons rfl (.cons rfl (.cons rfl (.nil _)))))))))))))))))))))))))))))))))))))))))) (rfl)
        · skip
          refine x_exit ?_
          refine xq_exit ?_
          refine xq_exit ?_
          refine xq_hit ?_
          refine xq_bnorm ?_
          refine xq_norm (xe_code ?_)
          refine x_region ?_
          refine xl_pv (pv_move rfl) rfl ?_
          refine xl_pv (pv_add rfl rfl (by first | omega | (simp only [List.length_map]; omega) | (simp; omega)) (by first | omega | (simp only [List.length_map]; omega) | (simp; omega))) rfl ?_
          refine xl_pv (pv_assign rfl) rfl ?_
          refine xl_nil ?_
          refine xe_loopF (k + 1) (hlt3) (by first | omega | (simp at *; omega)) (.cons rfl (.cons rfl (.cons rfl (.cons rfl (.nil _))))) (rfl)
      · skip
        refine x_exit ?_
        refine xq_exit ?_
        refine xq_exit ?_
        refine xq_hit ?_
        refine xq_norm (xe_code ?_)
        refine x_seq ?_
        refine x_region ?_
        refine xl_go (works_c) rfl .nil .d rfl ?_
        refine xl_pv (pv_assign rfl) rfl ?_
        refine xl_nil ?_
        refine xq_norm (xe_code ?_)
        refine x_ret ?_
        refine xq_drop .here ?_
        refine xq_drop .here ?_
        refine xq_drop .here ?_
        refine xq_drop .here ?_
        refine xq_done (.inr rfl) _ (res1 rfl rfl) ?_
        exact ⟨rfl, rfl⟩
end Go.Proofs.Ytmallgapchjhnaa
