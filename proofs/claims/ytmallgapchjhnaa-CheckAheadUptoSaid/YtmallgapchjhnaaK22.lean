/- The anchor of the laws: it is true. No condition: plain theorems. -/
import Derived.Test.YtmallgapchjhnaaK21
set_option linter.unusedVariables false
set_option linter.unusedSimpArgs false
namespace Go.Proofs.Ytmallgapchjhnaa
set_option maxRecDepth 100000
open Go Go.Ax
attribute [local irreducible] X XL XE XQ PV

theorem pok (b : List CStmt) : POk (pProg b) := ⟨by simp [pProg], by simp [pProg], by simp [pProg], by simp [pProg]⟩
theorem pok0 : POk ⟨[], []⟩ := ⟨by simp, by simp, by simp, by simp⟩
theorem t2pts : t2.points = [⟨0, 1, []⟩, ⟨0, 2, [0]⟩, ⟨0, 3, [0]⟩, ⟨0, 4, [0]⟩] := by kernel_rfl
theorem prog2_c : ∃ b : CBody, b.acts.length = 2 ∧ AC Try.prog 17 [.agg (pPlain 2).cs] [] (RetIs (.tuple [.agg [.list 5 [b.av], iv t2.main, .list 3 (([⟨0, 1, []⟩, ⟨0, 2, [0]⟩, ⟨0, 3, [0]⟩, ⟨0, 4, [0]⟩] : List CPoint).map CPoint.av)], iv 0, iv 0]) []) := by
  have h := program_c (pPlain 2) (pok _) (by decide)
  rw [r2] at h
  obtain ⟨h1, h2⟩ := t2b
  obtain ⟨b, hb⟩ := List.length_eq_one_iff.1 h1
  rw [hb] at h2
  refine ⟨b, by simpa using h2, ?_⟩
  have e : (programF (pPlain 2)).1.av = .agg [.list 5 (t2.bodies.map CBody.av), iv t2.main, .list 3 (t2.points.map CPoint.av)] := rfl
  rw [e, hb, t2pts] at h
  exact h
theorem progY_c : AC Try.prog 17 [.agg pY.cs] [] (RetIs (.tuple [(programF pY).1.av, iv 0, iv 8]) []) := by
  have h := program_c pY (pok _) (by decide)
  rwa [rY] at h
theorem progN_c : AC Try.prog 17 [.agg pNum.cs] [] (RetIs (.tuple [(programF pNum).1.av, iv (programF pNum).2.1, iv 9]) []) := by
  have h := program_c pNum (pok _) (by decide)
  rwa [rN] at h
theorem prog0_c : AC Try.prog 17 [.agg (CProg.mk [] []).cs] [] (RetIs (.tuple [(programF ⟨[], []⟩).1.av, iv 0, iv 8]) []) := by
  have h := program_c ⟨[], []⟩ pok0 (by decide)
  rwa [r0] at h
theorem works_c : AC Try.prog 9 [] [] (RetIs (bv true) []) := by
  obtain ⟨b0, hb0, hp2⟩ := prog2_c
  refine ac_intro Try.func9 rfl rfl fun I w => ?_
  simp only [argEnv]
  refine x_seq ?_
  refine x_region ?_
  refine xl_pv (pv_assign rfl) rfl ?_
  refine xl_nil ?_
  refine xq_norm (xe_code ?_)
  refine x_seq ?_
  refine x_region ?_
  refine xl_go (plain_l 2) rfl (.cons rfl (Wk.refl _) .nil) .d rfl ?_
  refine xl_go (hp2) rfl (.cons rfl (Wk.refl _) .nil) .d rfl ?_
  refine xl_pv (pv_move rfl) rfl ?_
  refine xl_pv (pv_extract rfl rfl) rfl ?_
  refine xl_pv (pv_extract rfl rfl) rfl ?_
  refine xl_pv (pv_extract rfl rfl) rfl ?_
  refine xl_alloc rfl (fun b1 => ?_)
  refine xl_put .h rfl rfl (by first | rfl | (simp [AV.cs, oneB, *]; done) | (simp [AV.cs, oneB, *]; repeat' constructor)) rfl (.c (.c (.c .z))) ?_
  refine xl_pv (pv_assign rfl) rfl ?_
  refine xl_pv (pv_assign rfl) rfl ?_
  refine xl_nil ?_
  refine xq_norm (xe_code ?_)
  refine x_seq ?_
  refine x_region ?_
  refine xl_retE (plain_c 2) rfl (.cons rfl (Wk.refl _) .nil) .nil (fun _ => (.c (.c (.c .n)))) rfl (fun ⟨vf, vl, vk, hvf, hvl, hvk⟩ => ?_)
  dsimp only [memP]
  refine xl_slc .here (fun hs => ?_)
  obtain ⟨gvf, cvf, rfl⟩ := hs.full (by simp)
  refine xl_slc (.there .here) (fun hs => ?_)
  obtain ⟨gvl, cvl, rfl⟩ := hs.full (by simp)
  refine xl_slc (.there (.there .here)) (fun hs => ?_)
  obtain ⟨gvk, cvk, rfl⟩ := hs.full (by simp)
  refine xl_alloc rfl (fun b4 => ?_)
  refine xl_put .h rfl rfl (by first | rfl | (simp [AV.cs, oneB, *]; done) | (simp [AV.cs, oneB, *]; repeat' constructor)) rfl (.c (.c .z)) ?_
  refine xl_nil ?_
  refine xq_norm (xe_code ?_)
  refine x_seq ?_
  refine x_region ?_
  refine xl_pv (pv_field_a rfl) rfl ?_
  refine xl_pv (pv_load1 rfl .here rfl) rfl ?_
  refine xl_pv (pv_at_o rfl rfl (by omega) (by first | omega | (simp; done) | (simp; omega))) rfl ?_
  refine xl_pv (pv_field_a rfl) rfl ?_
  refine xl_pv (pv_load1_o (off := 6) (.there .here) rfl rfl rfl) rfl ?_
  refine xl_pv (pv_at_o rfl rfl (by omega) (by first | omega | (simp; done) | (simp; omega))) rfl ?_
  refine xl_pv (pv_field_a rfl) rfl ?_
  refine xl_vput ([(CStmt.mk 1 1 ⟨#[121]⟩ e0 e0 tyI [.mk 1 2 e0 e0 e0 []] [] []).av, pForAV _]) (.t (.t .h)) rfl rfl (by first | rfl | (simp [AV.cs, oneB, *]; done) | (simp [AV.cs, oneB, *]; repeat' constructor)) rfl (.s (.s (.c .z))) rfl (lits (by rfl)) ?_
  refine xl_nil ?_
  refine xq_norm (xe_code ?_)
  refine x_pube ([(CStmt.mk 1 1 ⟨#[121]⟩ e0 e0 tyI [.mk 1 2 e0 e0 e0 []] [] []).av, pFor.av]) 19 (.there (.there (.there .here))) (.t (.t .h)) rfl (.s (.s (.s (.s (.s (.s (.s (.s (.s (.s (.s (.s (.s (.s (.s (.s (.s (.s (.s (.c .z)))))))))))))))))))) rfl (lits (by rfl)) ?_
  refine x_pube ([(CDecl.mk mainB 1 [] ty0 [.mk 1 1 ⟨#[121]⟩ e0 e0 tyI [.mk 1 2 e0 e0 e0 []] [] [], pFor]).av]) 6 (.there (.there .here)) (.t .h) rfl (.s (.s (.s (.s (.s (.s (.c .z))))))) rfl (lits (by rfl)) ?_
  refine x_pubc 1 (.there .here) .h rfl (.s (.c .z)) ?_
  refine x_seq ?_
  refine x_region ?_
  refine xl_pv (pv_loadN rfl .here rfl) rfl ?_
  refine xl_go (progY_c) rfl (.cons rfl (Wk.refl _) .nil) .d rfl ?_
  refine xl_pv (pv_move rfl) rfl ?_
  refine xl_pv (pv_extract rfl rfl) rfl ?_
  refine xl_pv (pv_extract rfl rfl) rfl ?_
  refine xl_pv (pv_extract rfl rfl) rfl ?_
  refine xl_alloc rfl (fun b5 => ?_)
  refine xl_put .h rfl rfl (by first | rfl | (simp [AV.cs, oneB, *]; done) | (simp [AV.cs, oneB, *]; repeat' constructor)) rfl (.c (.c (.c .z))) ?_
  refine xl_pv (pv_assign rfl) rfl ?_
  refine xl_pv (pv_assign rfl) rfl ?_
  refine xl_nil ?_
  refine xq_norm (xe_code ?_)
  refine x_seq ?_
  refine x_region ?_
  refine xl_retE (plain_c 2) rfl (.cons rfl (Wk.refl _) .nil) .nil (fun _ => (.c (.c (.c .n)))) rfl (fun ⟨vg, vm, vj, hvg, hvm, hvj⟩ => ?_)
  dsimp only [memP]
  refine xl_slc .here (fun hs => ?_)
  obtain ⟨gvg, cvg, rfl⟩ := hs.full (by simp)
  refine xl_slc (.there .here) (fun hs => ?_)
  obtain ⟨gvm, cvm, rfl⟩ := hs.full (by simp)
  refine xl_slc (.there (.there .here)) (fun hs => ?_)
  obtain ⟨gvj, cvj, rfl⟩ := hs.full (by simp)
  refine xl_alloc rfl (fun b8 => ?_)
  refine xl_put .h rfl rfl (by first | rfl | (simp [AV.cs, oneB, *]; done) | (simp [AV.cs, oneB, *]; repeat' constructor)) rfl (.c (.c .z)) ?_
  refine xl_nil ?_
  refine xq_norm (xe_code ?_)
  refine x_seq ?_
  refine x_draw rfl ?_
  refine xd_v 0 rfl rfl rfl (gv_v (pv_field_a rfl) rfl) ?_
  refine xd_v 1 rfl rfl rfl (gv_v (pv_load1 rfl .here rfl) rfl) ?_
  refine xd_v 2 rfl rfl rfl (gv_v (pv_at_o rfl rfl (by omega) (by first | omega | (simp; done) | (simp; omega))) rfl) ?_
  refine xd_v 3 rfl rfl rfl (gv_v (pv_field_a rfl) rfl) ?_
  refine xd_v 4 rfl rfl rfl (gv_v (pv_load1_o (off := 6) (.there .here) rfl rfl rfl) rfl) ?_
  refine xd_v 5 rfl rfl rfl (gv_v (pv_at_o rfl rfl (by omega) (by first | omega | (simp; done) | (simp; omega))) rfl) ?_
  refine xd_v 6 rfl rfl rfl (gv_v (pv_field_a rfl) rfl) ?_
  refine xd_v 7 rfl rfl rfl (gv_v (pv_load1_o (off := 8) (.there (.there .here)) rfl rfl rfl) rfl) ?_
  refine xd_e rfl 8 rfl rfl rfl (by rintro _ ⟨⟩ <;> exact Nat.le_of_ble_eq_true rfl) rfl (ev_go (num_c 1) rfl (.cons rfl (Wk.refl _) .nil) .d) ?_
  rintro _ _ ⟨rfl, rfl⟩
  refine ⟨?_, ?_⟩
  · skip
    intro m hm o' y ho hy
    have hm' : m ∈ [7, 6, 5, 4, 3, 2, 1, 0] := hm
    clear hm
    rcases List.mem_cons.1 hm' with rfl | hm'
    · cases ho; cases hy
      exact gv_v (pv_load1_o (off := 8) (.there (.there .here)) rfl rfl rfl) rfl
    rcases List.mem_cons.1 hm' with rfl | hm'
    · cases ho; cases hy
      exact gv_v (pv_field_a rfl) rfl
    rcases List.mem_cons.1 hm' with rfl | hm'
    · cases ho; cases hy
      exact gv_v (pv_at_o rfl rfl (by omega) (by first | omega | (simp; done) | (simp; omega))) rfl
    rcases List.mem_cons.1 hm' with rfl | hm'
    · cases ho; cases hy
      exact gv_v (pv_load1_o (off := 6) (.there .here) rfl rfl rfl) rfl
    rcases List.mem_cons.1 hm' with rfl | hm'
    · cases ho; cases hy
      exact gv_v (pv_field_a rfl) rfl
    rcases List.mem_cons.1 hm' with rfl | hm'
    · cases ho; cases hy
      exact gv_v (pv_at_o rfl rfl (by omega) (by first | omega | (simp; done) | (simp; omega))) rfl
    rcases List.mem_cons.1 hm' with rfl | hm'
    · cases ho; cases hy
      exact gv_v (pv_load1 rfl .here rfl) rfl
    rcases List.mem_cons.1 hm' with rfl | hm'
    · cases ho; cases hy
      exact gv_v (pv_field_a rfl) rfl
    cases hm'
  refine xd_v 9 rfl rfl rfl (gv_v (pv_at_o rfl rfl (by omega) (by first | omega | (simp; done) | (simp; omega))) rfl) ?_
  refine xd_e rfl 10 rfl rfl rfl (by rintro _ ⟨⟩ <;> exact Nat.le_of_ble_eq_true rfl) rfl (ev_vput ([(CExp.mk 1 1 e0 e0 e0 []).av]) (.t (.t (.t .h))) rfl rfl (by first | rfl | (simp [AV.cs, oneB, *]; done) | (simp [AV.cs, oneB, *]; repeat' constructor)) rfl (.c (.c (.c (.c (.c (.c .z)))))) rfl (lits (by rfl))) ?_
  rintro _ _ ⟨rfl, rfl⟩
  refine ⟨?_, ?_⟩
  · skip
    intro m hm; cases hm
  refine xd_end rfl rfl rfl rfl ?_
  refine xq_sub (.cons (i := 8) rfl (.cons (i := 7) rfl (.cons (i := 6) rfl (.cons (i := 3) rfl (.cons (i := 2) rfl (.cons (i := 1) rfl (.cons (i := 0) rfl (.nil _)))))))) ?_
  refine xq_norm (xe_code ?_)
  refine x_pube ([(pVar 2).av, (CStmt.mk 7 2 e0 e0 e0 ty0 [.mk 1 1 e0 e0 e0 []] pIn []).av]) 19 (.there (.there (.there .here))) (.t (.t .h)) rfl (.s (.s (.s (.s (.s (.s (.s (.s (.s (.s (.s (.s (.s (.s (.s (.s (.s (.s (.s (.c .z)))))))))))))))))))) rfl (lits (by rfl)) ?_
  refine x_pube ([(CDecl.mk mainB 1 [] ty0 [pVar 2, .mk 7 2 e0 e0 e0 ty0 [.mk 1 1 e0 e0 e0 []] pIn []]).av]) 6 (.there (.there .here)) (.t .h) rfl (.s (.s (.s (.s (.s (.s (.c .z))))))) rfl (lits (by rfl)) ?_
  refine x_pubc 1 (.there .here) .h rfl (.s (.c .z)) ?_
  refine x_seq ?_
  refine x_region ?_
  refine xl_pv (pv_loadN rfl .here rfl) rfl ?_
  refine xl_go (progN_c) rfl (.cons rfl (Wk.refl _) .nil) .d rfl ?_
  refine xl_pv (pv_move rfl) rfl ?_
  refine xl_pv (pv_extract rfl rfl) rfl ?_
  refine xl_pv (pv_extract rfl rfl) rfl ?_
  refine xl_pv (pv_extract rfl rfl) rfl ?_
  refine xl_alloc rfl (fun b9 => ?_)
  refine xl_put .h rfl rfl (by first | rfl | (simp [AV.cs, oneB, *]; done) | (simp [AV.cs, oneB, *]; repeat' constructor)) rfl (.c (.c (.c .z))) ?_
  refine xl_pv (pv_assign rfl) rfl ?_
  refine xl_pv (pv_assign rfl) rfl ?_
  refine xl_nil ?_
  refine xq_norm (xe_code ?_)
  refine x_seq ?_
  refine x_region ?_
  refine xl_pv (pv_wk (.agg (CProg.mk [] []).cs) (pv_build (by exact .nil)) (by repeat (first | exact Wk.refl _ | exact Wk.nil _ | exact All2.nil | refine Wk.tuple ?_ | refine Wk.agg ?_ | refine All2.cons ?_ ?_))) rfl ?_
  refine xl_go (prog0_c) rfl (.cons rfl (Wk.refl _) .nil) .d rfl ?_
  refine xl_pv (pv_move rfl) rfl ?_
  refine xl_pv (pv_extract rfl rfl) rfl ?_
  refine xl_pv (pv_extract rfl rfl) rfl ?_
  refine xl_pv (pv_extract rfl rfl) rfl ?_
  refine xl_alloc rfl (fun b12 => ?_)
  refine xl_put .h rfl rfl (by first | rfl | (simp [AV.cs, oneB, *]; done) | (simp [AV.cs, oneB, *]; repeat' constructor)) rfl (.c (.c (.c .z))) ?_
  refine xl_pv (pv_assign rfl) rfl ?_
  refine xl_pv (pv_assign rfl) rfl ?_
  refine xl_nil ?_
  refine xq_norm (xe_code ?_)
  refine x_seq ?_
  refine x_region ?_
  refine xl_pv (pv_move rfl) rfl ?_
  refine xl_pv (pv_bin rfl rfl (v := .bool true) (by rfl)) rfl ?_
  refine xl_pv (pv_move rfl) rfl ?_
  refine xl_take rfl rfl rfl ?_
  refine xl_pv (pv_move rfl) rfl ?_
  refine xl_take rfl rfl rfl ?_
  refine xl_pv (pv_bin rfl rfl (v := .bool true) (by rfl)) rfl ?_
  refine xl_pv (pv_pick_t rfl rfl) rfl ?_
  refine xl_pv (pv_move rfl) rfl ?_
  refine xl_take rfl rfl rfl ?_
  refine xl_pv (pv_field_a rfl) rfl ?_
  refine xl_take rfl rfl rfl ?_
  refine xl_pv (pv_load1 rfl (.there (.there (.there (.there (.there .here))))) rfl) rfl ?_
  refine xl_take rfl rfl rfl ?_
  refine xl_pv (pv_len rfl) rfl ?_
  refine xl_take rfl rfl rfl ?_
  refine xl_pv (pv_bin rfl rfl (v := .bool true) (by rfl)) rfl ?_
  refine xl_pv (pv_pick_t rfl rfl) rfl ?_
  refine xl_pv (pv_move rfl) rfl ?_
  refine xl_take rfl rfl rfl ?_
  refine xl_pv (pv_field_a rfl) rfl ?_
  refine xl_take rfl rfl rfl ?_
  refine xl_pv (pv_load1 rfl (.there (.there (.there (.there (.there .here))))) rfl) rfl ?_
  refine xl_take rfl rfl rfl ?_
  refine xl_pv (pv_at rfl rfl (by omega) (rfl)) rfl ?_
  refine xl_take rfl rfl rfl ?_
  refine xl_pv (pv_field_i rfl) rfl ?_
  refine xl_take rfl rfl rfl ?_
  refine xl_pv (pv_load1_i rfl rfl) rfl ?_
  refine xl_take rfl rfl rfl ?_
  refine xl_pv (pv_bin rfl rfl (v := .bool true) (by rfl)) rfl ?_
  refine xl_pv (pv_pick_t rfl rfl) rfl ?_
  refine xl_pv (pv_move rfl) rfl ?_
  refine xl_take rfl rfl rfl ?_
  refine xl_pv (pv_field_a rfl) rfl ?_
  refine xl_take rfl rfl rfl ?_
  refine xl_pv (pv_load1 rfl (.there (.there (.there (.there (.there .here))))) rfl) rfl ?_
  refine xl_take rfl rfl rfl ?_
  refine xl_pv (pv_at rfl rfl (by omega) (rfl)) rfl ?_
  refine xl_take rfl rfl rfl ?_
  refine xl_pv (pv_field_i rfl) rfl ?_
  refine xl_take rfl rfl rfl ?_
  refine xl_pv (pv_load1_i rfl rfl) rfl ?_
  refine xl_take rfl rfl rfl ?_
  refine xl_pv (pv_len rfl) rfl ?_
  refine xl_take rfl rfl rfl ?_
  refine xl_pv (pv_bin rfl rfl (v := .bool true) (by rfl)) rfl ?_
  refine xl_pv (pv_pick_t rfl rfl) rfl ?_
  refine xl_pv (pv_move rfl) rfl ?_
  refine xl_take rfl rfl rfl ?_
  refine xl_pv (pv_field_a rfl) rfl ?_
  refine xl_take rfl rfl rfl ?_
  refine xl_pv (pv_load1 rfl (.there (.there (.there (.there (.there .here))))) rfl) rfl ?_
  refine xl_take rfl rfl rfl ?_
  refine xl_pv (pv_at rfl rfl (by omega) (rfl)) rfl ?_
  refine xl_take rfl rfl rfl ?_
  refine xl_pv (pv_field_i rfl) rfl ?_
  refine xl_take rfl rfl rfl ?_
  refine xl_pv (pv_load1_i rfl rfl) rfl ?_
  refine xl_take rfl rfl rfl ?_
  refine xl_pv (pv_len rfl) rfl ?_
  refine xl_take rfl rfl rfl ?_
  refine xl_pv (pv_bin rfl rfl (v := .bool true) (by rfl)) rfl ?_
  refine xl_pv (pv_pick_t rfl rfl) rfl ?_
  refine xl_pv (pv_move rfl) rfl ?_
  refine xl_take rfl rfl rfl ?_
  refine xl_pv (pv_field_a rfl) rfl ?_
  refine xl_take rfl rfl rfl ?_
  refine xl_pv (pv_load1 rfl (.there (.there (.there (.there (.there .here))))) rfl) rfl ?_
  refine xl_take rfl rfl rfl ?_
  refine xl_pv (pv_len rfl) rfl ?_
  refine xl_take rfl rfl rfl ?_
  refine xl_pv (pv_bin rfl rfl (v := .bool true) (by rfl)) rfl ?_
  refine xl_pv (pv_pick_t rfl rfl) rfl ?_
  refine xl_pv (pv_move rfl) rfl ?_
  refine xl_take rfl rfl rfl ?_
  refine xl_pv (pv_field_a rfl) rfl ?_
  refine xl_take rfl rfl rfl ?_
  refine xl_pv (pv_load1 rfl (.there (.there (.there (.there (.there .here))))) rfl) rfl ?_
  refine xl_take rfl rfl rfl ?_
  refine xl_pv (pv_at rfl rfl (by omega) (rfl)) rfl ?_
  refine xl_take rfl rfl rfl ?_
  refine xl_pv (pv_field_i rfl) rfl ?_
  refine xl_take rfl rfl rfl ?_
  refine xl_pv (pv_load1_i rfl rfl) rfl ?_
  refine xl_take rfl rfl rfl ?_
  refine xl_pv (pv_len rfl) rfl ?_
  refine xl_take rfl rfl rfl ?_
  refine xl_pv (pv_bin rfl rfl (v := .bool true) (by simp [intBin, hb0])) rfl ?_
  refine xl_pv (pv_pick_t rfl rfl) rfl ?_
  refine xl_pv (pv_move rfl) rfl ?_
  refine xl_take rfl rfl rfl ?_
  refine xl_pv (pv_move rfl) rfl ?_
  refine xl_take rfl rfl rfl ?_
  refine xl_pv (pv_bin rfl rfl (v := .bool true) (by rfl)) rfl ?_
  refine xl_pv (pv_pick_t rfl rfl) rfl ?_
  refine xl_pv (pv_move rfl) rfl ?_
  refine xl_take rfl rfl rfl ?_
  refine xl_pv (pv_move rfl) rfl ?_
  refine xl_take rfl rfl rfl ?_
  refine xl_pv (pv_bin rfl rfl (v := .bool true) (by rfl)) rfl ?_
  refine xl_pv (pv_pick_t rfl rfl) rfl ?_
  refine xl_pv (pv_move rfl) rfl ?_
  refine xl_take rfl rfl rfl ?_
  refine xl_pv (pv_move rfl) rfl ?_
  refine xl_take rfl rfl rfl ?_
  refine xl_pv (pv_bin rfl rfl (v := .bool true) (by rfl)) rfl ?_
  refine xl_pv (pv_pick_t rfl rfl) rfl ?_
  refine xl_pv (pv_move rfl) rfl ?_
  refine xl_take rfl rfl rfl ?_
  refine xl_pv (pv_move rfl) rfl ?_
  refine xl_take rfl rfl rfl ?_
  refine xl_pv (pv_bin rfl rfl (v := .bool true) (by rfl)) rfl ?_
  refine xl_pv (pv_pick_t rfl rfl) rfl ?_
  refine xl_pv (pv_move rfl) rfl ?_
  refine xl_take rfl rfl rfl ?_
  refine xl_pv (pv_move rfl) rfl ?_
  refine xl_take rfl rfl rfl ?_
  refine xl_pv (pv_bin rfl rfl (v := .bool true) (by rfl)) rfl ?_
  refine xl_pv (pv_pick_t rfl rfl) rfl ?_
  refine xl_pv (pv_assign rfl) rfl ?_
  refine xl_nil ?_
  refine xq_norm (xe_code ?_)
  refine x_ret ?_
  refine xq_drop .here ?_
  refine xq_drop .here ?_
  refine xq_drop .here ?_
  refine xq_drop .here ?_
  refine xq_drop .here ?_
  refine xq_drop .here ?_
  refine xq_done (.inr rfl) _ (res1 rfl rfl) ?_
  exact ⟨rfl, rfl⟩
end Go.Proofs.Ytmallgapchjhnaa
