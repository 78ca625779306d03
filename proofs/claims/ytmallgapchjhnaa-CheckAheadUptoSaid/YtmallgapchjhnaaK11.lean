/- The checker's statements: its methods say what the plain functions say. No condition: plain theorems. -/
import Derived.Test.YtmallgapchjhnaaK10
set_option linter.unusedVariables false
set_option linter.unusedSimpArgs false
namespace Go.Proofs.Ytmallgapchjhnaa
set_option maxRecDepth 100000
open Go Go.Ax
attribute [local irreducible] X XL XE XQ PV

def ptS (fn line : Int) (st : CSt) : CSt := ⟨st.points ++ [⟨fn, line, st.scope⟩], st.vars, st.scope⟩
structure POk (P : CProg) : Prop where
  st : P.structs.length ≤ 2 ^ 39
  fs : ∀ s ∈ P.structs, s.fields.length ≤ 2 ^ 40
  fn : P.funcs.length ≤ 2 ^ 39
  pa : ∀ d ∈ P.funcs, d.params.length ≤ 2 ^ 39
/-- if and for. -/
def listsF (P : CProg) (fn p kind : Int) (body els : List CStmt) (r : Except Int (List CVal)) (st1 : CSt) : SR CAct := match r with
  | .error e => .err e
  | .ok l => match goF P fn body st1 with
    | .err e => .err e
    | .ok b st2 => if kind = 6 then (match goF P fn els (cut st1 st2) with
        | .err e => .err e
        | .ok c st3 => .ok (.mk kind p (-1) 0 (-1) l b c) (cut (cut st1 st2) st3))
      else .ok (.mk kind p (-1) 0 (-1) l b []) (cut st1 st2)
theorem stmt_of (P : CProg) (fn : Int) (hP : POk P) (hf0 : 0 ≤ fn) {d : CDecl} (hfd : P.funcs[fn.toNat]? = some d) (s : CStmt) (hbody : ListC P fn s.body) (hels : ListC P fn s.els) : StmtC P fn s := by
  intro c bo mn vp vv vc st hb
  obtain ⟨s1, s2, s3, s4, s5, ⟨t1, t2, t3⟩, s7, s8, s9⟩ := s
  simp only [CStmt.body, CStmt.els] at hbody hels
  have hszE : CExp.szs s7 + (CStmt.szs s8 + CStmt.szs s9) + 1 = (CStmt.mk s1 s2 s3 s4 s5 ⟨t1, t2, t3⟩ s7 s8 s9).sz := by rw [CStmt.sz]; omega
  have hbp := hb.p
  have hbv := hb.v
  have hbs := hb.s
  have hst := hP.st
  have hfn := hP.fn
  have hpa : ∀ d ∈ P.funcs, d.params.length ≤ 2 ^ 40 := fun d hd => Nat.le_trans (hP.pa d hd) (by decide)
  have hX := vals_c st.vars st.scope s7 (by omega) (by omega) hb.f (by omega)
  have hS : ¬ (s1 = 6 ∨ s1 = 7) → stmtF P fn (.mk s1 s2 s3 s4 s5 ⟨t1, t2, t3⟩ s7 s8 s9) st = simpleF P fn st st.points.length s1 s3 s4 s5 ⟨t1, t2, t3⟩ (expsF st.vars st.scope s7) (ptS fn s2 st) := fun h => by rw [stmtF, if_neg h]; rfl
  refine ac_intro Try.func80 rfl rfl fun I w => ?_
  simp only [argEnv]
  refine x_seq ?_
  refine x_region ?_
  refine xl_box rfl (by rfl) rfl (fun b3 => ?_)
  refine xl_alloc rfl (fun b4 => ?_)
  refine xl_nil ?_
  refine xq_norm (xe_code ?_)
  refine x_seq ?_
  refine x_draw rfl ?_
  refine xd_v 0 rfl rfl rfl (gv_v (pv_field_a rfl) rfl) ?_
  refine xd_v 1 rfl rfl rfl (gv_v (pv_load1 rfl (.there .here) rfl) rfl) ?_
  refine xd_v 2 rfl rfl rfl (gv_v (pv_move rfl) rfl) ?_
  refine xd_v 3 rfl rfl rfl (gv_v (pv_nil rfl) rfl) ?_
  refine xd_v 4 rfl rfl rfl (gv_v (pv_field_a rfl) rfl) ?_
  refine xd_v 5 rfl rfl rfl (gv_v (pv_field_a rfl) rfl) ?_
  refine xd_v 6 rfl rfl rfl (gv_v (pv_load1 rfl (.there (.there .here)) rfl) rfl) ?_
  refine xd_v 7 rfl rfl rfl (gv_v (pv_len_o (.there (.there (.there .here))) rfl) rfl) ?_
  refine xd_v 8 rfl rfl rfl (gv_v (pv_build (by exact (.cons rfl rfl rfl (by first | rfl | (simp [AV.cs, oneB, *]; done) | (simp [AV.cs, oneB, *]; repeat' constructor)) (.c .z) (.cons rfl rfl rfl (by first | rfl | (simp [AV.cs, oneB, *]; done) | (simp [AV.cs, oneB, *]; repeat' constructor)) (.s (.c .z)) (.cons rfl rfl rfl (by first | rfl | (simp [AV.cs, oneB, *]; done) | (simp [AV.cs, oneB, *]; repeat' constructor)) (.s (.s (.c .z))) (.cons rfl rfl rfl (by first | rfl | (simp [AV.cs, oneB, *]; done) | (simp [AV.cs, oneB, *]; repeat' constructor)) (.s (.s (.s (.s (.c .z))))) .nil)))))) rfl) ?_
  refine xd_e rfl 9 rfl rfl rfl (by rintro _ ⟨⟩ <;> exact Nat.le_of_ble_eq_true rfl) rfl ev_alloc ?_
  rintro _ _ ⟨b5, rfl, rfl⟩
  refine ⟨?_, ?_⟩
  · skip
    intro m hm o' y ho hy
    have hm' : m ∈ [8, 7, 6, 5, 4, 3, 2, 1, 0] := hm
    clear hm
    rcases List.mem_cons.1 hm' with rfl | hm'
    · cases ho; cases hy
      exact gv_v (pv_build (by exact (.cons rfl rfl rfl (by first | rfl | (simp [AV.cs, oneB, *]; done) | (simp [AV.cs, oneB, *]; repeat' constructor)) (.c .z) (.cons rfl rfl rfl (by first | rfl | (simp [AV.cs, oneB, *]; done) | (simp [AV.cs, oneB, *]; repeat' constructor)) (.s (.c .z)) (.cons rfl rfl rfl (by first | rfl | (simp [AV.cs, oneB, *]; done) | (simp [AV.cs, oneB, *]; repeat' constructor)) (.s (.s (.c .z))) (.cons rfl rfl rfl (by first | rfl | (simp [AV.cs, oneB, *]; done) | (simp [AV.cs, oneB, *]; repeat' constructor)) (.s (.s (.s (.s (.c .z))))) .nil)))))) rfl
    rcases List.mem_cons.1 hm' with rfl | hm'
    · cases ho; cases hy
      exact gv_v (pv_len_o (.there (.there (.there (.there .here)))) rfl) rfl
    rcases List.mem_cons.1 hm' with rfl | hm'
    · cases ho; cases hy
      exact gv_v (pv_load1 rfl (.there (.there (.there .here))) rfl) rfl
    rcases List.mem_cons.1 hm' with rfl | hm'
    · cases ho; cases hy
      exact gv_v (pv_field_a rfl) rfl
    rcases List.mem_cons.1 hm' with rfl | hm'
    · cases ho; cases hy
      exact gv_v (pv_field_a rfl) rfl
    rcases List.mem_cons.1 hm' with rfl | hm'
    · cases ho; cases hy
      exact gv_v (pv_nil rfl) rfl
    rcases List.mem_cons.1 hm' with rfl | hm'
    · cases ho; cases hy
      exact gv_v (pv_move rfl) rfl
    rcases List.mem_cons.1 hm' with rfl | hm'
    · cases ho; cases hy
      exact gv_v (pv_load1 rfl (.there (.there .here)) rfl) rfl
    rcases List.mem_cons.1 hm' with rfl | hm'
    · cases ho; cases hy
      exact gv_v (pv_field_a rfl) rfl
    cases hm'
  refine xd_e rfl 10 rfl rfl rfl (by rintro _ ⟨⟩ <;> exact Nat.le_of_ble_eq_true rfl) rfl (ev_put .h rfl rfl (by first | rfl | (simp [AV.cs, oneB, *]; done) | (simp [AV.cs, oneB, *]; repeat' constructor)) rfl (.c (.c (.c (.c (.c (.c (.c (.c .z))))))))) ?_
  rintro _ _ ⟨rfl, rfl⟩
  refine ⟨?_, ?_⟩
  · skip
    intro m hm; cases hm
  refine xd_end rfl rfl rfl rfl ?_
  refine xq_sub (.cons (i := 5) rfl (.cons (i := 4) rfl (.cons (i := 3) rfl (.cons (i := 0) rfl (.nil _))))) ?_
  refine xq_norm (xe_code ?_)
  refine x_seq ?_
  refine x_draw rfl ?_
  refine xd_v 0 rfl rfl rfl (gv_v (pv_move rfl) rfl) ?_
  refine xd_v 1 rfl rfl rfl (gv_v (pv_move rfl) rfl) ?_
  refine xd_v 2 rfl rfl rfl (gv_v (pv_nil rfl) rfl) ?_
  refine xd_v 3 rfl rfl rfl (gv_v (pv_field_a rfl) rfl) ?_
  refine xd_v 4 rfl rfl rfl (gv_v (pv_field_a rfl) rfl) ?_
  refine xd_v 5 rfl rfl rfl (gv_v (pv_load1 rfl (.there (.there (.there .here))) rfl) rfl) ?_
  refine xd_v 6 rfl rfl rfl (gv_v (pv_move rfl) rfl) ?_
  refine xd_v 7 rfl rfl rfl (gv_v (pv_nil rfl) rfl) ?_
  refine xd_v 8 rfl rfl rfl (gv_v (pv_field_a rfl) rfl) ?_
  refine xd_v 9 rfl rfl rfl (gv_v (pv_load1 rfl (.there (.there (.there .here))) rfl) rfl) ?_
  refine xd_v 10 rfl rfl rfl (gv_v (pv_field_a rfl) rfl) ?_
  refine xd_v 11 rfl rfl rfl (gv_v (pv_load1 rfl (.there (.there .here)) rfl) rfl) ?_
  refine xd_v 12 rfl rfl rfl (gv_v (pv_move rfl) rfl) ?_
  refine xd_v 13 rfl rfl rfl (gv_v (pv_nil rfl) rfl) ?_
  refine xd_v 14 rfl rfl rfl (gv_v (pv_field_a rfl) rfl) ?_
  refine xd_v 15 rfl rfl rfl (gv_v (pv_load1 rfl (.there (.there (.there .here))) rfl) rfl) ?_
  refine xd_e rfl 16 rfl rfl rfl (by rintro _ ⟨⟩ <;> exact Nat.le_of_ble_eq_true rfl) rfl (ev_go (cloneInt vc st.scope (by omega)) rfl (.cons rfl (Wk.refl _) .nil) (.k (.k (.k (.k (.k (.k (.x .d)))))))) ?_
  rintro _ _ ⟨rfl, rfl⟩
  refine ⟨?_, ?_⟩
  · skip
    intro m hm o' y ho hy
    have hm' : m ∈ [14, 13, 12, 11, 10, 9, 8, 7, 6, 5, 4, 3, 2, 1, 0] := hm
    clear hm
    rcases List.mem_cons.1 hm' with rfl | hm'
    · cases ho; cases hy
      exact gv_v (pv_field_a rfl) rfl
    rcases List.mem_cons.1 hm' with rfl | hm'
    · cases ho; cases hy
      exact gv_v (pv_nil rfl) rfl
    rcases List.mem_cons.1 hm' with rfl | hm'
    · cases ho; cases hy
      exact gv_v (pv_move rfl) rfl
    rcases List.mem_cons.1 hm' with rfl | hm'
    · cases ho; cases hy
      exact gv_v (pv_load1 rfl (.there (.there .here)) rfl) rfl
    rcases List.mem_cons.1 hm' with rfl | hm'
    · cases ho; cases hy
      exact gv_v (pv_field_a rfl) rfl
    rcases List.mem_cons.1 hm' with rfl | hm'
    · cases ho; cases hy
      exact gv_v (pv_load1 rfl (.there (.there (.there .here))) rfl) rfl
    rcases List.mem_cons.1 hm' with rfl | hm'
    · cases ho; cases hy
      exact gv_v (pv_field_a rfl) rfl
    rcases List.mem_cons.1 hm' with rfl | hm'
    · cases ho; cases hy
      exact gv_v (pv_nil rfl) rfl
    rcases List.mem_cons.1 hm' with rfl | hm'
    · cases ho; cases hy
      exact gv_v (pv_move rfl) rfl
    rcases List.mem_cons.1 hm' with rfl | hm'
    · cases ho; cases hy
      exact gv_v (pv_load1 rfl (.there (.there (.there .here))) rfl) rfl
    rcases List.mem_cons.1 hm' with rfl | hm'
    · cases ho; cases hy
      exact gv_v (pv_field_a rfl) rfl
    rcases List.mem_cons.1 hm' with rfl | hm'
    · cases ho; cases hy
      exact gv_v (pv_field_a rfl) rfl
    rcases List.mem_cons.1 hm' with rfl | hm'
    · cases ho; cases hy
      exact gv_v (pv_nil rfl) rfl
    rcases List.mem_cons.1 hm' with rfl | hm'
    · cases ho; cases hy
      exact gv_v (pv_move rfl) rfl
    rcases List.mem_cons.1 hm' with rfl | hm'
    · cases ho; cases hy
      exact gv_v (pv_move rfl) rfl
    cases hm'
  refine xd_v 17 rfl rfl rfl (gv_v (pv_build (by exact (.cons rfl rfl rfl (by first | rfl | (simp [AV.cs, oneB, *]; done) | (simp [AV.cs, oneB, *]; repeat' constructor)) (.c .z) (.cons rfl rfl rfl (by first | rfl | (simp [AV.cs, oneB, *]; done) | (simp [AV.cs, oneB, *]; repeat' constructor)) (.s (.c .z)) (.cons rfl rfl rfl (by first | rfl | (simp [AV.cs, oneB, *]; done) | (simp [AV.cs, oneB, *]; repeat' constructor)) (.s (.s (.c .z))) .nil))))) rfl) ?_
  refine xd_v 18 rfl rfl rfl (gv_o (ov_lit (.cons rfl .nil) rfl (by first | (simp [AV.cs]; done) | exact lits (by rfl) | (intro x hx; cases hx with | head => rfl | tail _ h => cases h)) (by rfl) (by decide)) rfl) ?_
  refine xd_e rfl 19 rfl rfl rfl (by rintro _ ⟨⟩ <;> exact Nat.le_of_ble_eq_true rfl) rfl (ev_grow (.t (.t (.t (.t .h)))) rfl rfl (by rfl) (by simp; omega)) ?_
  rintro _ _ ⟨vp_1, hvp_1, rfl, rfl⟩
  refine ⟨?_, ?_⟩
  · skip
    intro m hm o' y ho hy
    have hm' : m ∈ [17, 14, 13, 12, 11, 10, 9, 8, 7, 6, 4, 3, 2, 1, 0] := hm
    clear hm
    rcases List.mem_cons.1 hm' with rfl | hm'
    · cases ho; cases hy
      exact gv_v (pv_build (by exact (.cons rfl rfl rfl (by first | rfl | (simp [AV.cs, oneB, *]; done) | (simp [AV.cs, oneB, *]; repeat' constructor)) (.c .z) (.cons rfl rfl rfl (by first | rfl | (simp [AV.cs, oneB, *]; done) | (simp [AV.cs, oneB, *]; repeat' constructor)) (.s (.c .z)) (.cons rfl rfl rfl (by first | rfl | (simp [AV.cs, oneB, *]; done) | (simp [AV.cs, oneB, *]; repeat' constructor)) (.s (.s (.c .z))) .nil))))) rfl
    rcases List.mem_cons.1 hm' with rfl | hm'
    · cases ho; cases hy
      exact gv_v (pv_field_a rfl) rfl
    rcases List.mem_cons.1 hm' with rfl | hm'
    · cases ho; cases hy
      exact gv_v (pv_nil rfl) rfl
    rcases List.mem_cons.1 hm' with rfl | hm'
    · cases ho; cases hy
      exact gv_v (pv_move rfl) rfl
    rcases List.mem_cons.1 hm' with rfl | hm'
    · cases ho; cases hy
      exact gv_v (pv_load1 rfl (.there (.there .here)) rfl) rfl
    rcases List.mem_cons.1 hm' with rfl | hm'
    · cases ho; cases hy
      exact gv_v (pv_field_a rfl) rfl
    rcases List.mem_cons.1 hm' with rfl | hm'
    · cases ho; cases hy
      exact gv_v (pv_load1 rfl (.there (.there (.there .here))) rfl) rfl
    rcases List.mem_cons.1 hm' with rfl | hm'
    · cases ho; cases hy
      exact gv_v (pv_field_a rfl) rfl
    rcases List.mem_cons.1 hm' with rfl | hm'
    · cases ho; cases hy
      exact gv_v (pv_nil rfl) rfl
    rcases List.mem_cons.1 hm' with rfl | hm'
    · cases ho; cases hy
      exact gv_v (pv_move rfl) rfl
    rcases List.mem_cons.1 hm' with rfl | hm'
    · cases ho; cases hy
      exact gv_v (pv_field_a rfl) rfl
    rcases List.mem_cons.1 hm' with rfl | hm'
    · cases ho; cases hy
      exact gv_v (pv_field_a rfl) rfl
    rcases List.mem_cons.1 hm' with rfl | hm'
    · cases ho; cases hy
      exact gv_v (pv_nil rfl) rfl
    rcases List.mem_cons.1 hm' with rfl | hm'
    · cases ho; cases hy
      exact gv_v (pv_move rfl) rfl
    rcases List.mem_cons.1 hm' with rfl | hm'
    · cases ho; cases hy
      exact gv_v (pv_move rfl) rfl
    cases hm'
  refine xd_v 20 rfl rfl rfl (gv_v (pv_nil rfl) rfl) ?_
  refine xd_v 21 rfl rfl rfl (gv_v (pv_field_a rfl) rfl) ?_
  refine xd_v 22 rfl rfl rfl (gv_v (pv_field_a rfl) rfl) ?_
  refine xd_e rfl 23 rfl rfl rfl (by rintro _ ⟨⟩ <;> exact Nat.le_of_ble_eq_true rfl) rfl (ev_put (.t (.t (.t .h))) rfl rfl (by simp [AV.cs, oneB, hvp_1]) rfl (.s (.s (.s (.s (.c .z)))))) ?_
  rintro _ _ ⟨rfl, rfl⟩
  refine ⟨?_, ?_⟩
  · skip
    intro m hm o' y ho hy
    have hm' : m ∈ [21, 20] := hm
    clear hm
    rcases List.mem_cons.1 hm' with rfl | hm'
    · cases ho; cases hy
      exact gv_v (pv_field_a rfl) rfl
    rcases List.mem_cons.1 hm' with rfl | hm'
    · cases ho; cases hy
      exact gv_v (pv_nil rfl) rfl
    cases hm'
  refine xd_end rfl rfl rfl rfl ?_
  refine xq_sub (.cons (i := 5) rfl (.cons (i := 4) rfl (.cons (i := 3) rfl (.cons (i := 0) rfl (.nil _))))) ?_
  refine xq_veq (xs' := ((ptS fn s2 st).points.map CPoint.av)) (.t (.t (.t (.t .h)))) (by simp [ptS, CPoint.av]) ?_
  refine xq_norm (xe_code ?_)
  refine x_seq ?_
  refine x_seq ?_
  refine x_region ?_
  refine xl_pv (pv_field_a rfl) rfl ?_
  refine xl_pv (pv_load1 rfl (.there (.there .here)) rfl) rfl ?_
  refine xl_nil ?_
  refine xq_norm (xe_code ?_)
  refine x_block ?_
  refine x_seq ?_
  refine x_region ?_
  refine xl_pv (pv_bin rfl rfl rfl) rfl ?_
  refine xl_pv (pv_assign rfl) rfl ?_
  refine xl_nil ?_
  refine xq_norm (xe_code ?_)
  refine x_condT rfl (fun h1 => ?_) (fun h1 => ?_)
  · skip
    have e1 : s1 = 1 := of_decide_eq_true h1
    have hS := hS (by omega)
    rw [simpleF, if_pos e1] at hS
    rcases hV : variableF P st.vars s3 ⟨t1, t2, t3⟩ (expsF st.vars st.scope s7) with e | ⟨l, v⟩
    · skip
      rw [hV] at hS
      refine x_region ?_
      refine xl_pv (pv_move rfl) rfl ?_
      refine xl_pv (pv_loadN rfl (.there (.there .here)) rfl) rfl ?_
      refine xl_diesE (variable_err P st.vars st.scope (.mk s1 s2 s3 s4 s5 ⟨t1, t2, t3⟩ s7 s8 s9) (by omega) (by omega) (by omega) hP.fs hX b5 c _ _ _ _ _ _ _ bo mn (.val vp_1) fn vv vc hV) rfl (.cons rfl (Wk.refl _) (.cons rfl (Wk.refl _) (.cons rfl (Wk.refl _) .nil))) (.x (.k (.k (.x (.k (.x (.x .d))))))) rfl (fun q => ?_)
      refine xq_bpanic ?_
      refine xq_panic ?_
      refine xq_drop .here ?_
      refine xq_drop .here ?_
      refine xq_drop .here ?_
      refine xq_died ?_
      rw [hS]; exact ⟨⟨vp_1, vv, vc, (ptS fn s2 st).points, (ptS fn s2 st).vars⟩, rfl, rfl⟩
    · skip
      rw [hV] at hS
      refine x_region ?_
      refine xl_pv (pv_move rfl) rfl ?_
      refine xl_pv (pv_loadN rfl (.there (.there .here)) rfl) rfl ?_
      refine xl_goE (variable_ok P st.vars st.scope (.mk s1 s2 s3 s4 s5 ⟨t1, t2, t3⟩ s7 s8 s9) (by omega) (by omega) (by omega) hP.fs hX b5 c _ _ _ _ _ _ _ bo mn (.val vp_1) fn vv vc hV) rfl (.cons rfl (Wk.refl _) (.cons rfl (Wk.refl _) (.cons rfl (Wk.refl _) .nil))) (.x (.k (.k (.x (.k (.x (.x .d))))))) rfl (fun q => ?_)
      refine xl_nil ?_
      refine xq_bnorm ?_
      refine xq_norm (xe_code ?_)
      refine x_seq ?_
      refine x_region ?_
      refine xl_pv (pv_loadN rfl .here rfl) rfl ?_
      refine xl_put (.t .h) rfl rfl (by first | rfl | (simp [AV.cs, oneB, *]; done) | (simp [AV.cs, oneB, *]; repeat' constructor)) rfl (.c (.c (.c (.c (.c (.c (.c (.c .z)))))))) ?_
      refine xl_nil ?_
      refine xq_norm (xe_code ?_)
      refine x_ret ?_
      refine xq_doneW (.inr rfl) ((CAct.mk s1 st.points.length st.vars.length 0 (-1) l [] []).av) (resC rfl (cr_N rfl (.there .here) rfl)) (drop_one .here (drop_one .here (drop_one .here drop_nil))) ((by repeat (first | exact Wk.refl _ | exact Wk.nil _ | exact All2.nil | refine Wk.tuple ?_ | refine Wk.agg ?_ | refine All2.cons ?_ ?_ | exact Wk.of_eq (by rw [CAct.avs_eq]; rfl) | exact Wk.of_eq (by simp; done)))) ?_
      rw [hS]; exact ⟨⟨vp_1, q.1, q.2⟩, rfl, rfl⟩
  · skip
    have n1 : ¬ s1 = 1 := of_decide_eq_false h1
    refine x_join0 [(51, bv (decide (s1 = 2) || decide (s1 = 3) || decide (s1 = 4) || decide (s1 = 9)))] (.cons (i := 40) rfl (.cons (i := 5) rfl (.cons (i := 4) rfl (.cons (i := 3) rfl (.cons (i := 0) rfl (.nil _)))))) ?_ ?_
    · skip
      refine x_seq ?_
      refine x_region ?_
      refine xl_pv (pv_bin rfl rfl rfl) rfl ?_
      refine xl_pv (pv_assign rfl) rfl ?_
      refine xl_nil ?_
      refine xq_norm (xe_code ?_)
      refine x_condT rfl (fun h2 => ?_) (fun h2 => ?_)
      · skip
        refine x_skip ?_
        refine xq_meetF (.cons_wk (i := 51) rfl (Wk.of_eq (by simp at h2; simp [h2])) (.cons rfl (.cons rfl (.cons rfl (.cons rfl (.cons rfl (.nil _))))))) rfl
      · skip
        refine x_seq ?_
        refine x_region ?_
        refine xl_pv (pv_bin rfl rfl rfl) rfl ?_
        refine xl_pv (pv_assign rfl) rfl ?_
        refine xl_nil ?_
        refine xq_norm (xe_code ?_)
        refine x_condT rfl (fun h3 => ?_) (fun h3 => ?_)
        · skip
          refine x_skip ?_
          refine xq_meetF (.cons_wk (i := 51) rfl (Wk.of_eq (by simp at h2 h3; simp [h2, h3])) (.cons rfl (.cons rfl (.cons rfl (.cons rfl (.cons rfl (.nil _))))))) rfl
        · skip
          refine x_seq ?_
          refine x_region ?_
          refine xl_pv (pv_bin rfl rfl rfl) rfl ?_
          refine xl_pv (pv_assign rfl) rfl ?_
          refine xl_nil ?_
          refine xq_norm (xe_code ?_)
          refine x_condT rfl (fun h4 => ?_) (fun h4 => ?_)
          · skip
            refine x_skip ?_
            refine xq_meetF (.cons_wk (i := 51) rfl (Wk.of_eq (by simp at h2 h3 h4; simp [h2, h3, h4])) (.cons rfl (.cons rfl (.cons rfl (.cons rfl (.cons rfl (.nil _))))))) rfl
          · skip
            refine x_region ?_
            refine xl_pv (pv_bin rfl rfl rfl) rfl ?_
            refine xl_pv (pv_assign rfl) rfl ?_
            refine xl_nil ?_
            refine xq_meetF (.cons_wk (i := 51) rfl (Wk.of_eq (by simp at h2 h3 h4; simp [h2, h3, h4])) (.cons rfl (.cons rfl (.cons rfl (.cons rfl (.cons rfl (.nil _))))))) rfl
    simp only [List.cons_append, List.nil_append]
    refine x_condT rfl (fun h5 => ?_) (fun h5 => ?_)
    · skip
      have e2 : s1 = 2 ∨ s1 = 3 ∨ s1 = 4 ∨ s1 = 9 := by simp at h5; omega
      have hS := hS (by omega)
      rw [simpleF, if_neg n1, if_pos e2] at hS
      rcases hV : assignF st.vars st.scope s1 s3 s4 (expsF st.vars st.scope s7) with e | ⟨k, f, l⟩
      · skip
        rw [hV] at hS
        refine x_region ?_
        refine xl_pv (pv_move rfl) rfl ?_
        refine xl_pv (pv_loadN rfl (.there (.there .here)) rfl) rfl ?_
        refine xl_diesE (assign_err P st.vars st.scope (.mk s1 s2 s3 s4 s5 ⟨t1, t2, t3⟩ s7 s8 s9) (by omega) (by omega) hb.f hX b5 c _ _ _ _ _ _ _ _ bo mn (.val vp_1) fn vv vc hV e2) rfl (.cons rfl (Wk.refl _) (.cons rfl (Wk.refl _) (.cons rfl (Wk.refl _) .nil))) (.x (.k (.k (.x (.k (.x (.x .d))))))) rfl (fun q => ?_)
        refine xq_bpanic ?_
        refine xq_panic ?_
        refine xq_drop .here ?_
        refine xq_drop .here ?_
        refine xq_drop .here ?_
        refine xq_died ?_
        rw [hS]; exact ⟨⟨vp_1, vv, vc, (ptS fn s2 st).points, (ptS fn s2 st).vars⟩, rfl, rfl⟩
      · skip
        rw [hV] at hS
        refine x_region ?_
        refine xl_pv (pv_move rfl) rfl ?_
        refine xl_pv (pv_loadN rfl (.there (.there .here)) rfl) rfl ?_
        refine xl_go (assign_ok P st.vars st.scope (.mk s1 s2 s3 s4 s5 ⟨t1, t2, t3⟩ s7 s8 s9) (by omega) (by omega) hb.f hX b5 c _ _ _ _ _ _ _ _ bo mn (.val vp_1) fn vv vc hV e2 rfl) rfl (.cons rfl (Wk.refl _) (.cons rfl (Wk.refl _) (.cons rfl (Wk.refl _) .nil))) (.x (.k (.k (.x (.k (.x (.x .d))))))) rfl ?_
        refine xl_nil ?_
        refine xq_bnorm ?_
        refine xq_norm (xe_code ?_)
        refine x_seq ?_
        refine x_region ?_
        refine xl_pv (pv_loadN rfl .here rfl) rfl ?_
        refine xl_put (.t .h) rfl rfl (by first | rfl | (simp [AV.cs, oneB, *]; done) | (simp [AV.cs, oneB, *]; repeat' constructor)) rfl (.c (.c (.c (.c (.c (.c (.c (.c .z)))))))) ?_
        refine xl_nil ?_
        refine xq_norm (xe_code ?_)
        refine x_ret ?_
        refine xq_doneW (.inr rfl) ((CAct.mk s1 st.points.length k f (-1) l [] []).av) (resC rfl (cr_N rfl (.there .here) rfl)) (drop_one .here (drop_one .here (drop_one .here drop_nil))) ((by repeat (first | exact Wk.refl _ | exact Wk.nil _ | exact All2.nil | refine Wk.tuple ?_ | refine Wk.agg ?_ | refine All2.cons ?_ ?_ | exact Wk.of_eq (by rw [CAct.avs_eq]; rfl) | exact Wk.of_eq (by simp; done)))) ?_
        rw [hS]; exact ⟨⟨vp_1, vv, vc⟩, rfl, rfl⟩
    · skip
      have n2 : ¬ (s1 = 2 ∨ s1 = 3 ∨ s1 = 4 ∨ s1 = 9) := by simp at h5; omega
      refine x_seq ?_
      refine x_region ?_
      refine xl_pv (pv_bin rfl rfl rfl) rfl ?_
      refine xl_pv (pv_assign rfl) rfl ?_
      refine xl_nil ?_
      refine xq_norm (xe_code ?_)
      refine x_condT rfl (fun h6 => ?_) (fun h6 => ?_)
      · skip
        have e3 : s1 = 5 := of_decide_eq_true h6
        have hS := hS (by omega)
        rw [simpleF, if_neg n1, if_neg n2, if_pos e3] at hS
        rcases hV : callF P st.vars st.scope s3 s5 (expsF st.vars st.scope s7) with e | ⟨k, f, l⟩
        · skip
          rw [hV] at hS
          refine x_region ?_
          refine xl_pv (pv_move rfl) rfl ?_
          refine xl_pv (pv_loadN rfl (.there (.there .here)) rfl) rfl ?_
          refine xl_diesE (call_err P st.vars st.scope (.mk s1 s2 s3 s4 s5 ⟨t1, t2, t3⟩ s7 s8 s9) (by omega) (by omega) (by omega) hpa hX b5 c _ _ _ _ _ _ bo mn (.val vp_1) fn vv vc hV) rfl (.cons rfl (Wk.refl _) (.cons rfl (Wk.refl _) (.cons rfl (Wk.refl _) .nil))) (.x (.k (.k (.x (.k (.x (.x .d))))))) rfl (fun q => ?_)
          refine xq_bpanic ?_
          refine xq_panic ?_
          refine xq_drop .here ?_
          refine xq_drop .here ?_
          refine xq_drop .here ?_
          refine xq_died ?_
          rw [hS]; exact ⟨⟨vp_1, vv, vc, (ptS fn s2 st).points, (ptS fn s2 st).vars⟩, rfl, rfl⟩
        · skip
          rw [hV] at hS
          refine x_region ?_
          refine xl_pv (pv_move rfl) rfl ?_
          refine xl_pv (pv_loadN rfl (.there (.there .here)) rfl) rfl ?_
          refine xl_go (call_ok P st.vars st.scope (.mk s1 s2 s3 s4 s5 ⟨t1, t2, t3⟩ s7 s8 s9) (by omega) (by omega) (by omega) hpa hX b5 c _ _ _ _ _ _ bo mn (.val vp_1) fn vv vc hV) rfl (.cons rfl (Wk.refl _) (.cons rfl (Wk.refl _) (.cons rfl (Wk.refl _) .nil))) (.x (.k (.k (.x (.k (.x (.x .d))))))) rfl ?_
          refine xl_nil ?_
          refine xq_bnorm ?_
          refine xq_norm (xe_code ?_)
          refine x_seq ?_
          refine x_region ?_
          refine xl_pv (pv_loadN rfl .here rfl) rfl ?_
          refine xl_put (.t .h) rfl rfl (by first | rfl | (simp [AV.cs, oneB, *]; done) | (simp [AV.cs, oneB, *]; repeat' constructor)) rfl (.c (.c (.c (.c (.c (.c (.c (.c .z)))))))) ?_
          refine xl_nil ?_
          refine xq_norm (xe_code ?_)
          refine x_ret ?_
          refine xq_doneW (.inr rfl) ((CAct.mk s1 st.points.length k 0 f l [] []).av) (resC rfl (cr_N rfl (.there .here) rfl)) (drop_one .here (drop_one .here (drop_one .here drop_nil))) ((by repeat (first | exact Wk.refl _ | exact Wk.nil _ | exact All2.nil | refine Wk.tuple ?_ | refine Wk.agg ?_ | refine All2.cons ?_ ?_ | exact Wk.of_eq (by rw [CAct.avs_eq]; rfl) | exact Wk.of_eq (by simp; done)))) ?_
          rw [hS]; exact ⟨⟨vp_1, vv, vc⟩, rfl, rfl⟩
      · skip
        have n3 : ¬ s1 = 5 := of_decide_eq_false h6
        refine x_join0 [(64, bv (decide (s1 = 6) || decide (s1 = 7)))] (.cons (i := 40) rfl (.cons (i := 5) rfl (.cons (i := 4) rfl (.cons (i := 3) rfl (.cons (i := 0) rfl (.nil _)))))) ?_ ?_
        · skip
          refine x_seq ?_
          refine x_region ?_
          refine xl_pv (pv_bin rfl rfl rfl) rfl ?_
          refine xl_pv (pv_assign rfl) rfl ?_
          refine xl_nil ?_
          refine xq_norm (xe_code ?_)
          refine x_condT rfl (fun h7 => ?_) (fun h7 => ?_)
          · skip
            refine x_skip ?_
            refine xq_meetF (.cons_wk (i := 64) rfl (Wk.of_eq (by simp at h7; simp [h7])) (.cons rfl (.cons rfl (.cons rfl (.cons rfl (.cons rfl (.nil _))))))) rfl
          · skip
            refine x_region ?_
            refine xl_pv (pv_bin rfl rfl rfl) rfl ?_
            refine xl_pv (pv_assign rfl) rfl ?_
            refine xl_nil ?_
            refine xq_meetF (.cons_wk (i := 64) rfl (Wk.of_eq (by simp at h7; simp [h7])) (.cons rfl (.cons rfl (.cons rfl (.cons rfl (.cons rfl (.nil _))))))) rfl
        simp only [List.cons_append, List.nil_append]
        refine x_condT rfl (fun h8 => ?_) (fun h8 => ?_)
        · skip
          have e4 : s1 = 6 ∨ s1 = 7 := by simpa using h8
          have hL : stmtF P fn (.mk s1 s2 s3 s4 s5 ⟨t1, t2, t3⟩ s7 s8 s9) st = listsF P fn st.points.length s1 s8 s9 (valsF (expsF st.vars st.scope s7) [2]) (ptS fn s2 st) := by rw [stmtF, if_pos e4]; rfl
          rcases hV : valsF (expsF st.vars st.scope s7) [2] with e | l
          · skip
            refine x_seq ?_
            refine x_region ?_
            refine xl_pv (pv_move rfl) rfl ?_
            refine xl_pv (pv_field_a rfl) rfl ?_
            refine xl_pv (pv_load1 rfl (.there (.there .here)) rfl) rfl ?_
            refine xl_lit (.cons rfl .nil) rfl (by first | (simp [AV.cs]; done) | exact lits (by rfl) | (intro x hx; cases hx with | head => rfl | tail _ h => cases h)) (by rfl) (by decide) rfl ?_
            refine xl_dies (AC_err (hX [2] c _ _ bo mn _ _ vv vc) (by rw [hV]; rfl)) rfl (.cons rfl (Wk.refl _) (.cons rfl (Wk.of_eq (by rw [← CExp.avs_eq])) (.cons rfl (Wk.refl _) .nil))) (.k (.k (.k (.x (.k (.x (.x .d))))))) rfl ?_
            refine xq_panic ?_
            refine xq_bpanic ?_
            refine xq_panic ?_
            refine xq_drop .here ?_
            refine xq_drop .here ?_
            refine xq_drop .here ?_
            refine xq_died ?_
            rw [hL, hV]; exact ⟨⟨vp_1, vv, vc, (ptS fn s2 st).points, (ptS fn s2 st).vars⟩, rfl, rfl⟩
          · skip
            refine x_seq ?_
            refine x_region ?_
            refine xl_pv (pv_move rfl) rfl ?_
            refine xl_pv (pv_field_a rfl) rfl ?_
            refine xl_pv (pv_load1 rfl (.there (.there .here)) rfl) rfl ?_
            refine xl_lit (.cons rfl .nil) rfl (by first | (simp [AV.cs]; done) | exact lits (by rfl) | (intro x hx; cases hx with | head => rfl | tail _ h => cases h)) (by rfl) (by decide) rfl ?_
            refine xl_go (AC_ok (hX [2] c _ _ bo mn _ _ vv vc) (by rw [hV]; rfl)) rfl (.cons rfl (Wk.refl _) (.cons rfl (Wk.of_eq (by rw [← CExp.avs_eq])) (.cons rfl (Wk.refl _) .nil))) (.k (.k (.k (.x (.k (.x (.x .d))))))) rfl ?_
            have hB1 : Bd (ptS fn s2 st) (CStmt.szs s8 + CStmt.szs s9) := (point_on st ⟨fn, s2, st.scope⟩).b _ (hb.mono (by omega))
            rcases hG : goF P fn s8 (ptS fn s2 st) with ⟨lb, st2⟩ | e
            · skip
              have hO := goF_on P fn hP.fs s8 _ hG
              refine xl_pv (pv_field_a rfl) rfl ?_
              refine xl_put .h rfl rfl (by first | rfl | (simp [AV.cs, oneB, *]; done) | (simp [AV.cs, oneB, *]; repeat' constructor)) rfl (.s (.s (.s (.s (.s (.c .z)))))) ?_
              refine xl_nil ?_
              refine xq_norm (xe_code ?_)
              refine x_seq ?_
              refine x_region ?_
              refine xl_pv (pv_move rfl) rfl ?_
              refine xl_pv (pv_field_a rfl) rfl ?_
              refine xl_pv (pv_load1 rfl (.there (.there .here)) rfl) rfl ?_
              refine xl_goE (OutS_ok (hbody c bo mn vp_1 vv vc (ptS fn s2 st) (hB1.mono (by omega))) (by rw [listF, hG])) rfl (.cons rfl (Wk.refl _) (.cons rfl (Wk.of_eq (by rw [← CStmt.avs_eq])) .nil)) (.k (.k (.k (.x (.x (.x (.x .d))))))) rfl (fun q => ?_)
              refine xl_pv (pv_field_a rfl) rfl ?_
              refine xl_put .h rfl rfl (by first | rfl | (simp [AV.cs, oneB, *]; done) | (simp [AV.cs, oneB, *]; repeat' constructor)) rfl (.s (.s (.s (.s (.s (.s (.c .z))))))) ?_
              refine xl_nil ?_
              refine xq_norm (xe_code ?_)
              refine x_seq ?_
              refine x_region ?_
              refine xl_pv (pv_field_a rfl) rfl ?_
              refine xl_pv (pv_load1 rfl (.there (.there .here)) rfl) rfl ?_
              refine xl_pv (pv_bin rfl rfl rfl) rfl ?_
              refine xl_nil ?_
              refine xq_norm (xe_code ?_)
              refine x_condT rfl (fun h9 => ?_) (fun h9 => ?_)
              · skip
                have e5 : s1 = 6 := of_decide_eq_true h9
                rcases hG2 : goF P fn s9 (cut (ptS fn s2 st) st2) with ⟨lc, st3⟩ | e
                · skip
                  refine x_region ?_
                  refine xl_pv (pv_move rfl) rfl ?_
                  refine xl_pv (pv_field_a rfl) rfl ?_
                  refine xl_pv (pv_load1 rfl (.there (.there .here)) rfl) rfl ?_
                  refine xl_goE (OutS_ok (hels c bo mn q.p q.v q.s (cut (ptS fn s2 st) st2) (hO.cut.1.b _ hB1)) (by rw [listF, hG2])) rfl (.cons rfl (Wk.refl _) (.cons rfl (Wk.of_eq (by rw [← CStmt.avs_eq])) .nil)) (.k (.k (.k (.x (.x (.x (.x .d))))))) rfl (fun q2 => ?_)
                  refine xl_pv (pv_field_a rfl) rfl ?_
                  refine xl_put .h rfl rfl (by first | rfl | (simp [AV.cs, oneB, *]; done) | (simp [AV.cs, oneB, *]; repeat' constructor)) rfl (.s (.s (.s (.s (.s (.s (.s (.c .z)))))))) ?_
                  refine xl_nil ?_
                  refine xq_bnorm ?_
                  refine xq_norm (xe_code ?_)
                  refine x_seq ?_
                  refine x_region ?_
                  refine xl_pv (pv_loadN rfl .here rfl) rfl ?_
                  refine xl_put (.t .h) rfl rfl (by first | rfl | (simp [AV.cs, oneB, *]; done) | (simp [AV.cs, oneB, *]; repeat' constructor)) rfl (.c (.c (.c (.c (.c (.c (.c (.c .z)))))))) ?_
                  refine xl_nil ?_
                  refine xq_norm (xe_code ?_)
                  refine x_ret ?_
                  refine xq_doneW (.inr rfl) ((CAct.mk s1 st.points.length (-1) 0 (-1) l lb lc).av) (resC rfl (cr_N rfl (.there .here) rfl)) (drop_one .here (drop_one .here (drop_one .here drop_nil))) ((by repeat (first | exact Wk.refl _ | exact Wk.nil _ | exact All2.nil | refine Wk.tuple ?_ | refine Wk.agg ?_ | refine All2.cons ?_ ?_ | exact Wk.of_eq (by rw [CAct.avs_eq]; rfl) | exact Wk.of_eq (by simp; done)))) ?_
                  rw [hL, hV]; simp only [listsF, hG, if_pos e5, hG2]; exact ⟨q2, rfl, rfl⟩
                · skip
                  refine x_region ?_
                  refine xl_pv (pv_move rfl) rfl ?_
                  refine xl_pv (pv_field_a rfl) rfl ?_
                  refine xl_pv (pv_load1 rfl (.there (.there .here)) rfl) rfl ?_
                  refine xl_diesE (OutS_err (hels c bo mn q.p q.v q.s (cut (ptS fn s2 st) st2) (hO.cut.1.b _ hB1)) (by rw [listF, hG2])) rfl (.cons rfl (Wk.refl _) (.cons rfl (Wk.of_eq (by rw [← CStmt.avs_eq])) .nil)) (.k (.k (.k (.x (.x (.x (.x .d))))))) rfl (fun q2 => ?_)
                  refine xq_bpanic ?_
                  refine xq_panic ?_
                  refine xq_drop .here ?_
                  refine xq_drop .here ?_
                  refine xq_drop .here ?_
                  refine xq_died ?_
                  rw [hL, hV]; simp only [listsF, hG, if_pos e5, hG2]; rw [hO.cut.2]; exact ⟨q2, rfl, rfl⟩
              · skip
                have e5 : ¬ s1 = 6 := of_decide_eq_false h9
                refine x_skip ?_
                refine xq_bnorm ?_
                refine xq_norm (xe_code ?_)
                refine x_seq ?_
                refine x_region ?_
                refine xl_pv (pv_loadN rfl .here rfl) rfl ?_
                refine xl_put (.t .h) rfl rfl (by first | rfl | (simp [AV.cs, oneB, *]; done) | (simp [AV.cs, oneB, *]; repeat' constructor)) rfl (.c (.c (.c (.c (.c (.c (.c (.c .z)))))))) ?_
                refine xl_nil ?_
                refine xq_norm (xe_code ?_)
                refine x_ret ?_
                refine xq_doneW (.inr rfl) ((CAct.mk s1 st.points.length (-1) 0 (-1) l lb []).av) (resC rfl (cr_N rfl (.there .here) rfl)) (drop_one .here (drop_one .here (drop_one .here drop_nil))) ((by repeat (first | exact Wk.refl _ | exact Wk.nil _ | exact All2.nil | refine Wk.tuple ?_ | refine Wk.agg ?_ | refine All2.cons ?_ ?_ | exact Wk.of_eq (by rw [CAct.avs_eq]; rfl) | exact Wk.of_eq (by simp; done)))) ?_
                rw [hL, hV]; simp only [listsF, hG, if_neg e5]; exact ⟨q, rfl, rfl⟩
            · skip
              refine xl_pv (pv_field_a rfl) rfl ?_
              refine xl_put .h rfl rfl (by first | rfl | (simp [AV.cs, oneB, *]; done) | (simp [AV.cs, oneB, *]; repeat' constructor)) rfl (.s (.s (.s (.s (.s (.c .z)))))) ?_
              refine xl_nil ?_
              refine xq_norm (xe_code ?_)
              refine x_seq ?_
              refine x_region ?_
              refine xl_pv (pv_move rfl) rfl ?_
              refine xl_pv (pv_field_a rfl) rfl ?_
              refine xl_pv (pv_load1 rfl (.there (.there .here)) rfl) rfl ?_
              refine xl_diesE (OutS_err (hbody c bo mn vp_1 vv vc (ptS fn s2 st) (hB1.mono (by omega))) (by rw [listF, hG])) rfl (.cons rfl (Wk.refl _) (.cons rfl (Wk.of_eq (by rw [← CStmt.avs_eq])) .nil)) (.k (.k (.k (.x (.x (.x (.x .d))))))) rfl (fun q => ?_)
              refine xq_panic ?_
              refine xq_bpanic ?_
              refine xq_panic ?_
              refine xq_drop .here ?_
              refine xq_drop .here ?_
              refine xq_drop .here ?_
              refine xq_died ?_
              rw [hL, hV]; simp only [listsF, hG]; exact ⟨q, rfl, rfl⟩
        · skip
          have n4 : ¬ (s1 = 6 ∨ s1 = 7) := by simpa using h8
          have hS := hS n4
          rw [simpleF, if_neg n1, if_neg n2, if_neg n3] at hS
          refine x_seq ?_
          refine x_region ?_
          refine xl_pv (pv_bin rfl rfl rfl) rfl ?_
          refine xl_pv (pv_assign rfl) rfl ?_
          refine xl_nil ?_
          refine xq_norm (xe_code ?_)
          refine x_condT rfl (fun h9 => ?_) (fun h9 => ?_)
          · skip
            have e5 : s1 = 8 := of_decide_eq_true h9
            rw [if_pos e5] at hS
            rcases hV : valsF (expsF st.vars st.scope s7) [1] with e | l
            · skip
              rw [hV] at hS
              refine x_region ?_
              refine xl_pv (pv_move rfl) rfl ?_
              refine xl_pv (pv_field_a rfl) rfl ?_
              refine xl_pv (pv_load1 rfl (.there (.there .here)) rfl) rfl ?_
              refine xl_lit (.cons rfl .nil) rfl (by first | (simp [AV.cs]; done) | exact lits (by rfl) | (intro x hx; cases hx with | head => rfl | tail _ h => cases h)) (by rfl) (by decide) rfl ?_
              refine xl_dies (AC_err (hX [1] c _ _ bo mn _ _ vv vc) (by rw [hV]; rfl)) rfl (.cons rfl (Wk.refl _) (.cons rfl (Wk.of_eq (by rw [← CExp.avs_eq])) (.cons rfl (Wk.refl _) .nil))) (.k (.k (.k (.x (.k (.x (.x .d))))))) rfl ?_
              refine xq_bpanic ?_
              refine xq_panic ?_
              refine xq_drop .here ?_
              refine xq_drop .here ?_
              refine xq_drop .here ?_
              refine xq_died ?_
              rw [hS]; exact ⟨⟨vp_1, vv, vc, (ptS fn s2 st).points, (ptS fn s2 st).vars⟩, rfl, rfl⟩
            · skip
              rw [hV] at hS
              refine x_region ?_
              refine xl_pv (pv_move rfl) rfl ?_
              refine xl_pv (pv_field_a rfl) rfl ?_
              refine xl_pv (pv_load1 rfl (.there (.there .here)) rfl) rfl ?_
              refine xl_lit (.cons rfl .nil) rfl (by first | (simp [AV.cs]; done) | exact lits (by rfl) | (intro x hx; cases hx with | head => rfl | tail _ h => cases h)) (by rfl) (by decide) rfl ?_
              refine xl_go (AC_ok (hX [1] c _ _ bo mn _ _ vv vc) (by rw [hV]; rfl)) rfl (.cons rfl (Wk.refl _) (.cons rfl (Wk.of_eq (by rw [← CExp.avs_eq])) (.cons rfl (Wk.refl _) .nil))) (.k (.k (.k (.x (.k (.x (.x .d))))))) rfl ?_
              refine xl_pv (pv_field_a rfl) rfl ?_
              refine xl_put .h rfl rfl (by first | rfl | (simp [AV.cs, oneB, *]; done) | (simp [AV.cs, oneB, *]; repeat' constructor)) rfl (.s (.s (.s (.s (.s (.c .z)))))) ?_
              refine xl_nil ?_
              refine xq_bnorm ?_
              refine xq_norm (xe_code ?_)
              refine x_seq ?_
              refine x_region ?_
              refine xl_pv (pv_loadN rfl .here rfl) rfl ?_
              refine xl_put (.t .h) rfl rfl (by first | rfl | (simp [AV.cs, oneB, *]; done) | (simp [AV.cs, oneB, *]; repeat' constructor)) rfl (.c (.c (.c (.c (.c (.c (.c (.c .z)))))))) ?_
              refine xl_nil ?_
              refine xq_norm (xe_code ?_)
              refine x_ret ?_
              refine xq_doneW (.inr rfl) ((CAct.mk s1 st.points.length (-1) 0 (-1) l [] []).av) (resC rfl (cr_N rfl (.there .here) rfl)) (drop_one .here (drop_one .here (drop_one .here drop_nil))) ((by repeat (first | exact Wk.refl _ | exact Wk.nil _ | exact All2.nil | refine Wk.tuple ?_ | refine Wk.agg ?_ | refine All2.cons ?_ ?_ | exact Wk.of_eq (by rw [CAct.avs_eq]; rfl) | exact Wk.of_eq (by simp; done)))) ?_
              rw [hS]; exact ⟨⟨vp_1, vv, vc⟩, rfl, rfl⟩
          · skip
            have n5 : ¬ s1 = 8 := of_decide_eq_false h9
            rw [if_neg n5] at hS
            refine x_seq ?_
            refine x_region ?_
            refine xl_pv (pv_bin rfl rfl rfl) rfl ?_
            refine xl_pv (pv_assign rfl) rfl ?_
            refine xl_nil ?_
            refine xq_norm (xe_code ?_)
            refine x_condT rfl (fun h10 => ?_) (fun h10 => ?_)
            · skip
              have e6 : s1 = 10 := of_decide_eq_true h10
              rw [if_pos e6, hfd] at hS
              simp only at hS
              have hlt := (List.getElem?_eq_some_iff.1 hfd).1
              refine x_seq ?_
              refine x_seq ?_
              refine x_draw rfl ?_
              refine xd_v 0 rfl rfl rfl (gv_v (pv_move rfl) rfl) ?_
              refine xd_v 1 rfl rfl rfl (gv_v (pv_nil rfl) rfl) ?_
              refine xd_v 2 rfl rfl rfl (gv_v (pv_field_a rfl) rfl) ?_
              refine xd_v 3 rfl rfl rfl (gv_v (pv_field_a rfl) rfl) ?_
              refine xd_v 4 rfl rfl rfl (gv_v (pv_load1 rfl (.there (.there (.there .here))) rfl) rfl) ?_
              refine xd_v 5 rfl rfl rfl (gv_v (pv_move rfl) rfl) ?_
              refine xd_v 6 rfl rfl rfl (gv_v (pv_nil rfl) rfl) ?_
              refine xd_v 7 rfl rfl rfl (gv_v (pv_field_a rfl) rfl) ?_
              refine xd_v 8 rfl rfl rfl (gv_v (pv_load1 rfl (.there (.there (.there .here))) rfl) rfl) ?_
              refine xd_v 9 rfl rfl rfl (gv_v (pv_at rfl rfl (hf0) ((get_map hfd))) rfl) ?_
              refine xd_v 10 rfl rfl rfl (gv_v (pv_field_i rfl) rfl) ?_
              refine xd_v 11 rfl rfl rfl (gv_v (pv_loadN_i rfl rfl) rfl) ?_
              refine xd_e rfl 12 rfl rfl rfl (by rintro _ ⟨⟩ <;> exact Nat.le_of_ble_eq_true rfl) rfl ev_alloc ?_
              rintro _ _ ⟨b6, rfl, rfl⟩
              refine ⟨?_, ?_⟩
              · skip
                intro m hm o' y ho hy
                have hm' : m ∈ [11, 10, 9, 8, 7, 6, 5, 4, 3, 2, 1, 0] := hm
                clear hm
                rcases List.mem_cons.1 hm' with rfl | hm'
                · cases ho; cases hy
                  exact gv_v (pv_loadN_i rfl rfl) rfl
                rcases List.mem_cons.1 hm' with rfl | hm'
                · cases ho; cases hy
                  exact gv_v (pv_field_i rfl) rfl
                rcases List.mem_cons.1 hm' with rfl | hm'
                · cases ho; cases hy
                  exact gv_v (pv_at rfl rfl (hf0) ((get_map hfd))) rfl
                rcases List.mem_cons.1 hm' with rfl | hm'
                · cases ho; cases hy
                  exact gv_v (pv_load1 rfl (.there (.there (.there (.there .here)))) rfl) rfl
                rcases List.mem_cons.1 hm' with rfl | hm'
                · cases ho; cases hy
                  exact gv_v (pv_field_a rfl) rfl
                rcases List.mem_cons.1 hm' with rfl | hm'
                · cases ho; cases hy
                  exact gv_v (pv_nil rfl) rfl
                rcases List.mem_cons.1 hm' with rfl | hm'
                · cases ho; cases hy
                  exact gv_v (pv_move rfl) rfl
                rcases List.mem_cons.1 hm' with rfl | hm'
                · cases ho; cases hy
                  exact gv_v (pv_load1 rfl (.there (.there (.there (.there .here)))) rfl) rfl
                rcases List.mem_cons.1 hm' with rfl | hm'
                · cases ho; cases hy
                  exact gv_v (pv_field_a rfl) rfl
                rcases List.mem_cons.1 hm' with rfl | hm'
                · cases ho; cases hy
                  exact gv_v (pv_field_a rfl) rfl
                rcases List.mem_cons.1 hm' with rfl | hm'
                · cases ho; cases hy
                  exact gv_v (pv_nil rfl) rfl
                rcases List.mem_cons.1 hm' with rfl | hm'
                · cases ho; cases hy
                  exact gv_v (pv_move rfl) rfl
                cases hm'
              refine xd_e rfl 13 rfl rfl rfl (by rintro _ ⟨⟩ <;> exact Nat.le_of_ble_eq_true rfl) rfl (ev_put .h rfl rfl (by first | rfl | (simp [AV.cs, oneB, *]; done) | (simp [AV.cs, oneB, *]; repeat' constructor)) rfl (.c (.c (.c .z)))) ?_
              rintro _ _ ⟨rfl, rfl⟩
              refine ⟨?_, ?_⟩
              · skip
                intro m hm; cases hm
              refine xd_end rfl rfl rfl rfl ?_
              refine xq_sub (.cons (i := 6) rfl (.cons (i := 5) rfl (.cons (i := 4) rfl (.cons (i := 3) rfl (.cons (i := 0) rfl (.nil _)))))) ?_
              refine xq_norm (xe_code ?_)
              refine x_seq ?_
              refine x_region ?_
              refine xl_pv (pv_field_a rfl) rfl ?_
              refine xl_pv (pv_load1 rfl .here rfl) rfl ?_
              refine xl_pv (pv_bin rfl rfl rfl) rfl ?_
              refine xl_nil ?_
              refine xq_norm (xe_code ?_)
              refine x_condT rfl (fun h11 => ?_) (fun h11 => ?_)
              · skip
                have e7 : ¬ d.result.kind = 0 := by simpa using h11
                rw [if_neg e7] at hS
                rcases hV : valsF (expsF st.vars st.scope s7) [d.result.kind] with e | l
                · skip
                  rw [hV] at hS
                  refine x_seq ?_
                  refine x_region ?_
                  refine xl_pv (pv_move rfl) rfl ?_
                  refine xl_pv (pv_field_a rfl) rfl ?_
                  refine xl_pv (pv_load1 rfl (.there (.there (.there .here))) rfl) rfl ?_
                  refine xl_pv (pv_field_a rfl) rfl ?_
                  refine xl_pv (pv_load1 rfl .here rfl) rfl ?_
                  refine xl_lit (.cons rfl .nil) rfl (by first | (simp [AV.cs]; done) | exact lits (by rfl) | (intro x hx; cases hx with | head => rfl | tail _ h => cases h)) (by rfl) (by decide) rfl ?_
                  refine xl_dies (AC_err (hX [d.result.kind] c _ _ bo mn _ _ vv vc) (by rw [hV]; rfl)) rfl (.cons rfl (Wk.refl _) (.cons rfl (Wk.of_eq (by rw [← CExp.avs_eq])) (.cons rfl (Wk.refl _) .nil))) (.k (.k (.k (.k (.x (.k (.x (.x .d)))))))) rfl ?_
                  refine xq_panic ?_
                  refine xq_panic ?_
                  refine xq_bpanic ?_
                  refine xq_panic ?_
                  refine xq_drop .here ?_
                  refine xq_drop .here ?_
                  refine xq_drop .here ?_
                  refine xq_drop .here ?_
                  refine xq_died ?_
                  rw [hS]; exact ⟨⟨vp_1, vv, vc, (ptS fn s2 st).points, (ptS fn s2 st).vars⟩, rfl, rfl⟩
                · skip
                  rw [hV] at hS
                  refine x_seq ?_
                  refine x_region ?_
                  refine xl_pv (pv_move rfl) rfl ?_
                  refine xl_pv (pv_field_a rfl) rfl ?_
                  refine xl_pv (pv_load1 rfl (.there (.there (.there .here))) rfl) rfl ?_
                  refine xl_pv (pv_field_a rfl) rfl ?_
                  refine xl_pv (pv_load1 rfl .here rfl) rfl ?_
                  refine xl_lit (.cons rfl .nil) rfl (by first | (simp [AV.cs]; done) | exact lits (by rfl) | (intro x hx; cases hx with | head => rfl | tail _ h => cases h)) (by rfl) (by decide) rfl ?_
                  refine xl_go (AC_ok (hX [d.result.kind] c _ _ bo mn _ _ vv vc) (by rw [hV]; rfl)) rfl (.cons rfl (Wk.refl _) (.cons rfl (Wk.of_eq (by rw [← CExp.avs_eq])) (.cons rfl (Wk.refl _) .nil))) (.k (.k (.k (.k (.x (.k (.x (.x .d)))))))) rfl ?_
                  refine xl_pv (pv_field_a rfl) rfl ?_
                  refine xl_put (.t .h) rfl rfl (by first | rfl | (simp [AV.cs, oneB, *]; done) | (simp [AV.cs, oneB, *]; repeat' constructor)) rfl (.s (.s (.s (.s (.s (.c .z)))))) ?_
                  refine xl_nil ?_
                  refine xq_norm (xe_code ?_)
                  refine x_exit ?_
                  refine xq_exit ?_
                  refine xq_hit ?_
                  refine xq_norm (xe_code ?_)
                  refine x_seq ?_
                  refine x_region ?_
                  refine xl_pv (pv_loadN rfl (.there .here) rfl) rfl ?_
                  refine xl_put (.t (.t .h)) rfl rfl (by first | rfl | (simp [AV.cs, oneB, *]; done) | (simp [AV.cs, oneB, *]; repeat' constructor)) rfl (.c (.c (.c (.c (.c (.c (.c (.c .z)))))))) ?_
                  refine xl_nil ?_
                  refine xq_norm (xe_code ?_)
                  refine x_ret ?_
                  refine xq_doneW (.inr rfl) ((CAct.mk s1 st.points.length (-1) 0 (-1) l [] []).av) (resC rfl (cr_N rfl (.there (.there .here)) rfl)) (drop_one .here (drop_one .here (drop_one .here (drop_one .here drop_nil)))) ((by repeat (first | exact Wk.refl _ | exact Wk.nil _ | exact All2.nil | refine Wk.tuple ?_ | refine Wk.agg ?_ | refine All2.cons ?_ ?_ | exact Wk.of_eq (by rw [CAct.avs_eq]; rfl) | exact Wk.of_eq (by simp; done)))) ?_
                  rw [hS]; exact ⟨⟨vp_1, vv, vc⟩, rfl, rfl⟩
              · skip
                have e7 : d.result.kind = 0 := by simpa using h11
                rw [if_pos e7] at hS
                rcases hV : valsF (expsF st.vars st.scope s7) [] with e | l
                · skip
                  rw [hV] at hS
                  refine x_skip ?_
                  refine xq_norm (xe_code ?_)
                  refine x_region ?_
                  refine xl_pv (pv_move rfl) rfl ?_
                  refine xl_pv (pv_field_a rfl) rfl ?_
                  refine xl_pv (pv_load1 rfl (.there (.there (.there .here))) rfl) rfl ?_
                  refine xl_dies (AC_err (hX [] c _ _ bo mn _ _ vv vc) (by rw [hV]; rfl)) rfl (.cons rfl (Wk.refl _) (.cons rfl (Wk.of_eq (by rw [← CExp.avs_eq])) (.cons rfl (Wk.nil _) .nil))) (.k (.k (.k (.k (.x (.k (.x (.x .d)))))))) rfl ?_
                  refine xq_bpanic ?_
                  refine xq_panic ?_
                  refine xq_drop .here ?_
                  refine xq_drop .here ?_
                  refine xq_drop .here ?_
                  refine xq_drop .here ?_
                  refine xq_died ?_
                  rw [hS]; exact ⟨⟨vp_1, vv, vc, (ptS fn s2 st).points, (ptS fn s2 st).vars⟩, rfl, rfl⟩
                · skip
                  rw [hV] at hS
                  refine x_skip ?_
                  refine xq_norm (xe_code ?_)
                  refine x_region ?_
                  refine xl_pv (pv_move rfl) rfl ?_
                  refine xl_pv (pv_field_a rfl) rfl ?_
                  refine xl_pv (pv_load1 rfl (.there (.there (.there .here))) rfl) rfl ?_
                  refine xl_go (AC_ok (hX [] c _ _ bo mn _ _ vv vc) (by rw [hV]; rfl)) rfl (.cons rfl (Wk.refl _) (.cons rfl (Wk.of_eq (by rw [← CExp.avs_eq])) (.cons rfl (Wk.nil _) .nil))) (.k (.k (.k (.k (.x (.k (.x (.x .d)))))))) rfl ?_
                  refine xl_pv (pv_field_a rfl) rfl ?_
                  refine xl_put (.t .h) rfl rfl (by first | rfl | (simp [AV.cs, oneB, *]; done) | (simp [AV.cs, oneB, *]; repeat' constructor)) rfl (.s (.s (.s (.s (.s (.c .z)))))) ?_
                  refine xl_nil ?_
                  refine xq_bnorm ?_
                  refine xq_norm (xe_code ?_)
                  refine x_seq ?_
                  refine x_region ?_
                  refine xl_pv (pv_loadN rfl (.there .here) rfl) rfl ?_
                  refine xl_put (.t (.t .h)) rfl rfl (by first | rfl | (simp [AV.cs, oneB, *]; done) | (simp [AV.cs, oneB, *]; repeat' constructor)) rfl (.c (.c (.c (.c (.c (.c (.c (.c .z)))))))) ?_
                  refine xl_nil ?_
                  refine xq_norm (xe_code ?_)
                  refine x_ret ?_
                  refine xq_doneW (.inr rfl) ((CAct.mk s1 st.points.length (-1) 0 (-1) l [] []).av) (resC rfl (cr_N rfl (.there (.there .here)) rfl)) (drop_one .here (drop_one .here (drop_one .here (drop_one .here drop_nil)))) ((by repeat (first | exact Wk.refl _ | exact Wk.nil _ | exact All2.nil | refine Wk.tuple ?_ | refine Wk.agg ?_ | refine All2.cons ?_ ?_ | exact Wk.of_eq (by rw [CAct.avs_eq]; rfl) | exact Wk.of_eq (by simp; done)))) ?_
                  rw [hS]; exact ⟨⟨vp_1, vv, vc⟩, rfl, rfl⟩
            · skip
              have n6 : ¬ s1 = 10 := of_decide_eq_false h10
              rw [if_neg n6] at hS
              rcases hV : valsF (expsF st.vars st.scope s7) [] with e | l
              · skip
                rw [hV] at hS
                refine x_seq ?_
                refine x_region ?_
                refine xl_pv (pv_move rfl) rfl ?_
                refine xl_pv (pv_field_a rfl) rfl ?_
                refine xl_pv (pv_load1 rfl (.there (.there .here)) rfl) rfl ?_
                refine xl_dies (AC_err (hX [] c _ _ bo mn _ _ vv vc) (by rw [hV]; rfl)) rfl (.cons rfl (Wk.refl _) (.cons rfl (Wk.of_eq (by rw [← CExp.avs_eq])) (.cons rfl (Wk.nil _) .nil))) (.k (.k (.k (.x (.k (.x (.x .d))))))) rfl ?_
                refine xq_panic ?_
                refine xq_bpanic ?_
                refine xq_panic ?_
                refine xq_drop .here ?_
                refine xq_drop .here ?_
                refine xq_drop .here ?_
                refine xq_died ?_
                rw [hS]; exact ⟨⟨vp_1, vv, vc, (ptS fn s2 st).points, (ptS fn s2 st).vars⟩, rfl, rfl⟩
              · skip
                rw [hV] at hS
                refine x_seq ?_
                refine x_region ?_
                refine xl_pv (pv_move rfl) rfl ?_
                refine xl_pv (pv_field_a rfl) rfl ?_
                refine xl_pv (pv_load1 rfl (.there (.there .here)) rfl) rfl ?_
                refine xl_go (AC_ok (hX [] c _ _ bo mn _ _ vv vc) (by rw [hV]; rfl)) rfl (.cons rfl (Wk.refl _) (.cons rfl (Wk.of_eq (by rw [← CExp.avs_eq])) (.cons rfl (Wk.nil _) .nil))) (.k (.k (.k (.x (.k (.x (.x .d))))))) rfl ?_
                refine xl_nil ?_
                refine xq_norm (xe_code ?_)
                refine x_region ?_
                refine xl_dies (fail_f 9) rfl (.cons rfl (Wk.refl _) (.cons rfl (Wk.refl _) .nil)) .d rfl ?_
                refine xq_bpanic ?_
                refine xq_panic ?_
                refine xq_drop .here ?_
                refine xq_drop .here ?_
                refine xq_drop .here ?_
                refine xq_died ?_
                rw [hS]; exact ⟨⟨vp_1, vv, vc, (ptS fn s2 st).points, (ptS fn s2 st).vars⟩, rfl, rfl⟩
end Go.Proofs.Ytmallgapchjhnaa
