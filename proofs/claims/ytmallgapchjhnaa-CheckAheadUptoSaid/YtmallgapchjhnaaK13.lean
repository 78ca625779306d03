/- The checker's functions' bodies. No condition: plain theorems. -/
import Derived.Test.YtmallgapchjhnaaK12
set_option linter.unusedVariables false
set_option linter.unusedSimpArgs false
namespace Go.Proofs.Ytmallgapchjhnaa
set_option maxRecDepth 100000
open Go Go.Ax
attribute [local irreducible] X XL XE XQ PV

def parF (P : CProg) : List CParam → List ByteArray → Bool → Except Int Bool
  | [], _, fine => .ok fine
  | x :: r, names, fine => if knownB P x.ty = true ∧ twB (names ++ [x.name]) = false then parF P r (names ++ [x.name]) (fine && scB x.ty) else .error 8
def varOf (p : CParam) : CVar := ⟨p.name, p.ty, 1, []⟩
def scopeN (n : Nat) : List Int := (List.range n).map (fun (i : Nat) => (i : Int))
def fine0 (d : CDecl) : Bool := decide (d.params.length ≤ 6) && (decide (d.result.kind = 0) || scB d.result)
/-- The body of the function of a number: it, and the points then. -/
def bodyF (P : CProg) (i : Nat) (d : CDecl) (ps : List CPoint) : Except Int (CBody × List CPoint) :=
  if funF P d.name ≠ i then .error 8 else match parF P d.params [] (fine0 d) with
  | .error e => .error e
  | .ok fine => if knownB P d.result = false then .error 8 else if fine = false then .error 9 else match listF P i d.body ⟨ps, d.params.map varOf, scopeN d.params.length⟩ with
    | .err e => .error e
    | .ok acts st => if d.result.kind ≠ 0 ∧ retL d.body = false then .error 10 else .ok (⟨d.name, d.params.length, decide (d.result.kind ≠ 0), st.vars, acts⟩, st.points)
structure VB where
  b : Value
  p : Value
  v : AV
  s : AV
structure BSt where
  i : Nat
  vn : Value
  vv : Value
  vc : Value
theorem take_snoc {α β : Type} {xs : List α} {i : Nat} {z : α} (f : α → β) (h : xs[i]? = some z) : (xs.take (i + 1)).map f = (xs.take i).map f ++ [f z] := by
  rw [List.take_add_one, h]
  simp
theorem scopeN_succ (n : Nat) : scopeN (n + 1) = scopeN n ++ [(n : Int)] := by simp [scopeN, List.range_succ]
theorem CBody.av_def (b : CBody) : b.av = .agg [sv b.name, iv b.params, bv b.result, .list 6 (b.vars.map CVar.av), .list 8 (b.acts.map CAct.av)] := rfl
abbrev memB (c : Nat) (P : CProg) (mn fi vo so : AV) (vb vp : Value) (bs : List CBody) (ps : List CPoint) : List Ck := [.ref c 110 [.list 2 (P.structs.map CStruct.av), .list 7 (P.funcs.map CDecl.av), .val vb, mn, .val vp, fi, vo, so], .vec vb 59 5 (bs.map CBody.av), .vec vp 87 3 (ps.map CPoint.av)]
theorem par_step {P : CProg} {l r : List CParam} {z : CParam} {names : List ByteArray} {f f' : Bool} (h : parF P l names f = .ok f') (hd : l = z :: r) : knownB P z.ty = true ∧ twB (names ++ [z.name]) = false := by
  subst hd
  rw [parF] at h
  exact if_ok h
theorem body_ok (P : CProg) (hP : POk P) (i : Nat) (d : CDecl) (hd : P.funcs[i]? = some d) (c : Nat) (mn fi vo so : AV) (vb vp : Value) (bs : List CBody) (ps : List CPoint) (hbs : bs.length ≤ 2 ^ 39) (hps : ps.length + d.params.length + CStmt.szs d.body ≤ 2 ^ 39) {b : CBody} {ps' : List CPoint} (hB : bodyF P i d ps = .ok (b, ps')) :
    AC Try.prog 52 [ptr c, iv i] (memB c P mn fi vo so vb vp bs ps) (RetE (T := VB) (fun _ => .tuple []) (fun q => memB c P mn (iv i) q.v q.s q.b q.p (bs ++ [b]) ps')) := by
  have hst := hP.st
  have hfn := hP.fn
  have hdm := List.mem_of_getElem? hd
  have hlt := (List.getElem?_eq_some_iff.1 hd).1
  obtain ⟨d1, d2, d3, ⟨r1, r2, r3⟩, d5⟩ := d
  unfold bodyF at hB
  by_cases hF : funF P d1 ≠ i
  · rw [if_pos hF] at hB; cases hB
  rw [if_neg hF] at hB
  have hF : funF P d1 = i := Decidable.not_not.1 hF
  cases hp : parF P d3 [] (fine0 ⟨d1, d2, d3, ⟨r1, r2, r3⟩, d5⟩) with
  | error e => rw [hp] at hB; cases hB
  | ok fine =>
  rw [hp] at hB
  simp only at hB
  cases hk : knownB P ⟨r1, r2, r3⟩ with
  | false => rw [hk] at hB; cases hB
  | true =>
  rw [hk] at hB
  cases fine with
  | false => cases hB
  | true =>
  simp only [Bool.true_eq_false, if_false] at hB
  cases hL : listF P i d5 ⟨ps, d3.map varOf, scopeN d3.length⟩ with
  | err e => rw [hL] at hB; cases hB
  | ok acts st =>
  rw [hL] at hB
  simp only at hB
  by_cases hR : r1 ≠ 0 ∧ retL d5 = false
  · rw [if_pos hR] at hB; cases hB
  rw [if_neg hR] at hB
  injection hB with hB
  injection hB with hB1 hB2
  subst hB1 hB2
  simp only at hps
  have hlist := list_c P i hP (by omega) (d := ⟨d1, d2, d3, ⟨r1, r2, r3⟩, d5⟩) (by simpa using hd) d5
  have hret := returns_c d5 (by omega)
  refine ac_intro Try.func52 rfl rfl fun I w => ?_
  simp only [argEnv]
  refine x_seq ?_
  refine x_region ?_
  refine xl_pv (pv_move rfl) rfl ?_
  refine xl_pv (pv_nil rfl) rfl ?_
  refine xl_pv (pv_field_a rfl) rfl ?_
  refine xl_pv (pv_field_a rfl) rfl ?_
  refine xl_pv (pv_load1 rfl .here rfl) rfl ?_
  refine xl_pv (pv_move rfl) rfl ?_
  refine xl_pv (pv_at rfl rfl (by omega) ((get_map hd))) rfl ?_
  refine xl_pv (pv_loadN_i rfl rfl) rfl ?_
  refine xl_alloc rfl (fun b4 => ?_)
  refine xl_put .h rfl rfl (by first | rfl | (simp [AV.cs, oneB, *]; done) | (simp [AV.cs, oneB, *]; repeat' constructor)) rfl (.c (.c (.c (.c (.c (.c (.c .z))))))) ?_
  refine xl_nil ?_
  refine xq_norm (xe_code ?_)
  refine x_seq ?_
  refine x_region ?_
  refine xl_pv (pv_move rfl) rfl ?_
  refine xl_pv (pv_field_a rfl) rfl ?_
  refine xl_pv (pv_load1 rfl .here rfl) rfl ?_
  refine xl_go (function_c P c _ _ _ _ _ _ d1 (by omega)) rfl (.cons rfl (Wk.refl _) (.cons rfl (Wk.refl _) .nil)) (.k (.x .d)) rfl ?_
  refine xl_pv (pv_move rfl) rfl ?_
  refine xl_pv (pv_bin rfl rfl rfl) rfl ?_
  refine xl_go (fail_t 8) rfl (.cons rfl (Wk.of_eq (by rw [hF]; simp)) (.cons rfl (Wk.refl _) .nil)) .d rfl ?_
  refine xl_nil ?_
  refine xq_norm (xe_code ?_)
  refine x_seq ?_
  refine x_region ?_
  refine xl_pv (pv_move rfl) rfl ?_
  refine xl_pv (pv_move rfl) rfl ?_
  refine xl_pv (pv_move rfl) rfl ?_
  refine xl_pv (pv_move rfl) rfl ?_
  refine xl_pv (pv_nil rfl) rfl ?_
  refine xl_pv (pv_field_a rfl) rfl ?_
  refine xl_put (.t .h) rfl rfl (by first | rfl | (simp [AV.cs, oneB, *]; done) | (simp [AV.cs, oneB, *]; repeat' constructor)) rfl (.s (.s (.s (.s (.s (.c .z)))))) ?_
  refine xl_pv (pv_nil rfl) rfl ?_
  refine xl_pv (pv_field_a rfl) rfl ?_
  refine xl_put (.t .h) rfl rfl (by first | rfl | (simp [AV.cs, oneB, *]; done) | (simp [AV.cs, oneB, *]; repeat' constructor)) rfl (.s (.s (.s (.s (.s (.s (.c .z))))))) ?_
  refine xl_vnilAt 82 6 (.t (.t (.t (.t .h)))) ?_
  refine xl_pv (pv_nil rfl) rfl ?_
  refine xl_pv (pv_field_a rfl) rfl ?_
  refine xl_put (.t .h) rfl rfl (by first | rfl | (simp [AV.cs, oneB, *]; done) | (simp [AV.cs, oneB, *]; repeat' constructor)) rfl (.s (.s (.s (.s (.s (.s (.s (.c .z)))))))) ?_
  refine xl_nil ?_
  refine xq_norm (xe_code ?_)
  refine x_vnilAt 3 1 (.t (.t (.t (.t (.t .h))))) ?_
  refine x_seq ?_
  refine x_region ?_
  refine xl_pv (pv_assign rfl) rfl ?_
  refine xl_vnil 9 1 ?_
  refine xl_nil ?_
  refine xq_norm (xe_code ?_)
  refine x_join0 [(6, bv (fine0 ⟨d1, d2, d3, ⟨r1, r2, r3⟩, d5⟩))] (.cons (i := 5) rfl (.cons (i := 4) rfl (.cons (i := 0) rfl (.nil _)))) ?_ ?_
  · skip
    refine x_region ?_
    refine xl_pv (pv_field_a rfl) rfl ?_
    refine xl_pv (pv_load1 rfl (.there .here) rfl) rfl ?_
    refine xl_pv (pv_len rfl) rfl ?_
    refine xl_pv (pv_bin rfl rfl rfl) rfl ?_
    refine xl_pv (pv_move rfl) rfl ?_
    refine xl_guard rfl rfl (fun g1 => ?_) (fun g1 => ?_)
    · skip
      refine xl_take rfl rfl rfl ?_
      refine xl_pv (pv_field_a rfl) rfl ?_
      refine xl_take rfl rfl rfl ?_
      refine xl_pv (pv_field_a rfl) rfl ?_
      refine xl_take rfl rfl rfl ?_
      refine xl_pv (pv_load1 rfl (.there .here) rfl) rfl ?_
      refine xl_take rfl rfl rfl ?_
      refine xl_pv (pv_bin rfl rfl rfl) rfl ?_
      refine xl_take rfl rfl rfl ?_
      refine xl_pv (pv_move rfl) rfl ?_
      refine xl_guard rfl rfl (fun g2 => ?_) (fun g2 => ?_)
      · skip
        refine xl_take rfl rfl rfl ?_
        refine xl_pv (pv_field_a rfl) rfl ?_
        refine xl_take rfl rfl rfl ?_
        refine xl_pv (pv_loadN rfl (.there .here) rfl) rfl ?_
        refine xl_take rfl rfl rfl ?_
        refine xl_go (scalar_c ⟨r1, r2, r3⟩) rfl (.cons rfl (Wk.refl _) .nil) .d rfl ?_
        refine xl_take rfl rfl rfl ?_
        refine xl_pv (pv_pick_f rfl rfl) rfl ?_
        refine xl_pv (pv_pick_t rfl rfl) rfl ?_
        refine xl_pv (pv_assign rfl) rfl ?_
        refine xl_nil ?_
        refine xq_meetF (.cons_wk (i := 6) rfl (Wk.of_eq (by simp at g1 g2; simp [fine0, g1, g2, scB]; try omega)) (.cons rfl (.cons rfl (.cons rfl (.nil _))))) rfl
      · skip
        refine xl_skip rfl rfl rfl rfl ?_
        refine xl_skip rfl rfl rfl rfl ?_
        refine xl_skip rfl rfl rfl rfl ?_
        refine xl_take rfl rfl rfl ?_
        refine xl_pv (pv_pick_t rfl rfl) rfl ?_
        refine xl_pv (pv_pick_t rfl rfl) rfl ?_
        refine xl_pv (pv_assign rfl) rfl ?_
        refine xl_nil ?_
        refine xq_meetF (.cons_wk (i := 6) rfl (Wk.of_eq (by simp at g1 g2; simp [fine0, g1, g2]; try omega)) (.cons rfl (.cons rfl (.cons rfl (.nil _))))) rfl
    · skip
      refine xl_skip rfl rfl rfl rfl ?_
      refine xl_skip rfl rfl rfl rfl ?_
      refine xl_skip rfl rfl rfl rfl ?_
      refine xl_skip rfl rfl rfl rfl ?_
      refine xl_skip rfl rfl rfl rfl ?_
      refine xl_skipu rfl rfl rfl ?_
      refine xl_skipu rfl rfl rfl ?_
      refine xl_skipu rfl rfl rfl ?_
      refine xl_skip rfl rfl rfl rfl ?_
      refine xl_pv (pv_pick_f rfl rfl) rfl ?_
      refine xl_pv (pv_assign rfl) rfl ?_
      refine xl_nil ?_
      refine xq_meetF (.cons_wk (i := 6) rfl (Wk.of_eq (by simp at g1; simp [fine0]; try omega)) (.cons rfl (.cons rfl (.cons rfl (.nil _))))) rfl
  simp only [List.cons_append, List.nil_append]
  generalize hf0 : fine0 ⟨d1, d2, d3, ⟨r1, r2, r3⟩, d5⟩ = f0 at hp
  refine x_seq ?_
  refine x_seq ?_
  refine x_region ?_
  refine xl_pv (pv_field_a rfl) rfl ?_
  refine xl_pv (pv_load1 rfl (.there .here) rfl) rfl ?_
  refine xl_pv (pv_len rfl) rfl ?_
  refine xl_pv (pv_move rfl) rfl ?_
  refine xl_nil ?_
  refine xq_norm (xe_code ?_)
  refine x_block ?_
  refine x_loopS (S := BSt) (fun q => q.i ≤ d3.length ∧ parF P d3 [] f0 = parF P (d3.drop q.i) ((d3.take q.i).map CParam.name) (f0 && (d3.take q.i).all fun p => scB p.ty)) (fun q => d3.length - q.i) (fun q => [(54, iv q.i), (5, .val q.vn), (6, bv (f0 && (d3.take q.i).all fun p => scB p.ty))]) (fun q => .vec q.vn 9 1 (((d3.take q.i).map CParam.name).map sv) :: .ref b4 53 (CDecl.mk d1 d2 d3 ⟨r1, r2, r3⟩ d5).av.cs :: .ref c 110 [.list 2 (P.structs.map CStruct.av), .list 7 (P.funcs.map CDecl.av), .val vb, mn, .val vp, iv i, .val q.vv, .val q.vc] :: .vec vb 59 5 (bs.map CBody.av) :: .vec vp 87 3 (ps.map CPoint.av) :: .vec q.vv 82 6 (((d3.take q.i).map varOf).map CVar.av) :: .vec q.vc 3 1 ((scopeN q.i).map iv) :: []) (⟨0, .slice none 0 0, .slice none 0 0, .slice none 0 0⟩) (⟨Nat.zero_le _, by simp⟩) (.cons rfl (.cons rfl (.cons_wk rfl (Wk.of_eq (by simp)) (.cons (i := 53) rfl (.cons (i := 52) rfl (.cons (i := 4) rfl (.cons (i := 0) rfl (.nil _)))))))) (rfl) ?_
  rintro ⟨i2, vn, vv, vc⟩ ⟨hi, hx⟩
  simp only [List.cons_append, List.nil_append]
  dsimp only at hi hx
  refine x_seq ?_
  refine x_region ?_
  refine xl_pv (pv_bin rfl rfl rfl) rfl ?_
  refine xl_nil ?_
  refine xq_norm (xe_code ?_)
  refine x_seq ?_
  refine x_condT rfl (fun h => ?_) (fun h => ?_)
  · skip
    have hlt2 : i2 < d3.length := by simpa using h
    obtain ⟨z, hz⟩ := get_lt hlt2
    have hdr := get_drop hz
    obtain ⟨z1, ⟨z2, z3, z4⟩⟩ := z
    have hOk := par_step (hx.symm.trans hp) hdr
    refine x_skip ?_
    refine xq_norm (xe_code ?_)
    refine x_seq ?_
    refine x_block ?_
    refine x_seq ?_
    refine x_region ?_
    refine xl_pv (pv_move rfl) rfl ?_
    refine xl_pv (pv_at rfl rfl (by omega) ((get_map hz))) rfl ?_
    refine xl_pv (pv_loadN_i rfl rfl) rfl ?_
    refine xl_alloc rfl (fun b8 => ?_)
    refine xl_pv (pv_assign rfl) rfl ?_
    refine xl_put .h rfl rfl (by first | rfl | (simp [AV.cs, oneB, *]; done) | (simp [AV.cs, oneB, *]; repeat' constructor)) rfl (.c (.c (.c (.c .z)))) ?_
    refine xl_nil ?_
    refine xq_norm (xe_code ?_)
    refine x_seq ?_
    refine x_region ?_
    refine xl_pv (pv_move rfl) rfl ?_
    refine xl_pv (pv_field_a rfl) rfl ?_
    refine xl_pv (pv_load1 rfl .here rfl) rfl ?_
    refine xl_lit (.cons rfl .nil) rfl (by first | (simp [AV.cs]; done) | exact lits (by rfl) | (intro x hx; cases hx with | head => rfl | tail _ h => cases h)) (by rfl) (by decide) rfl ?_
    refine xl_grow (.t .h) rfl rfl (by rfl) (by simp; omega) rfl (fun vn_1 hvn_1 => ?_)
    refine xl_veq (xs' := (((d3.take (i2 + 1)).map CParam.name).map sv)) (.t .h) (by rw [take_snoc CParam.name hz]; simp) ?_
    refine xl_pv (pv_assign rfl) rfl ?_
    refine xl_nil ?_
    refine xq_norm (xe_code ?_)
    refine x_seq ?_
    refine x_region ?_
    refine xl_pv (pv_move rfl) rfl ?_
    refine xl_pv (pv_field_a rfl) rfl ?_
    refine xl_pv (pv_loadN rfl .here rfl) rfl ?_
    refine xl_go (known_c P c _ _ _ _ _ _ ⟨z2, z3, z4⟩ (by omega)) rfl (.cons rfl (Wk.refl _) (.cons rfl (Wk.refl _) .nil)) (.k (.k (.k (.x .d)))) rfl ?_
    refine xl_pv (pv_move rfl) rfl ?_
    refine xl_guard rfl rfl (fun hK => ?_) (fun hK => ?_)
    · skip
      refine xl_take rfl rfl rfl ?_
      refine xl_pv (pv_move rfl) rfl ?_
      refine xl_take rfl rfl rfl ?_
      refine xl_look (twice_c ((d3.take (i2 + 1)).map CParam.name) (by simp; omega)) (.there .here) rfl rfl rfl ?_
      refine xl_take rfl rfl rfl ?_
      refine xl_pv (pv_not rfl) rfl ?_
      refine xl_pv (pv_pick_t rfl rfl) rfl ?_
      refine xl_go (fail_t 8) rfl (.cons rfl (Wk.of_eq (by rw [take_snoc CParam.name hz, hOk.2]; rfl)) (.cons rfl (Wk.refl _) .nil)) .d rfl ?_
      refine xl_nil ?_
      refine xq_norm (xe_code ?_)
      refine x_seq ?_
      refine x_region ?_
      refine xl_pv (pv_move rfl) rfl ?_
      refine xl_pv (pv_move rfl) rfl ?_
      refine xl_guard rfl rfl (fun hS => ?_) (fun hS => ?_)
      · skip
        refine xl_take rfl rfl rfl ?_
        refine xl_pv (pv_field_a rfl) rfl ?_
        refine xl_take rfl rfl rfl ?_
        refine xl_pv (pv_loadN rfl .here rfl) rfl ?_
        refine xl_take rfl rfl rfl ?_
        refine xl_go (scalar_c ⟨z2, z3, z4⟩) rfl (.cons rfl (Wk.refl _) .nil) .d rfl ?_
        refine xl_pv (pv_pick_t rfl rfl) rfl ?_
        refine xl_pv (pv_assign rfl) rfl ?_
        refine xl_nil ?_
        refine xq_norm (xe_code ?_)
        refine x_seq ?_
        refine x_draw rfl ?_
        refine xd_v 0 rfl rfl rfl (gv_v (pv_move rfl) rfl) ?_
        refine xd_v 1 rfl rfl rfl (gv_v (pv_move rfl) rfl) ?_
        refine xd_v 2 rfl rfl rfl (gv_v (pv_nil rfl) rfl) ?_
        refine xd_v 3 rfl rfl rfl (gv_v (pv_field_a rfl) rfl) ?_
        refine xd_v 4 rfl rfl rfl (gv_v (pv_load1 rfl (.there (.there (.there .here))) rfl) rfl) ?_
        refine xd_v 5 rfl rfl rfl (gv_v (pv_field_a rfl) rfl) ?_
        refine xd_v 6 rfl rfl rfl (gv_v (pv_load1 rfl .here rfl) rfl) ?_
        refine xd_v 7 rfl rfl rfl (gv_v (pv_field_a rfl) rfl) ?_
        refine xd_v 8 rfl rfl rfl (gv_v (pv_loadN rfl .here rfl) rfl) ?_
        refine xd_v 9 rfl rfl rfl (gv_v (pv_wk (.agg [sv z1, kv z2, iv z3, sv z4, iv 1, strs []]) (pv_build (by exact (.cons rfl rfl rfl (by first | rfl | (simp [AV.cs, oneB, *]; done) | (simp [AV.cs, oneB, *]; repeat' constructor)) (.c .z) (.cons rfl rfl rfl (by first | rfl | (simp [AV.cs, oneB, *]; done) | (simp [AV.cs, oneB, *]; repeat' constructor)) (.s (.c (.c (.c .z)))) (.cons rfl rfl rfl (by first | rfl | (simp [AV.cs, oneB, *]; done) | (simp [AV.cs, oneB, *]; repeat' constructor)) (.s (.s (.s (.s (.c .z))))) .nil))))) (by repeat (first | exact Wk.refl _ | exact Wk.nil _ | exact All2.nil | refine Wk.tuple ?_ | refine Wk.agg ?_ | refine All2.cons ?_ ?_))) rfl) ?_
        refine xd_v 10 rfl rfl rfl (gv_o (ov_lit (.cons rfl .nil) rfl (by first | (simp [AV.cs]; done) | exact lits (by rfl) | (intro x hx; cases hx with | head => rfl | tail _ h => cases h)) (by rfl) (by decide)) rfl) ?_
        refine xd_e rfl 11 rfl rfl rfl (by rintro _ ⟨⟩ <;> exact Nat.le_of_ble_eq_true rfl) rfl (ev_grow (.t (.t (.t (.t (.t (.t .h)))))) rfl rfl (by rfl) (by simp; omega)) ?_
        rintro _ _ ⟨vv_2, hvv_2, rfl, rfl⟩
        refine ⟨?_, ?_⟩
        · skip
          intro m hm o' y ho hy
          have hm' : m ∈ [9, 8, 7, 6, 5, 3, 2, 1, 0] := hm
          clear hm
          rcases List.mem_cons.1 hm' with rfl | hm'
          · cases ho; cases hy
            exact gv_v (pv_wk (.agg [sv z1, kv z2, iv z3, sv z4, iv 1, strs []]) (pv_build (by exact (.cons rfl rfl rfl (by first | rfl | (simp [AV.cs, oneB, *]; done) | (simp [AV.cs, oneB, *]; repeat' constructor)) (.c .z) (.cons rfl rfl rfl (by first | rfl | (simp [AV.cs, oneB, *]; done) | (simp [AV.cs, oneB, *]; repeat' constructor)) (.s (.c (.c (.c .z)))) (.cons rfl rfl rfl (by first | rfl | (simp [AV.cs, oneB, *]; done) | (simp [AV.cs, oneB, *]; repeat' constructor)) (.s (.s (.s (.s (.c .z))))) .nil))))) (by repeat (first | exact Wk.refl _ | exact Wk.nil _ | exact All2.nil | refine Wk.tuple ?_ | refine Wk.agg ?_ | refine All2.cons ?_ ?_))) rfl
          rcases List.mem_cons.1 hm' with rfl | hm'
          · cases ho; cases hy
            exact gv_v (pv_loadN rfl .here rfl) rfl
          rcases List.mem_cons.1 hm' with rfl | hm'
          · cases ho; cases hy
            exact gv_v (pv_field_a rfl) rfl
          rcases List.mem_cons.1 hm' with rfl | hm'
          · cases ho; cases hy
            exact gv_v (pv_load1 rfl .here rfl) rfl
          rcases List.mem_cons.1 hm' with rfl | hm'
          · cases ho; cases hy
            exact gv_v (pv_field_a rfl) rfl
          rcases List.mem_cons.1 hm' with rfl | hm'
          · cases ho; cases hy
            exact gv_v (pv_field_a rfl) rfl
          rcases List.mem_cons.1 hm' with rfl | hm'
          · cases ho; cases hy
            exact gv_v (pv_nil rfl) rfl
          rcases List.mem_cons.1 hm' with rfl | hm'
          · cases ho; cases hy
            exact gv_v (pv_move rfl) rfl
          rcases List.mem_cons.1 hm' with rfl | hm'
          · cases ho; cases hy
            exact gv_v (pv_move rfl) rfl
          cases hm'
        refine xd_v 12 rfl rfl rfl (gv_v (pv_nil rfl) rfl) ?_
        refine xd_v 13 rfl rfl rfl (gv_v (pv_field_a rfl) rfl) ?_
        refine xd_e rfl 14 rfl rfl rfl (by rintro _ ⟨⟩ <;> exact Nat.le_of_ble_eq_true rfl) rfl (ev_put (.t (.t (.t .h))) rfl rfl (by simp [AV.cs, oneB, hvv_2]) rfl (.s (.s (.s (.s (.s (.s (.c .z)))))))) ?_
        rintro _ _ ⟨rfl, rfl⟩
        refine ⟨?_, ?_⟩
        · skip
          intro m hm o' y ho hy
          have hm' : m ∈ [12] := hm
          clear hm
          rcases List.mem_cons.1 hm' with rfl | hm'
          · cases ho; cases hy
            exact gv_v (pv_nil rfl) rfl
          cases hm'
        refine xd_end rfl rfl rfl rfl ?_
        refine xq_sub (.cons (i := 93) rfl (.cons (i := 92) rfl (.cons (i := 91) rfl (.cons (i := 90) rfl (.cons (i := 89) rfl (.cons (i := 88) rfl (.cons (i := 87) rfl (.cons (i := 86) rfl (.cons (i := 85) rfl (.cons (i := 84) rfl (.cons (i := 83) rfl (.cons (i := 82) rfl (.cons (i := 81) rfl (.cons (i := 80) rfl (.cons (i := 6) rfl (.cons (i := 79) rfl (.cons (i := 78) rfl (.cons (i := 77) rfl (.cons (i := 76) rfl (.cons (i := 75) rfl (.cons (i := 74) rfl (.cons (i := 72) rfl (.cons (i := 71) rfl (.cons (i := 70) rfl (.cons (i := 69) rfl (.cons (i := 68) rfl (.cons (i := 67) rfl (.cons (i := 66) rfl (.cons (i := 65) rfl (.cons (i := 64) rfl (.cons (i := 5) rfl (.cons (i := 63) rfl (.cons (i := 62) rfl (.cons (i := 61) rfl (.cons (i := 60) rfl (.cons (i := 59) rfl (.cons (i := 7) rfl (.cons (i := 8) rfl (.cons (i := 58) rfl (.cons (i := 57) rfl (.cons (i := 56) rfl (.cons (i := 55) rfl (.cons (i := 54) rfl (.cons (i := 53) rfl (.cons (i := 52) rfl (.cons (i := 4) rfl (.cons (i := 0) rfl (.nil _)))))))))))))))))))))))))))))))))))))))))))))))) ?_
        refine xq_norm (xe_code ?_)
        refine x_region ?_
        refine xl_pv (pv_move rfl) rfl ?_
        refine xl_pv (pv_move rfl) rfl ?_
        refine xl_pv (pv_nil rfl) rfl ?_
        refine xl_pv (pv_field_a rfl) rfl ?_
        refine xl_pv (pv_load1 rfl (.there (.there (.there .here))) rfl) rfl ?_
        refine xl_pv (pv_move rfl) rfl ?_
        refine xl_lit (.cons rfl .nil) rfl (by first | (simp [AV.cs]; done) | exact lits (by rfl) | (intro x hx; cases hx with | head => rfl | tail _ h => cases h)) (by rfl) (by decide) rfl ?_
        refine xl_grow (.t (.t (.t (.t (.t (.t (.t .h))))))) rfl rfl (by rfl) (by simp [scopeN]; omega) rfl (fun vc_3 hvc_3 => ?_)
        refine xl_pv (pv_nil rfl) rfl ?_
        refine xl_pv (pv_field_a rfl) rfl ?_
        refine xl_put (.t (.t (.t .h))) rfl rfl (by simp [AV.cs, oneB, hvc_3]) rfl (.s (.s (.s (.s (.s (.s (.s (.c .z)))))))) ?_
        refine xl_nil ?_
        refine xq_bnorm ?_
        refine xq_norm (xe_code ?_)
        refine x_region ?_
        refine xl_pv (pv_add rfl rfl (by omega) (by omega)) rfl ?_
        refine xl_pv (pv_move rfl) rfl ?_
        refine xl_nil ?_
        refine xq_drop .here ?_
        refine xe_loopF (⟨i2 + 1, vn_1, vv_2, vc_3⟩) (⟨hlt2, by rw [hx, hdr, parF, if_pos hOk, take_snoc CParam.name hz, List.take_add_one, hz]; simp [Bool.and_assoc]⟩) (by first | omega | (simp at *; omega)) (.cons rfl (.cons rfl (.cons_wk (i := 6) rfl (Wk.of_eq (by rw [List.take_add_one, hz]; simp [← Bool.and_assoc, hS]; rfl)) (.cons rfl (.cons rfl (.cons rfl (.cons rfl (.nil _)))))))) (by simp only []; rw [take_snoc varOf hz, scopeN_succ]; simp; rfl)
      · skip
        refine xl_skip rfl rfl rfl rfl ?_
        refine xl_skip rfl rfl rfl rfl ?_
        refine xl_skip rfl rfl rfl rfl ?_
        refine xl_pv (pv_pick_f rfl rfl) rfl ?_
        refine xl_pv (pv_assign rfl) rfl ?_
        refine xl_nil ?_
        refine xq_norm (xe_code ?_)
        refine x_seq ?_
        refine x_draw rfl ?_
        refine xd_v 0 rfl rfl rfl (gv_v (pv_move rfl) rfl) ?_
        refine xd_v 1 rfl rfl rfl (gv_v (pv_move rfl) rfl) ?_
        refine xd_v 2 rfl rfl rfl (gv_v (pv_nil rfl) rfl) ?_
        refine xd_v 3 rfl rfl rfl (gv_v (pv_field_a rfl) rfl) ?_
        refine xd_v 4 rfl rfl rfl (gv_v (pv_load1 rfl (.there (.there (.there .here))) rfl) rfl) ?_
        refine xd_v 5 rfl rfl rfl (gv_v (pv_field_a rfl) rfl) ?_
        refine xd_v 6 rfl rfl rfl (gv_v (pv_load1 rfl .here rfl) rfl) ?_
        refine xd_v 7 rfl rfl rfl (gv_v (pv_field_a rfl) rfl) ?_
        refine xd_v 8 rfl rfl rfl (gv_v (pv_loadN rfl .here rfl) rfl) ?_
        refine xd_v 9 rfl rfl rfl (gv_v (pv_wk (.agg [sv z1, kv z2, iv z3, sv z4, iv 1, strs []]) (pv_build (by exact (.cons rfl rfl rfl (by first | rfl | (simp [AV.cs, oneB, *]; done) | (simp [AV.cs, oneB, *]; repeat' constructor)) (.c .z) (.cons rfl rfl rfl (by first | rfl | (simp [AV.cs, oneB, *]; done) | (simp [AV.cs, oneB, *]; repeat' constructor)) (.s (.c (.c (.c .z)))) (.cons rfl rfl rfl (by first | rfl | (simp [AV.cs, oneB, *]; done) | (simp [AV.cs, oneB, *]; repeat' constructor)) (.s (.s (.s (.s (.c .z))))) .nil))))) (by repeat (first | exact Wk.refl _ | exact Wk.nil _ | exact All2.nil | refine Wk.tuple ?_ | refine Wk.agg ?_ | refine All2.cons ?_ ?_))) rfl) ?_
        refine xd_v 10 rfl rfl rfl (gv_o (ov_lit (.cons rfl .nil) rfl (by first | (simp [AV.cs]; done) | exact lits (by rfl) | (intro x hx; cases hx with | head => rfl | tail _ h => cases h)) (by rfl) (by decide)) rfl) ?_
        refine xd_e rfl 11 rfl rfl rfl (by rintro _ ⟨⟩ <;> exact Nat.le_of_ble_eq_true rfl) rfl (ev_grow (.t (.t (.t (.t (.t (.t .h)))))) rfl rfl (by rfl) (by simp; omega)) ?_
        rintro _ _ ⟨vv_4, hvv_4, rfl, rfl⟩
        refine ⟨?_, ?_⟩
        · skip
          intro m hm o' y ho hy
          have hm' : m ∈ [9, 8, 7, 6, 5, 3, 2, 1, 0] := hm
          clear hm
          rcases List.mem_cons.1 hm' with rfl | hm'
          · cases ho; cases hy
            exact gv_v (pv_wk (.agg [sv z1, kv z2, iv z3, sv z4, iv 1, strs []]) (pv_build (by exact (.cons rfl rfl rfl (by first | rfl | (simp [AV.cs, oneB, *]; done) | (simp [AV.cs, oneB, *]; repeat' constructor)) (.c .z) (.cons rfl rfl rfl (by first | rfl | (simp [AV.cs, oneB, *]; done) | (simp [AV.cs, oneB, *]; repeat' constructor)) (.s (.c (.c (.c .z)))) (.cons rfl rfl rfl (by first | rfl | (simp [AV.cs, oneB, *]; done) | (simp [AV.cs, oneB, *]; repeat' constructor)) (.s (.s (.s (.s (.c .z))))) .nil))))) (by repeat (first | exact Wk.refl _ | exact Wk.nil _ | exact All2.nil | refine Wk.tuple ?_ | refine Wk.agg ?_ | refine All2.cons ?_ ?_))) rfl
          rcases List.mem_cons.1 hm' with rfl | hm'
          · cases ho; cases hy
            exact gv_v (pv_loadN rfl .here rfl) rfl
          rcases List.mem_cons.1 hm' with rfl | hm'
          · cases ho; cases hy
            exact gv_v (pv_field_a rfl) rfl
          rcases List.mem_cons.1 hm' with rfl | hm'
          · cases ho; cases hy
            exact gv_v (pv_load1 rfl .here rfl) rfl
          rcases List.mem_cons.1 hm' with rfl | hm'
          · cases ho; cases hy
            exact gv_v (pv_field_a rfl) rfl
          rcases List.mem_cons.1 hm' with rfl | hm'
          · cases ho; cases hy
            exact gv_v (pv_field_a rfl) rfl
          rcases List.mem_cons.1 hm' with rfl | hm'
          · cases ho; cases hy
            exact gv_v (pv_nil rfl) rfl
          rcases List.mem_cons.1 hm' with rfl | hm'
          · cases ho; cases hy
            exact gv_v (pv_move rfl) rfl
          rcases List.mem_cons.1 hm' with rfl | hm'
          · cases ho; cases hy
            exact gv_v (pv_move rfl) rfl
          cases hm'
        refine xd_v 12 rfl rfl rfl (gv_v (pv_nil rfl) rfl) ?_
        refine xd_v 13 rfl rfl rfl (gv_v (pv_field_a rfl) rfl) ?_
        refine xd_e rfl 14 rfl rfl rfl (by rintro _ ⟨⟩ <;> exact Nat.le_of_ble_eq_true rfl) rfl (ev_put (.t (.t (.t .h))) rfl rfl (by simp [AV.cs, oneB, hvv_4]) rfl (.s (.s (.s (.s (.s (.s (.c .z)))))))) ?_
        rintro _ _ ⟨rfl, rfl⟩
        refine ⟨?_, ?_⟩
        · skip
          intro m hm o' y ho hy
          have hm' : m ∈ [12] := hm
          clear hm
          rcases List.mem_cons.1 hm' with rfl | hm'
          · cases ho; cases hy
            exact gv_v (pv_nil rfl) rfl
          cases hm'
        refine xd_end rfl rfl rfl rfl ?_
        refine xq_sub (.cons (i := 93) rfl (.cons (i := 92) rfl (.cons (i := 91) rfl (.cons (i := 90) rfl (.cons (i := 89) rfl (.cons (i := 88) rfl (.cons (i := 87) rfl (.cons (i := 86) rfl (.cons (i := 85) rfl (.cons (i := 84) rfl (.cons (i := 83) rfl (.cons (i := 82) rfl (.cons (i := 81) rfl (.cons (i := 80) rfl (.cons (i := 6) rfl (.cons (i := 79) rfl (.cons (i := 78) rfl (.cons (i := 77) rfl (.cons (i := 76) rfl (.cons (i := 75) rfl (.cons (i := 74) rfl (.cons (i := 72) rfl (.cons (i := 71) rfl (.cons (i := 70) rfl (.cons (i := 69) rfl (.cons (i := 68) rfl (.cons (i := 67) rfl (.cons (i := 66) rfl (.cons (i := 65) rfl (.cons (i := 64) rfl (.cons (i := 5) rfl (.cons (i := 63) rfl (.cons (i := 62) rfl (.cons (i := 61) rfl (.cons (i := 60) rfl (.cons (i := 59) rfl (.cons (i := 7) rfl (.cons (i := 8) rfl (.cons (i := 58) rfl (.cons (i := 57) rfl (.cons (i := 56) rfl (.cons (i := 55) rfl (.cons (i := 54) rfl (.cons (i := 53) rfl (.cons (i := 52) rfl (.cons (i := 4) rfl (.cons (i := 0) rfl (.nil _)))))))))))))))))))))))))))))))))))))))))))))))) ?_
        refine xq_norm (xe_code ?_)
        refine x_region ?_
        refine xl_pv (pv_move rfl) rfl ?_
        refine xl_pv (pv_move rfl) rfl ?_
        refine xl_pv (pv_nil rfl) rfl ?_
        refine xl_pv (pv_field_a rfl) rfl ?_
        refine xl_pv (pv_load1 rfl (.there (.there (.there .here))) rfl) rfl ?_
        refine xl_pv (pv_move rfl) rfl ?_
        refine xl_lit (.cons rfl .nil) rfl (by first | (simp [AV.cs]; done) | exact lits (by rfl) | (intro x hx; cases hx with | head => rfl | tail _ h => cases h)) (by rfl) (by decide) rfl ?_
        refine xl_grow (.t (.t (.t (.t (.t (.t (.t .h))))))) rfl rfl (by rfl) (by simp [scopeN]; omega) rfl (fun vc_5 hvc_5 => ?_)
        refine xl_pv (pv_nil rfl) rfl ?_
        refine xl_pv (pv_field_a rfl) rfl ?_
        refine xl_put (.t (.t (.t .h))) rfl rfl (by simp [AV.cs, oneB, hvc_5]) rfl (.s (.s (.s (.s (.s (.s (.s (.c .z)))))))) ?_
        refine xl_nil ?_
        refine xq_bnorm ?_
        refine xq_norm (xe_code ?_)
        refine x_region ?_
        refine xl_pv (pv_add rfl rfl (by omega) (by omega)) rfl ?_
        refine xl_pv (pv_move rfl) rfl ?_
        refine xl_nil ?_
        refine xq_drop .here ?_
        refine xe_loopF (⟨i2 + 1, vn_1, vv_4, vc_5⟩) (⟨hlt2, by rw [hx, hdr, parF, if_pos hOk, take_snoc CParam.name hz, List.take_add_one, hz]; simp [Bool.and_assoc]⟩) (by first | omega | (simp at *; omega)) (.cons rfl (.cons rfl (.cons_wk (i := 6) rfl (Wk.of_eq (by rw [List.take_add_one, hz]; simp [← Bool.and_assoc, hS])) (.cons rfl (.cons rfl (.cons rfl (.cons rfl (.nil _)))))))) (by simp only []; rw [take_snoc varOf hz, scopeN_succ]; simp; rfl)
    · skip
      rw [hOk.1] at hK; cases hK
  · skip
    have hle : d3.length ≤ i2 := by simpa using h
    have he2 : i2 = d3.length := Nat.le_antisymm hi hle
    subst he2
    rw [List.take_length] at hx
    rw [List.take_length]
    have hfine : (f0 && d3.all fun p => scB p.ty) = true := by rw [hx, List.drop_length, parF] at hp; injection hp
    refine x_exit ?_
    refine xq_exit ?_
    refine xq_exit ?_
    refine xq_hit ?_
    refine xq_norm (xe_code ?_)
    refine x_seq ?_
    refine x_region ?_
    refine xl_pv (pv_move rfl) rfl ?_
    refine xl_pv (pv_field_a rfl) rfl ?_
    refine xl_pv (pv_loadN rfl (.there .here) rfl) rfl ?_
    refine xl_go (known_c P c _ _ _ _ _ _ ⟨r1, r2, r3⟩ (by omega)) rfl (.cons rfl (Wk.refl _) (.cons rfl (Wk.refl _) .nil)) (.k (.k (.x .d))) rfl ?_
    refine xl_go (fail_t 8) rfl (.cons rfl (Wk.of_eq (by rw [hk])) (.cons rfl (Wk.refl _) .nil)) .d rfl ?_
    refine xl_nil ?_
    refine xq_norm (xe_code ?_)
    refine x_seq ?_
    refine x_region ?_
    refine xl_pv (pv_move rfl) rfl ?_
    refine xl_go (fail_t 9) rfl (.cons rfl (Wk.of_eq (by rw [hfine])) (.cons rfl (Wk.refl _) .nil)) .d rfl ?_
    refine xl_nil ?_
    refine xq_norm (xe_code ?_)
    refine x_seq ?_
    refine x_region ?_
    refine xl_pv (pv_move rfl) rfl ?_
    refine xl_pv (pv_field_a rfl) rfl ?_
    refine xl_pv (pv_load1 rfl (.there .here) rfl) rfl ?_
    refine xl_goE (OutS_ok (hlist c (.val vb) mn vp vv vc ⟨ps, d3.map varOf, scopeN d3.length⟩ ⟨by simp; omega, by simp; omega, by simp [scopeN]; omega, by intro x hx; obtain ⟨y, _, rfl⟩ := List.mem_map.1 hx; simp [varOf]⟩) hL) rfl (.cons rfl (Wk.refl _) (.cons rfl (Wk.of_eq (by rw [← CStmt.avs_eq])) .nil)) (.k (.k (.x (.k (.x (.x (.x .d))))))) rfl (fun q => ?_)
    refine xl_pv (pv_assign rfl) rfl ?_
    refine xl_nil ?_
    refine xq_norm (xe_code ?_)
    refine x_seq ?_
    refine x_region ?_
    refine xl_pv (pv_field_a rfl) rfl ?_
    refine xl_pv (pv_field_a rfl) rfl ?_
    refine xl_pv (pv_load1 rfl (.there .here) rfl) rfl ?_
    refine xl_pv (pv_bin rfl rfl rfl) rfl ?_
    refine xl_pv (pv_assign rfl) rfl ?_
    refine xl_nil ?_
    refine xq_norm (xe_code ?_)
    refine x_seq ?_
    refine x_region ?_
    refine xl_pv (pv_move rfl) rfl ?_
    refine xl_pv (pv_not rfl) rfl ?_
    refine xl_pv (pv_move rfl) rfl ?_
    refine xl_guard rfl rfl (fun g3 => ?_) (fun g3 => ?_)
    · skip
      refine xl_take rfl rfl rfl ?_
      refine xl_pv (pv_field_a rfl) rfl ?_
      refine xl_take rfl rfl rfl ?_
      refine xl_pv (pv_load1 rfl (.there .here) rfl) rfl ?_
      refine xl_take rfl rfl rfl ?_
      refine xl_go (hret) rfl (.cons rfl (Wk.of_eq (by rw [← CStmt.avs_eq])) .nil) .d rfl ?_
      refine xl_pv (pv_pick_f rfl rfl) rfl ?_
      refine xl_go (fail_t 10) rfl (.cons rfl (Wk.of_eq (by simp at g3; have := fun h => hR ⟨g3, h⟩; simp at this; rw [this])) (.cons rfl (Wk.refl _) .nil)) .d rfl ?_
      refine xl_nil ?_
      refine xq_norm (xe_code ?_)
      refine x_pubc 6 (.there (.there (.there (.there (.there .here))))) (.t (.t .h)) rfl (.s (.s (.s (.s (.s (.s (.c .z))))))) ?_
      refine x_draw rfl ?_
      refine xd_v 0 rfl rfl rfl (gv_v (pv_move rfl) rfl) ?_
      refine xd_v 1 rfl rfl rfl (gv_v (pv_move rfl) rfl) ?_
      refine xd_v 2 rfl rfl rfl (gv_v (pv_nil rfl) rfl) ?_
      refine xd_v 3 rfl rfl rfl (gv_v (pv_field_a rfl) rfl) ?_
      refine xd_v 4 rfl rfl rfl (gv_v (pv_field_a rfl) rfl) ?_
      refine xd_v 5 rfl rfl rfl (gv_v (pv_load1 rfl (.there (.there .here)) rfl) rfl) ?_
      refine xd_v 6 rfl rfl rfl (gv_v (pv_field_a rfl) rfl) ?_
      refine xd_v 7 rfl rfl rfl (gv_v (pv_load1 rfl (.there .here) rfl) rfl) ?_
      refine xd_v 8 rfl rfl rfl (gv_v (pv_field_a rfl) rfl) ?_
      refine xd_v 9 rfl rfl rfl (gv_v (pv_load1 rfl (.there .here) rfl) rfl) ?_
      refine xd_v 10 rfl rfl rfl (gv_v (pv_len rfl) rfl) ?_
      refine xd_v 11 rfl rfl rfl (gv_v (pv_move rfl) rfl) ?_
      refine xd_v 12 rfl rfl rfl (gv_v (pv_move rfl) rfl) ?_
      refine xd_v 13 rfl rfl rfl (gv_v (pv_nil rfl) rfl) ?_
      refine xd_v 14 rfl rfl rfl (gv_v (pv_field_a rfl) rfl) ?_
      refine xd_v 15 rfl rfl rfl (gv_v (pv_load1 rfl (.there (.there .here)) rfl) rfl) ?_
      refine xd_v 16 rfl rfl rfl (gv_v (pv_move rfl) rfl) ?_
      refine xd_v 17 rfl rfl rfl (gv_v (pv_build (by exact (.cons rfl rfl rfl (by first | rfl | (simp [AV.cs, oneB, *]; done) | (simp [AV.cs, oneB, *]; repeat' constructor)) (.c .z) (.cons rfl rfl rfl (by first | rfl | (simp [AV.cs, oneB, *]; done) | (simp [AV.cs, oneB, *]; repeat' constructor)) (.s (.c .z)) (.cons rfl rfl rfl (by first | rfl | (simp [AV.cs, oneB, *]; done) | (simp [AV.cs, oneB, *]; repeat' constructor)) (.s (.s (.c .z))) (.cons rfl rfl rfl (by first | rfl | (simp [AV.cs, oneB, *]; done) | (simp [AV.cs, oneB, *]; repeat' constructor)) (.s (.s (.s (.c .z)))) (.cons rfl rfl rfl (by first | rfl | (simp [AV.cs, oneB, *]; done) | (simp [AV.cs, oneB, *]; repeat' constructor)) (.s (.s (.s (.s (.c .z))))) .nil))))))) rfl) ?_
      refine xd_v 18 rfl rfl rfl (gv_o (ov_lit (.cons rfl .nil) rfl (by first | (simp [AV.cs]; done) | exact lits (by rfl) | (intro x hx; cases hx with | head => rfl | tail _ h => cases h)) (by rfl) (by decide)) rfl) ?_
      refine xd_e rfl 19 rfl rfl rfl (by rintro _ ⟨⟩ <;> exact Nat.le_of_ble_eq_true rfl) rfl (ev_grow (.t (.t (.t .h))) rfl rfl (by rfl) (by simp; omega)) ?_
      rintro _ _ ⟨vb_6, hvb_6, rfl, rfl⟩
      refine ⟨?_, ?_⟩
      · skip
        intro m hm o' y ho hy
        have hm' : m ∈ [17, 16, 15, 14, 13, 12, 11, 10, 9, 8, 7, 6, 4, 3, 2, 1, 0] := hm
        clear hm
        rcases List.mem_cons.1 hm' with rfl | hm'
        · cases ho; cases hy
          exact gv_v (pv_build (by exact (.cons rfl rfl rfl (by first | rfl | (simp [AV.cs, oneB, *]; done) | (simp [AV.cs, oneB, *]; repeat' constructor)) (.c .z) (.cons rfl rfl rfl (by first | rfl | (simp [AV.cs, oneB, *]; done) | (simp [AV.cs, oneB, *]; repeat' constructor)) (.s (.c .z)) (.cons rfl rfl rfl (by first | rfl | (simp [AV.cs, oneB, *]; done) | (simp [AV.cs, oneB, *]; repeat' constructor)) (.s (.s (.c .z))) (.cons rfl rfl rfl (by first | rfl | (simp [AV.cs, oneB, *]; done) | (simp [AV.cs, oneB, *]; repeat' constructor)) (.s (.s (.s (.c .z)))) (.cons rfl rfl rfl (by first | rfl | (simp [AV.cs, oneB, *]; done) | (simp [AV.cs, oneB, *]; repeat' constructor)) (.s (.s (.s (.s (.c .z))))) .nil))))))) rfl
        rcases List.mem_cons.1 hm' with rfl | hm'
        · cases ho; cases hy
          exact gv_v (pv_move rfl) rfl
        rcases List.mem_cons.1 hm' with rfl | hm'
        · cases ho; cases hy
          exact gv_v (pv_load1 rfl (.there (.there .here)) rfl) rfl
        rcases List.mem_cons.1 hm' with rfl | hm'
        · cases ho; cases hy
          exact gv_v (pv_field_a rfl) rfl
        rcases List.mem_cons.1 hm' with rfl | hm'
        · cases ho; cases hy
          exact gv_v (pv_nil rfl) rfl
        rcases List.mem_cons.1 hm' with rfl | hm'
        · cases ho; cases hy
          exact gv_v (pv_move rfl) rfl
        rcases List.mem_cons.1 hm' with rfl | hm'
        · cases ho; cases hy
          exact gv_v (pv_move rfl) rfl
        rcases List.mem_cons.1 hm' with rfl | hm'
        · cases ho; cases hy
          exact gv_v (pv_len rfl) rfl
        rcases List.mem_cons.1 hm' with rfl | hm'
        · cases ho; cases hy
          exact gv_v (pv_load1 rfl (.there .here) rfl) rfl
        rcases List.mem_cons.1 hm' with rfl | hm'
        · cases ho; cases hy
          exact gv_v (pv_field_a rfl) rfl
        rcases List.mem_cons.1 hm' with rfl | hm'
        · cases ho; cases hy
          exact gv_v (pv_load1 rfl (.there .here) rfl) rfl
        rcases List.mem_cons.1 hm' with rfl | hm'
        · cases ho; cases hy
          exact gv_v (pv_field_a rfl) rfl
        rcases List.mem_cons.1 hm' with rfl | hm'
        · cases ho; cases hy
          exact gv_v (pv_field_a rfl) rfl
        rcases List.mem_cons.1 hm' with rfl | hm'
        · cases ho; cases hy
          exact gv_v (pv_field_a rfl) rfl
        rcases List.mem_cons.1 hm' with rfl | hm'
        · cases ho; cases hy
          exact gv_v (pv_nil rfl) rfl
        rcases List.mem_cons.1 hm' with rfl | hm'
        · cases ho; cases hy
          exact gv_v (pv_move rfl) rfl
        rcases List.mem_cons.1 hm' with rfl | hm'
        · cases ho; cases hy
          exact gv_v (pv_move rfl) rfl
        cases hm'
      refine xd_v 20 rfl rfl rfl (gv_v (pv_nil rfl) rfl) ?_
      refine xd_v 21 rfl rfl rfl (gv_v (pv_field_a rfl) rfl) ?_
      refine xd_v 22 rfl rfl rfl (gv_v (pv_field_a rfl) rfl) ?_
      refine xd_e rfl 23 rfl rfl rfl (by rintro _ ⟨⟩ <;> exact Nat.le_of_ble_eq_true rfl) rfl (ev_put (.t (.t .h)) rfl rfl (by simp [AV.cs, oneB, hvb_6]) rfl (.s (.s (.c .z)))) ?_
      rintro _ _ ⟨rfl, rfl⟩
      refine ⟨?_, ?_⟩
      · skip
        intro m hm o' y ho hy
        have hm' : m ∈ [21, 20] := hm
        clear hm
        rcases List.mem_cons.1 hm' with rfl | hm'
        · cases ho; cases hy
          exact gv_v (pv_field_a rfl) rfl
        rcases List.mem_cons.1 hm' with rfl | hm'
        · cases ho; cases hy
          exact gv_v (pv_nil rfl) rfl
        cases hm'
      refine xd_end rfl rfl rfl rfl ?_
      refine xq_sub (.nil _) ?_
      refine xq_drop .here ?_
      refine xq_drop .here ?_
      refine xq_drop (.there (.there (.there .here))) ?_
      refine xq_done (.inl rfl) _ (res0 rfl) ?_
      exact ⟨⟨vb_6, q.p, .list 6 (st.vars.map CVar.av), .val q.s⟩, rfl, by simp [CBody.av, actsAV]⟩
    · skip
      refine xl_skip rfl rfl rfl rfl ?_
      refine xl_skip rfl rfl rfl rfl ?_
      refine xl_skip rfl rfl rfl rfl ?_
      refine xl_pv (pv_pick_t rfl rfl) rfl ?_
      refine xl_go (fail_t 10) rfl (.cons rfl (Wk.refl _) (.cons rfl (Wk.refl _) .nil)) .d rfl ?_
      refine xl_nil ?_
      refine xq_norm (xe_code ?_)
      refine x_pubc 6 (.there (.there (.there (.there (.there .here))))) (.t (.t .h)) rfl (.s (.s (.s (.s (.s (.s (.c .z))))))) ?_
      refine x_draw rfl ?_
      refine xd_v 0 rfl rfl rfl (gv_v (pv_move rfl) rfl) ?_
      refine xd_v 1 rfl rfl rfl (gv_v (pv_move rfl) rfl) ?_
      refine xd_v 2 rfl rfl rfl (gv_v (pv_nil rfl) rfl) ?_
      refine xd_v 3 rfl rfl rfl (gv_v (pv_field_a rfl) rfl) ?_
      refine xd_v 4 rfl rfl rfl (gv_v (pv_field_a rfl) rfl) ?_
      refine xd_v 5 rfl rfl rfl (gv_v (pv_load1 rfl (.there (.there .here)) rfl) rfl) ?_
      refine xd_v 6 rfl rfl rfl (gv_v (pv_field_a rfl) rfl) ?_
      refine xd_v 7 rfl rfl rfl (gv_v (pv_load1 rfl (.there .here) rfl) rfl) ?_
      refine xd_v 8 rfl rfl rfl (gv_v (pv_field_a rfl) rfl) ?_
      refine xd_v 9 rfl rfl rfl (gv_v (pv_load1 rfl (.there .here) rfl) rfl) ?_
      refine xd_v 10 rfl rfl rfl (gv_v (pv_len rfl) rfl) ?_
      refine xd_v 11 rfl rfl rfl (gv_v (pv_move rfl) rfl) ?_
      refine xd_v 12 rfl rfl rfl (gv_v (pv_move rfl) rfl) ?_
      refine xd_v 13 rfl rfl rfl (gv_v (pv_nil rfl) rfl) ?_
      refine xd_v 14 rfl rfl rfl (gv_v (pv_field_a rfl) rfl) ?_
      refine xd_v 15 rfl rfl rfl (gv_v (pv_load1 rfl (.there (.there .here)) rfl) rfl) ?_
      refine xd_v 16 rfl rfl rfl (gv_v (pv_move rfl) rfl) ?_
      refine xd_v 17 rfl rfl rfl (gv_v (pv_build (by exact (.cons rfl rfl rfl (by first | rfl | (simp [AV.cs, oneB, *]; done) | (simp [AV.cs, oneB, *]; repeat' constructor)) (.c .z) (.cons rfl rfl rfl (by first | rfl | (simp [AV.cs, oneB, *]; done) | (simp [AV.cs, oneB, *]; repeat' constructor)) (.s (.c .z)) (.cons rfl rfl rfl (by first | rfl | (simp [AV.cs, oneB, *]; done) | (simp [AV.cs, oneB, *]; repeat' constructor)) (.s (.s (.c .z))) (.cons rfl rfl rfl (by first | rfl | (simp [AV.cs, oneB, *]; done) | (simp [AV.cs, oneB, *]; repeat' constructor)) (.s (.s (.s (.c .z)))) (.cons rfl rfl rfl (by first | rfl | (simp [AV.cs, oneB, *]; done) | (simp [AV.cs, oneB, *]; repeat' constructor)) (.s (.s (.s (.s (.c .z))))) .nil))))))) rfl) ?_
      refine xd_v 18 rfl rfl rfl (gv_o (ov_lit (.cons rfl .nil) rfl (by first | (simp [AV.cs]; done) | exact lits (by rfl) | (intro x hx; cases hx with | head => rfl | tail _ h => cases h)) (by rfl) (by decide)) rfl) ?_
      refine xd_e rfl 19 rfl rfl rfl (by rintro _ ⟨⟩ <;> exact Nat.le_of_ble_eq_true rfl) rfl (ev_grow (.t (.t (.t .h))) rfl rfl (by rfl) (by simp; omega)) ?_
      rintro _ _ ⟨vb_7, hvb_7, rfl, rfl⟩
      refine ⟨?_, ?_⟩
      · skip
        intro m hm o' y ho hy
        have hm' : m ∈ [17, 16, 15, 14, 13, 12, 11, 10, 9, 8, 7, 6, 4, 3, 2, 1, 0] := hm
        clear hm
        rcases List.mem_cons.1 hm' with rfl | hm'
        · cases ho; cases hy
          exact gv_v (pv_build (by exact (.cons rfl rfl rfl (by first | rfl | (simp [AV.cs, oneB, *]; done) | (simp [AV.cs, oneB, *]; repeat' constructor)) (.c .z) (.cons rfl rfl rfl (by first | rfl | (simp [AV.cs, oneB, *]; done) | (simp [AV.cs, oneB, *]; repeat' constructor)) (.s (.c .z)) (.cons rfl rfl rfl (by first | rfl | (simp [AV.cs, oneB, *]; done) | (simp [AV.cs, oneB, *]; repeat' constructor)) (.s (.s (.c .z))) (.cons rfl rfl rfl (by first | rfl | (simp [AV.cs, oneB, *]; done) | (simp [AV.cs, oneB, *]; repeat' constructor)) (.s (.s (.s (.c .z)))) (.cons rfl rfl rfl (by first | rfl | (simp [AV.cs, oneB, *]; done) | (simp [AV.cs, oneB, *]; repeat' constructor)) (.s (.s (.s (.s (.c .z))))) .nil))))))) rfl
        rcases List.mem_cons.1 hm' with rfl | hm'
        · cases ho; cases hy
          exact gv_v (pv_move rfl) rfl
        rcases List.mem_cons.1 hm' with rfl | hm'
        · cases ho; cases hy
          exact gv_v (pv_load1 rfl (.there (.there .here)) rfl) rfl
        rcases List.mem_cons.1 hm' with rfl | hm'
        · cases ho; cases hy
          exact gv_v (pv_field_a rfl) rfl
        rcases List.mem_cons.1 hm' with rfl | hm'
        · cases ho; cases hy
          exact gv_v (pv_nil rfl) rfl
        rcases List.mem_cons.1 hm' with rfl | hm'
        · cases ho; cases hy
          exact gv_v (pv_move rfl) rfl
        rcases List.mem_cons.1 hm' with rfl | hm'
        · cases ho; cases hy
          exact gv_v (pv_move rfl) rfl
        rcases List.mem_cons.1 hm' with rfl | hm'
        · cases ho; cases hy
          exact gv_v (pv_len rfl) rfl
        rcases List.mem_cons.1 hm' with rfl | hm'
        · cases ho; cases hy
          exact gv_v (pv_load1 rfl (.there .here) rfl) rfl
        rcases List.mem_cons.1 hm' with rfl | hm'
        · cases ho; cases hy
          exact gv_v (pv_field_a rfl) rfl
        rcases List.mem_cons.1 hm' with rfl | hm'
        · cases ho; cases hy
          exact gv_v (pv_load1 rfl (.there .here) rfl) rfl
        rcases List.mem_cons.1 hm' with rfl | hm'
        · cases ho; cases hy
          exact gv_v (pv_field_a rfl) rfl
        rcases List.mem_cons.1 hm' with rfl | hm'
        · cases ho; cases hy
          exact gv_v (pv_field_a rfl) rfl
        rcases List.mem_cons.1 hm' with rfl | hm'
        · cases ho; cases hy
          exact gv_v (pv_field_a rfl) rfl
        rcases List.mem_cons.1 hm' with rfl | hm'
        · cases ho; cases hy
          exact gv_v (pv_nil rfl) rfl
        rcases List.mem_cons.1 hm' with rfl | hm'
        · cases ho; cases hy
          exact gv_v (pv_move rfl) rfl
        rcases List.mem_cons.1 hm' with rfl | hm'
        · cases ho; cases hy
          exact gv_v (pv_move rfl) rfl
        cases hm'
      refine xd_v 20 rfl rfl rfl (gv_v (pv_nil rfl) rfl) ?_
      refine xd_v 21 rfl rfl rfl (gv_v (pv_field_a rfl) rfl) ?_
      refine xd_v 22 rfl rfl rfl (gv_v (pv_field_a rfl) rfl) ?_
      refine xd_e rfl 23 rfl rfl rfl (by rintro _ ⟨⟩ <;> exact Nat.le_of_ble_eq_true rfl) rfl (ev_put (.t (.t .h)) rfl rfl (by simp [AV.cs, oneB, hvb_7]) rfl (.s (.s (.c .z)))) ?_
      rintro _ _ ⟨rfl, rfl⟩
      refine ⟨?_, ?_⟩
      · skip
        intro m hm o' y ho hy
        have hm' : m ∈ [21, 20] := hm
        clear hm
        rcases List.mem_cons.1 hm' with rfl | hm'
        · cases ho; cases hy
          exact gv_v (pv_field_a rfl) rfl
        rcases List.mem_cons.1 hm' with rfl | hm'
        · cases ho; cases hy
          exact gv_v (pv_nil rfl) rfl
        cases hm'
      refine xd_end rfl rfl rfl rfl ?_
      refine xq_sub (.nil _) ?_
      refine xq_drop .here ?_
      refine xq_drop .here ?_
      refine xq_drop (.there (.there (.there .here))) ?_
      refine xq_done (.inl rfl) _ (res0 rfl) ?_
      exact ⟨⟨vb_7, q.p, .list 6 (st.vars.map CVar.av), .val q.s⟩, rfl, by simp [CBody.av, actsAV]⟩
end Go.Proofs.Ytmallgapchjhnaa
