/- The checker's statements without lists. No condition: plain definitions and theorems. -/
import Derived.Test.YtmallgapchjhnaaK6
set_option linter.unusedVariables false
set_option linter.unusedSimpArgs false
namespace Go.Proofs.Ytmallgapchjhnaa
set_option maxRecDepth 100000
open Go Go.Ax
attribute [local irreducible] X XL XE XQ PV

structure CSt where
  points : List CPoint
  vars : List CVar
  scope : List Int
inductive SR (α : Type) where
  | ok (a : α) (s : CSt)
  | err (e : Int)
abbrev KR := Except Int (List CVal × List Int)
def variableF (P : CProg) (vs : List CVar) (name : ByteArray) (ty : CTy) (r : KR) : Except Int (List CVal × CVar) :=
  if numF vs name < 0 ∧ knownB P ty = true then
    (if ty.kind = 3 then (if 1 ≤ ty.n ∧ ty.n ≤ 16 then (valsF r []).map (fun _ => ([], ⟨name, ty, ty.n, []⟩)) else .error 9)
    else if ty.kind = 4 then (valsF r []).map (fun _ => ([], ⟨name, ty, ((strL P ty.name).getD []).length, (strL P ty.name).getD []⟩))
    else (valsF r [ty.kind]).map (fun l => (l, ⟨name, ty, 1, []⟩)))
  else .error 8
def assignF (vs : List CVar) (sc : List Int) (kind : Int) (name field : ByteArray) (r : KR) : Except Int (Int × Int × List CVal) := match findF vs sc name with
  | .error e => .error e
  | .ok k => match vs[k.toNat]? with
    | none => .error 9
    | some v =>
      if kind = 2 then (if scB v.ty then (valsF r [v.ty.kind]).map (fun l => (k, 0, l)) else .error 9)
      else if kind = 9 then (if v.ty.kind = 1 then (valsF r []).map (fun l => (k, 0, l)) else .error 9)
      else if kind = 3 then (if v.ty.kind = 3 then (valsF r [1, 1]).map (fun l => (k, 0, l)) else .error 9)
      else if kind = 4 then (if v.ty.kind = 4 then (if 0 ≤ fldF v.fields field then (valsF r [1]).map (fun l => (k, fldF v.fields field, l)) else .error 8) else .error 9)
      else .ok (k, 0, [])
def callTo (vs : List CVar) (sc : List Int) (name : ByteArray) : Except Int Int := if name = ⟨#[]⟩ then .ok (-1) else match findF vs sc name with
  | .error e => .error e
  | .ok k => match vs[k.toNat]? with
    | none => .error 9
    | some v => if scB v.ty then .ok k else .error 9
def callF (P : CProg) (vs : List CVar) (sc : List Int) (name call : ByteArray) (r : KR) : Except Int (Int × Int × List CVal) := match callTo vs sc name with
  | .error e => .error e
  | .ok k => if funF P call < 0 then .error 8 else match P.funcs[(funF P call).toNat]? with
    | none => .error 9
    | some d => match valsF r (d.params.map fun p => p.ty.kind) with
      | .error e => .error e
      | .ok l => if k < 0 ∨ (vs[k.toNat]?.map fun v => v.ty.kind) = some d.result.kind then .ok (k, funF P call, l) else .error 9

abbrev memS (c : Nat) (P : CProg) (bo mn po : AV) (fn : Int) (vv vc : Value) (vs : List CVar) (sc : List Int) : List Ck := memE c (.list 2 (P.structs.map CStruct.av)) (.list 7 (P.funcs.map CDecl.av)) bo mn po (iv fn) vv vc vs sc
def actC (kind point var field call : Int) (kids : List CVal) : List AV := [kv kind, iv point, iv var, iv field, iv call, .list 5 (kids.map CVal.av), .list 8 [], .list 8 []]

theorem map_ok {α β : Type} {r : Except Int α} {f : α → β} {y : β} (h : r.map f = .ok y) : ∃ x, r = .ok x ∧ f x = y := by
  cases r with
  | error e => cases h
  | ok x => exact ⟨x, rfl, by injection h⟩
theorem if_ok {α : Type} {c : Prop} [Decidable c] {r : Except Int α} {e : Int} {y : α} (h : (if c then r else .error e) = .ok y) : c := by
  by_cases hc : c
  · exact hc
  · rw [if_neg hc] at h
    cases h
theorem assign_ok (P : CProg) (vs : List CVar) (sc : List Int) (s : CStmt) (hvs : vs.length ≤ 2 ^ 40) (hsc : sc.length ≤ 2 ^ 40) (hfl : ∀ v ∈ vs, v.fields.length ≤ 2 ^ 40) (hx : ValsC vs sc s.kids) (a c : Nat) (a0 a1 a2 a3 a4 a5 a6 a7 : AV) (bo mn po : AV) (fn : Int) (vv vc : Value) {k f : Int} {l : List CVal} (hF : assignF vs sc s.kind s.name s.field (expsF vs sc s.kids) = .ok (k, f, l)) (hkd : s.kind = 2 ∨ s.kind = 3 ∨ s.kind = 4 ∨ s.kind = 9) (h3 : a3 = iv 0) :
    AC Try.prog 88 [ptr c, ptr a, s.av] (.ref a 115 [a0, a1, a2, a3, a4, a5, a6, a7] :: memS c P bo mn po fn vv vc vs sc) (RetIs (.tuple []) (.ref a 115 [a0, a1, iv k, iv f, a4, listAV l, a6, a7] :: memS c P bo mn po fn vv vc vs sc)) := by
  subst h3
  obtain ⟨s1, s2, s3, s4, s5, s6, s7, s8, s9⟩ := s
  obtain ⟨t1, t2, t3⟩ := s6
  simp only [CStmt.kind, CStmt.name, CStmt.field, CStmt.kids] at *
  cases hN : findF vs sc s3 with
  | error e => rw [assignF, hN] at hF; cases hF
  | ok k' =>
    obtain ⟨hk0, v, hv⟩ := find_get hN
    have hvm := List.mem_of_getElem? hv
    have hlt := (List.getElem?_eq_some_iff.1 hv).1
    simp only [assignF, hN, hv] at hF
    refine ac_intro Try.func88 rfl rfl fun I w => ?_
    simp only [argEnv, memE]
    refine x_seq ?_
    refine x_region ?_
    refine xl_box rfl (by rfl) rfl (fun b5 => ?_)
    refine xl_nil ?_
    refine xq_norm (xe_code ?_)
    refine x_seq ?_
    refine x_region ?_
    refine xl_pv (pv_move rfl) rfl ?_
    refine xl_pv (pv_move rfl) rfl ?_
    refine xl_pv (pv_field_a rfl) rfl ?_
    refine xl_pv (pv_load1 rfl .here rfl) rfl ?_
    refine xl_go (find_ok c _ _ bo mn po (iv fn) vv vc vs sc s3 hvs hsc hN) rfl (.cons rfl (Wk.refl _) (.cons rfl (Wk.refl _) .nil)) (.k (.k (.x (.x (.x .d))))) rfl ?_
    refine xl_pv (pv_nil rfl) rfl ?_
    refine xl_pv (pv_field_a rfl) rfl ?_
    refine xl_put (.t .h) rfl rfl (by first | rfl | (simp [AV.cs, oneB, *]; done) | (simp [AV.cs, oneB, *]; repeat' constructor)) rfl (.s (.s (.c .z))) ?_
    refine xl_nil ?_
    refine xq_norm (xe_code ?_)
    refine x_seq ?_
    refine x_region ?_
    refine xl_pv (pv_field_a rfl) rfl ?_
    refine xl_pv (pv_load1 rfl .here rfl) rfl ?_
    refine xl_nil ?_
    refine xq_norm (xe_code ?_)
    refine x_block ?_
    refine x_seq ?_
    refine x_region ?_
    refine xl_pv (pv_bin rfl rfl rfl) rfl ?_
    refine xl_pv (pv_assign rfl) rfl ?_
    refine xl_nil ?_
    refine xq_norm (xe_code ?_)
    refine x_condT rfl (fun h1 => ?_) (fun h1 => ?_)
    · skip
      have e1 : s1 = 2 := of_decide_eq_true h1
      rw [if_pos e1] at hF
      refine x_slc (.there (.there (.there .here))) (fun hs => ?_)
      obtain ⟨gvv, cvv, rfl⟩ := hs.full (by simp; omega)
      refine x_seq ?_
      refine x_draw rfl ?_
      refine xd_v 0 rfl rfl rfl (gv_v (pv_move rfl) rfl) ?_
      refine xd_v 1 rfl rfl rfl (gv_v (pv_nil rfl) rfl) ?_
      refine xd_v 2 rfl rfl rfl (gv_v (pv_field_a rfl) rfl) ?_
      refine xd_v 3 rfl rfl rfl (gv_v (pv_load1 rfl (.there (.there .here)) rfl) rfl) ?_
      refine xd_v 4 rfl rfl rfl (gv_v (pv_move rfl) rfl) ?_
      refine xd_v 5 rfl rfl rfl (gv_v (pv_nil rfl) rfl) ?_
      refine xd_v 6 rfl rfl rfl (gv_v (pv_field_a rfl) rfl) ?_
      refine xd_v 7 rfl rfl rfl (gv_v (pv_load1 rfl (.there .here) rfl) rfl) ?_
      refine xd_v 8 rfl rfl rfl (gv_v (pv_at_o rfl rfl (hk0) (by first | omega | (simp; omega))) rfl) ?_
      refine xd_v 9 rfl rfl rfl (gv_v (pv_field_a rfl) rfl) ?_
      refine xd_v 10 rfl rfl rfl (gv_v (pv_loadN_o (off := 1) (.there (.there (.there .here))) rfl (get_map hv) rfl) rfl) ?_
      refine xd_e rfl 11 rfl rfl rfl (by rintro _ ⟨⟩ <;> exact Nat.le_of_ble_eq_true rfl) rfl ev_alloc ?_
      rintro _ _ ⟨b6, rfl, rfl⟩
      refine ⟨?_, ?_⟩
      · skip
        intro m hm o' y ho hy
        have hm' : m ∈ [10, 9, 8, 7, 6, 5, 4, 3, 2, 1, 0] := hm
        clear hm
        rcases List.mem_cons.1 hm' with rfl | hm'
        · cases ho; cases hy
          exact gv_v (pv_loadN_o (off := 1) (.there (.there (.there (.there .here)))) rfl (get_map hv) rfl) rfl
        rcases List.mem_cons.1 hm' with rfl | hm'
        · cases ho; cases hy
          exact gv_v (pv_field_a rfl) rfl
        rcases List.mem_cons.1 hm' with rfl | hm'
        · cases ho; cases hy
          exact gv_v (pv_at_o rfl rfl (hk0) (by first | omega | (simp; omega))) rfl
        rcases List.mem_cons.1 hm' with rfl | hm'
        · cases ho; cases hy
          exact gv_v (pv_load1 rfl (.there (.there .here)) rfl) rfl
        rcases List.mem_cons.1 hm' with rfl | hm'
        · cases ho; cases hy
          exact gv_v (pv_field_a rfl) rfl
        rcases List.mem_cons.1 hm' with rfl | hm'
        · cases ho; cases hy
          exact gv_v (pv_nil rfl) rfl
        rcases List.mem_cons.1 hm' with rfl | hm'
        · cases ho; cases hy
          exact gv_v (pv_move rfl) rfl
        rcases List.mem_cons.1 hm' with rfl | hm'
        · cases ho; cases hy
          exact gv_v (pv_load1 rfl (.there (.there (.there .here))) rfl) rfl
        rcases List.mem_cons.1 hm' with rfl | hm'
        · cases ho; cases hy
          exact gv_v (pv_field_a rfl) rfl
        rcases List.mem_cons.1 hm' with rfl | hm'
        · cases ho; cases hy
          exact gv_v (pv_nil rfl) rfl
        rcases List.mem_cons.1 hm' with rfl | hm'
        · cases ho; cases hy
          exact gv_v (pv_move rfl) rfl
        cases hm'
      refine xd_e rfl 12 rfl rfl rfl (by rintro _ ⟨⟩ <;> exact Nat.le_of_ble_eq_true rfl) rfl (ev_put .h rfl rfl (by first | rfl | (simp [AV.cs, oneB, *]; done) | (simp [AV.cs, oneB, *]; repeat' constructor)) rfl (.c (.c (.c .z)))) ?_
      rintro _ _ ⟨rfl, rfl⟩
      refine ⟨?_, ?_⟩
      · skip
        intro m hm; cases hm
      refine xd_end rfl rfl rfl rfl ?_
      refine xq_sub (.cons (i := 6) rfl (.cons (i := 5) rfl (.cons (i := 0) rfl (.cons (i := 1) rfl (.nil _))))) ?_
      refine xq_norm (xe_code ?_)
      rcases hS : scB v.ty with _ | _
      · skip
        simp [hS] at hF
      · skip
        simp only [hS, if_true] at hF
        obtain ⟨l', hV, hl⟩ := map_ok hF
        cases hl
        refine x_seq ?_
        refine x_region ?_
        refine xl_pv (pv_loadN rfl .here rfl) rfl ?_
        refine xl_go (scalar_c v.ty) rfl (.cons rfl (Wk.refl _) .nil) .d rfl ?_
        refine xl_go (fail_t 9) rfl (.cons rfl (Wk.of_eq (by unfold scB at hS; first | rfl | rw [hS])) (.cons rfl (Wk.refl _) .nil)) .d rfl ?_
        refine xl_nil ?_
        refine xq_norm (xe_code ?_)
        refine x_region ?_
        refine xl_pv (pv_move rfl) rfl ?_
        refine xl_pv (pv_move rfl) rfl ?_
        refine xl_pv (pv_field_a rfl) rfl ?_
        refine xl_pv (pv_load1 rfl (.there .here) rfl) rfl ?_
        refine xl_pv (pv_field_a rfl) rfl ?_
        refine xl_pv (pv_load1 rfl .here rfl) rfl ?_
        refine xl_lit (.cons rfl .nil) rfl (by first | (simp [AV.cs]; done) | exact lits (by rfl) | (intro x hx; cases hx with | head => rfl | tail _ h => cases h)) (by rfl) (by decide) rfl ?_
        refine xl_go (AC_ok (hx [v.ty.kind] c _ _ bo mn po (iv fn) _ vc) (by rw [hV]; rfl)) rfl (.cons rfl (Wk.refl _) (.cons rfl (Wk.of_eq (by rw [← CExp.avs_eq])) (.cons rfl (Wk.refl _) .nil))) (.k (.k (.k (.x (.x (.x .d)))))) rfl ?_
        refine xl_pv (pv_nil rfl) rfl ?_
        refine xl_pv (pv_field_a rfl) rfl ?_
        refine xl_put (.t (.t .h)) rfl rfl (by first | rfl | (simp [AV.cs, oneB, *]; done) | (simp [AV.cs, oneB, *]; repeat' constructor)) rfl (.s (.s (.s (.s (.s (.c .z)))))) ?_
        refine xl_nil ?_
        refine xq_bnorm ?_
        refine xq_drop .here ?_
        refine xq_drop .here ?_
        refine xq_done (.inl rfl) _ (res0 rfl) ?_
        exact ⟨rfl, rfl⟩
    · skip
      have e1 : ¬ s1 = 2 := of_decide_eq_false h1
      rw [if_neg e1] at hF
      refine x_seq ?_
      refine x_region ?_
      refine xl_pv (pv_bin rfl rfl rfl) rfl ?_
      refine xl_pv (pv_assign rfl) rfl ?_
      refine xl_nil ?_
      refine xq_norm (xe_code ?_)
      refine x_condT rfl (fun h2 => ?_) (fun h2 => ?_)
      · skip
        have e2 : s1 = 9 := of_decide_eq_true h2
        rw [if_pos e2] at hF
        have hT := if_ok hF
        rw [if_pos hT] at hF
        obtain ⟨l', hV, hl⟩ := map_ok hF
        cases hl
        refine x_seq ?_
        refine x_region ?_
        refine xl_pv (pv_move rfl) rfl ?_
        refine xl_pv (pv_move rfl) rfl ?_
        refine xl_pv (pv_nil rfl) rfl ?_
        refine xl_pv (pv_field_a rfl) rfl ?_
        refine xl_pv (pv_load1 rfl (.there .here) rfl) rfl ?_
        refine xl_go (AC_ok (fits_c c _ _ bo mn po (iv fn) (.val vc) vv vs k 1 v hk0 hv) (by rw [if_pos hT])) rfl (.cons rfl (Wk.refl _) (.cons rfl (Wk.refl _) (.cons rfl (Wk.refl _) .nil))) (.k (.k (.x (.x .d)))) rfl ?_
        refine xl_nil ?_
        refine xq_norm (xe_code ?_)
        refine x_region ?_
        refine xl_pv (pv_move rfl) rfl ?_
        refine xl_pv (pv_move rfl) rfl ?_
        refine xl_pv (pv_field_a rfl) rfl ?_
        refine xl_pv (pv_load1 rfl .here rfl) rfl ?_
        refine xl_go (AC_ok (hx [] c _ _ bo mn po (iv fn) vv vc) (by rw [hV]; rfl)) rfl (.cons rfl (Wk.refl _) (.cons rfl (Wk.of_eq (by rw [← CExp.avs_eq])) (.cons rfl (Wk.nil _) .nil))) (.k (.k (.x (.x (.x .d))))) rfl ?_
        refine xl_pv (pv_nil rfl) rfl ?_
        refine xl_pv (pv_field_a rfl) rfl ?_
        refine xl_put (.t .h) rfl rfl (by first | rfl | (simp [AV.cs, oneB, *]; done) | (simp [AV.cs, oneB, *]; repeat' constructor)) rfl (.s (.s (.s (.s (.s (.c .z)))))) ?_
        refine xl_nil ?_
        refine xq_bnorm ?_
        refine xq_drop .here ?_
        refine xq_done (.inl rfl) _ (res0 rfl) ?_
        exact ⟨rfl, rfl⟩
      · skip
        have e2 : ¬ s1 = 9 := of_decide_eq_false h2
        rw [if_neg e2] at hF
        refine x_seq ?_
        refine x_region ?_
        refine xl_pv (pv_bin rfl rfl rfl) rfl ?_
        refine xl_pv (pv_assign rfl) rfl ?_
        refine xl_nil ?_
        refine xq_norm (xe_code ?_)
        refine x_condT rfl (fun h3 => ?_) (fun h3 => ?_)
        · skip
          have e3 : s1 = 3 := of_decide_eq_true h3
          rw [if_pos e3] at hF
          have hT := if_ok hF
          rw [if_pos hT] at hF
          obtain ⟨l', hV, hl⟩ := map_ok hF
          cases hl
          refine x_seq ?_
          refine x_region ?_
          refine xl_pv (pv_move rfl) rfl ?_
          refine xl_pv (pv_move rfl) rfl ?_
          refine xl_pv (pv_nil rfl) rfl ?_
          refine xl_pv (pv_field_a rfl) rfl ?_
          refine xl_pv (pv_load1 rfl (.there .here) rfl) rfl ?_
          refine xl_go (AC_ok (fits_c c _ _ bo mn po (iv fn) (.val vc) vv vs k 3 v hk0 hv) (by rw [if_pos hT])) rfl (.cons rfl (Wk.refl _) (.cons rfl (Wk.refl _) (.cons rfl (Wk.refl _) .nil))) (.k (.k (.x (.x .d)))) rfl ?_
          refine xl_nil ?_
          refine xq_norm (xe_code ?_)
          refine x_region ?_
          refine xl_pv (pv_move rfl) rfl ?_
          refine xl_pv (pv_move rfl) rfl ?_
          refine xl_pv (pv_field_a rfl) rfl ?_
          refine xl_pv (pv_load1 rfl .here rfl) rfl ?_
          refine xl_lit (.cons rfl (.cons rfl .nil)) rfl (by first | (simp [AV.cs]; done) | exact lits (by rfl) | (intro x hx; cases hx with | head => rfl | tail _ h => cases h)) (by rfl) (by decide) rfl ?_
          refine xl_go (AC_ok (hx [1, 1] c _ _ bo mn po (iv fn) vv vc) (by rw [hV]; rfl)) rfl (.cons rfl (Wk.refl _) (.cons rfl (Wk.of_eq (by rw [← CExp.avs_eq])) (.cons rfl (Wk.refl _) .nil))) (.k (.k (.x (.x (.x .d))))) rfl ?_
          refine xl_pv (pv_nil rfl) rfl ?_
          refine xl_pv (pv_field_a rfl) rfl ?_
          refine xl_put (.t .h) rfl rfl (by first | rfl | (simp [AV.cs, oneB, *]; done) | (simp [AV.cs, oneB, *]; repeat' constructor)) rfl (.s (.s (.s (.s (.s (.c .z)))))) ?_
          refine xl_nil ?_
          refine xq_bnorm ?_
          refine xq_drop .here ?_
          refine xq_done (.inl rfl) _ (res0 rfl) ?_
          exact ⟨rfl, rfl⟩
        · skip
          have e3 : ¬ s1 = 3 := of_decide_eq_false h3
          rw [if_neg e3] at hF
          refine x_seq ?_
          refine x_region ?_
          refine xl_pv (pv_bin rfl rfl rfl) rfl ?_
          refine xl_pv (pv_assign rfl) rfl ?_
          refine xl_nil ?_
          refine xq_norm (xe_code ?_)
          refine x_condT rfl (fun h4 => ?_) (fun h4 => ?_)
          · skip
            have e4 : s1 = 4 := of_decide_eq_true h4
            rw [if_pos e4] at hF
            have hT := if_ok hF
            rw [if_pos hT] at hF
            have hL := if_ok hF
            rw [if_pos hL] at hF
            obtain ⟨l', hV, hl⟩ := map_ok hF
            cases hl
            refine x_seq ?_
            refine x_region ?_
            refine xl_pv (pv_move rfl) rfl ?_
            refine xl_pv (pv_move rfl) rfl ?_
            refine xl_pv (pv_nil rfl) rfl ?_
            refine xl_pv (pv_field_a rfl) rfl ?_
            refine xl_pv (pv_load1 rfl (.there .here) rfl) rfl ?_
            refine xl_go (AC_ok (fits_c c _ _ bo mn po (iv fn) (.val vc) vv vs k 4 v hk0 hv) (by rw [if_pos hT])) rfl (.cons rfl (Wk.refl _) (.cons rfl (Wk.refl _) (.cons rfl (Wk.refl _) .nil))) (.k (.k (.x (.x .d)))) rfl ?_
            refine xl_nil ?_
            refine xq_norm (xe_code ?_)
            refine x_seq ?_
            refine x_draw rfl ?_
            refine xd_v 0 rfl rfl rfl (gv_v (pv_move rfl) rfl) ?_
            refine xd_v 1 rfl rfl rfl (gv_v (pv_move rfl) rfl) ?_
            refine xd_v 2 rfl rfl rfl (gv_v (pv_move rfl) rfl) ?_
            refine xd_v 3 rfl rfl rfl (gv_v (pv_nil rfl) rfl) ?_
            refine xd_v 4 rfl rfl rfl (gv_v (pv_field_a rfl) rfl) ?_
            refine xd_v 5 rfl rfl rfl (gv_v (pv_load1 rfl (.there .here) rfl) rfl) ?_
            refine xd_v 6 rfl rfl rfl (gv_v (pv_field_a rfl) rfl) ?_
            refine xd_v 7 rfl rfl rfl (gv_v (pv_load1 rfl .here rfl) rfl) ?_
            refine xd_e rfl 8 rfl rfl rfl (by rintro _ ⟨⟩ <;> exact Nat.le_of_ble_eq_true rfl) rfl (ev_go (AC_ok (field_c c _ _ bo mn po (iv fn) (.val vc) vv vs k s4 v hk0 hv (hfl v hvm)) (by rw [if_pos hL])) rfl (.cons rfl (Wk.refl _) (.cons rfl (Wk.refl _) (.cons rfl (Wk.refl _) .nil))) (.k (.k (.x (.x .d))))) ?_
            rintro _ _ ⟨rfl, rfl⟩
            refine ⟨?_, ?_⟩
            · skip
              intro m hm o' y ho hy
              have hm' : m ∈ [6, 4, 3, 2, 0] := hm
              clear hm
              rcases List.mem_cons.1 hm' with rfl | hm'
              · cases ho; cases hy
                exact gv_v (pv_field_a rfl) rfl
              rcases List.mem_cons.1 hm' with rfl | hm'
              · cases ho; cases hy
                exact gv_v (pv_field_a rfl) rfl
              rcases List.mem_cons.1 hm' with rfl | hm'
              · cases ho; cases hy
                exact gv_v (pv_nil rfl) rfl
              rcases List.mem_cons.1 hm' with rfl | hm'
              · cases ho; cases hy
                exact gv_v (pv_move rfl) rfl
              rcases List.mem_cons.1 hm' with rfl | hm'
              · cases ho; cases hy
                exact gv_v (pv_move rfl) rfl
              cases hm'
            refine xd_v 9 rfl rfl rfl (gv_v (pv_nil rfl) rfl) ?_
            refine xd_v 10 rfl rfl rfl (gv_v (pv_field_a rfl) rfl) ?_
            refine xd_e rfl 11 rfl rfl rfl (by rintro _ ⟨⟩ <;> exact Nat.le_of_ble_eq_true rfl) rfl (ev_put (.t .h) rfl rfl (by first | rfl | (simp [AV.cs, oneB, *]; done) | (simp [AV.cs, oneB, *]; repeat' constructor)) rfl (.s (.s (.s (.c .z))))) ?_
            rintro _ _ ⟨rfl, rfl⟩
            refine ⟨?_, ?_⟩
            · skip
              intro m hm o' y ho hy
              have hm' : m ∈ [9] := hm
              clear hm
              rcases List.mem_cons.1 hm' with rfl | hm'
              · cases ho; cases hy
                exact gv_v (pv_nil rfl) rfl
              cases hm'
            refine xd_end rfl rfl rfl rfl ?_
            refine xq_sub (.cons (i := 5) rfl (.cons (i := 0) rfl (.cons (i := 1) rfl (.nil _)))) ?_
            refine xq_norm (xe_code ?_)
            refine x_region ?_
            refine xl_pv (pv_move rfl) rfl ?_
            refine xl_pv (pv_move rfl) rfl ?_
            refine xl_pv (pv_field_a rfl) rfl ?_
            refine xl_pv (pv_load1 rfl .here rfl) rfl ?_
            refine xl_lit (.cons rfl .nil) rfl (by first | (simp [AV.cs]; done) | exact lits (by rfl) | (intro x hx; cases hx with | head => rfl | tail _ h => cases h)) (by rfl) (by decide) rfl ?_
            refine xl_go (AC_ok (hx [1] c _ _ bo mn po (iv fn) vv vc) (by rw [hV]; rfl)) rfl (.cons rfl (Wk.refl _) (.cons rfl (Wk.of_eq (by rw [← CExp.avs_eq])) (.cons rfl (Wk.refl _) .nil))) (.k (.k (.x (.x (.x .d))))) rfl ?_
            refine xl_pv (pv_nil rfl) rfl ?_
            refine xl_pv (pv_field_a rfl) rfl ?_
            refine xl_put (.t .h) rfl rfl (by first | rfl | (simp [AV.cs, oneB, *]; done) | (simp [AV.cs, oneB, *]; repeat' constructor)) rfl (.s (.s (.s (.s (.s (.c .z)))))) ?_
            refine xl_nil ?_
            refine xq_bnorm ?_
            refine xq_drop .here ?_
            refine xq_done (.inl rfl) _ (res0 rfl) ?_
            exact ⟨rfl, rfl⟩
          · skip
            have e4 := of_decide_eq_false h4; omega
theorem map_err {α β : Type} {r : Except Int α} {f : α → β} {e : Int} (h : r.map f = .error e) : r = .error e := by
  cases r with
  | error e' => injection h with h; rw [h]
  | ok x => cases h
theorem if_err {α : Type} {c : Prop} [Decidable c] {r : Except Int α} {e e' : Int} (h : (if c then r else .error e') = .error e) : (¬ c ∧ e' = e) ∨ (c ∧ r = .error e) := by
  by_cases hc : c
  · rw [if_pos hc] at h; exact .inr ⟨hc, h⟩
  · rw [if_neg hc] at h; injection h with h; exact .inl ⟨hc, h⟩
theorem assign_err (P : CProg) (vs : List CVar) (sc : List Int) (s : CStmt) (hvs : vs.length ≤ 2 ^ 40) (hsc : sc.length ≤ 2 ^ 40) (hfl : ∀ v ∈ vs, v.fields.length ≤ 2 ^ 40) (hx : ValsC vs sc s.kids) (a c : Nat) (a0 a1 a2 a3 a4 a5 a6 a7 : AV) (bo mn po : AV) (fn : Int) (vv vc : Value) {e : Int} (hF : assignF vs sc s.kind s.name s.field (expsF vs sc s.kids) = .error e) (hkd : s.kind = 2 ∨ s.kind = 3 ∨ s.kind = 4 ∨ s.kind = 9) :
    AC Try.prog 88 [ptr c, ptr a, s.av] (.ref a 115 [a0, a1, a2, a3, a4, a5, a6, a7] :: memS c P bo mn po fn vv vc vs sc) (DieE (.iface 134 (.int .i64 e)) (fun q => .ref a 115 q :: memS c P bo mn po fn vv vc vs sc)) := by
  obtain ⟨s1, s2, s3, s4, s5, s6, s7, s8, s9⟩ := s
  obtain ⟨t1, t2, t3⟩ := s6
  simp only [CStmt.kind, CStmt.name, CStmt.field, CStmt.kids] at *
  refine ac_intro Try.func88 rfl rfl fun I w => ?_
  simp only [argEnv, memE]
  rcases hN : findF vs sc s3 with e' | k
  · skip
    simp only [assignF, hN] at hF
    cases hF
    refine x_seq ?_
    refine x_region ?_
    refine xl_box rfl (by rfl) rfl (fun b5 => ?_)
    refine xl_nil ?_
    refine xq_norm (xe_code ?_)
    refine x_seq ?_
    refine x_region ?_
    refine xl_pv (pv_move rfl) rfl ?_
    refine xl_pv (pv_move rfl) rfl ?_
    refine xl_pv (pv_field_a rfl) rfl ?_
    refine xl_pv (pv_load1 rfl .here rfl) rfl ?_
    refine xl_dies (find_no c _ _ bo mn po (iv fn) vv vc vs sc s3 hvs hsc hN) rfl (.cons rfl (Wk.refl _) (.cons rfl (Wk.refl _) .nil)) (.k (.k (.x (.x (.x .d))))) rfl ?_
    refine xq_panic ?_
    refine xq_drop .here ?_
    refine xq_died ?_
    exact ⟨_, rfl, rfl⟩
  · skip
    obtain ⟨hk0, v, hv⟩ := find_get hN
    have hvm := List.mem_of_getElem? hv
    have hlt := (List.getElem?_eq_some_iff.1 hv).1
    simp only [assignF, hN, hv] at hF
    refine x_seq ?_
    refine x_region ?_
    refine xl_box rfl (by rfl) rfl (fun b5 => ?_)
    refine xl_nil ?_
    refine xq_norm (xe_code ?_)
    refine x_seq ?_
    refine x_region ?_
    refine xl_pv (pv_move rfl) rfl ?_
    refine xl_pv (pv_move rfl) rfl ?_
    refine xl_pv (pv_field_a rfl) rfl ?_
    refine xl_pv (pv_load1 rfl .here rfl) rfl ?_
    refine xl_go (find_ok c _ _ bo mn po (iv fn) vv vc vs sc s3 hvs hsc hN) rfl (.cons rfl (Wk.refl _) (.cons rfl (Wk.refl _) .nil)) (.k (.k (.x (.x (.x .d))))) rfl ?_
    refine xl_pv (pv_nil rfl) rfl ?_
    refine xl_pv (pv_field_a rfl) rfl ?_
    refine xl_put (.t .h) rfl rfl (by first | rfl | (simp [AV.cs, oneB, *]; done) | (simp [AV.cs, oneB, *]; repeat' constructor)) rfl (.s (.s (.c .z))) ?_
    refine xl_nil ?_
    refine xq_norm (xe_code ?_)
    refine x_seq ?_
    refine x_region ?_
    refine xl_pv (pv_field_a rfl) rfl ?_
    refine xl_pv (pv_load1 rfl .here rfl) rfl ?_
    refine xl_nil ?_
    refine xq_norm (xe_code ?_)
    refine x_block ?_
    refine x_seq ?_
    refine x_region ?_
    refine xl_pv (pv_bin rfl rfl rfl) rfl ?_
    refine xl_pv (pv_assign rfl) rfl ?_
    refine xl_nil ?_
    refine xq_norm (xe_code ?_)
    refine x_condT rfl (fun h1 => ?_) (fun h1 => ?_)
    · skip
      have e1 : s1 = 2 := of_decide_eq_true h1
      rw [if_pos e1] at hF
      refine x_slc (.there (.there (.there .here))) (fun hs => ?_)
      obtain ⟨gvv, cvv, rfl⟩ := hs.full (by simp; omega)
      refine x_seq ?_
      refine x_draw rfl ?_
      refine xd_v 0 rfl rfl rfl (gv_v (pv_move rfl) rfl) ?_
      refine xd_v 1 rfl rfl rfl (gv_v (pv_nil rfl) rfl) ?_
      refine xd_v 2 rfl rfl rfl (gv_v (pv_field_a rfl) rfl) ?_
      refine xd_v 3 rfl rfl rfl (gv_v (pv_load1 rfl (.there (.there .here)) rfl) rfl) ?_
      refine xd_v 4 rfl rfl rfl (gv_v (pv_move rfl) rfl) ?_
      refine xd_v 5 rfl rfl rfl (gv_v (pv_nil rfl) rfl) ?_
      refine xd_v 6 rfl rfl rfl (gv_v (pv_field_a rfl) rfl) ?_
      refine xd_v 7 rfl rfl rfl (gv_v (pv_load1 rfl (.there .here) rfl) rfl) ?_
      refine xd_v 8 rfl rfl rfl (gv_v (pv_at_o rfl rfl (hk0) (by first | omega | (simp; omega))) rfl) ?_
      refine xd_v 9 rfl rfl rfl (gv_v (pv_field_a rfl) rfl) ?_
      refine xd_v 10 rfl rfl rfl (gv_v (pv_loadN_o (off := 1) (.there (.there (.there .here))) rfl (get_map hv) rfl) rfl) ?_
      refine xd_e rfl 11 rfl rfl rfl (by rintro _ ⟨⟩ <;> exact Nat.le_of_ble_eq_true rfl) rfl ev_alloc ?_
      rintro _ _ ⟨b6, rfl, rfl⟩
      refine ⟨?_, ?_⟩
      · skip
        intro m hm o' y ho hy
        have hm' : m ∈ [10, 9, 8, 7, 6, 5, 4, 3, 2, 1, 0] := hm
        clear hm
        rcases List.mem_cons.1 hm' with rfl | hm'
        · cases ho; cases hy
          exact gv_v (pv_loadN_o (off := 1) (.there (.there (.there (.there .here)))) rfl (get_map hv) rfl) rfl
        rcases List.mem_cons.1 hm' with rfl | hm'
        · cases ho; cases hy
          exact gv_v (pv_field_a rfl) rfl
        rcases List.mem_cons.1 hm' with rfl | hm'
        · cases ho; cases hy
          exact gv_v (pv_at_o rfl rfl (hk0) (by first | omega | (simp; omega))) rfl
        rcases List.mem_cons.1 hm' with rfl | hm'
        · cases ho; cases hy
          exact gv_v (pv_load1 rfl (.there (.there .here)) rfl) rfl
        rcases List.mem_cons.1 hm' with rfl | hm'
        · cases ho; cases hy
          exact gv_v (pv_field_a rfl) rfl
        rcases List.mem_cons.1 hm' with rfl | hm'
        · cases ho; cases hy
          exact gv_v (pv_nil rfl) rfl
        rcases List.mem_cons.1 hm' with rfl | hm'
        · cases ho; cases hy
          exact gv_v (pv_move rfl) rfl
        rcases List.mem_cons.1 hm' with rfl | hm'
        · cases ho; cases hy
          exact gv_v (pv_load1 rfl (.there (.there (.there .here))) rfl) rfl
        rcases List.mem_cons.1 hm' with rfl | hm'
        · cases ho; cases hy
          exact gv_v (pv_field_a rfl) rfl
        rcases List.mem_cons.1 hm' with rfl | hm'
        · cases ho; cases hy
          exact gv_v (pv_nil rfl) rfl
        rcases List.mem_cons.1 hm' with rfl | hm'
        · cases ho; cases hy
          exact gv_v (pv_move rfl) rfl
        cases hm'
      refine xd_e rfl 12 rfl rfl rfl (by rintro _ ⟨⟩ <;> exact Nat.le_of_ble_eq_true rfl) rfl (ev_put .h rfl rfl (by first | rfl | (simp [AV.cs, oneB, *]; done) | (simp [AV.cs, oneB, *]; repeat' constructor)) rfl (.c (.c (.c .z)))) ?_
      rintro _ _ ⟨rfl, rfl⟩
      refine ⟨?_, ?_⟩
      · skip
        intro m hm; cases hm
      refine xd_end rfl rfl rfl rfl ?_
      refine xq_sub (.cons (i := 6) rfl (.cons (i := 5) rfl (.cons (i := 0) rfl (.cons (i := 1) rfl (.nil _))))) ?_
      refine xq_norm (xe_code ?_)
      rcases hS : scB v.ty with _ | _
      · skip
        have he : (9 : Int) = e := by simpa [hS] using hF
        refine x_seq ?_
        refine x_region ?_
        refine xl_pv (pv_loadN rfl .here rfl) rfl ?_
        refine xl_go (scalar_c v.ty) rfl (.cons rfl (Wk.refl _) .nil) .d rfl ?_
        refine xl_dies (fail_f e) rfl (.cons rfl (Wk.of_eq (by unfold scB at hS; first | rfl | rw [hS])) (.cons rfl (Wk.of_eq (by rw [← he])) .nil)) .d rfl ?_
        refine xq_panic ?_
        refine xq_bpanic ?_
        refine xq_drop .here ?_
        refine xq_drop .here ?_
        refine xq_died ?_
        exact ⟨_, rfl, rfl⟩
      · skip
        simp only [hS, if_true] at hF
        have hV := map_err hF
        refine x_seq ?_
        refine x_region ?_
        refine xl_pv (pv_loadN rfl .here rfl) rfl ?_
        refine xl_go (scalar_c v.ty) rfl (.cons rfl (Wk.refl _) .nil) .d rfl ?_
        refine xl_go (fail_t 9) rfl (.cons rfl (Wk.of_eq (by unfold scB at hS; first | rfl | rw [hS])) (.cons rfl (Wk.refl _) .nil)) .d rfl ?_
        refine xl_nil ?_
        refine xq_norm (xe_code ?_)
        refine x_region ?_
        refine xl_pv (pv_move rfl) rfl ?_
        refine xl_pv (pv_move rfl) rfl ?_
        refine xl_pv (pv_field_a rfl) rfl ?_
        refine xl_pv (pv_load1 rfl (.there .here) rfl) rfl ?_
        refine xl_pv (pv_field_a rfl) rfl ?_
        refine xl_pv (pv_load1 rfl .here rfl) rfl ?_
        refine xl_lit (.cons rfl .nil) rfl (by first | (simp [AV.cs]; done) | exact lits (by rfl) | (intro x hx; cases hx with | head => rfl | tail _ h => cases h)) (by rfl) (by decide) rfl ?_
        refine xl_dies (AC_err (hx [v.ty.kind] c _ _ bo mn po (iv fn) _ vc) (by rw [hV]; rfl)) rfl (.cons rfl (Wk.refl _) (.cons rfl (Wk.of_eq (by rw [← CExp.avs_eq])) (.cons rfl (Wk.refl _) .nil))) (.k (.k (.k (.x (.x (.x .d)))))) rfl ?_
        refine xq_bpanic ?_
        refine xq_drop .here ?_
        refine xq_drop .here ?_
        refine xq_died ?_
        exact ⟨_, rfl, rfl⟩
    · skip
      have e1 : ¬ s1 = 2 := of_decide_eq_false h1
      rw [if_neg e1] at hF
      refine x_seq ?_
      refine x_region ?_
      refine xl_pv (pv_bin rfl rfl rfl) rfl ?_
      refine xl_pv (pv_assign rfl) rfl ?_
      refine xl_nil ?_
      refine xq_norm (xe_code ?_)
      refine x_condT rfl (fun h2 => ?_) (fun h2 => ?_)
      · skip
        have e2 : s1 = 9 := of_decide_eq_true h2
        rw [if_pos e2] at hF
        rcases if_err hF with ⟨hT, he⟩ | ⟨hT, hF⟩
        · skip
          refine x_seq ?_
          refine x_region ?_
          refine xl_pv (pv_move rfl) rfl ?_
          refine xl_pv (pv_move rfl) rfl ?_
          refine xl_pv (pv_nil rfl) rfl ?_
          refine xl_pv (pv_field_a rfl) rfl ?_
          refine xl_pv (pv_load1 rfl (.there .here) rfl) rfl ?_
          refine xl_dies (AC_err (fits_c c _ _ bo mn po (iv fn) (.val vc) vv vs k 1 v hk0 hv) (by rw [if_neg hT, he])) rfl (.cons rfl (Wk.refl _) (.cons rfl (Wk.refl _) (.cons rfl (Wk.refl _) .nil))) (.k (.k (.x (.x .d)))) rfl ?_
          refine xq_panic ?_
          refine xq_bpanic ?_
          refine xq_drop .here ?_
          refine xq_died ?_
          exact ⟨_, rfl, rfl⟩
        · skip
          have hV := map_err hF
          refine x_seq ?_
          refine x_region ?_
          refine xl_pv (pv_move rfl) rfl ?_
          refine xl_pv (pv_move rfl) rfl ?_
          refine xl_pv (pv_nil rfl) rfl ?_
          refine xl_pv (pv_field_a rfl) rfl ?_
          refine xl_pv (pv_load1 rfl (.there .here) rfl) rfl ?_
          refine xl_go (AC_ok (fits_c c _ _ bo mn po (iv fn) (.val vc) vv vs k 1 v hk0 hv) (by rw [if_pos hT])) rfl (.cons rfl (Wk.refl _) (.cons rfl (Wk.refl _) (.cons rfl (Wk.refl _) .nil))) (.k (.k (.x (.x .d)))) rfl ?_
          refine xl_nil ?_
          refine xq_norm (xe_code ?_)
          refine x_region ?_
          refine xl_pv (pv_move rfl) rfl ?_
          refine xl_pv (pv_move rfl) rfl ?_
          refine xl_pv (pv_field_a rfl) rfl ?_
          refine xl_pv (pv_load1 rfl .here rfl) rfl ?_
          refine xl_dies (AC_err (hx [] c _ _ bo mn po (iv fn) vv vc) (by rw [hV]; rfl)) rfl (.cons rfl (Wk.refl _) (.cons rfl (Wk.of_eq (by rw [← CExp.avs_eq])) (.cons rfl (Wk.nil _) .nil))) (.k (.k (.x (.x (.x .d))))) rfl ?_
          refine xq_bpanic ?_
          refine xq_drop .here ?_
          refine xq_died ?_
          exact ⟨_, rfl, rfl⟩
      · skip
        have e2 : ¬ s1 = 9 := of_decide_eq_false h2
        rw [if_neg e2] at hF
        refine x_seq ?_
        refine x_region ?_
        refine xl_pv (pv_bin rfl rfl rfl) rfl ?_
        refine xl_pv (pv_assign rfl) rfl ?_
        refine xl_nil ?_
        refine xq_norm (xe_code ?_)
        refine x_condT rfl (fun h3 => ?_) (fun h3 => ?_)
        · skip
          have e3 : s1 = 3 := of_decide_eq_true h3
          rw [if_pos e3] at hF
          rcases if_err hF with ⟨hT, he⟩ | ⟨hT, hF⟩
          · skip
            refine x_seq ?_
            refine x_region ?_
            refine xl_pv (pv_move rfl) rfl ?_
            refine xl_pv (pv_move rfl) rfl ?_
            refine xl_pv (pv_nil rfl) rfl ?_
            refine xl_pv (pv_field_a rfl) rfl ?_
            refine xl_pv (pv_load1 rfl (.there .here) rfl) rfl ?_
            refine xl_dies (AC_err (fits_c c _ _ bo mn po (iv fn) (.val vc) vv vs k 3 v hk0 hv) (by rw [if_neg hT, he])) rfl (.cons rfl (Wk.refl _) (.cons rfl (Wk.refl _) (.cons rfl (Wk.refl _) .nil))) (.k (.k (.x (.x .d)))) rfl ?_
            refine xq_panic ?_
            refine xq_bpanic ?_
            refine xq_drop .here ?_
            refine xq_died ?_
            exact ⟨_, rfl, rfl⟩
          · skip
            have hV := map_err hF
            refine x_seq ?_
            refine x_region ?_
            refine xl_pv (pv_move rfl) rfl ?_
            refine xl_pv (pv_move rfl) rfl ?_
            refine xl_pv (pv_nil rfl) rfl ?_
            refine xl_pv (pv_field_a rfl) rfl ?_
            refine xl_pv (pv_load1 rfl (.there .here) rfl) rfl ?_
            refine xl_go (AC_ok (fits_c c _ _ bo mn po (iv fn) (.val vc) vv vs k 3 v hk0 hv) (by rw [if_pos hT])) rfl (.cons rfl (Wk.refl _) (.cons rfl (Wk.refl _) (.cons rfl (Wk.refl _) .nil))) (.k (.k (.x (.x .d)))) rfl ?_
            refine xl_nil ?_
            refine xq_norm (xe_code ?_)
            refine x_region ?_
            refine xl_pv (pv_move rfl) rfl ?_
            refine xl_pv (pv_move rfl) rfl ?_
            refine xl_pv (pv_field_a rfl) rfl ?_
            refine xl_pv (pv_load1 rfl .here rfl) rfl ?_
            refine xl_lit (.cons rfl (.cons rfl .nil)) rfl (by first | (simp [AV.cs]; done) | exact lits (by rfl) | (intro x hx; cases hx with | head => rfl | tail _ h => cases h)) (by rfl) (by decide) rfl ?_
            refine xl_dies (AC_err (hx [1, 1] c _ _ bo mn po (iv fn) vv vc) (by rw [hV]; rfl)) rfl (.cons rfl (Wk.refl _) (.cons rfl (Wk.of_eq (by rw [← CExp.avs_eq])) (.cons rfl (Wk.refl _) .nil))) (.k (.k (.x (.x (.x .d))))) rfl ?_
            refine xq_bpanic ?_
            refine xq_drop .here ?_
            refine xq_died ?_
            exact ⟨_, rfl, rfl⟩
        · skip
          have e3 : ¬ s1 = 3 := of_decide_eq_false h3
          rw [if_neg e3] at hF
          refine x_seq ?_
          refine x_region ?_
          refine xl_pv (pv_bin rfl rfl rfl) rfl ?_
          refine xl_pv (pv_assign rfl) rfl ?_
          refine xl_nil ?_
          refine xq_norm (xe_code ?_)
          refine x_condT rfl (fun h4 => ?_) (fun h4 => ?_)
          · skip
            have e4 : s1 = 4 := of_decide_eq_true h4
            rw [if_pos e4] at hF
            rcases if_err hF with ⟨hT, he⟩ | ⟨hT, hF⟩
            · skip
              refine x_seq ?_
              refine x_region ?_
              refine xl_pv (pv_move rfl) rfl ?_
              refine xl_pv (pv_move rfl) rfl ?_
              refine xl_pv (pv_nil rfl) rfl ?_
              refine xl_pv (pv_field_a rfl) rfl ?_
              refine xl_pv (pv_load1 rfl (.there .here) rfl) rfl ?_
              refine xl_dies (AC_err (fits_c c _ _ bo mn po (iv fn) (.val vc) vv vs k 4 v hk0 hv) (by rw [if_neg hT, he])) rfl (.cons rfl (Wk.refl _) (.cons rfl (Wk.refl _) (.cons rfl (Wk.refl _) .nil))) (.k (.k (.x (.x .d)))) rfl ?_
              refine xq_panic ?_
              refine xq_bpanic ?_
              refine xq_drop .here ?_
              refine xq_died ?_
              exact ⟨_, rfl, rfl⟩
            · skip
              refine x_seq ?_
              refine x_region ?_
              refine xl_pv (pv_move rfl) rfl ?_
              refine xl_pv (pv_move rfl) rfl ?_
              refine xl_pv (pv_nil rfl) rfl ?_
              refine xl_pv (pv_field_a rfl) rfl ?_
              refine xl_pv (pv_load1 rfl (.there .here) rfl) rfl ?_
              refine xl_go (AC_ok (fits_c c _ _ bo mn po (iv fn) (.val vc) vv vs k 4 v hk0 hv) (by rw [if_pos hT])) rfl (.cons rfl (Wk.refl _) (.cons rfl (Wk.refl _) (.cons rfl (Wk.refl _) .nil))) (.k (.k (.x (.x .d)))) rfl ?_
              refine xl_nil ?_
              refine xq_norm (xe_code ?_)
              rcases if_err hF with ⟨hL, he⟩ | ⟨hL, hF⟩
              · skip
                refine x_seq ?_
                refine x_draw rfl ?_
                refine xd_v 0 rfl rfl rfl (gv_v (pv_move rfl) rfl) ?_
                refine xd_v 1 rfl rfl rfl (gv_v (pv_move rfl) rfl) ?_
                refine xd_v 2 rfl rfl rfl (gv_v (pv_move rfl) rfl) ?_
                refine xd_v 3 rfl rfl rfl (gv_v (pv_nil rfl) rfl) ?_
                refine xd_v 4 rfl rfl rfl (gv_v (pv_field_a rfl) rfl) ?_
                refine xd_v 5 rfl rfl rfl (gv_v (pv_load1 rfl (.there .here) rfl) rfl) ?_
                refine xd_v 6 rfl rfl rfl (gv_v (pv_field_a rfl) rfl) ?_
                refine xd_v 7 rfl rfl rfl (gv_v (pv_load1 rfl .here rfl) rfl) ?_
                refine xd_e rfl 8 rfl rfl rfl (by rintro _ ⟨⟩; exact Nat.le_of_ble_eq_true rfl) rfl (ev_dies (AC_err (field_c c _ _ bo mn po (iv fn) (.val vc) vv vs k s4 v hk0 hv (hfl v hvm)) (by rw [if_neg hL, he])) rfl (.cons rfl (Wk.refl _) (.cons rfl (Wk.refl _) (.cons rfl (Wk.refl _) .nil))) (.k (.k (.x (.x .d)))) ?_) (fun _ _ h => h.elim)
                refine xq_panic ?_
                refine xq_bpanic ?_
                refine xq_drop .here ?_
                refine xq_died ?_
                exact ⟨_, rfl, rfl⟩
              · skip
                have hV := map_err hF
                refine x_seq ?_
                refine x_draw rfl ?_
                refine xd_v 0 rfl rfl rfl (gv_v (pv_move rfl) rfl) ?_
                refine xd_v 1 rfl rfl rfl (gv_v (pv_move rfl) rfl) ?_
                refine xd_v 2 rfl rfl rfl (gv_v (pv_move rfl) rfl) ?_
                refine xd_v 3 rfl rfl rfl (gv_v (pv_nil rfl) rfl) ?_
                refine xd_v 4 rfl rfl rfl (gv_v (pv_field_a rfl) rfl) ?_
                refine xd_v 5 rfl rfl rfl (gv_v (pv_load1 rfl (.there .here) rfl) rfl) ?_
                refine xd_v 6 rfl rfl rfl (gv_v (pv_field_a rfl) rfl) ?_
                refine xd_v 7 rfl rfl rfl (gv_v (pv_load1 rfl .here rfl) rfl) ?_
                refine xd_e rfl 8 rfl rfl rfl (by rintro _ ⟨⟩ <;> exact Nat.le_of_ble_eq_true rfl) rfl (ev_go (AC_ok (field_c c _ _ bo mn po (iv fn) (.val vc) vv vs k s4 v hk0 hv (hfl v hvm)) (by rw [if_pos hL])) rfl (.cons rfl (Wk.refl _) (.cons rfl (Wk.refl _) (.cons rfl (Wk.refl _) .nil))) (.k (.k (.x (.x .d))))) ?_
                rintro _ _ ⟨rfl, rfl⟩
                refine ⟨?_, ?_⟩
                · skip
                  intro m hm o' y ho hy
                  have hm' : m ∈ [6, 4, 3, 2, 0] := hm
                  clear hm
                  rcases List.mem_cons.1 hm' with rfl | hm'
                  · cases ho; cases hy
                    exact gv_v (pv_field_a rfl) rfl
                  rcases List.mem_cons.1 hm' with rfl | hm'
                  · cases ho; cases hy
                    exact gv_v (pv_field_a rfl) rfl
                  rcases List.mem_cons.1 hm' with rfl | hm'
                  · cases ho; cases hy
                    exact gv_v (pv_nil rfl) rfl
                  rcases List.mem_cons.1 hm' with rfl | hm'
                  · cases ho; cases hy
                    exact gv_v (pv_move rfl) rfl
                  rcases List.mem_cons.1 hm' with rfl | hm'
                  · cases ho; cases hy
                    exact gv_v (pv_move rfl) rfl
                  cases hm'
                refine xd_v 9 rfl rfl rfl (gv_v (pv_nil rfl) rfl) ?_
                refine xd_v 10 rfl rfl rfl (gv_v (pv_field_a rfl) rfl) ?_
                refine xd_e rfl 11 rfl rfl rfl (by rintro _ ⟨⟩ <;> exact Nat.le_of_ble_eq_true rfl) rfl (ev_put (.t .h) rfl rfl (by first | rfl | (simp [AV.cs, oneB, *]; done) | (simp [AV.cs, oneB, *]; repeat' constructor)) rfl (.s (.s (.s (.c .z))))) ?_
                rintro _ _ ⟨rfl, rfl⟩
                refine ⟨?_, ?_⟩
                · skip
                  intro m hm o' y ho hy
                  have hm' : m ∈ [9] := hm
                  clear hm
                  rcases List.mem_cons.1 hm' with rfl | hm'
                  · cases ho; cases hy
                    exact gv_v (pv_nil rfl) rfl
                  cases hm'
                refine xd_end rfl rfl rfl rfl ?_
                refine xq_sub (.cons (i := 5) rfl (.cons (i := 0) rfl (.cons (i := 1) rfl (.nil _)))) ?_
                refine xq_norm (xe_code ?_)
                refine x_region ?_
                refine xl_pv (pv_move rfl) rfl ?_
                refine xl_pv (pv_move rfl) rfl ?_
                refine xl_pv (pv_field_a rfl) rfl ?_
                refine xl_pv (pv_load1 rfl .here rfl) rfl ?_
                refine xl_lit (.cons rfl .nil) rfl (by first | (simp [AV.cs]; done) | exact lits (by rfl) | (intro x hx; cases hx with | head => rfl | tail _ h => cases h)) (by rfl) (by decide) rfl ?_
                refine xl_dies (AC_err (hx [1] c _ _ bo mn po (iv fn) vv vc) (by rw [hV]; rfl)) rfl (.cons rfl (Wk.refl _) (.cons rfl (Wk.of_eq (by rw [← CExp.avs_eq])) (.cons rfl (Wk.refl _) .nil))) (.k (.k (.x (.x (.x .d))))) rfl ?_
                refine xq_bpanic ?_
                refine xq_drop .here ?_
                refine xq_died ?_
                exact ⟨_, rfl, rfl⟩
          · skip
            have e4 := of_decide_eq_false h4; omega
theorem get_strL {P : CProg} {nm : ByteArray} {n : Nat} (h : ∀ s ∈ P.structs, s.fields.length ≤ n) : ((strL P nm).getD []).length ≤ n := by
  unfold strL
  split
  · simp
  · cases hz : P.structs[(strF P nm).toNat]? with
    | none => simp
    | some z => simpa using h z (List.mem_of_getElem? hz)
theorem variable_ok (P : CProg) (vs : List CVar) (sc : List Int) (s : CStmt) (hvs : vs.length < 2 ^ 40) (hsc : sc.length < 2 ^ 40) (hst : P.structs.length ≤ 2 ^ 40) (hfs : ∀ s ∈ P.structs, s.fields.length ≤ 2 ^ 40) (hx : ValsC vs sc s.kids) (a c : Nat) (a0 a1 a2 a3 a4 a6 a7 : AV) (bo mn po : AV) (fn : Int) (vv vc : Value) {l : List CVal} {v : CVar} (hF : variableF P vs s.name s.ty (expsF vs sc s.kids) = .ok (l, v)) :
    AC Try.prog 87 [ptr c, ptr a, s.av] (.ref a 115 [a0, a1, a2, a3, a4, .val (.slice none 0 0), a6, a7] :: memS c P bo mn po fn vv vc vs sc) (RetE (T := Value × Value) (fun _ => .tuple []) (fun q => .ref a 115 [a0, a1, iv vs.length, a3, a4, listAV l, a6, a7] :: memS c P bo mn po fn q.1 q.2 (vs ++ [v]) (sc ++ [(vs.length : Int)]))) := by
  obtain ⟨s1, s2, s3, s4, s5, s6, s7, s8, s9⟩ := s
  obtain ⟨t1, t2, t3⟩ := s6
  simp only [CStmt.name, CStmt.ty, CStmt.kids] at *
  unfold variableF at hF
  have hK := if_ok hF
  rw [if_pos hK] at hF
  obtain ⟨hK1, hK2⟩ := hK
  simp only at hF
  refine ac_intro Try.func87 rfl rfl fun I w => ?_
  simp only [argEnv, memE]
  refine x_seq ?_
  refine x_region ?_
  refine xl_box rfl (by rfl) rfl (fun b5 => ?_)
  refine xl_nil ?_
  refine xq_norm (xe_code ?_)
  refine x_seq ?_
  refine x_region ?_
  refine xl_pv (pv_move rfl) rfl ?_
  refine xl_pv (pv_field_a rfl) rfl ?_
  refine xl_pv (pv_load1 rfl .here rfl) rfl ?_
  refine xl_go (number_c c _ _ bo mn po (iv fn) (.val vc) vv vs s3 (by omega)) rfl (.cons rfl (Wk.refl _) (.cons rfl (Wk.refl _) .nil)) (.k (.k (.x (.x .d)))) rfl ?_
  refine xl_pv (pv_bin rfl rfl rfl) rfl ?_
  refine xl_pv (pv_move rfl) rfl ?_
  refine xl_guard rfl rfl (fun h1 => ?_) (fun h1 => ?_)
  · skip
    refine xl_take rfl rfl rfl ?_
    refine xl_pv (pv_move rfl) rfl ?_
    refine xl_take rfl rfl rfl ?_
    refine xl_pv (pv_field_a rfl) rfl ?_
    refine xl_take rfl rfl rfl ?_
    refine xl_pv (pv_loadN rfl .here rfl) rfl ?_
    refine xl_take rfl rfl rfl ?_
    refine xl_go (known_c P c bo mn po (iv fn) (.val vv) (.val vc) ⟨t1, t2, t3⟩ hst) rfl (.cons rfl (Wk.refl _) (.cons rfl (Wk.refl _) .nil)) (.k (.k (.x .d))) rfl ?_
    refine xl_pv (pv_pick_t rfl rfl) rfl ?_
    refine xl_go (fail_t 8) rfl (.cons rfl (Wk.of_eq (by rw [hK2])) (.cons rfl (Wk.refl _) .nil)) .d rfl ?_
    refine xl_nil ?_
    refine xq_norm (xe_code ?_)
    refine x_seq ?_
    refine x_region ?_
    refine xl_pv (pv_field_a rfl) rfl ?_
    refine xl_pv (pv_load1 rfl .here rfl) rfl ?_
    refine xl_pv (pv_field_a rfl) rfl ?_
    refine xl_pv (pv_loadN rfl .here rfl) rfl ?_
    refine xl_pv (pv_build (by exact (.cons rfl rfl rfl (by first | rfl | (simp [AV.cs, oneB, *]; done) | (simp [AV.cs, oneB, *]; repeat' constructor)) (.c .z) (.cons rfl rfl rfl (by first | rfl | (simp [AV.cs, oneB, *]; done) | (simp [AV.cs, oneB, *]; repeat' constructor)) (.s (.c (.c (.c .z)))) (.cons rfl rfl rfl (by first | rfl | (simp [AV.cs, oneB, *]; done) | (simp [AV.cs, oneB, *]; repeat' constructor)) (.s (.s (.s (.s (.c .z))))) .nil))))) rfl ?_
    refine xl_alloc rfl (fun b6 => ?_)
    refine xl_put .h rfl rfl (by first | rfl | (simp [AV.cs, oneB, *]; done) | (simp [AV.cs, oneB, *]; repeat' constructor)) rfl (.c (.c (.c (.c (.c (.c .z)))))) ?_
    refine xl_nil ?_
    refine xq_norm (xe_code ?_)
    refine x_seq ?_
    refine x_seq ?_
    refine x_region ?_
    refine xl_pv (pv_field_a rfl) rfl ?_
    refine xl_pv (pv_field_a rfl) rfl ?_
    refine xl_pv (pv_load1 rfl (.there .here) rfl) rfl ?_
    refine xl_nil ?_
    refine xq_norm (xe_code ?_)
    refine x_block ?_
    refine x_seq ?_
    refine x_region ?_
    refine xl_pv (pv_bin rfl rfl rfl) rfl ?_
    refine xl_pv (pv_assign rfl) rfl ?_
    refine xl_nil ?_
    refine xq_norm (xe_code ?_)
    refine x_condT rfl (fun h3 => ?_) (fun h3 => ?_)
    · skip
      have e3 : t1 = 3 := of_decide_eq_true h3
      rw [if_pos e3] at hF
      have hT := if_ok hF
      rw [if_pos hT] at hF
      obtain ⟨l', hV, hl⟩ := map_ok hF
      cases hl
      refine x_seq ?_
      refine x_region ?_
      refine xl_pv (pv_field_a rfl) rfl ?_
      refine xl_pv (pv_field_a rfl) rfl ?_
      refine xl_pv (pv_load1 rfl (.there .here) rfl) rfl ?_
      refine xl_pv (pv_bin rfl rfl rfl) rfl ?_
      refine xl_pv (pv_move rfl) rfl ?_
      refine xl_guard rfl rfl (fun h4 => ?_) (fun h4 => ?_)
      · skip
        refine xl_take rfl rfl rfl ?_
        refine xl_pv (pv_field_a rfl) rfl ?_
        refine xl_take rfl rfl rfl ?_
        refine xl_pv (pv_field_a rfl) rfl ?_
        refine xl_take rfl rfl rfl ?_
        refine xl_pv (pv_load1 rfl (.there .here) rfl) rfl ?_
        refine xl_take rfl rfl rfl ?_
        refine xl_pv (pv_bin rfl rfl rfl) rfl ?_
        refine xl_pv (pv_pick_t rfl rfl) rfl ?_
        refine xl_go (fail_t 9) rfl (.cons rfl (Wk.of_eq (by rw [decide_eq_true hT.2])) (.cons rfl (Wk.refl _) .nil)) .d rfl ?_
        refine xl_nil ?_
        refine xq_norm (xe_code ?_)
        refine x_seq ?_
        refine x_region ?_
        refine xl_pv (pv_field_a rfl) rfl ?_
        refine xl_pv (pv_field_a rfl) rfl ?_
        refine xl_pv (pv_load1 rfl (.there .here) rfl) rfl ?_
        refine xl_pv (pv_field_a rfl) rfl ?_
        refine xl_put .h rfl rfl (by first | rfl | (simp [AV.cs, oneB, *]; done) | (simp [AV.cs, oneB, *]; repeat' constructor)) rfl (.s (.s (.s (.s (.c .z))))) ?_
        refine xl_nil ?_
        refine xq_norm (xe_code ?_)
        refine x_region ?_
        refine xl_pv (pv_move rfl) rfl ?_
        refine xl_pv (pv_field_a rfl) rfl ?_
        refine xl_pv (pv_load1 rfl (.there .here) rfl) rfl ?_
        refine xl_go (AC_ok (hx [] c _ _ bo mn po (iv fn) vv vc) (by rw [hV]; rfl)) rfl (.cons rfl (Wk.refl _) (.cons rfl (Wk.of_eq (by rw [← CExp.avs_eq])) (.cons rfl (Wk.nil _) .nil))) (.k (.k (.k (.x (.x (.x .d)))))) rfl ?_
        refine xl_nil ?_
        refine xq_wk (cells' := [sv s3, kv t1, iv t2, sv t3, iv t2, strs []]) .h (by repeat (first | exact Wk.refl _ | exact Wk.nil _ | exact All2.nil | refine Wk.tuple ?_ | refine Wk.agg ?_ | refine All2.cons ?_ ?_)) ?_
        refine xq_bnorm ?_
        refine xq_norm (xe_code ?_)
        refine x_seq ?_
        refine x_region ?_
        refine xl_pv (pv_move rfl) rfl ?_
        refine xl_pv (pv_move rfl) rfl ?_
        refine xl_pv (pv_nil rfl) rfl ?_
        refine xl_pv (pv_field_a rfl) rfl ?_
        refine xl_pv (pv_load1 rfl (.there (.there (.there .here))) rfl) rfl ?_
        refine xl_pv (pv_len_o (.there (.there (.there (.there .here)))) rfl) rfl ?_
        refine xl_pv (pv_nil rfl) rfl ?_
        refine xl_pv (pv_field_a rfl) rfl ?_
        refine xl_put (.t (.t .h)) rfl rfl (by first | rfl | (simp [AV.cs, oneB, *]; done) | (simp [AV.cs, oneB, *]; repeat' constructor)) rfl (.s (.s (.c .z))) ?_
        refine xl_nil ?_
        refine xq_norm (xe_code ?_)
        refine x_seq ?_
        refine x_draw rfl ?_
        refine xd_v 0 rfl rfl rfl (gv_v (pv_move rfl) rfl) ?_
        refine xd_v 1 rfl rfl rfl (gv_v (pv_move rfl) rfl) ?_
        refine xd_v 2 rfl rfl rfl (gv_v (pv_nil rfl) rfl) ?_
        refine xd_v 3 rfl rfl rfl (gv_v (pv_field_a rfl) rfl) ?_
        refine xd_v 4 rfl rfl rfl (gv_v (pv_load1 rfl (.there (.there (.there .here))) rfl) rfl) ?_
        refine xd_v 5 rfl rfl rfl (gv_v (pv_loadN rfl .here rfl) rfl) ?_
        refine xd_v 6 rfl rfl rfl (gv_o (ov_lit (.cons rfl .nil) rfl (by first | (simp [AV.cs]; done) | exact lits (by rfl) | (intro x hx; cases hx with | head => rfl | tail _ h => cases h)) (by rfl) (by decide)) rfl) ?_
        refine xd_e rfl 7 rfl rfl rfl (by rintro _ ⟨⟩ <;> exact Nat.le_of_ble_eq_true rfl) rfl (ev_grow (.t (.t (.t (.t .h)))) rfl rfl (by rfl) (by simp; omega)) ?_
        rintro _ _ ⟨vv_1, hvv_1, rfl, rfl⟩
        refine ⟨?_, ?_⟩
        · skip
          intro m hm o' y ho hy
          have hm' : m ∈ [5, 3, 2, 1, 0] := hm
          clear hm
          rcases List.mem_cons.1 hm' with rfl | hm'
          · cases ho; cases hy
            exact gv_v (pv_loadN rfl .here rfl) rfl
          rcases List.mem_cons.1 hm' with rfl | hm'
          · cases ho; cases hy
            exact gv_v (pv_field_a rfl) rfl
          rcases List.mem_cons.1 hm' with rfl | hm'
          · cases ho; cases hy
            exact gv_v (pv_nil rfl) rfl
          rcases List.mem_cons.1 hm' with rfl | hm'
          · cases ho; cases hy
            exact gv_v (pv_move rfl) rfl
          rcases List.mem_cons.1 hm' with rfl | hm'
          · cases ho; cases hy
            exact gv_v (pv_move rfl) rfl
          cases hm'
        refine xd_v 8 rfl rfl rfl (gv_v (pv_nil rfl) rfl) ?_
        refine xd_v 9 rfl rfl rfl (gv_v (pv_field_a rfl) rfl) ?_
        refine xd_e rfl 10 rfl rfl rfl (by rintro _ ⟨⟩ <;> exact Nat.le_of_ble_eq_true rfl) rfl (ev_put (.t (.t (.t .h))) rfl rfl (by simp [AV.cs, oneB, hvv_1]) rfl (.s (.s (.s (.s (.s (.s (.c .z)))))))) ?_
        rintro _ _ ⟨rfl, rfl⟩
        refine ⟨?_, ?_⟩
        · skip
          intro m hm o' y ho hy
          have hm' : m ∈ [8] := hm
          clear hm
          rcases List.mem_cons.1 hm' with rfl | hm'
          · cases ho; cases hy
            exact gv_v (pv_nil rfl) rfl
          cases hm'
        refine xd_end rfl rfl rfl rfl ?_
        refine xq_sub (.cons (i := 0) rfl (.cons (i := 1) rfl (.nil _))) ?_
        refine xq_norm (xe_code ?_)
        refine x_draw rfl ?_
        refine xd_v 0 rfl rfl rfl (gv_v (pv_move rfl) rfl) ?_
        refine xd_v 1 rfl rfl rfl (gv_v (pv_move rfl) rfl) ?_
        refine xd_v 2 rfl rfl rfl (gv_v (pv_nil rfl) rfl) ?_
        refine xd_v 3 rfl rfl rfl (gv_v (pv_field_a rfl) rfl) ?_
        refine xd_v 4 rfl rfl rfl (gv_v (pv_load1 rfl (.there (.there (.there .here))) rfl) rfl) ?_
        refine xd_v 5 rfl rfl rfl (gv_v (pv_move rfl) rfl) ?_
        refine xd_v 6 rfl rfl rfl (gv_v (pv_nil rfl) rfl) ?_
        refine xd_v 7 rfl rfl rfl (gv_v (pv_field_a rfl) rfl) ?_
        refine xd_v 8 rfl rfl rfl (gv_v (pv_load1 rfl (.there (.there .here)) rfl) rfl) ?_
        refine xd_v 9 rfl rfl rfl (gv_o (ov_lit (.cons rfl .nil) rfl (by first | (simp [AV.cs]; done) | exact lits (by rfl) | (intro x hx; cases hx with | head => rfl | tail _ h => cases h)) (by rfl) (by decide)) rfl) ?_
        refine xd_e rfl 10 rfl rfl rfl (by rintro _ ⟨⟩ <;> exact Nat.le_of_ble_eq_true rfl) rfl (ev_grow (.t (.t (.t (.t (.t .h))))) rfl rfl (by rfl) (by simp; omega)) ?_
        rintro _ _ ⟨vc_2, hvc_2, rfl, rfl⟩
        refine ⟨?_, ?_⟩
        · skip
          intro m hm o' y ho hy
          have hm' : m ∈ [8, 7, 6, 5, 3, 2, 1, 0] := hm
          clear hm
          rcases List.mem_cons.1 hm' with rfl | hm'
          · cases ho; cases hy
            exact gv_v (pv_load1 rfl (.there (.there .here)) rfl) rfl
          rcases List.mem_cons.1 hm' with rfl | hm'
          · cases ho; cases hy
            exact gv_v (pv_field_a rfl) rfl
          rcases List.mem_cons.1 hm' with rfl | hm'
          · cases ho; cases hy
            exact gv_v (pv_nil rfl) rfl
          rcases List.mem_cons.1 hm' with rfl | hm'
          · cases ho; cases hy
            exact gv_v (pv_move rfl) rfl
          rcases List.mem_cons.1 hm' with rfl | hm'
          · cases ho; cases hy
            exact gv_v (pv_field_a rfl) rfl
          rcases List.mem_cons.1 hm' with rfl | hm'
          · cases ho; cases hy
            exact gv_v (pv_nil rfl) rfl
          rcases List.mem_cons.1 hm' with rfl | hm'
          · cases ho; cases hy
            exact gv_v (pv_move rfl) rfl
          rcases List.mem_cons.1 hm' with rfl | hm'
          · cases ho; cases hy
            exact gv_v (pv_move rfl) rfl
          cases hm'
        refine xd_v 11 rfl rfl rfl (gv_v (pv_nil rfl) rfl) ?_
        refine xd_v 12 rfl rfl rfl (gv_v (pv_field_a rfl) rfl) ?_
        refine xd_e rfl 13 rfl rfl rfl (by rintro _ ⟨⟩ <;> exact Nat.le_of_ble_eq_true rfl) rfl (ev_put (.t (.t (.t .h))) rfl rfl (by simp [AV.cs, oneB, hvc_2]) rfl (.s (.s (.s (.s (.s (.s (.s (.c .z))))))))) ?_
        rintro _ _ ⟨rfl, rfl⟩
        refine ⟨?_, ?_⟩
        · skip
          intro m hm o' y ho hy
          have hm' : m ∈ [11] := hm
          clear hm
          rcases List.mem_cons.1 hm' with rfl | hm'
          · cases ho; cases hy
            exact gv_v (pv_nil rfl) rfl
          cases hm'
        refine xd_end rfl rfl rfl rfl ?_
        refine xq_sub (.nil _) ?_
        refine xq_wk (cells' := [a0, a1, iv (vs.map CVar.av).length, a3, a4, listAV [], a6, a7]) (.t (.t .h)) (by repeat (first | exact Wk.refl _ | exact Wk.nil _ | exact All2.nil | refine Wk.tuple ?_ | refine Wk.agg ?_ | refine All2.cons ?_ ?_)) ?_
        refine xq_drop .here ?_
        refine xq_drop .here ?_
        refine xq_done (.inl rfl) _ (res0 rfl) ?_
        exact ⟨(vv_1, vc_2), rfl, by simp; rfl⟩
      · skip
        exact absurd hT.1 (of_decide_eq_false h4)
    · skip
      have e3 : ¬ t1 = 3 := of_decide_eq_false h3
      rw [if_neg e3] at hF
      refine x_seq ?_
      refine x_region ?_
      refine xl_pv (pv_bin rfl rfl rfl) rfl ?_
      refine xl_pv (pv_assign rfl) rfl ?_
      refine xl_nil ?_
      refine xq_norm (xe_code ?_)
      refine x_condT rfl (fun h4 => ?_) (fun h4 => ?_)
      · skip
        have e4 : t1 = 4 := of_decide_eq_true h4
        rw [if_pos e4] at hF
        obtain ⟨l', hV, hl⟩ := map_ok hF
        cases hl
        refine x_seq ?_
        refine x_region ?_
        refine xl_pv (pv_move rfl) rfl ?_
        refine xl_pv (pv_field_a rfl) rfl ?_
        refine xl_pv (pv_field_a rfl) rfl ?_
        refine xl_pv (pv_load1 rfl (.there .here) rfl) rfl ?_
        refine xl_go (structure_c P c bo mn po (iv fn) (.val vv) (.val vc) t3 hst) rfl (.cons rfl (Wk.refl _) (.cons rfl (Wk.refl _) .nil)) (.k (.k (.k (.x .d)))) rfl ?_
        refine xl_pv (pv_move rfl) rfl ?_
        refine xl_pv (pv_extract rfl rfl) rfl ?_
        refine xl_pv (pv_extract rfl rfl) rfl ?_
        refine xl_pv (pv_assign rfl) rfl ?_
        refine xl_pv (pv_assign rfl) rfl ?_
        refine xl_nil ?_
        refine xq_norm (xe_code ?_)
        refine x_seq ?_
        refine x_region ?_
        refine xl_pv (pv_move rfl) rfl ?_
        refine xl_pv (pv_len rfl) rfl ?_
        refine xl_pv (pv_move rfl) rfl ?_
        refine xl_go (cloneStr _ (get_strL hfs)) rfl (.cons rfl (Wk.refl _) .nil) .d rfl ?_
        refine xl_pv (pv_field_a rfl) rfl ?_
        refine xl_put .h rfl rfl (by first | rfl | (simp [AV.cs, oneB, *]; done) | (simp [AV.cs, oneB, *]; repeat' constructor)) rfl (.s (.s (.s (.s (.c .z))))) ?_
        refine xl_pv (pv_field_a rfl) rfl ?_
        refine xl_put .h rfl rfl (by first | rfl | (simp [AV.cs, oneB, *]; done) | (simp [AV.cs, oneB, *]; repeat' constructor)) rfl (.s (.s (.s (.s (.s (.c .z)))))) ?_
        refine xl_nil ?_
        refine xq_norm (xe_code ?_)
        refine x_region ?_
        refine xl_pv (pv_move rfl) rfl ?_
        refine xl_pv (pv_field_a rfl) rfl ?_
        refine xl_pv (pv_load1 rfl (.there .here) rfl) rfl ?_
        refine xl_go (AC_ok (hx [] c _ _ bo mn po (iv fn) vv vc) (by rw [hV]; rfl)) rfl (.cons rfl (Wk.refl _) (.cons rfl (Wk.of_eq (by rw [← CExp.avs_eq])) (.cons rfl (Wk.nil _) .nil))) (.k (.k (.k (.x (.x (.x .d)))))) rfl ?_
        refine xl_nil ?_
        refine xq_bnorm ?_
        refine xq_norm (xe_code ?_)
        refine x_seq ?_
        refine x_region ?_
        refine xl_pv (pv_move rfl) rfl ?_
        refine xl_pv (pv_move rfl) rfl ?_
        refine xl_pv (pv_nil rfl) rfl ?_
        refine xl_pv (pv_field_a rfl) rfl ?_
        refine xl_pv (pv_load1 rfl (.there (.there (.there .here))) rfl) rfl ?_
        refine xl_pv (pv_len_o (.there (.there (.there (.there .here)))) rfl) rfl ?_
        refine xl_pv (pv_nil rfl) rfl ?_
        refine xl_pv (pv_field_a rfl) rfl ?_
        refine xl_put (.t (.t .h)) rfl rfl (by first | rfl | (simp [AV.cs, oneB, *]; done) | (simp [AV.cs, oneB, *]; repeat' constructor)) rfl (.s (.s (.c .z))) ?_
        refine xl_nil ?_
        refine xq_norm (xe_code ?_)
        refine x_seq ?_
        refine x_draw rfl ?_
        refine xd_v 0 rfl rfl rfl (gv_v (pv_move rfl) rfl) ?_
        refine xd_v 1 rfl rfl rfl (gv_v (pv_move rfl) rfl) ?_
        refine xd_v 2 rfl rfl rfl (gv_v (pv_nil rfl) rfl) ?_
        refine xd_v 3 rfl rfl rfl (gv_v (pv_field_a rfl) rfl) ?_
        refine xd_v 4 rfl rfl rfl (gv_v (pv_load1 rfl (.there (.there (.there .here))) rfl) rfl) ?_
        refine xd_v 5 rfl rfl rfl (gv_v (pv_loadN rfl .here rfl) rfl) ?_
        refine xd_v 6 rfl rfl rfl (gv_o (ov_lit (.cons rfl .nil) rfl (by first | (simp [AV.cs]; done) | exact lits (by rfl) | (intro x hx; cases hx with | head => rfl | tail _ h => cases h)) (by rfl) (by decide)) rfl) ?_
        refine xd_e rfl 7 rfl rfl rfl (by rintro _ ⟨⟩ <;> exact Nat.le_of_ble_eq_true rfl) rfl (ev_grow (.t (.t (.t (.t .h)))) rfl rfl (by rfl) (by simp; omega)) ?_
        rintro _ _ ⟨vv_3, hvv_3, rfl, rfl⟩
        refine ⟨?_, ?_⟩
        · skip
          intro m hm o' y ho hy
          have hm' : m ∈ [5, 3, 2, 1, 0] := hm
          clear hm
          rcases List.mem_cons.1 hm' with rfl | hm'
          · cases ho; cases hy
            exact gv_v (pv_loadN rfl .here rfl) rfl
          rcases List.mem_cons.1 hm' with rfl | hm'
          · cases ho; cases hy
            exact gv_v (pv_field_a rfl) rfl
          rcases List.mem_cons.1 hm' with rfl | hm'
          · cases ho; cases hy
            exact gv_v (pv_nil rfl) rfl
          rcases List.mem_cons.1 hm' with rfl | hm'
          · cases ho; cases hy
            exact gv_v (pv_move rfl) rfl
          rcases List.mem_cons.1 hm' with rfl | hm'
          · cases ho; cases hy
            exact gv_v (pv_move rfl) rfl
          cases hm'
        refine xd_v 8 rfl rfl rfl (gv_v (pv_nil rfl) rfl) ?_
        refine xd_v 9 rfl rfl rfl (gv_v (pv_field_a rfl) rfl) ?_
        refine xd_e rfl 10 rfl rfl rfl (by rintro _ ⟨⟩ <;> exact Nat.le_of_ble_eq_true rfl) rfl (ev_put (.t (.t (.t .h))) rfl rfl (by simp [AV.cs, oneB, hvv_3]) rfl (.s (.s (.s (.s (.s (.s (.c .z)))))))) ?_
        rintro _ _ ⟨rfl, rfl⟩
        refine ⟨?_, ?_⟩
        · skip
          intro m hm o' y ho hy
          have hm' : m ∈ [8] := hm
          clear hm
          rcases List.mem_cons.1 hm' with rfl | hm'
          · cases ho; cases hy
            exact gv_v (pv_nil rfl) rfl
          cases hm'
        refine xd_end rfl rfl rfl rfl ?_
        refine xq_sub (.cons (i := 0) rfl (.cons (i := 1) rfl (.nil _))) ?_
        refine xq_norm (xe_code ?_)
        refine x_draw rfl ?_
        refine xd_v 0 rfl rfl rfl (gv_v (pv_move rfl) rfl) ?_
        refine xd_v 1 rfl rfl rfl (gv_v (pv_move rfl) rfl) ?_
        refine xd_v 2 rfl rfl rfl (gv_v (pv_nil rfl) rfl) ?_
        refine xd_v 3 rfl rfl rfl (gv_v (pv_field_a rfl) rfl) ?_
        refine xd_v 4 rfl rfl rfl (gv_v (pv_load1 rfl (.there (.there (.there .here))) rfl) rfl) ?_
        refine xd_v 5 rfl rfl rfl (gv_v (pv_move rfl) rfl) ?_
        refine xd_v 6 rfl rfl rfl (gv_v (pv_nil rfl) rfl) ?_
        refine xd_v 7 rfl rfl rfl (gv_v (pv_field_a rfl) rfl) ?_
        refine xd_v 8 rfl rfl rfl (gv_v (pv_load1 rfl (.there (.there .here)) rfl) rfl) ?_
        refine xd_v 9 rfl rfl rfl (gv_o (ov_lit (.cons rfl .nil) rfl (by first | (simp [AV.cs]; done) | exact lits (by rfl) | (intro x hx; cases hx with | head => rfl | tail _ h => cases h)) (by rfl) (by decide)) rfl) ?_
        refine xd_e rfl 10 rfl rfl rfl (by rintro _ ⟨⟩ <;> exact Nat.le_of_ble_eq_true rfl) rfl (ev_grow (.t (.t (.t (.t (.t .h))))) rfl rfl (by rfl) (by simp; omega)) ?_
        rintro _ _ ⟨vc_4, hvc_4, rfl, rfl⟩
        refine ⟨?_, ?_⟩
        · skip
          intro m hm o' y ho hy
          have hm' : m ∈ [8, 7, 6, 5, 3, 2, 1, 0] := hm
          clear hm
          rcases List.mem_cons.1 hm' with rfl | hm'
          · cases ho; cases hy
            exact gv_v (pv_load1 rfl (.there (.there .here)) rfl) rfl
          rcases List.mem_cons.1 hm' with rfl | hm'
          · cases ho; cases hy
            exact gv_v (pv_field_a rfl) rfl
          rcases List.mem_cons.1 hm' with rfl | hm'
          · cases ho; cases hy
            exact gv_v (pv_nil rfl) rfl
          rcases List.mem_cons.1 hm' with rfl | hm'
          · cases ho; cases hy
            exact gv_v (pv_move rfl) rfl
          rcases List.mem_cons.1 hm' with rfl | hm'
          · cases ho; cases hy
            exact gv_v (pv_field_a rfl) rfl
          rcases List.mem_cons.1 hm' with rfl | hm'
          · cases ho; cases hy
            exact gv_v (pv_nil rfl) rfl
          rcases List.mem_cons.1 hm' with rfl | hm'
          · cases ho; cases hy
            exact gv_v (pv_move rfl) rfl
          rcases List.mem_cons.1 hm' with rfl | hm'
          · cases ho; cases hy
            exact gv_v (pv_move rfl) rfl
          cases hm'
        refine xd_v 11 rfl rfl rfl (gv_v (pv_nil rfl) rfl) ?_
        refine xd_v 12 rfl rfl rfl (gv_v (pv_field_a rfl) rfl) ?_
        refine xd_e rfl 13 rfl rfl rfl (by rintro _ ⟨⟩ <;> exact Nat.le_of_ble_eq_true rfl) rfl (ev_put (.t (.t (.t .h))) rfl rfl (by simp [AV.cs, oneB, hvc_4]) rfl (.s (.s (.s (.s (.s (.s (.s (.c .z))))))))) ?_
        rintro _ _ ⟨rfl, rfl⟩
        refine ⟨?_, ?_⟩
        · skip
          intro m hm o' y ho hy
          have hm' : m ∈ [11] := hm
          clear hm
          rcases List.mem_cons.1 hm' with rfl | hm'
          · cases ho; cases hy
            exact gv_v (pv_nil rfl) rfl
          cases hm'
        refine xd_end rfl rfl rfl rfl ?_
        refine xq_sub (.nil _) ?_
        refine xq_wk (cells' := [a0, a1, iv (vs.map CVar.av).length, a3, a4, listAV [], a6, a7]) (.t (.t .h)) (by repeat (first | exact Wk.refl _ | exact Wk.nil _ | exact All2.nil | refine Wk.tuple ?_ | refine Wk.agg ?_ | refine All2.cons ?_ ?_)) ?_
        refine xq_drop .here ?_
        refine xq_drop .here ?_
        refine xq_done (.inl rfl) _ (res0 rfl) ?_
        exact ⟨(vv_3, vc_4), rfl, by simp; rfl⟩
      · skip
        have e4 : ¬ t1 = 4 := of_decide_eq_false h4
        rw [if_neg e4] at hF
        obtain ⟨l', hV, hl⟩ := map_ok hF
        cases hl
        refine x_region ?_
        refine xl_pv (pv_move rfl) rfl ?_
        refine xl_pv (pv_move rfl) rfl ?_
        refine xl_pv (pv_field_a rfl) rfl ?_
        refine xl_pv (pv_load1 rfl (.there .here) rfl) rfl ?_
        refine xl_pv (pv_field_a rfl) rfl ?_
        refine xl_pv (pv_field_a rfl) rfl ?_
        refine xl_pv (pv_load1 rfl (.there .here) rfl) rfl ?_
        refine xl_lit (.cons rfl .nil) rfl (by first | (simp [AV.cs]; done) | exact lits (by rfl) | (intro x hx; cases hx with | head => rfl | tail _ h => cases h)) (by rfl) (by decide) rfl ?_
        refine xl_go (AC_ok (hx [t1] c _ _ bo mn po (iv fn) vv vc) (by rw [hV]; rfl)) rfl (.cons rfl (Wk.refl _) (.cons rfl (Wk.of_eq (by rw [← CExp.avs_eq])) (.cons rfl (Wk.refl _) .nil))) (.k (.k (.k (.x (.x (.x .d)))))) rfl ?_
        refine xl_wk (cells' := [sv s3, kv t1, iv t2, sv t3, iv 1, strs []]) .h (by repeat (first | exact Wk.refl _ | exact Wk.nil _ | exact All2.nil | refine Wk.tuple ?_ | refine Wk.agg ?_ | refine All2.cons ?_ ?_)) ?_
        refine xl_pv (pv_nil rfl) rfl ?_
        refine xl_pv (pv_field_a rfl) rfl ?_
        refine xl_put (.t (.t .h)) rfl rfl (by first | rfl | (simp [AV.cs, oneB, *]; done) | (simp [AV.cs, oneB, *]; repeat' constructor)) rfl (.s (.s (.s (.s (.s (.c .z)))))) ?_
        refine xl_nil ?_
        refine xq_bnorm ?_
        refine xq_norm (xe_code ?_)
        refine x_seq ?_
        refine x_region ?_
        refine xl_pv (pv_move rfl) rfl ?_
        refine xl_pv (pv_move rfl) rfl ?_
        refine xl_pv (pv_nil rfl) rfl ?_
        refine xl_pv (pv_field_a rfl) rfl ?_
        refine xl_pv (pv_load1 rfl (.there (.there (.there .here))) rfl) rfl ?_
        refine xl_pv (pv_len_o (.there (.there (.there (.there .here)))) rfl) rfl ?_
        refine xl_pv (pv_nil rfl) rfl ?_
        refine xl_pv (pv_field_a rfl) rfl ?_
        refine xl_put (.t (.t .h)) rfl rfl (by first | rfl | (simp [AV.cs, oneB, *]; done) | (simp [AV.cs, oneB, *]; repeat' constructor)) rfl (.s (.s (.c .z))) ?_
        refine xl_nil ?_
        refine xq_norm (xe_code ?_)
        refine x_seq ?_
        refine x_draw rfl ?_
        refine xd_v 0 rfl rfl rfl (gv_v (pv_move rfl) rfl) ?_
        refine xd_v 1 rfl rfl rfl (gv_v (pv_move rfl) rfl) ?_
        refine xd_v 2 rfl rfl rfl (gv_v (pv_nil rfl) rfl) ?_
        refine xd_v 3 rfl rfl rfl (gv_v (pv_field_a rfl) rfl) ?_
        refine xd_v 4 rfl rfl rfl (gv_v (pv_load1 rfl (.there (.there (.there .here))) rfl) rfl) ?_
        refine xd_v 5 rfl rfl rfl (gv_v (pv_loadN rfl .here rfl) rfl) ?_
        refine xd_v 6 rfl rfl rfl (gv_o (ov_lit (.cons rfl .nil) rfl (by first | (simp [AV.cs]; done) | exact lits (by rfl) | (intro x hx; cases hx with | head => rfl | tail _ h => cases h)) (by rfl) (by decide)) rfl) ?_
        refine xd_e rfl 7 rfl rfl rfl (by rintro _ ⟨⟩ <;> exact Nat.le_of_ble_eq_true rfl) rfl (ev_grow (.t (.t (.t (.t .h)))) rfl rfl (by rfl) (by simp; omega)) ?_
        rintro _ _ ⟨vv_5, hvv_5, rfl, rfl⟩
        refine ⟨?_, ?_⟩
        · skip
          intro m hm o' y ho hy
          have hm' : m ∈ [5, 3, 2, 1, 0] := hm
          clear hm
          rcases List.mem_cons.1 hm' with rfl | hm'
          · cases ho; cases hy
            exact gv_v (pv_loadN rfl .here rfl) rfl
          rcases List.mem_cons.1 hm' with rfl | hm'
          · cases ho; cases hy
            exact gv_v (pv_field_a rfl) rfl
          rcases List.mem_cons.1 hm' with rfl | hm'
          · cases ho; cases hy
            exact gv_v (pv_nil rfl) rfl
          rcases List.mem_cons.1 hm' with rfl | hm'
          · cases ho; cases hy
            exact gv_v (pv_move rfl) rfl
          rcases List.mem_cons.1 hm' with rfl | hm'
          · cases ho; cases hy
            exact gv_v (pv_move rfl) rfl
          cases hm'
        refine xd_v 8 rfl rfl rfl (gv_v (pv_nil rfl) rfl) ?_
        refine xd_v 9 rfl rfl rfl (gv_v (pv_field_a rfl) rfl) ?_
        refine xd_e rfl 10 rfl rfl rfl (by rintro _ ⟨⟩ <;> exact Nat.le_of_ble_eq_true rfl) rfl (ev_put (.t (.t (.t .h))) rfl rfl (by simp [AV.cs, oneB, hvv_5]) rfl (.s (.s (.s (.s (.s (.s (.c .z)))))))) ?_
        rintro _ _ ⟨rfl, rfl⟩
        refine ⟨?_, ?_⟩
        · skip
          intro m hm o' y ho hy
          have hm' : m ∈ [8] := hm
          clear hm
          rcases List.mem_cons.1 hm' with rfl | hm'
          · cases ho; cases hy
            exact gv_v (pv_nil rfl) rfl
          cases hm'
        refine xd_end rfl rfl rfl rfl ?_
        refine xq_sub (.cons (i := 0) rfl (.cons (i := 1) rfl (.nil _))) ?_
        refine xq_norm (xe_code ?_)
        refine x_draw rfl ?_
        refine xd_v 0 rfl rfl rfl (gv_v (pv_move rfl) rfl) ?_
        refine xd_v 1 rfl rfl rfl (gv_v (pv_move rfl) rfl) ?_
        refine xd_v 2 rfl rfl rfl (gv_v (pv_nil rfl) rfl) ?_
        refine xd_v 3 rfl rfl rfl (gv_v (pv_field_a rfl) rfl) ?_
        refine xd_v 4 rfl rfl rfl (gv_v (pv_load1 rfl (.there (.there (.there .here))) rfl) rfl) ?_
        refine xd_v 5 rfl rfl rfl (gv_v (pv_move rfl) rfl) ?_
        refine xd_v 6 rfl rfl rfl (gv_v (pv_nil rfl) rfl) ?_
        refine xd_v 7 rfl rfl rfl (gv_v (pv_field_a rfl) rfl) ?_
        refine xd_v 8 rfl rfl rfl (gv_v (pv_load1 rfl (.there (.there .here)) rfl) rfl) ?_
        refine xd_v 9 rfl rfl rfl (gv_o (ov_lit (.cons rfl .nil) rfl (by first | (simp [AV.cs]; done) | exact lits (by rfl) | (intro x hx; cases hx with | head => rfl | tail _ h => cases h)) (by rfl) (by decide)) rfl) ?_
        refine xd_e rfl 10 rfl rfl rfl (by rintro _ ⟨⟩ <;> exact Nat.le_of_ble_eq_true rfl) rfl (ev_grow (.t (.t (.t (.t (.t .h))))) rfl rfl (by rfl) (by simp; omega)) ?_
        rintro _ _ ⟨vc_6, hvc_6, rfl, rfl⟩
        refine ⟨?_, ?_⟩
        · skip
          intro m hm o' y ho hy
          have hm' : m ∈ [8, 7, 6, 5, 3, 2, 1, 0] := hm
          clear hm
          rcases List.mem_cons.1 hm' with rfl | hm'
          · cases ho; cases hy
            exact gv_v (pv_load1 rfl (.there (.there .here)) rfl) rfl
          rcases List.mem_cons.1 hm' with rfl | hm'
          · cases ho; cases hy
            exact gv_v (pv_field_a rfl) rfl
          rcases List.mem_cons.1 hm' with rfl | hm'
          · cases ho; cases hy
            exact gv_v (pv_nil rfl) rfl
          rcases List.mem_cons.1 hm' with rfl | hm'
          · cases ho; cases hy
            exact gv_v (pv_move rfl) rfl
          rcases List.mem_cons.1 hm' with rfl | hm'
          · cases ho; cases hy
            exact gv_v (pv_field_a rfl) rfl
          rcases List.mem_cons.1 hm' with rfl | hm'
          · cases ho; cases hy
            exact gv_v (pv_nil rfl) rfl
          rcases List.mem_cons.1 hm' with rfl | hm'
          · cases ho; cases hy
            exact gv_v (pv_move rfl) rfl
          rcases List.mem_cons.1 hm' with rfl | hm'
          · cases ho; cases hy
            exact gv_v (pv_move rfl) rfl
          cases hm'
        refine xd_v 11 rfl rfl rfl (gv_v (pv_nil rfl) rfl) ?_
        refine xd_v 12 rfl rfl rfl (gv_v (pv_field_a rfl) rfl) ?_
        refine xd_e rfl 13 rfl rfl rfl (by rintro _ ⟨⟩ <;> exact Nat.le_of_ble_eq_true rfl) rfl (ev_put (.t (.t (.t .h))) rfl rfl (by simp [AV.cs, oneB, hvc_6]) rfl (.s (.s (.s (.s (.s (.s (.s (.c .z))))))))) ?_
        rintro _ _ ⟨rfl, rfl⟩
        refine ⟨?_, ?_⟩
        · skip
          intro m hm o' y ho hy
          have hm' : m ∈ [11] := hm
          clear hm
          rcases List.mem_cons.1 hm' with rfl | hm'
          · cases ho; cases hy
            exact gv_v (pv_nil rfl) rfl
          cases hm'
        refine xd_end rfl rfl rfl rfl ?_
        refine xq_sub (.nil _) ?_
        refine xq_drop .here ?_
        refine xq_drop .here ?_
        refine xq_done (.inl rfl) _ (res0 rfl) ?_
        exact ⟨(vv_5, vc_6), rfl, by simp; rfl⟩
  · skip
    exact absurd hK1 (of_decide_eq_false h1)
end Go.Proofs.Ytmallgapchjhnaa
