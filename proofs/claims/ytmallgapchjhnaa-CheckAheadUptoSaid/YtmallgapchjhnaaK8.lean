/- The checker's statements without lists, on. No condition: plain definitions and theorems. -/
import Derived.Test.YtmallgapchjhnaaK7
set_option linter.unusedVariables false
set_option linter.unusedSimpArgs false
namespace Go.Proofs.Ytmallgapchjhnaa
set_option maxRecDepth 100000
open Go Go.Ax
attribute [local irreducible] X XL XE XQ PV

theorem variable_err (P : CProg) (vs : List CVar) (sc : List Int) (s : CStmt) (hvs : vs.length < 2 ^ 40) (hsc : sc.length < 2 ^ 40) (hst : P.structs.length ≤ 2 ^ 40) (hfs : ∀ s ∈ P.structs, s.fields.length ≤ 2 ^ 40) (hx : ValsC vs sc s.kids) (a c : Nat) (a0 a1 a2 a3 a4 a6 a7 : AV) (bo mn po : AV) (fn : Int) (vv vc : Value) {e : Int} (hF : variableF P vs s.name s.ty (expsF vs sc s.kids) = .error e) :
    AC Try.prog 87 [ptr c, ptr a, s.av] (.ref a 115 [a0, a1, a2, a3, a4, .val (.slice none 0 0), a6, a7] :: memS c P bo mn po fn vv vc vs sc) (DieE (.iface 134 (.int .i64 e)) (fun q => .ref a 115 q :: memS c P bo mn po fn vv vc vs sc)) := by
  obtain ⟨s1, s2, s3, s4, s5, s6, s7, s8, s9⟩ := s
  obtain ⟨t1, t2, t3⟩ := s6
  simp only [CStmt.name, CStmt.ty, CStmt.kids] at *
  unfold variableF at hF
  simp only at hF
  refine ac_intro Try.func87 rfl rfl fun I w => ?_
  simp only [argEnv, memE]
  refine x_seq ?_
  refine x_region ?_
  refine xl_box rfl (by rfl) rfl (fun b5 => ?_)
  refine xl_nil ?_
  refine xq_norm (xe_code ?_)
  refine x_seq ?_
  refine x_region ?_
  refine xl_pv (pv_move rfl) rfl ?_
  refine xl_pv (pv_field_a rfl) rfl ?_
  refine xl_pv (pv_load1 rfl .here rfl) rfl ?_
  refine xl_go (number_c c _ _ bo mn po (iv fn) (.val vc) vv vs s3 (by omega)) rfl (.cons rfl (Wk.refl _) (.cons rfl (Wk.refl _) .nil)) (.k (.k (.x (.x .d)))) rfl ?_
  refine xl_pv (pv_bin rfl rfl rfl) rfl ?_
  refine xl_pv (pv_move rfl) rfl ?_
  refine xl_guard rfl rfl (fun h1 => ?_) (fun h1 => ?_)
  · skip
    refine xl_take rfl rfl rfl ?_
    refine xl_pv (pv_move rfl) rfl ?_
    refine xl_take rfl rfl rfl ?_
    refine xl_pv (pv_field_a rfl) rfl ?_
    refine xl_take rfl rfl rfl ?_
    refine xl_pv (pv_loadN rfl .here rfl) rfl ?_
    refine xl_take rfl rfl rfl ?_
    refine xl_go (known_c P c bo mn po (iv fn) (.val vv) (.val vc) ⟨t1, t2, t3⟩ hst) rfl (.cons rfl (Wk.refl _) (.cons rfl (Wk.refl _) .nil)) (.k (.k (.x .d))) rfl ?_
    rcases hK2 : knownB P ⟨t1, t2, t3⟩ with _ | _
    · skip
      rw [if_neg (by simp [hK2])] at hF
      refine xl_pv (pv_pick_t rfl rfl) rfl ?_
      refine xl_dies (fail_f 8) rfl (.cons rfl (Wk.of_eq (by first | rfl | rw [hK2])) (.cons rfl (Wk.refl _) .nil)) .d rfl ?_
      refine xq_panic ?_
      refine xq_drop .here ?_
      refine xq_died ?_
      injection hF with hF; subst hF; exact ⟨_, rfl, rfl⟩
    · skip
      rw [if_pos ⟨of_decide_eq_true h1, hK2⟩] at hF
      refine xl_pv (pv_pick_t rfl rfl) rfl ?_
      refine xl_go (fail_t 8) rfl (.cons rfl (Wk.of_eq (by first | rfl | rw [hK2])) (.cons rfl (Wk.refl _) .nil)) .d rfl ?_
      refine xl_nil ?_
      refine xq_norm (xe_code ?_)
      refine x_seq ?_
      refine x_region ?_
      refine xl_pv (pv_field_a rfl) rfl ?_
      refine xl_pv (pv_load1 rfl .here rfl) rfl ?_
      refine xl_pv (pv_field_a rfl) rfl ?_
      refine xl_pv (pv_loadN rfl .here rfl) rfl ?_
      refine xl_pv (pv_build (by exact (.cons rfl rfl rfl (by first | rfl | (simp [AV.cs, oneB, *]; done) | (simp [AV.cs, oneB, *]; repeat' constructor)) (.c .z) (.cons rfl rfl rfl (by first | rfl | (simp [AV.cs, oneB, *]; done) | (simp [AV.cs, oneB, *]; repeat' constructor)) (.s (.c (.c (.c .z)))) (.cons rfl rfl rfl (by first | rfl | (simp [AV.cs, oneB, *]; done) | (simp [AV.cs, oneB, *]; repeat' constructor)) (.s (.s (.s (.s (.c .z))))) .nil))))) rfl ?_
      refine xl_alloc rfl (fun b6 => ?_)
      refine xl_put .h rfl rfl (by first | rfl | (simp [AV.cs, oneB, *]; done) | (simp [AV.cs, oneB, *]; repeat' constructor)) rfl (.c (.c (.c (.c (.c (.c .z)))))) ?_
      refine xl_nil ?_
      refine xq_norm (xe_code ?_)
      refine x_seq ?_
      refine x_seq ?_
      refine x_region ?_
      refine xl_pv (pv_field_a rfl) rfl ?_
      refine xl_pv (pv_field_a rfl) rfl ?_
      refine xl_pv (pv_load1 rfl (.there .here) rfl) rfl ?_
      refine xl_nil ?_
      refine xq_norm (xe_code ?_)
      refine x_block ?_
      refine x_seq ?_
      refine x_region ?_
      refine xl_pv (pv_bin rfl rfl rfl) rfl ?_
      refine xl_pv (pv_assign rfl) rfl ?_
      refine xl_nil ?_
      refine xq_norm (xe_code ?_)
      refine x_condT rfl (fun h3 => ?_) (fun h3 => ?_)
      · skip
        have e3 : t1 = 3 := of_decide_eq_true h3
        rw [if_pos e3] at hF
        refine x_seq ?_
        refine x_region ?_
        refine xl_pv (pv_field_a rfl) rfl ?_
        refine xl_pv (pv_field_a rfl) rfl ?_
        refine xl_pv (pv_load1 rfl (.there .here) rfl) rfl ?_
        refine xl_pv (pv_bin rfl rfl rfl) rfl ?_
        refine xl_pv (pv_move rfl) rfl ?_
        refine xl_guard rfl rfl (fun h4 => ?_) (fun h4 => ?_)
        · skip
          rcases if_err hF with ⟨hT, he⟩ | ⟨hT, hF⟩
          · skip
            have h5 : ¬ t2 ≤ 16 := fun h => hT ⟨of_decide_eq_true h4, h⟩
            refine xl_take rfl rfl rfl ?_
            refine xl_pv (pv_field_a rfl) rfl ?_
            refine xl_take rfl rfl rfl ?_
            refine xl_pv (pv_field_a rfl) rfl ?_
            refine xl_take rfl rfl rfl ?_
            refine xl_pv (pv_load1 rfl (.there .here) rfl) rfl ?_
            refine xl_take rfl rfl rfl ?_
            refine xl_pv (pv_bin rfl rfl rfl) rfl ?_
            refine xl_pv (pv_pick_t rfl rfl) rfl ?_
            refine xl_dies (fail_f 9) rfl (.cons rfl (Wk.of_eq (by rw [decide_eq_false h5])) (.cons rfl (Wk.refl _) .nil)) .d rfl ?_
            refine xq_panic ?_
            refine xq_bpanic ?_
            refine xq_panic ?_
            refine xq_drop .here ?_
            refine xq_drop .here ?_
            refine xq_died ?_
            subst he; exact ⟨_, rfl, rfl⟩
          · skip
            have hV := map_err hF
            refine xl_take rfl rfl rfl ?_
            refine xl_pv (pv_field_a rfl) rfl ?_
            refine xl_take rfl rfl rfl ?_
            refine xl_pv (pv_field_a rfl) rfl ?_
            refine xl_take rfl rfl rfl ?_
            refine xl_pv (pv_load1 rfl (.there .here) rfl) rfl ?_
            refine xl_take rfl rfl rfl ?_
            refine xl_pv (pv_bin rfl rfl rfl) rfl ?_
            refine xl_pv (pv_pick_t rfl rfl) rfl ?_
            refine xl_go (fail_t 9) rfl (.cons rfl (Wk.of_eq (by rw [decide_eq_true hT.2])) (.cons rfl (Wk.refl _) .nil)) .d rfl ?_
            refine xl_nil ?_
            refine xq_norm (xe_code ?_)
            refine x_seq ?_
            refine x_region ?_
            refine xl_pv (pv_field_a rfl) rfl ?_
            refine xl_pv (pv_field_a rfl) rfl ?_
            refine xl_pv (pv_load1 rfl (.there .here) rfl) rfl ?_
            refine xl_pv (pv_field_a rfl) rfl ?_
            refine xl_put .h rfl rfl (by first | rfl | (simp [AV.cs, oneB, *]; done) | (simp [AV.cs, oneB, *]; repeat' constructor)) rfl (.s (.s (.s (.s (.c .z))))) ?_
            refine xl_nil ?_
            refine xq_norm (xe_code ?_)
            refine x_region ?_
            refine xl_pv (pv_move rfl) rfl ?_
            refine xl_pv (pv_field_a rfl) rfl ?_
            refine xl_pv (pv_load1 rfl (.there .here) rfl) rfl ?_
            refine xl_dies (AC_err (hx [] c _ _ bo mn po (iv fn) vv vc) (by rw [hV]; rfl)) rfl (.cons rfl (Wk.refl _) (.cons rfl (Wk.of_eq (by rw [← CExp.avs_eq])) (.cons rfl (Wk.nil _) .nil))) (.k (.k (.k (.x (.x (.x .d)))))) rfl ?_
            refine xq_bpanic ?_
            refine xq_panic ?_
            refine xq_drop .here ?_
            refine xq_drop .here ?_
            refine xq_died ?_
            exact ⟨_, rfl, rfl⟩
        · skip
          have h4' : ¬ 1 ≤ t2 := of_decide_eq_false h4
          rw [if_neg (fun h => h4' h.1)] at hF
          refine xl_skip rfl rfl rfl rfl ?_
          refine xl_skip rfl rfl rfl rfl ?_
          refine xl_skip rfl rfl rfl rfl ?_
          refine xl_skip rfl rfl rfl rfl ?_
          refine xl_pv (pv_pick_f rfl rfl) rfl ?_
          refine xl_dies (fail_f 9) rfl (.cons rfl (Wk.refl _) (.cons rfl (Wk.refl _) .nil)) .d rfl ?_
          refine xq_panic ?_
          refine xq_bpanic ?_
          refine xq_panic ?_
          refine xq_drop .here ?_
          refine xq_drop .here ?_
          refine xq_died ?_
          injection hF with hF; subst hF; exact ⟨_, rfl, rfl⟩
      · skip
        have e3 : ¬ t1 = 3 := of_decide_eq_false h3
        rw [if_neg e3] at hF
        refine x_seq ?_
        refine x_region ?_
        refine xl_pv (pv_bin rfl rfl rfl) rfl ?_
        refine xl_pv (pv_assign rfl) rfl ?_
        refine xl_nil ?_
        refine xq_norm (xe_code ?_)
        refine x_condT rfl (fun h4 => ?_) (fun h4 => ?_)
        · skip
          have e4 : t1 = 4 := of_decide_eq_true h4
          rw [if_pos e4] at hF
          have hV := map_err hF
          refine x_seq ?_
          refine x_region ?_
          refine xl_pv (pv_move rfl) rfl ?_
          refine xl_pv (pv_field_a rfl) rfl ?_
          refine xl_pv (pv_field_a rfl) rfl ?_
          refine xl_pv (pv_load1 rfl (.there .here) rfl) rfl ?_
          refine xl_go (structure_c P c bo mn po (iv fn) (.val vv) (.val vc) t3 hst) rfl (.cons rfl (Wk.refl _) (.cons rfl (Wk.refl _) .nil)) (.k (.k (.k (.x .d)))) rfl ?_
          refine xl_pv (pv_move rfl) rfl ?_
          refine xl_pv (pv_extract rfl rfl) rfl ?_
          refine xl_pv (pv_extract rfl rfl) rfl ?_
          refine xl_pv (pv_assign rfl) rfl ?_
          refine xl_pv (pv_assign rfl) rfl ?_
          refine xl_nil ?_
          refine xq_norm (xe_code ?_)
          refine x_seq ?_
          refine x_region ?_
          refine xl_pv (pv_move rfl) rfl ?_
          refine xl_pv (pv_len rfl) rfl ?_
          refine xl_pv (pv_move rfl) rfl ?_
          refine xl_go (cloneStr _ (get_strL hfs)) rfl (.cons rfl (Wk.refl _) .nil) .d rfl ?_
          refine xl_pv (pv_field_a rfl) rfl ?_
          refine xl_put .h rfl rfl (by first | rfl | (simp [AV.cs, oneB, *]; done) | (simp [AV.cs, oneB, *]; repeat' constructor)) rfl (.s (.s (.s (.s (.c .z))))) ?_
          refine xl_pv (pv_field_a rfl) rfl ?_
          refine xl_put .h rfl rfl (by first | rfl | (simp [AV.cs, oneB, *]; done) | (simp [AV.cs, oneB, *]; repeat' constructor)) rfl (.s (.s (.s (.s (.s (.c .z)))))) ?_
          refine xl_nil ?_
          refine xq_norm (xe_code ?_)
          refine x_region ?_
          refine xl_pv (pv_move rfl) rfl ?_
          refine xl_pv (pv_field_a rfl) rfl ?_
          refine xl_pv (pv_load1 rfl (.there .here) rfl) rfl ?_
          refine xl_dies (AC_err (hx [] c _ _ bo mn po (iv fn) vv vc) (by rw [hV]; rfl)) rfl (.cons rfl (Wk.refl _) (.cons rfl (Wk.of_eq (by rw [← CExp.avs_eq])) (.cons rfl (Wk.nil _) .nil))) (.k (.k (.k (.x (.x (.x .d)))))) rfl ?_
          refine xq_bpanic ?_
          refine xq_panic ?_
          refine xq_drop .here ?_
          refine xq_drop .here ?_
          refine xq_died ?_
          exact ⟨_, rfl, rfl⟩
        · skip
          have e4 : ¬ t1 = 4 := of_decide_eq_false h4
          rw [if_neg e4] at hF
          have hV := map_err hF
          refine x_region ?_
          refine xl_pv (pv_move rfl) rfl ?_
          refine xl_pv (pv_move rfl) rfl ?_
          refine xl_pv (pv_field_a rfl) rfl ?_
          refine xl_pv (pv_load1 rfl (.there .here) rfl) rfl ?_
          refine xl_pv (pv_field_a rfl) rfl ?_
          refine xl_pv (pv_field_a rfl) rfl ?_
          refine xl_pv (pv_load1 rfl (.there .here) rfl) rfl ?_
          refine xl_lit (.cons rfl .nil) rfl (by first | (simp [AV.cs]; done) | exact lits (by rfl) | (intro x hx; cases hx with | head => rfl | tail _ h => cases h)) (by rfl) (by decide) rfl ?_
          refine xl_dies (AC_err (hx [t1] c _ _ bo mn po (iv fn) vv vc) (by rw [hV]; rfl)) rfl (.cons rfl (Wk.refl _) (.cons rfl (Wk.of_eq (by rw [← CExp.avs_eq])) (.cons rfl (Wk.refl _) .nil))) (.k (.k (.k (.x (.x (.x .d)))))) rfl ?_
          refine xq_bpanic ?_
          refine xq_panic ?_
          refine xq_drop .here ?_
          refine xq_drop .here ?_
          refine xq_died ?_
          exact ⟨_, rfl, rfl⟩
  · skip
    rw [if_neg (fun h => of_decide_eq_false h1 h.1)] at hF
    refine xl_skip rfl rfl rfl rfl ?_
    refine xl_skip rfl rfl rfl rfl ?_
    refine xl_skip rfl rfl rfl rfl ?_
    refine xl_skip rfl rfl rfl rfl ?_
    refine xl_pv (pv_pick_f rfl rfl) rfl ?_
    refine xl_dies (fail_f 8) rfl (.cons rfl (Wk.refl _) (.cons rfl (Wk.refl _) .nil)) .d rfl ?_
    refine xq_panic ?_
    refine xq_drop .here ?_
    refine xq_died ?_
    injection hF with hF; subst hF; exact ⟨_, rfl, rfl⟩

theorem callTo_get {vs : List CVar} {sc : List Int} {nm : ByteArray} {k : Int} (h : callTo vs sc nm = .ok k) : (nm = ⟨#[]⟩ ∧ k = -1) ∨ (nm ≠ ⟨#[]⟩ ∧ findF vs sc nm = .ok k ∧ 0 ≤ k ∧ ∃ v, vs[k.toNat]? = some v ∧ scB v.ty = true) := by
  unfold callTo at h
  split at h
  · rename_i h1; injection h with h; exact .inl ⟨h1, h.symm⟩
  · rename_i h1
    refine .inr ⟨h1, ?_⟩
    cases hN : findF vs sc nm with
    | error e => rw [hN] at h; cases h
    | ok k' =>
      obtain ⟨h0, v, hv⟩ := find_get hN
      rw [hN] at h
      simp only [hv] at h
      cases hS : scB v.ty with
      | false => simp [hS] at h
      | true =>
        simp only [hS, if_true] at h
        injection h with h
        subst h
        exact ⟨rfl, h0, v, hv, hS⟩
theorem call_ok (P : CProg) (vs : List CVar) (sc : List Int) (s : CStmt) (hvs : vs.length ≤ 2 ^ 40) (hsc : sc.length ≤ 2 ^ 40) (hfn : P.funcs.length ≤ 2 ^ 40) (hpa : ∀ d ∈ P.funcs, d.params.length ≤ 2 ^ 40) (hx : ValsC vs sc s.kids) (a c : Nat) (a0 a1 a3 a5 a6 a7 : AV) (bo mn po : AV) (fn : Int) (vv vc : Value) {k f : Int} {l : List CVal} (hF : callF P vs sc s.name s.call (expsF vs sc s.kids) = .ok (k, f, l)) :
    AC Try.prog 89 [ptr c, ptr a, s.av] (.ref a 115 [a0, a1, iv (-1), a3, iv (-1), a5, a6, a7] :: memS c P bo mn po fn vv vc vs sc) (RetIs (.tuple []) (.ref a 115 [a0, a1, iv k, a3, iv f, listAV l, a6, a7] :: memS c P bo mn po fn vv vc vs sc)) := by
  obtain ⟨s1, s2, s3, s4, s5, s6, s7, s8, s9⟩ := s
  obtain ⟨t1, t2, t3⟩ := s6
  simp only [CStmt.name, CStmt.call, CStmt.kids] at *
  unfold callF at hF
  cases hT : callTo vs sc s3 with
  | error e => rw [hT] at hF; cases hF
  | ok k' =>
    rw [hT] at hF
    simp only at hF
    by_cases hf0 : funF P s5 < 0
    · rw [if_pos hf0] at hF; cases hF
    · rw [if_neg hf0] at hF
      obtain ⟨i, d, hi, hd, _⟩ := idx_lt _ _ _ (Int.not_lt.1 hf0)
      have hd' : P.funcs[(funF P s5).toNat]? = some d := by rw [funF, hi]; simpa using hd
      rw [hd'] at hF
      simp only at hF
      cases hV : valsF (expsF vs sc s7) (d.params.map fun p => p.ty.kind) with
      | error e => rw [hV] at hF; cases hF
      | ok l' =>
        rw [hV] at hF
        simp only at hF
        have hR := if_ok hF
        rw [if_pos hR] at hF
        injection hF with hF
        injection hF with hF1 hF2
        injection hF2 with hF2 hF3
        subst hF1 hF2 hF3
        have hpl := hpa d (List.mem_of_getElem? hd')
        refine ac_intro Try.func89 rfl rfl fun I w => ?_
        simp only [argEnv, memE]
        refine x_seq ?_
        refine x_region ?_
        refine xl_box rfl (by rfl) rfl (fun b5 => ?_)
        refine xl_nil ?_
        refine xq_norm (xe_code ?_)
        refine x_join [] (.ref b5 73 (CStmt.mk s1 s2 s3 s4 s5 ⟨t1, t2, t3⟩ s7 s8 s9).av.cs :: .ref a 115 [a0, a1, iv k', a3, iv (-1), a5, a6, a7] :: memS c P bo mn po fn vv vc vs sc) (.cons (i := 5) rfl (.cons (i := 0) rfl (.cons (i := 1) rfl (.nil _)))) ?_ ?_
        · skip
          rcases callTo_get hT with ⟨hG, rfl⟩ | ⟨hG, hN, hk0, v, hv, hS⟩
          · skip
            refine x_seq ?_
            refine x_region ?_
            refine xl_pv (pv_field_a rfl) rfl ?_
            refine xl_pv (pv_load1 rfl .here rfl) rfl ?_
            refine xl_pv (pv_str_ne rfl rfl) rfl ?_
            refine xl_nil ?_
            refine xq_norm (xe_code ?_)
            refine x_condT rfl (fun h1 => ?_) (fun h1 => ?_)
            · skip
              simp [hG] at h1
            · skip
              refine x_skip ?_
              refine xq_meetF (.cons rfl (.cons rfl (.cons rfl (.nil _)))) rfl
          · skip
            refine x_seq ?_
            refine x_region ?_
            refine xl_pv (pv_field_a rfl) rfl ?_
            refine xl_pv (pv_load1 rfl .here rfl) rfl ?_
            refine xl_pv (pv_str_ne rfl rfl) rfl ?_
            refine xl_nil ?_
            refine xq_norm (xe_code ?_)
            refine x_condT rfl (fun h1 => ?_) (fun h1 => ?_)
            · skip
              refine x_seq ?_
              refine x_region ?_
              refine xl_pv (pv_move rfl) rfl ?_
              refine xl_pv (pv_move rfl) rfl ?_
              refine xl_pv (pv_field_a rfl) rfl ?_
              refine xl_pv (pv_load1 rfl .here rfl) rfl ?_
              refine xl_go (find_ok c _ _ bo mn po (iv fn) vv vc vs sc s3 hvs hsc hN) rfl (.cons rfl (Wk.refl _) (.cons rfl (Wk.refl _) .nil)) (.k (.k (.x (.x (.x .d))))) rfl ?_
              have hlt := (List.getElem?_eq_some_iff.1 hv).1
              refine xl_slc (.there (.there (.there .here))) (fun hs => ?_)
              obtain ⟨gvv, cvv, rfl⟩ := hs.full (by simp; omega)
              refine xl_pv (pv_nil rfl) rfl ?_
              refine xl_pv (pv_field_a rfl) rfl ?_
              refine xl_put (.t .h) rfl rfl (by first | rfl | (simp [AV.cs, oneB, *]; done) | (simp [AV.cs, oneB, *]; repeat' constructor)) rfl (.s (.s (.c .z))) ?_
              refine xl_nil ?_
              refine xq_norm (xe_code ?_)
              refine x_draw rfl ?_
              refine xd_v 0 rfl rfl rfl (gv_v (pv_move rfl) rfl) ?_
              refine xd_v 1 rfl rfl rfl (gv_v (pv_nil rfl) rfl) ?_
              refine xd_v 2 rfl rfl rfl (gv_v (pv_field_a rfl) rfl) ?_
              refine xd_v 3 rfl rfl rfl (gv_v (pv_load1 rfl (.there (.there .here)) rfl) rfl) ?_
              refine xd_v 4 rfl rfl rfl (gv_v (pv_move rfl) rfl) ?_
              refine xd_v 5 rfl rfl rfl (gv_v (pv_nil rfl) rfl) ?_
              refine xd_v 6 rfl rfl rfl (gv_v (pv_field_a rfl) rfl) ?_
              refine xd_v 7 rfl rfl rfl (gv_v (pv_load1 rfl (.there .here) rfl) rfl) ?_
              refine xd_v 8 rfl rfl rfl (gv_v (pv_at_o rfl rfl (hk0) (by first | omega | (simp; omega))) rfl) ?_
              refine xd_v 9 rfl rfl rfl (gv_v (pv_field_a rfl) rfl) ?_
              refine xd_v 10 rfl rfl rfl (gv_v (pv_loadN_o (off := 1) (.there (.there (.there .here))) rfl (get_map hv) rfl) rfl) ?_
              refine xd_e rfl 11 rfl rfl rfl (by rintro _ ⟨⟩ <;> exact Nat.le_of_ble_eq_true rfl) rfl (ev_go (scalar_c v.ty) rfl (.cons rfl (Wk.refl _) .nil) .d) ?_
              rintro _ _ ⟨rfl, rfl⟩
              refine ⟨?_, ?_⟩
              · skip
                intro m hm o' y ho hy
                have hm' : m ∈ [9, 8, 7, 6, 5, 4, 3, 2, 1, 0] := hm
                clear hm
                rcases List.mem_cons.1 hm' with rfl | hm'
                · cases ho; cases hy
                  exact gv_v (pv_field_a rfl) rfl
                rcases List.mem_cons.1 hm' with rfl | hm'
                · cases ho; cases hy
                  exact gv_v (pv_at_o rfl rfl (hk0) (by first | omega | (simp; omega))) rfl
                rcases List.mem_cons.1 hm' with rfl | hm'
                · cases ho; cases hy
                  exact gv_v (pv_load1 rfl (.there .here) rfl) rfl
                rcases List.mem_cons.1 hm' with rfl | hm'
                · cases ho; cases hy
                  exact gv_v (pv_field_a rfl) rfl
                rcases List.mem_cons.1 hm' with rfl | hm'
                · cases ho; cases hy
                  exact gv_v (pv_nil rfl) rfl
                rcases List.mem_cons.1 hm' with rfl | hm'
                · cases ho; cases hy
                  exact gv_v (pv_move rfl) rfl
                rcases List.mem_cons.1 hm' with rfl | hm'
                · cases ho; cases hy
                  exact gv_v (pv_load1 rfl (.there (.there .here)) rfl) rfl
                rcases List.mem_cons.1 hm' with rfl | hm'
                · cases ho; cases hy
                  exact gv_v (pv_field_a rfl) rfl
                rcases List.mem_cons.1 hm' with rfl | hm'
                · cases ho; cases hy
                  exact gv_v (pv_nil rfl) rfl
                rcases List.mem_cons.1 hm' with rfl | hm'
                · cases ho; cases hy
                  exact gv_v (pv_move rfl) rfl
                cases hm'
              refine xd_e rfl 12 rfl rfl rfl (by rintro _ ⟨⟩ <;> exact Nat.le_of_ble_eq_true rfl) rfl (ev_go (fail_t 9) rfl (.cons rfl (Wk.of_eq (by unfold scB at hS; rw [hS])) (.cons rfl (Wk.refl _) .nil)) .d) ?_
              rintro _ _ ⟨rfl, rfl⟩
              refine ⟨?_, ?_⟩
              · skip
                intro m hm o' y ho hy
                have hm' : m ∈ [9, 8, 7, 6, 5, 4, 3, 2, 1, 0] := hm
                clear hm
                rcases List.mem_cons.1 hm' with rfl | hm'
                · cases ho; cases hy
                  exact gv_v (pv_field_a rfl) rfl
                rcases List.mem_cons.1 hm' with rfl | hm'
                · cases ho; cases hy
                  exact gv_v (pv_at_o rfl rfl (hk0) (by first | omega | (simp; omega))) rfl
                rcases List.mem_cons.1 hm' with rfl | hm'
                · cases ho; cases hy
                  exact gv_v (pv_load1 rfl (.there .here) rfl) rfl
                rcases List.mem_cons.1 hm' with rfl | hm'
                · cases ho; cases hy
                  exact gv_v (pv_field_a rfl) rfl
                rcases List.mem_cons.1 hm' with rfl | hm'
                · cases ho; cases hy
                  exact gv_v (pv_nil rfl) rfl
                rcases List.mem_cons.1 hm' with rfl | hm'
                · cases ho; cases hy
                  exact gv_v (pv_move rfl) rfl
                rcases List.mem_cons.1 hm' with rfl | hm'
                · cases ho; cases hy
                  exact gv_v (pv_load1 rfl (.there (.there .here)) rfl) rfl
                rcases List.mem_cons.1 hm' with rfl | hm'
                · cases ho; cases hy
                  exact gv_v (pv_field_a rfl) rfl
                rcases List.mem_cons.1 hm' with rfl | hm'
                · cases ho; cases hy
                  exact gv_v (pv_nil rfl) rfl
                rcases List.mem_cons.1 hm' with rfl | hm'
                · cases ho; cases hy
                  exact gv_v (pv_move rfl) rfl
                cases hm'
              refine xd_end rfl rfl rfl rfl ?_
              refine xq_sub (.cons (i := 5) rfl (.cons (i := 0) rfl (.cons (i := 1) rfl (.nil _)))) ?_
              refine xq_meetF (.cons rfl (.cons rfl (.cons rfl (.nil _)))) rfl
            · skip
              simp [hG] at h1
        simp only [List.cons_append, List.nil_append]
        refine x_seq ?_
        refine x_region ?_
        refine xl_pv (pv_move rfl) rfl ?_
        refine xl_pv (pv_move rfl) rfl ?_
        refine xl_pv (pv_field_a rfl) rfl ?_
        refine xl_pv (pv_load1 rfl .here rfl) rfl ?_
        refine xl_go (function_c P c bo mn po (iv fn) (.val vv) (.val vc) s5 hfn) rfl (.cons rfl (Wk.refl _) (.cons rfl (Wk.refl _) .nil)) (.k (.k (.x .d))) rfl ?_
        refine xl_pv (pv_nil rfl) rfl ?_
        refine xl_pv (pv_field_a rfl) rfl ?_
        refine xl_put (.t .h) rfl rfl (by first | rfl | (simp [AV.cs, oneB, *]; done) | (simp [AV.cs, oneB, *]; repeat' constructor)) rfl (.s (.s (.s (.s (.c .z))))) ?_
        refine xl_nil ?_
        refine xq_norm (xe_code ?_)
        refine x_seq ?_
        refine x_region ?_
        refine xl_pv (pv_move rfl) rfl ?_
        refine xl_pv (pv_nil rfl) rfl ?_
        refine xl_pv (pv_field_a rfl) rfl ?_
        refine xl_pv (pv_load1 rfl (.there .here) rfl) rfl ?_
        refine xl_pv (pv_bin rfl rfl rfl) rfl ?_
        refine xl_go (fail_t 8) rfl (.cons rfl (Wk.of_eq (by rw [decide_eq_true (Int.not_lt.1 hf0)])) (.cons rfl (Wk.refl _) .nil)) .d rfl ?_
        refine xl_nil ?_
        refine xq_norm (xe_code ?_)
        refine x_seq ?_
        refine x_draw rfl ?_
        refine xd_v 0 rfl rfl rfl (gv_v (pv_move rfl) rfl) ?_
        refine xd_v 1 rfl rfl rfl (gv_v (pv_nil rfl) rfl) ?_
        refine xd_v 2 rfl rfl rfl (gv_v (pv_field_a rfl) rfl) ?_
        refine xd_v 3 rfl rfl rfl (gv_v (pv_field_a rfl) rfl) ?_
        refine xd_v 4 rfl rfl rfl (gv_v (pv_load1 rfl (.there (.there .here)) rfl) rfl) ?_
        refine xd_v 5 rfl rfl rfl (gv_v (pv_move rfl) rfl) ?_
        refine xd_v 6 rfl rfl rfl (gv_v (pv_nil rfl) rfl) ?_
        refine xd_v 7 rfl rfl rfl (gv_v (pv_field_a rfl) rfl) ?_
        refine xd_v 8 rfl rfl rfl (gv_v (pv_load1 rfl (.there .here) rfl) rfl) ?_
        refine xd_v 9 rfl rfl rfl (gv_v (pv_at rfl rfl (Int.not_lt.1 hf0) ((get_map hd'))) rfl) ?_
        refine xd_v 10 rfl rfl rfl (gv_v (pv_loadN_i rfl rfl) rfl) ?_
        refine xd_e rfl 11 rfl rfl rfl (by rintro _ ⟨⟩ <;> exact Nat.le_of_ble_eq_true rfl) rfl ev_alloc ?_
        rintro _ _ ⟨b6, rfl, rfl⟩
        refine ⟨?_, ?_⟩
        · skip
          intro m hm o' y ho hy
          have hm' : m ∈ [10, 9, 8, 7, 6, 5, 4, 3, 2, 1, 0] := hm
          clear hm
          rcases List.mem_cons.1 hm' with rfl | hm'
          · cases ho; cases hy
            exact gv_v (pv_loadN_i rfl rfl) rfl
          rcases List.mem_cons.1 hm' with rfl | hm'
          · cases ho; cases hy
            exact gv_v (pv_at rfl rfl (Int.not_lt.1 hf0) ((get_map hd'))) rfl
          rcases List.mem_cons.1 hm' with rfl | hm'
          · cases ho; cases hy
            exact gv_v (pv_load1 rfl (.there (.there .here)) rfl) rfl
          rcases List.mem_cons.1 hm' with rfl | hm'
          · cases ho; cases hy
            exact gv_v (pv_field_a rfl) rfl
          rcases List.mem_cons.1 hm' with rfl | hm'
          · cases ho; cases hy
            exact gv_v (pv_nil rfl) rfl
          rcases List.mem_cons.1 hm' with rfl | hm'
          · cases ho; cases hy
            exact gv_v (pv_move rfl) rfl
          rcases List.mem_cons.1 hm' with rfl | hm'
          · cases ho; cases hy
            exact gv_v (pv_load1 rfl (.there (.there (.there .here))) rfl) rfl
          rcases List.mem_cons.1 hm' with rfl | hm'
          · cases ho; cases hy
            exact gv_v (pv_field_a rfl) rfl
          rcases List.mem_cons.1 hm' with rfl | hm'
          · cases ho; cases hy
            exact gv_v (pv_field_a rfl) rfl
          rcases List.mem_cons.1 hm' with rfl | hm'
          · cases ho; cases hy
            exact gv_v (pv_nil rfl) rfl
          rcases List.mem_cons.1 hm' with rfl | hm'
          · cases ho; cases hy
            exact gv_v (pv_move rfl) rfl
          cases hm'
        refine xd_e rfl 12 rfl rfl rfl (by rintro _ ⟨⟩ <;> exact Nat.le_of_ble_eq_true rfl) rfl (ev_put .h rfl rfl (by first | rfl | (simp [AV.cs, oneB, *]; done) | (simp [AV.cs, oneB, *]; repeat' constructor)) rfl (.c (.c (.c (.c (.c (.c (.c .z)))))))) ?_
        rintro _ _ ⟨rfl, rfl⟩
        refine ⟨?_, ?_⟩
        · skip
          intro m hm; cases hm
        refine xd_end rfl rfl rfl rfl ?_
        refine xq_sub (.cons (i := 6) rfl (.cons (i := 5) rfl (.cons (i := 0) rfl (.cons (i := 1) rfl (.nil _))))) ?_
        refine xq_norm (xe_code ?_)
        refine x_seq ?_
        refine x_region ?_
        refine xl_pv (pv_assign rfl) rfl ?_
        refine xl_vnil 5 1 ?_
        refine xl_nil ?_
        refine xq_norm (xe_code ?_)
        refine x_seq ?_
        refine x_seq ?_
        refine x_region ?_
        refine xl_pv (pv_field_a rfl) rfl ?_
        refine xl_pv (pv_load1 rfl (.there .here) rfl) rfl ?_
        refine xl_pv (pv_len rfl) rfl ?_
        refine xl_pv (pv_move rfl) rfl ?_
        refine xl_nil ?_
        refine xq_norm (xe_code ?_)
        refine x_block ?_
        refine x_loopS (S := Nat × Value) (fun q => q.1 ≤ d.params.length) (fun q => d.params.length - q.1) (fun q => [(60, iv q.1), (7, .val q.2)]) (fun q => .vec q.2 5 1 (((d.params.take q.1).map fun p => p.ty.kind).map kv) :: .ref b6 53 d.av.cs :: .ref b5 73 (CStmt.mk s1 s2 s3 s4 s5 ⟨t1, t2, t3⟩ s7 s8 s9).av.cs :: .ref a 115 [a0, a1, iv k', a3, iv (funF P s5), a5, a6, a7] :: memS c P bo mn po fn vv vc vs sc) ((0, .slice none 0 0)) (Nat.zero_le _) (.cons rfl (.cons rfl (.cons (i := 59) rfl (.cons (i := 58) rfl (.cons (i := 6) rfl (.cons (i := 5) rfl (.cons (i := 0) rfl (.cons (i := 1) rfl (.nil _))))))))) (rfl) ?_
        rintro ⟨i2, vk⟩ hi2
        simp only [List.cons_append, List.nil_append]
        dsimp only at hi2
        refine x_seq ?_
        refine x_region ?_
        refine xl_pv (pv_bin rfl rfl rfl) rfl ?_
        refine xl_nil ?_
        refine xq_norm (xe_code ?_)
        refine x_seq ?_
        refine x_condT rfl (fun h3 => ?_) (fun h3 => ?_)
        · skip
          have hlt : i2 < d.params.length := by simpa using h3
          obtain ⟨z, hz⟩ := get_lt hlt
          refine x_skip ?_
          refine xq_norm (xe_code ?_)
          refine x_seq ?_
          refine x_block ?_
          refine x_seq ?_
          refine x_region ?_
          refine xl_pv (pv_at rfl rfl (by omega) ((get_map hz))) rfl ?_
          refine xl_pv (pv_loadN_i rfl rfl) rfl ?_
          refine xl_alloc rfl (fun b9 => ?_)
          refine xl_put .h rfl rfl (by first | rfl | (simp [AV.cs, oneB, *]; done) | (simp [AV.cs, oneB, *]; repeat' constructor)) rfl (.c (.c (.c (.c .z)))) ?_
          refine xl_nil ?_
          refine xq_norm (xe_code ?_)
          refine x_region ?_
          refine xl_pv (pv_move rfl) rfl ?_
          refine xl_pv (pv_field_a rfl) rfl ?_
          refine xl_pv (pv_field_a rfl) rfl ?_
          refine xl_pv (pv_load1 rfl .here rfl) rfl ?_
          refine xl_lit (.cons rfl .nil) rfl (by first | (simp [AV.cs]; done) | exact lits (by rfl) | (intro x hx; cases hx with | head => rfl | tail _ h => cases h)) (by rfl) (by decide) rfl ?_
          refine xl_grow (.t .h) rfl rfl (by rfl) (by simp; omega) rfl (fun vk_1 hvk_1 => ?_)
          refine xl_pv (pv_assign rfl) rfl ?_
          refine xl_nil ?_
          refine xq_bnorm ?_
          refine xq_norm (xe_code ?_)
          refine x_region ?_
          refine xl_pv (pv_add rfl rfl (by omega) (by omega)) rfl ?_
          refine xl_pv (pv_move rfl) rfl ?_
          refine xl_nil ?_
          refine xq_drop .here ?_
          refine xe_loopS ((i2 + 1, vk_1)) (by first | omega | (simp at *; omega)) (by first | omega | (simp at *; omega)) (.cons rfl (.cons rfl (.nil _))) (.n rfl (.o rfl (.n rfl (.o rfl (.o rfl (.o rfl (.o rfl (.o rfl (.o rfl (.o rfl (.o rfl (.o rfl (.o rfl (.o rfl (.n rfl (.n rfl .b)))))))))))))))) (by simp only []; rw [List.take_add_one, hz]; simp)
        · skip
          have hle : d.params.length ≤ i2 := by simpa using h3
          rw [List.take_of_length_le hle]
          refine x_exit ?_
          refine xq_exit ?_
          refine xq_exit ?_
          refine xq_hit ?_
          refine xq_norm (xe_code ?_)
          refine x_seq ?_
          refine x_region ?_
          refine xl_pv (pv_move rfl) rfl ?_
          refine xl_pv (pv_move rfl) rfl ?_
          refine xl_pv (pv_field_a rfl) rfl ?_
          refine xl_pv (pv_load1 rfl (.there (.there .here)) rfl) rfl ?_
          refine xl_pv (pv_move rfl) rfl ?_
          refine xl_pub 75 .here rfl ?_
          refine xl_go (AC_ok (hx _ c _ _ bo mn po (iv fn) vv vc) (by rw [hV]; rfl)) rfl (.cons rfl (Wk.refl _) (.cons rfl (Wk.of_eq (by rw [← CExp.avs_eq])) (.cons rfl (Wk.refl _) .nil))) (.k (.k (.k (.x (.x (.x .d)))))) rfl ?_
          rcases Decidable.em (k' < 0) with hk | hk
          · skip
            refine xl_pv (pv_nil rfl) rfl ?_
            refine xl_pv (pv_field_a rfl) rfl ?_
            refine xl_put (.t (.t .h)) rfl rfl (by first | rfl | (simp [AV.cs, oneB, *]; done) | (simp [AV.cs, oneB, *]; repeat' constructor)) rfl (.s (.s (.s (.s (.s (.c .z)))))) ?_
            refine xl_nil ?_
            refine xq_norm (xe_code ?_)
            refine x_draw rfl ?_
            refine xd_v 0 rfl rfl rfl (gv_v (pv_move rfl) rfl) ?_
            refine xd_v 1 rfl rfl rfl (gv_v (pv_nil rfl) rfl) ?_
            refine xd_v 2 rfl rfl rfl (gv_v (pv_field_a rfl) rfl) ?_
            refine xd_v 3 rfl rfl rfl (gv_v (pv_load1 rfl (.there (.there .here)) rfl) rfl) ?_
            refine xd_v 4 rfl rfl rfl (gv_v (pv_bin rfl rfl (v := .bool true) (by simp [intBin, hk])) rfl) ?_
            refine xd_v 5 rfl rfl rfl (gv_v (pv_move rfl) rfl) ?_
            refine xd_v 6 rfl rfl rfl (gv_skip rfl rfl rfl rfl) ?_
            refine xd_v 7 rfl rfl rfl (gv_skip rfl rfl rfl rfl) ?_
            refine xd_v 8 rfl rfl rfl (gv_skip rfl rfl rfl rfl) ?_
            refine xd_v 9 rfl rfl rfl (gv_skip rfl rfl rfl rfl) ?_
            refine xd_v 10 rfl rfl rfl (gv_skip rfl rfl rfl rfl) ?_
            refine xd_v 11 rfl rfl rfl (gv_skip rfl rfl rfl rfl) ?_
            refine xd_v 12 rfl rfl rfl (gv_skip rfl rfl rfl rfl) ?_
            refine xd_v 13 rfl rfl rfl (gv_skip rfl rfl rfl rfl) ?_
            refine xd_v 14 rfl rfl rfl (gv_skip rfl rfl rfl rfl) ?_
            refine xd_v 15 rfl rfl rfl (gv_skip rfl rfl rfl rfl) ?_
            refine xd_v 16 rfl rfl rfl (gv_skip rfl rfl rfl rfl) ?_
            refine xd_v 17 rfl rfl rfl (gv_skip rfl rfl rfl rfl) ?_
            refine xd_v 18 rfl rfl rfl (gv_skip rfl rfl rfl rfl) ?_
            refine xd_v 19 rfl rfl rfl (gv_skip rfl rfl rfl rfl) ?_
            refine xd_v 20 rfl rfl rfl (gv_skip rfl rfl rfl rfl) ?_
            refine xd_v 21 rfl rfl rfl (gv_skip rfl rfl rfl rfl) ?_
            refine xd_v 22 rfl rfl rfl (gv_v (pv_pick_t rfl rfl) rfl) ?_
            refine xd_e rfl 23 rfl rfl rfl (by rintro _ ⟨⟩ <;> exact Nat.le_of_ble_eq_true rfl) rfl (ev_go (fail_t 9) rfl (.cons rfl (Wk.refl _) (.cons rfl (Wk.refl _) .nil)) .d) ?_
            rintro _ _ ⟨rfl, rfl⟩
            refine ⟨?_, ?_⟩
            · skip
              intro m hm o' y ho hy
              have hm' : m ∈ [21, 20, 19, 18, 17, 16, 15, 14, 13, 12, 11, 10, 9, 8, 7, 6, 4, 3, 2, 1, 0] := hm
              clear hm
              rcases List.mem_cons.1 hm' with rfl | hm'
              · cases ho; cases hy
                exact gv_skip rfl rfl rfl rfl
              rcases List.mem_cons.1 hm' with rfl | hm'
              · cases ho; cases hy
                exact gv_skip rfl rfl rfl rfl
              rcases List.mem_cons.1 hm' with rfl | hm'
              · cases ho; cases hy
                exact gv_skip rfl rfl rfl rfl
              rcases List.mem_cons.1 hm' with rfl | hm'
              · cases ho; cases hy
                exact gv_skip rfl rfl rfl rfl
              rcases List.mem_cons.1 hm' with rfl | hm'
              · cases ho; cases hy
                exact gv_skip rfl rfl rfl rfl
              rcases List.mem_cons.1 hm' with rfl | hm'
              · cases ho; cases hy
                exact gv_skip rfl rfl rfl rfl
              rcases List.mem_cons.1 hm' with rfl | hm'
              · cases ho; cases hy
                exact gv_skip rfl rfl rfl rfl
              rcases List.mem_cons.1 hm' with rfl | hm'
              · cases ho; cases hy
                exact gv_skip rfl rfl rfl rfl
              rcases List.mem_cons.1 hm' with rfl | hm'
              · cases ho; cases hy
                exact gv_skip rfl rfl rfl rfl
              rcases List.mem_cons.1 hm' with rfl | hm'
              · cases ho; cases hy
                exact gv_skip rfl rfl rfl rfl
              rcases List.mem_cons.1 hm' with rfl | hm'
              · cases ho; cases hy
                exact gv_skip rfl rfl rfl rfl
              rcases List.mem_cons.1 hm' with rfl | hm'
              · cases ho; cases hy
                exact gv_skip rfl rfl rfl rfl
              rcases List.mem_cons.1 hm' with rfl | hm'
              · cases ho; cases hy
                exact gv_skip rfl rfl rfl rfl
              rcases List.mem_cons.1 hm' with rfl | hm'
              · cases ho; cases hy
                exact gv_skip rfl rfl rfl rfl
              rcases List.mem_cons.1 hm' with rfl | hm'
              · cases ho; cases hy
                exact gv_skip rfl rfl rfl rfl
              rcases List.mem_cons.1 hm' with rfl | hm'
              · cases ho; cases hy
                exact gv_skip rfl rfl rfl rfl
              rcases List.mem_cons.1 hm' with rfl | hm'
              · cases ho; cases hy
                exact gv_v (pv_bin rfl rfl (v := .bool true) (by simp [intBin, hk])) rfl
              rcases List.mem_cons.1 hm' with rfl | hm'
              · cases ho; cases hy
                exact gv_v (pv_load1 rfl (.there (.there .here)) rfl) rfl
              rcases List.mem_cons.1 hm' with rfl | hm'
              · cases ho; cases hy
                exact gv_v (pv_field_a rfl) rfl
              rcases List.mem_cons.1 hm' with rfl | hm'
              · cases ho; cases hy
                exact gv_v (pv_nil rfl) rfl
              rcases List.mem_cons.1 hm' with rfl | hm'
              · cases ho; cases hy
                exact gv_v (pv_move rfl) rfl
              cases hm'
            refine xd_end rfl rfl rfl rfl ?_
            refine xq_sub (.nil _) ?_
            refine xq_drop .here ?_
            refine xq_drop .here ?_
            refine xq_done (.inl rfl) _ (res0 rfl) ?_
            exact ⟨rfl, rfl⟩
          · skip
            have hk := Int.not_lt.1 hk
            rcases callTo_get hT with ⟨_, hk2⟩ | ⟨_, _, _, v, hv, _⟩
            · omega
            have hlt := (List.getElem?_eq_some_iff.1 hv).1
            have hvk : v.ty.kind = d.result.kind := hR.elim (fun h => absurd h (Int.not_lt.2 hk)) (fun h => by simpa [hv] using h)
            refine xl_slc (.there (.there (.there (.there .here)))) (fun hs => ?_)
            obtain ⟨gvv, cvv, rfl⟩ := hs.full (by simp; omega)
            refine xl_pv (pv_nil rfl) rfl ?_
            refine xl_pv (pv_field_a rfl) rfl ?_
            refine xl_put (.t (.t .h)) rfl rfl (by first | rfl | (simp [AV.cs, oneB, *]; done) | (simp [AV.cs, oneB, *]; repeat' constructor)) rfl (.s (.s (.s (.s (.s (.c .z)))))) ?_
            refine xl_nil ?_
            refine xq_norm (xe_code ?_)
            refine x_draw rfl ?_
            refine xd_v 0 rfl rfl rfl (gv_v (pv_move rfl) rfl) ?_
            refine xd_v 1 rfl rfl rfl (gv_v (pv_nil rfl) rfl) ?_
            refine xd_v 2 rfl rfl rfl (gv_v (pv_field_a rfl) rfl) ?_
            refine xd_v 3 rfl rfl rfl (gv_v (pv_load1 rfl (.there (.there .here)) rfl) rfl) ?_
            refine xd_v 4 rfl rfl rfl (gv_v (pv_bin rfl rfl (v := .bool false) (by simp [intBin]; omega)) rfl) ?_
            refine xd_v 5 rfl rfl rfl (gv_v (pv_move rfl) rfl) ?_
            refine xd_v 6 rfl rfl rfl (gv_take rfl rfl rfl (pv_move rfl) rfl) ?_
            refine xd_v 7 rfl rfl rfl (gv_take rfl rfl rfl (pv_nil rfl) rfl) ?_
            refine xd_v 8 rfl rfl rfl (gv_take rfl rfl rfl (pv_field_a rfl) rfl) ?_
            refine xd_v 9 rfl rfl rfl (gv_take rfl rfl rfl (pv_load1 rfl (.there (.there (.there .here))) rfl) rfl) ?_
            refine xd_v 10 rfl rfl rfl (gv_take rfl rfl rfl (pv_move rfl) rfl) ?_
            refine xd_v 11 rfl rfl rfl (gv_take rfl rfl rfl (pv_nil rfl) rfl) ?_
            refine xd_v 12 rfl rfl rfl (gv_take rfl rfl rfl (pv_field_a rfl) rfl) ?_
            refine xd_v 13 rfl rfl rfl (gv_take rfl rfl rfl (pv_load1 rfl (.there (.there .here)) rfl) rfl) ?_
            refine xd_v 14 rfl rfl rfl (gv_take rfl rfl rfl (pv_at_o rfl rfl (hk) (by first | omega | (simp; omega))) rfl) ?_
            refine xd_v 15 rfl rfl rfl (gv_take rfl rfl rfl (pv_field_a rfl) rfl) ?_
            refine xd_v 16 rfl rfl rfl (gv_take rfl rfl rfl (pv_field_a rfl) rfl) ?_
            refine xd_v 17 rfl rfl rfl (gv_take rfl rfl rfl (pv_load1_o (off := 1) (.there (.there (.there (.there .here)))) rfl (get_map hv) rfl) rfl) ?_
            refine xd_v 18 rfl rfl rfl (gv_take rfl rfl rfl (pv_field_a rfl) rfl) ?_
            refine xd_v 19 rfl rfl rfl (gv_take rfl rfl rfl (pv_field_a rfl) rfl) ?_
            refine xd_v 20 rfl rfl rfl (gv_take rfl rfl rfl (pv_load1 rfl .here rfl) rfl) ?_
            refine xd_v 21 rfl rfl rfl (gv_take rfl rfl rfl (pv_bin rfl rfl (v := .bool true) (by simp [intBin, hvk])) rfl) ?_
            refine xd_v 22 rfl rfl rfl (gv_v (pv_pick_f rfl rfl) rfl) ?_
            refine xd_e rfl 23 rfl rfl rfl (by rintro _ ⟨⟩ <;> exact Nat.le_of_ble_eq_true rfl) rfl (ev_go (fail_t 9) rfl (.cons rfl (Wk.refl _) (.cons rfl (Wk.refl _) .nil)) .d) ?_
            rintro _ _ ⟨rfl, rfl⟩
            refine ⟨?_, ?_⟩
            · skip
              intro m hm o' y ho hy
              have hm' : m ∈ [21, 20, 19, 18, 17, 16, 15, 14, 13, 12, 11, 10, 9, 8, 7, 6, 4, 3, 2, 1, 0] := hm
              clear hm
              rcases List.mem_cons.1 hm' with rfl | hm'
              · cases ho; cases hy
                exact gv_take rfl rfl rfl (pv_bin rfl rfl (v := .bool true) (by simp [intBin, hvk])) rfl
              rcases List.mem_cons.1 hm' with rfl | hm'
              · cases ho; cases hy
                exact gv_take rfl rfl rfl (pv_load1 rfl .here rfl) rfl
              rcases List.mem_cons.1 hm' with rfl | hm'
              · cases ho; cases hy
                exact gv_take rfl rfl rfl (pv_field_a rfl) rfl
              rcases List.mem_cons.1 hm' with rfl | hm'
              · cases ho; cases hy
                exact gv_take rfl rfl rfl (pv_field_a rfl) rfl
              rcases List.mem_cons.1 hm' with rfl | hm'
              · cases ho; cases hy
                exact gv_take rfl rfl rfl (pv_load1_o (off := 1) (.there (.there (.there (.there .here)))) rfl (get_map hv) rfl) rfl
              rcases List.mem_cons.1 hm' with rfl | hm'
              · cases ho; cases hy
                exact gv_take rfl rfl rfl (pv_field_a rfl) rfl
              rcases List.mem_cons.1 hm' with rfl | hm'
              · cases ho; cases hy
                exact gv_take rfl rfl rfl (pv_field_a rfl) rfl
              rcases List.mem_cons.1 hm' with rfl | hm'
              · cases ho; cases hy
                exact gv_take rfl rfl rfl (pv_at_o rfl rfl (hk) (by first | omega | (simp; omega))) rfl
              rcases List.mem_cons.1 hm' with rfl | hm'
              · cases ho; cases hy
                exact gv_take rfl rfl rfl (pv_load1 rfl (.there (.there .here)) rfl) rfl
              rcases List.mem_cons.1 hm' with rfl | hm'
              · cases ho; cases hy
                exact gv_take rfl rfl rfl (pv_field_a rfl) rfl
              rcases List.mem_cons.1 hm' with rfl | hm'
              · cases ho; cases hy
                exact gv_take rfl rfl rfl (pv_nil rfl) rfl
              rcases List.mem_cons.1 hm' with rfl | hm'
              · cases ho; cases hy
                exact gv_take rfl rfl rfl (pv_move rfl) rfl
              rcases List.mem_cons.1 hm' with rfl | hm'
              · cases ho; cases hy
                exact gv_take rfl rfl rfl (pv_load1 rfl (.there (.there (.there .here))) rfl) rfl
              rcases List.mem_cons.1 hm' with rfl | hm'
              · cases ho; cases hy
                exact gv_take rfl rfl rfl (pv_field_a rfl) rfl
              rcases List.mem_cons.1 hm' with rfl | hm'
              · cases ho; cases hy
                exact gv_take rfl rfl rfl (pv_nil rfl) rfl
              rcases List.mem_cons.1 hm' with rfl | hm'
              · cases ho; cases hy
                exact gv_take rfl rfl rfl (pv_move rfl) rfl
              rcases List.mem_cons.1 hm' with rfl | hm'
              · cases ho; cases hy
                exact gv_v (pv_bin rfl rfl (v := .bool false) (by simp [intBin]; omega)) rfl
              rcases List.mem_cons.1 hm' with rfl | hm'
              · cases ho; cases hy
                exact gv_v (pv_load1 rfl (.there (.there .here)) rfl) rfl
              rcases List.mem_cons.1 hm' with rfl | hm'
              · cases ho; cases hy
                exact gv_v (pv_field_a rfl) rfl
              rcases List.mem_cons.1 hm' with rfl | hm'
              · cases ho; cases hy
                exact gv_v (pv_nil rfl) rfl
              rcases List.mem_cons.1 hm' with rfl | hm'
              · cases ho; cases hy
                exact gv_v (pv_move rfl) rfl
              cases hm'
            refine xd_end rfl rfl rfl rfl ?_
            refine xq_sub (.nil _) ?_
            refine xq_drop .here ?_
            refine xq_drop .here ?_
            refine xq_done (.inl rfl) _ (res0 rfl) ?_
            exact ⟨rfl, rfl⟩
theorem callTo_err {vs : List CVar} {sc : List Int} {nm : ByteArray} {e : Int} (h : callTo vs sc nm = .error e) : nm ≠ ⟨#[]⟩ ∧ (findF vs sc nm = .error e ∨ ∃ k v, findF vs sc nm = .ok k ∧ 0 ≤ k ∧ vs[k.toNat]? = some v ∧ scB v.ty = false ∧ e = 9) := by
  unfold callTo at h
  split at h
  · cases h
  · rename_i h1
    refine ⟨h1, ?_⟩
    cases hN : findF vs sc nm with
    | error e' => rw [hN] at h; injection h with h; exact .inl (by rw [h])
    | ok k' =>
      obtain ⟨h0, v, hv⟩ := find_get hN
      rw [hN] at h
      simp only [hv] at h
      cases hS : scB v.ty with
      | true => simp [hS] at h
      | false =>
        simp [hS] at h
        exact .inr ⟨k', v, rfl, h0, hv, hS, h.symm⟩
theorem call_err (P : CProg) (vs : List CVar) (sc : List Int) (s : CStmt) (hvs : vs.length ≤ 2 ^ 40) (hsc : sc.length ≤ 2 ^ 40) (hfn : P.funcs.length ≤ 2 ^ 40) (hpa : ∀ d ∈ P.funcs, d.params.length ≤ 2 ^ 40) (hx : ValsC vs sc s.kids) (a c : Nat) (a0 a1 a3 a5 a6 a7 : AV) (bo mn po : AV) (fn : Int) (vv vc : Value) {e : Int} (hF : callF P vs sc s.name s.call (expsF vs sc s.kids) = .error e) :
    AC Try.prog 89 [ptr c, ptr a, s.av] (.ref a 115 [a0, a1, iv (-1), a3, iv (-1), a5, a6, a7] :: memS c P bo mn po fn vv vc vs sc) (DieE (.iface 134 (.int .i64 e)) (fun q => .ref a 115 q :: memS c P bo mn po fn vv vc vs sc)) := by
  obtain ⟨s1, s2, s3, s4, s5, s6, s7, s8, s9⟩ := s
  obtain ⟨t1, t2, t3⟩ := s6
  simp only [CStmt.name, CStmt.call, CStmt.kids] at *
  unfold callF at hF
  refine ac_intro Try.func89 rfl rfl fun I w => ?_
  simp only [argEnv, memE]
  rcases hT : callTo vs sc s3 with e' | k'
  · skip
    rw [hT] at hF
    injection hF with hF
    subst hF
    obtain ⟨hG, hE⟩ := callTo_err hT
    refine x_seq ?_
    refine x_region ?_
    refine xl_box rfl (by rfl) rfl (fun b5 => ?_)
    refine xl_nil ?_
    refine xq_norm (xe_code ?_)
    refine x_seq ?_
    refine x_seq ?_
    refine x_region ?_
    refine xl_pv (pv_field_a rfl) rfl ?_
    refine xl_pv (pv_load1 rfl .here rfl) rfl ?_
    refine xl_pv (pv_str_ne rfl rfl) rfl ?_
    refine xl_nil ?_
    refine xq_norm (xe_code ?_)
    refine x_condT rfl (fun h1 => ?_) (fun h1 => ?_)
    · skip
      rcases hE with hN | ⟨k, v, hN, hk0, hv, hS, he⟩
      · skip
        refine x_seq ?_
        refine x_region ?_
        refine xl_pv (pv_move rfl) rfl ?_
        refine xl_pv (pv_move rfl) rfl ?_
        refine xl_pv (pv_field_a rfl) rfl ?_
        refine xl_pv (pv_load1 rfl .here rfl) rfl ?_
        refine xl_dies (find_no c _ _ bo mn po (iv fn) vv vc vs sc s3 hvs hsc hN) rfl (.cons rfl (Wk.refl _) (.cons rfl (Wk.refl _) .nil)) (.k (.k (.x (.x (.x .d))))) rfl ?_
        refine xq_panic ?_
        refine xq_panic ?_
        refine xq_drop .here ?_
        refine xq_died ?_
        exact ⟨_, rfl, rfl⟩
      · skip
        refine x_seq ?_
        refine x_region ?_
        refine xl_pv (pv_move rfl) rfl ?_
        refine xl_pv (pv_move rfl) rfl ?_
        refine xl_pv (pv_field_a rfl) rfl ?_
        refine xl_pv (pv_load1 rfl .here rfl) rfl ?_
        refine xl_go (find_ok c _ _ bo mn po (iv fn) vv vc vs sc s3 hvs hsc hN) rfl (.cons rfl (Wk.refl _) (.cons rfl (Wk.refl _) .nil)) (.k (.k (.x (.x (.x .d))))) rfl ?_
        have hlt := (List.getElem?_eq_some_iff.1 hv).1
        refine xl_slc (.there (.there (.there .here))) (fun hs => ?_)
        obtain ⟨gvv, cvv, rfl⟩ := hs.full (by simp; omega)
        refine xl_pv (pv_nil rfl) rfl ?_
        refine xl_pv (pv_field_a rfl) rfl ?_
        refine xl_put (.t .h) rfl rfl (by first | rfl | (simp [AV.cs, oneB, *]; done) | (simp [AV.cs, oneB, *]; repeat' constructor)) rfl (.s (.s (.c .z))) ?_
        refine xl_nil ?_
        refine xq_norm (xe_code ?_)
        refine x_draw rfl ?_
        refine xd_v 0 rfl rfl rfl (gv_v (pv_move rfl) rfl) ?_
        refine xd_v 1 rfl rfl rfl (gv_v (pv_nil rfl) rfl) ?_
        refine xd_v 2 rfl rfl rfl (gv_v (pv_field_a rfl) rfl) ?_
        refine xd_v 3 rfl rfl rfl (gv_v (pv_load1 rfl (.there (.there .here)) rfl) rfl) ?_
        refine xd_v 4 rfl rfl rfl (gv_v (pv_move rfl) rfl) ?_
        refine xd_v 5 rfl rfl rfl (gv_v (pv_nil rfl) rfl) ?_
        refine xd_v 6 rfl rfl rfl (gv_v (pv_field_a rfl) rfl) ?_
        refine xd_v 7 rfl rfl rfl (gv_v (pv_load1 rfl (.there .here) rfl) rfl) ?_
        refine xd_v 8 rfl rfl rfl (gv_v (pv_at_o rfl rfl (hk0) (by first | omega | (simp; omega))) rfl) ?_
        refine xd_v 9 rfl rfl rfl (gv_v (pv_field_a rfl) rfl) ?_
        refine xd_v 10 rfl rfl rfl (gv_v (pv_loadN_o (off := 1) (.there (.there (.there .here))) rfl (get_map hv) rfl) rfl) ?_
        refine xd_e rfl 11 rfl rfl rfl (by rintro _ ⟨⟩ <;> exact Nat.le_of_ble_eq_true rfl) rfl (ev_go (scalar_c v.ty) rfl (.cons rfl (Wk.refl _) .nil) .d) ?_
        rintro _ _ ⟨rfl, rfl⟩
        refine ⟨?_, ?_⟩
        · skip
          intro m hm o' y ho hy
          have hm' : m ∈ [9, 8, 7, 6, 5, 4, 3, 2, 1, 0] := hm
          clear hm
          rcases List.mem_cons.1 hm' with rfl | hm'
          · cases ho; cases hy
            exact gv_v (pv_field_a rfl) rfl
          rcases List.mem_cons.1 hm' with rfl | hm'
          · cases ho; cases hy
            exact gv_v (pv_at_o rfl rfl (hk0) (by first | omega | (simp; omega))) rfl
          rcases List.mem_cons.1 hm' with rfl | hm'
          · cases ho; cases hy
            exact gv_v (pv_load1 rfl (.there .here) rfl) rfl
          rcases List.mem_cons.1 hm' with rfl | hm'
          · cases ho; cases hy
            exact gv_v (pv_field_a rfl) rfl
          rcases List.mem_cons.1 hm' with rfl | hm'
          · cases ho; cases hy
            exact gv_v (pv_nil rfl) rfl
          rcases List.mem_cons.1 hm' with rfl | hm'
          · cases ho; cases hy
            exact gv_v (pv_move rfl) rfl
          rcases List.mem_cons.1 hm' with rfl | hm'
          · cases ho; cases hy
            exact gv_v (pv_load1 rfl (.there (.there .here)) rfl) rfl
          rcases List.mem_cons.1 hm' with rfl | hm'
          · cases ho; cases hy
            exact gv_v (pv_field_a rfl) rfl
          rcases List.mem_cons.1 hm' with rfl | hm'
          · cases ho; cases hy
            exact gv_v (pv_nil rfl) rfl
          rcases List.mem_cons.1 hm' with rfl | hm'
          · cases ho; cases hy
            exact gv_v (pv_move rfl) rfl
          cases hm'
        refine xd_e rfl 12 rfl rfl rfl (by rintro _ ⟨⟩; exact Nat.le_of_ble_eq_true rfl) rfl (ev_dies (fail_f 9) rfl (.cons rfl (Wk.of_eq (by unfold scB at hS; rw [hS])) (.cons rfl (Wk.refl _) .nil)) .d ?_) (fun _ _ h => h.elim)
        refine xq_panic ?_
        refine xq_drop .here ?_
        refine xq_died ?_
        subst he; exact ⟨_, rfl, rfl⟩
    · skip
      simp [hG] at h1
  · skip
    rw [hT] at hF
    simp only at hF
    refine x_seq ?_
    refine x_region ?_
    refine xl_box rfl (by rfl) rfl (fun b5 => ?_)
    refine xl_nil ?_
    refine xq_norm (xe_code ?_)
    refine x_join [] (.ref b5 73 (CStmt.mk s1 s2 s3 s4 s5 ⟨t1, t2, t3⟩ s7 s8 s9).av.cs :: .ref a 115 [a0, a1, iv k', a3, iv (-1), a5, a6, a7] :: memS c P bo mn po fn vv vc vs sc) (.cons (i := 5) rfl (.cons (i := 0) rfl (.cons (i := 1) rfl (.nil _)))) ?_ ?_
    · skip
      rcases callTo_get hT with ⟨hG, rfl⟩ | ⟨hG, hN, hk0, v, hv, hS⟩
      · skip
        refine x_seq ?_
        refine x_region ?_
        refine xl_pv (pv_field_a rfl) rfl ?_
        refine xl_pv (pv_load1 rfl .here rfl) rfl ?_
        refine xl_pv (pv_str_ne rfl rfl) rfl ?_
        refine xl_nil ?_
        refine xq_norm (xe_code ?_)
        refine x_condT rfl (fun h1 => ?_) (fun h1 => ?_)
        · skip
          simp [hG] at h1
        · skip
          refine x_skip ?_
          refine xq_meetF (.cons rfl (.cons rfl (.cons rfl (.nil _)))) rfl
      · skip
        refine x_seq ?_
        refine x_region ?_
        refine xl_pv (pv_field_a rfl) rfl ?_
        refine xl_pv (pv_load1 rfl .here rfl) rfl ?_
        refine xl_pv (pv_str_ne rfl rfl) rfl ?_
        refine xl_nil ?_
        refine xq_norm (xe_code ?_)
        refine x_condT rfl (fun h1 => ?_) (fun h1 => ?_)
        · skip
          refine x_seq ?_
          refine x_region ?_
          refine xl_pv (pv_move rfl) rfl ?_
          refine xl_pv (pv_move rfl) rfl ?_
          refine xl_pv (pv_field_a rfl) rfl ?_
          refine xl_pv (pv_load1 rfl .here rfl) rfl ?_
          refine xl_go (find_ok c _ _ bo mn po (iv fn) vv vc vs sc s3 hvs hsc hN) rfl (.cons rfl (Wk.refl _) (.cons rfl (Wk.refl _) .nil)) (.k (.k (.x (.x (.x .d))))) rfl ?_
          have hlt := (List.getElem?_eq_some_iff.1 hv).1
          refine xl_slc (.there (.there (.there .here))) (fun hs => ?_)
          obtain ⟨gvv, cvv, rfl⟩ := hs.full (by simp; omega)
          refine xl_pv (pv_nil rfl) rfl ?_
          refine xl_pv (pv_field_a rfl) rfl ?_
          refine xl_put (.t .h) rfl rfl (by first | rfl | (simp [AV.cs, oneB, *]; done) | (simp [AV.cs, oneB, *]; repeat' constructor)) rfl (.s (.s (.c .z))) ?_
          refine xl_nil ?_
          refine xq_norm (xe_code ?_)
          refine x_draw rfl ?_
          refine xd_v 0 rfl rfl rfl (gv_v (pv_move rfl) rfl) ?_
          refine xd_v 1 rfl rfl rfl (gv_v (pv_nil rfl) rfl) ?_
          refine xd_v 2 rfl rfl rfl (gv_v (pv_field_a rfl) rfl) ?_
          refine xd_v 3 rfl rfl rfl (gv_v (pv_load1 rfl (.there (.there .here)) rfl) rfl) ?_
          refine xd_v 4 rfl rfl rfl (gv_v (pv_move rfl) rfl) ?_
          refine xd_v 5 rfl rfl rfl (gv_v (pv_nil rfl) rfl) ?_
          refine xd_v 6 rfl rfl rfl (gv_v (pv_field_a rfl) rfl) ?_
          refine xd_v 7 rfl rfl rfl (gv_v (pv_load1 rfl (.there .here) rfl) rfl) ?_
          refine xd_v 8 rfl rfl rfl (gv_v (pv_at_o rfl rfl (hk0) (by first | omega | (simp; omega))) rfl) ?_
          refine xd_v 9 rfl rfl rfl (gv_v (pv_field_a rfl) rfl) ?_
          refine xd_v 10 rfl rfl rfl (gv_v (pv_loadN_o (off := 1) (.there (.there (.there .here))) rfl (get_map hv) rfl) rfl) ?_
          refine xd_e rfl 11 rfl rfl rfl (by rintro _ ⟨⟩ <;> exact Nat.le_of_ble_eq_true rfl) rfl (ev_go (scalar_c v.ty) rfl (.cons rfl (Wk.refl _) .nil) .d) ?_
          rintro _ _ ⟨rfl, rfl⟩
          refine ⟨?_, ?_⟩
          · skip
            intro m hm o' y ho hy
            have hm' : m ∈ [9, 8, 7, 6, 5, 4, 3, 2, 1, 0] := hm
            clear hm
            rcases List.mem_cons.1 hm' with rfl | hm'
            · cases ho; cases hy
              exact gv_v (pv_field_a rfl) rfl
            rcases List.mem_cons.1 hm' with rfl | hm'
            · cases ho; cases hy
              exact gv_v (pv_at_o rfl rfl (hk0) (by first | omega | (simp; omega))) rfl
            rcases List.mem_cons.1 hm' with rfl | hm'
            · cases ho; cases hy
              exact gv_v (pv_load1 rfl (.there .here) rfl) rfl
            rcases List.mem_cons.1 hm' with rfl | hm'
            · cases ho; cases hy
              exact gv_v (pv_field_a rfl) rfl
            rcases List.mem_cons.1 hm' with rfl | hm'
            · cases ho; cases hy
              exact gv_v (pv_nil rfl) rfl
            rcases List.mem_cons.1 hm' with rfl | hm'
            · cases ho; cases hy
              exact gv_v (pv_move rfl) rfl
            rcases List.mem_cons.1 hm' with rfl | hm'
            · cases ho; cases hy
              exact gv_v (pv_load1 rfl (.there (.there .here)) rfl) rfl
            rcases List.mem_cons.1 hm' with rfl | hm'
            · cases ho; cases hy
              exact gv_v (pv_field_a rfl) rfl
            rcases List.mem_cons.1 hm' with rfl | hm'
            · cases ho; cases hy
              exact gv_v (pv_nil rfl) rfl
            rcases List.mem_cons.1 hm' with rfl | hm'
            · cases ho; cases hy
              exact gv_v (pv_move rfl) rfl
            cases hm'
          refine xd_e rfl 12 rfl rfl rfl (by rintro _ ⟨⟩ <;> exact Nat.le_of_ble_eq_true rfl) rfl (ev_go (fail_t 9) rfl (.cons rfl (Wk.of_eq (by unfold scB at hS; rw [hS])) (.cons rfl (Wk.refl _) .nil)) .d) ?_
          rintro _ _ ⟨rfl, rfl⟩
          refine ⟨?_, ?_⟩
          · skip
            intro m hm o' y ho hy
            have hm' : m ∈ [9, 8, 7, 6, 5, 4, 3, 2, 1, 0] := hm
            clear hm
            rcases List.mem_cons.1 hm' with rfl | hm'
            · cases ho; cases hy
              exact gv_v (pv_field_a rfl) rfl
            rcases List.mem_cons.1 hm' with rfl | hm'
            · cases ho; cases hy
              exact gv_v (pv_at_o rfl rfl (hk0) (by first | omega | (simp; omega))) rfl
            rcases List.mem_cons.1 hm' with rfl | hm'
            · cases ho; cases hy
              exact gv_v (pv_load1 rfl (.there .here) rfl) rfl
            rcases List.mem_cons.1 hm' with rfl | hm'
            · cases ho; cases hy
              exact gv_v (pv_field_a rfl) rfl
            rcases List.mem_cons.1 hm' with rfl | hm'
            · cases ho; cases hy
              exact gv_v (pv_nil rfl) rfl
            rcases List.mem_cons.1 hm' with rfl | hm'
            · cases ho; cases hy
              exact gv_v (pv_move rfl) rfl
            rcases List.mem_cons.1 hm' with rfl | hm'
            · cases ho; cases hy
              exact gv_v (pv_load1 rfl (.there (.there .here)) rfl) rfl
            rcases List.mem_cons.1 hm' with rfl | hm'
            · cases ho; cases hy
              exact gv_v (pv_field_a rfl) rfl
            rcases List.mem_cons.1 hm' with rfl | hm'
            · cases ho; cases hy
              exact gv_v (pv_nil rfl) rfl
            rcases List.mem_cons.1 hm' with rfl | hm'
            · cases ho; cases hy
              exact gv_v (pv_move rfl) rfl
            cases hm'
          refine xd_end rfl rfl rfl rfl ?_
          refine xq_sub (.cons (i := 5) rfl (.cons (i := 0) rfl (.cons (i := 1) rfl (.nil _)))) ?_
          refine xq_meetF (.cons rfl (.cons rfl (.cons rfl (.nil _)))) rfl
        · skip
          simp [hG] at h1
    simp only [List.cons_append, List.nil_append]
    refine x_seq ?_
    refine x_region ?_
    refine xl_pv (pv_move rfl) rfl ?_
    refine xl_pv (pv_move rfl) rfl ?_
    refine xl_pv (pv_field_a rfl) rfl ?_
    refine xl_pv (pv_load1 rfl .here rfl) rfl ?_
    refine xl_go (function_c P c bo mn po (iv fn) (.val vv) (.val vc) s5 hfn) rfl (.cons rfl (Wk.refl _) (.cons rfl (Wk.refl _) .nil)) (.k (.k (.x .d))) rfl ?_
    rcases Decidable.em (funF P s5 < 0) with hf0 | hf0
    · skip
      rw [if_pos hf0] at hF
      injection hF with hF
      refine xl_pv (pv_nil rfl) rfl ?_
      refine xl_pv (pv_field_a rfl) rfl ?_
      refine xl_put (.t .h) rfl rfl (by first | rfl | (simp [AV.cs, oneB, *]; done) | (simp [AV.cs, oneB, *]; repeat' constructor)) rfl (.s (.s (.s (.s (.c .z))))) ?_
      refine xl_nil ?_
      refine xq_norm (xe_code ?_)
      refine x_seq ?_
      refine x_region ?_
      refine xl_pv (pv_move rfl) rfl ?_
      refine xl_pv (pv_nil rfl) rfl ?_
      refine xl_pv (pv_field_a rfl) rfl ?_
      refine xl_pv (pv_load1 rfl (.there .here) rfl) rfl ?_
      refine xl_pv (pv_bin rfl rfl rfl) rfl ?_
      refine xl_dies (fail_f 8) rfl (.cons rfl (Wk.of_eq (by rw [decide_eq_false (Int.not_le.2 hf0)])) (.cons rfl (Wk.refl _) .nil)) .d rfl ?_
      refine xq_panic ?_
      refine xq_drop .here ?_
      refine xq_died ?_
      subst hF; exact ⟨_, rfl, rfl⟩
    · skip
      rw [if_neg hf0] at hF
      obtain ⟨i, d, hi, hd, _⟩ := idx_lt _ _ _ (Int.not_lt.1 hf0)
      have hd' : P.funcs[(funF P s5).toNat]? = some d := by rw [funF, hi]; simpa using hd
      rw [hd'] at hF
      simp only at hF
      have hpl := hpa d (List.mem_of_getElem? hd')
      refine xl_pv (pv_nil rfl) rfl ?_
      refine xl_pv (pv_field_a rfl) rfl ?_
      refine xl_put (.t .h) rfl rfl (by first | rfl | (simp [AV.cs, oneB, *]; done) | (simp [AV.cs, oneB, *]; repeat' constructor)) rfl (.s (.s (.s (.s (.c .z))))) ?_
      refine xl_nil ?_
      refine xq_norm (xe_code ?_)
      refine x_seq ?_
      refine x_region ?_
      refine xl_pv (pv_move rfl) rfl ?_
      refine xl_pv (pv_nil rfl) rfl ?_
      refine xl_pv (pv_field_a rfl) rfl ?_
      refine xl_pv (pv_load1 rfl (.there .here) rfl) rfl ?_
      refine xl_pv (pv_bin rfl rfl rfl) rfl ?_
      refine xl_go (fail_t 8) rfl (.cons rfl (Wk.of_eq (by rw [decide_eq_true (Int.not_lt.1 hf0)])) (.cons rfl (Wk.refl _) .nil)) .d rfl ?_
      refine xl_nil ?_
      refine xq_norm (xe_code ?_)
      refine x_seq ?_
      refine x_draw rfl ?_
      refine xd_v 0 rfl rfl rfl (gv_v (pv_move rfl) rfl) ?_
      refine xd_v 1 rfl rfl rfl (gv_v (pv_nil rfl) rfl) ?_
      refine xd_v 2 rfl rfl rfl (gv_v (pv_field_a rfl) rfl) ?_
      refine xd_v 3 rfl rfl rfl (gv_v (pv_field_a rfl) rfl) ?_
      refine xd_v 4 rfl rfl rfl (gv_v (pv_load1 rfl (.there (.there .here)) rfl) rfl) ?_
      refine xd_v 5 rfl rfl rfl (gv_v (pv_move rfl) rfl) ?_
      refine xd_v 6 rfl rfl rfl (gv_v (pv_nil rfl) rfl) ?_
      refine xd_v 7 rfl rfl rfl (gv_v (pv_field_a rfl) rfl) ?_
      refine xd_v 8 rfl rfl rfl (gv_v (pv_load1 rfl (.there .here) rfl) rfl) ?_
      refine xd_v 9 rfl rfl rfl (gv_v (pv_at rfl rfl (Int.not_lt.1 hf0) ((get_map hd'))) rfl) ?_
      refine xd_v 10 rfl rfl rfl (gv_v (pv_loadN_i rfl rfl) rfl) ?_
      refine xd_e rfl 11 rfl rfl rfl (by rintro _ ⟨⟩ <;> exact Nat.le_of_ble_eq_true rfl) rfl ev_alloc ?_
      rintro _ _ ⟨b6, rfl, rfl⟩
      refine ⟨?_, ?_⟩
      · skip
        intro m hm o' y ho hy
        have hm' : m ∈ [10, 9, 8, 7, 6, 5, 4, 3, 2, 1, 0] := hm
        clear hm
        rcases List.mem_cons.1 hm' with rfl | hm'
        · cases ho; cases hy
          exact gv_v (pv_loadN_i rfl rfl) rfl
        rcases List.mem_cons.1 hm' with rfl | hm'
        · cases ho; cases hy
          exact gv_v (pv_at rfl rfl (Int.not_lt.1 hf0) ((get_map hd'))) rfl
        rcases List.mem_cons.1 hm' with rfl | hm'
        · cases ho; cases hy
          exact gv_v (pv_load1 rfl (.there (.there .here)) rfl) rfl
        rcases List.mem_cons.1 hm' with rfl | hm'
        · cases ho; cases hy
          exact gv_v (pv_field_a rfl) rfl
        rcases List.mem_cons.1 hm' with rfl | hm'
        · cases ho; cases hy
          exact gv_v (pv_nil rfl) rfl
        rcases List.mem_cons.1 hm' with rfl | hm'
        · cases ho; cases hy
          exact gv_v (pv_move rfl) rfl
        rcases List.mem_cons.1 hm' with rfl | hm'
        · cases ho; cases hy
          exact gv_v (pv_load1 rfl (.there (.there (.there .here))) rfl) rfl
        rcases List.mem_cons.1 hm' with rfl | hm'
        · cases ho; cases hy
          exact gv_v (pv_field_a rfl) rfl
        rcases List.mem_cons.1 hm' with rfl | hm'
        · cases ho; cases hy
          exact gv_v (pv_field_a rfl) rfl
        rcases List.mem_cons.1 hm' with rfl | hm'
        · cases ho; cases hy
          exact gv_v (pv_nil rfl) rfl
        rcases List.mem_cons.1 hm' with rfl | hm'
        · cases ho; cases hy
          exact gv_v (pv_move rfl) rfl
        cases hm'
      refine xd_e rfl 12 rfl rfl rfl (by rintro _ ⟨⟩ <;> exact Nat.le_of_ble_eq_true rfl) rfl (ev_put .h rfl rfl (by first | rfl | (simp [AV.cs, oneB, *]; done) | (simp [AV.cs, oneB, *]; repeat' constructor)) rfl (.c (.c (.c (.c (.c (.c (.c .z)))))))) ?_
      rintro _ _ ⟨rfl, rfl⟩
      refine ⟨?_, ?_⟩
      · skip
        intro m hm; cases hm
      refine xd_end rfl rfl rfl rfl ?_
      refine xq_sub (.cons (i := 6) rfl (.cons (i := 5) rfl (.cons (i := 0) rfl (.cons (i := 1) rfl (.nil _))))) ?_
      refine xq_norm (xe_code ?_)
      refine x_seq ?_
      refine x_region ?_
      refine xl_pv (pv_assign rfl) rfl ?_
      refine xl_vnil 5 1 ?_
      refine xl_nil ?_
      refine xq_norm (xe_code ?_)
      refine x_seq ?_
      refine x_seq ?_
      refine x_region ?_
      refine xl_pv (pv_field_a rfl) rfl ?_
      refine xl_pv (pv_load1 rfl (.there .here) rfl) rfl ?_
      refine xl_pv (pv_len rfl) rfl ?_
      refine xl_pv (pv_move rfl) rfl ?_
      refine xl_nil ?_
      refine xq_norm (xe_code ?_)
      refine x_block ?_
      refine x_loopS (S := Nat × Value) (fun q => q.1 ≤ d.params.length) (fun q => d.params.length - q.1) (fun q => [(60, iv q.1), (7, .val q.2)]) (fun q => .vec q.2 5 1 (((d.params.take q.1).map fun p => p.ty.kind).map kv) :: .ref b6 53 d.av.cs :: .ref b5 73 (CStmt.mk s1 s2 s3 s4 s5 ⟨t1, t2, t3⟩ s7 s8 s9).av.cs :: .ref a 115 [a0, a1, iv k', a3, iv (funF P s5), a5, a6, a7] :: memS c P bo mn po fn vv vc vs sc) ((0, .slice none 0 0)) (Nat.zero_le _) (.cons rfl (.cons rfl (.cons (i := 59) rfl (.cons (i := 58) rfl (.cons (i := 6) rfl (.cons (i := 5) rfl (.cons (i := 0) rfl (.cons (i := 1) rfl (.nil _))))))))) (rfl) ?_
      rintro ⟨i2, vk⟩ hi2
      simp only [List.cons_append, List.nil_append]
      dsimp only at hi2
      refine x_seq ?_
      refine x_region ?_
      refine xl_pv (pv_bin rfl rfl rfl) rfl ?_
      refine xl_nil ?_
      refine xq_norm (xe_code ?_)
      refine x_seq ?_
      refine x_condT rfl (fun h3 => ?_) (fun h3 => ?_)
      · skip
        have hlt : i2 < d.params.length := by simpa using h3
        obtain ⟨z, hz⟩ := get_lt hlt
        refine x_skip ?_
        refine xq_norm (xe_code ?_)
        refine x_seq ?_
        refine x_block ?_
        refine x_seq ?_
        refine x_region ?_
        refine xl_pv (pv_at rfl rfl (by omega) ((get_map hz))) rfl ?_
        refine xl_pv (pv_loadN_i rfl rfl) rfl ?_
        refine xl_alloc rfl (fun b9 => ?_)
        refine xl_put .h rfl rfl (by first | rfl | (simp [AV.cs, oneB, *]; done) | (simp [AV.cs, oneB, *]; repeat' constructor)) rfl (.c (.c (.c (.c .z)))) ?_
        refine xl_nil ?_
        refine xq_norm (xe_code ?_)
        refine x_region ?_
        refine xl_pv (pv_move rfl) rfl ?_
        refine xl_pv (pv_field_a rfl) rfl ?_
        refine xl_pv (pv_field_a rfl) rfl ?_
        refine xl_pv (pv_load1 rfl .here rfl) rfl ?_
        refine xl_lit (.cons rfl .nil) rfl (by first | (simp [AV.cs]; done) | exact lits (by rfl) | (intro x hx; cases hx with | head => rfl | tail _ h => cases h)) (by rfl) (by decide) rfl ?_
        refine xl_grow (.t .h) rfl rfl (by rfl) (by simp; omega) rfl (fun vk_1 hvk_1 => ?_)
        refine xl_pv (pv_assign rfl) rfl ?_
        refine xl_nil ?_
        refine xq_bnorm ?_
        refine xq_norm (xe_code ?_)
        refine x_region ?_
        refine xl_pv (pv_add rfl rfl (by omega) (by omega)) rfl ?_
        refine xl_pv (pv_move rfl) rfl ?_
        refine xl_nil ?_
        refine xq_drop .here ?_
        refine xe_loopS ((i2 + 1, vk_1)) (by first | omega | (simp at *; omega)) (by first | omega | (simp at *; omega)) (.cons rfl (.cons rfl (.nil _))) (.n rfl (.o rfl (.n rfl (.o rfl (.o rfl (.o rfl (.o rfl (.o rfl (.o rfl (.o rfl (.o rfl (.o rfl (.o rfl (.o rfl (.n rfl (.n rfl .b)))))))))))))))) (by simp only []; rw [List.take_add_one, hz]; simp)
      · skip
        have hle : d.params.length ≤ i2 := by simpa using h3
        rw [List.take_of_length_le hle]
        refine x_exit ?_
        refine xq_exit ?_
        refine xq_exit ?_
        refine xq_hit ?_
        refine xq_norm (xe_code ?_)
        refine x_seq ?_
        refine x_region ?_
        refine xl_pv (pv_move rfl) rfl ?_
        refine xl_pv (pv_move rfl) rfl ?_
        refine xl_pv (pv_field_a rfl) rfl ?_
        refine xl_pv (pv_load1 rfl (.there (.there .here)) rfl) rfl ?_
        refine xl_pv (pv_move rfl) rfl ?_
        refine xl_pub 75 .here rfl ?_
        rcases hV : valsF (expsF vs sc s7) (d.params.map fun p => p.ty.kind) with e2 | l
        · skip
          rw [hV] at hF
          injection hF with hF
          refine xl_dies (AC_err (hx _ c _ _ bo mn po (iv fn) vv vc) (by rw [hV]; rfl)) rfl (.cons rfl (Wk.refl _) (.cons rfl (Wk.of_eq (by rw [← CExp.avs_eq])) (.cons rfl (Wk.refl _) .nil))) (.k (.k (.k (.x (.x (.x .d)))))) rfl ?_
          refine xq_panic ?_
          refine xq_drop .here ?_
          refine xq_drop .here ?_
          refine xq_died ?_
          subst hF; exact ⟨_, rfl, rfl⟩
        · skip
          rw [hV] at hF
          simp only at hF
          refine xl_go (AC_ok (hx _ c _ _ bo mn po (iv fn) vv vc) (by rw [hV]; rfl)) rfl (.cons rfl (Wk.refl _) (.cons rfl (Wk.of_eq (by rw [← CExp.avs_eq])) (.cons rfl (Wk.refl _) .nil))) (.k (.k (.k (.x (.x (.x .d)))))) rfl ?_
          rcases if_err hF with ⟨hR, he⟩ | ⟨_, hF⟩
          · skip
            have hk : ¬ k' < 0 := fun h => hR (.inl h)
            have hk := Int.not_lt.1 hk
            rcases callTo_get hT with ⟨_, hk2⟩ | ⟨_, _, _, v, hv, _⟩
            · omega
            have hlt := (List.getElem?_eq_some_iff.1 hv).1
            have hvk : ¬ v.ty.kind = d.result.kind := fun h => hR (.inr (by simp [hv, h]))
            refine xl_slc (.there (.there (.there (.there .here)))) (fun hs => ?_)
            obtain ⟨gvv, cvv, rfl⟩ := hs.full (by simp; omega)
            refine xl_pv (pv_nil rfl) rfl ?_
            refine xl_pv (pv_field_a rfl) rfl ?_
            refine xl_put (.t (.t .h)) rfl rfl (by first | rfl | (simp [AV.cs, oneB, *]; done) | (simp [AV.cs, oneB, *]; repeat' constructor)) rfl (.s (.s (.s (.s (.s (.c .z)))))) ?_
            refine xl_nil ?_
            refine xq_norm (xe_code ?_)
            refine x_draw rfl ?_
            refine xd_v 0 rfl rfl rfl (gv_v (pv_move rfl) rfl) ?_
            refine xd_v 1 rfl rfl rfl (gv_v (pv_nil rfl) rfl) ?_
            refine xd_v 2 rfl rfl rfl (gv_v (pv_field_a rfl) rfl) ?_
            refine xd_v 3 rfl rfl rfl (gv_v (pv_load1 rfl (.there (.there .here)) rfl) rfl) ?_
            refine xd_v 4 rfl rfl rfl (gv_v (pv_bin rfl rfl (v := .bool false) (by simp [intBin]; omega)) rfl) ?_
            refine xd_v 5 rfl rfl rfl (gv_v (pv_move rfl) rfl) ?_
            refine xd_v 6 rfl rfl rfl (gv_take rfl rfl rfl (pv_move rfl) rfl) ?_
            refine xd_v 7 rfl rfl rfl (gv_take rfl rfl rfl (pv_nil rfl) rfl) ?_
            refine xd_v 8 rfl rfl rfl (gv_take rfl rfl rfl (pv_field_a rfl) rfl) ?_
            refine xd_v 9 rfl rfl rfl (gv_take rfl rfl rfl (pv_load1 rfl (.there (.there (.there .here))) rfl) rfl) ?_
            refine xd_v 10 rfl rfl rfl (gv_take rfl rfl rfl (pv_move rfl) rfl) ?_
            refine xd_v 11 rfl rfl rfl (gv_take rfl rfl rfl (pv_nil rfl) rfl) ?_
            refine xd_v 12 rfl rfl rfl (gv_take rfl rfl rfl (pv_field_a rfl) rfl) ?_
            refine xd_v 13 rfl rfl rfl (gv_take rfl rfl rfl (pv_load1 rfl (.there (.there .here)) rfl) rfl) ?_
            refine xd_v 14 rfl rfl rfl (gv_take rfl rfl rfl (pv_at_o rfl rfl (hk) (by first | omega | (simp; omega))) rfl) ?_
            refine xd_v 15 rfl rfl rfl (gv_take rfl rfl rfl (pv_field_a rfl) rfl) ?_
            refine xd_v 16 rfl rfl rfl (gv_take rfl rfl rfl (pv_field_a rfl) rfl) ?_
            refine xd_v 17 rfl rfl rfl (gv_take rfl rfl rfl (pv_load1_o (off := 1) (.there (.there (.there (.there .here)))) rfl (get_map hv) rfl) rfl) ?_
            refine xd_v 18 rfl rfl rfl (gv_take rfl rfl rfl (pv_field_a rfl) rfl) ?_
            refine xd_v 19 rfl rfl rfl (gv_take rfl rfl rfl (pv_field_a rfl) rfl) ?_
            refine xd_v 20 rfl rfl rfl (gv_take rfl rfl rfl (pv_load1 rfl .here rfl) rfl) ?_
            refine xd_v 21 rfl rfl rfl (gv_take rfl rfl rfl (pv_bin rfl rfl (v := .bool false) (by simp [intBin, hvk])) rfl) ?_
            refine xd_v 22 rfl rfl rfl (gv_v (pv_pick_f rfl rfl) rfl) ?_
            refine xd_e rfl 23 rfl rfl rfl (by rintro _ ⟨⟩; exact Nat.le_of_ble_eq_true rfl) rfl (ev_dies (fail_f 9) rfl (.cons rfl (Wk.refl _) (.cons rfl (Wk.refl _) .nil)) .d ?_) (fun _ _ h => h.elim)
            refine xq_drop .here ?_
            refine xq_drop .here ?_
            refine xq_died ?_
            subst he; exact ⟨_, rfl, rfl⟩
          · skip
            cases hF
end Go.Proofs.Ytmallgapchjhnaa
