/- The checker's expressions, all of them. No condition: plain theorems. -/
import Derived.Test.YtmallgapchjhnaaK5
set_option linter.unusedVariables false
set_option linter.unusedSimpArgs false
namespace Go.Proofs.Ytmallgapchjhnaa
set_option maxRecDepth 100000
open Go Go.Ax
attribute [local irreducible] X XL XE XQ PV

theorem exp_of (vs : List CVar) (sc : List Int) (x : CExp) (hvs : vs.length ≤ 2 ^ 40) (hsc : sc.length ≤ 2 ^ 40) (hfl : ∀ v ∈ vs, v.fields.length ≤ 2 ^ 40) (hlen : x.kids.length ≤ 2 ^ 40) (hx : ∀ y ∈ x.kids, ExpC vs sc y) : ExpC vs sc x := by
  have hv : ValsC vs sc x.kids := vals_of vs sc x.kids hlen hx
  intro c ss fs bo mn po fi vv vc
  have hp := place_of vs sc x hvs hsc hfl hv c ss fs bo mn po fi vv vc
  have hu := unary_of vs sc x hv c ss fs bo mn po fi vv vc
  have hb := binary_of vs sc x hlen hx c ss fs bo mn po fi vv vc
  clear hv hx
  obtain ⟨x1, x2, x3, x4, x5, x6⟩ := x
  simp only [CExp.kind, CExp.op, CExp.kids, CExp.name, CExp.field] at *
  refine ac_intro Try.func98 rfl rfl fun I w => ?_
  simp only [argEnv, memE]
  refine x_seq ?_
  refine x_region ?_
  refine xl_box rfl (by rfl) rfl (fun b3 => ?_)
  refine xl_alloc rfl (fun b4 => ?_)
  refine xl_pv (pv_assign rfl) rfl ?_
  refine xl_nil ?_
  refine xq_norm (xe_code ?_)
  refine x_seq ?_
  refine x_seq ?_
  refine x_region ?_
  refine xl_pv (pv_field_a rfl) rfl ?_
  refine xl_pv (pv_load1 rfl (.there .here) rfl) rfl ?_
  refine xl_nil ?_
  refine xq_norm (xe_code ?_)
  refine x_block ?_
  refine x_seq ?_
  refine x_region ?_
  refine xl_pv (pv_bin rfl rfl rfl) rfl ?_
  refine xl_pv (pv_assign rfl) rfl ?_
  refine xl_nil ?_
  refine xq_norm (xe_code ?_)
  refine x_condT rfl (fun h1 => ?_) (fun h1 => ?_)
  · skip
    have e1 : x1 = 1 := of_decide_eq_true h1
    refine x_seq ?_
    refine x_region ?_
    refine xl_pv (pv_field_a rfl) rfl ?_
    refine xl_pv (pv_load1 rfl (.there .here) rfl) rfl ?_
    refine xl_pv (pv_build (by exact (.cons rfl rfl rfl (by first | rfl | (simp [AV.cs, oneB, *]; done) | (simp [AV.cs, oneB, *]; repeat' constructor)) (.c .z) (.cons rfl rfl rfl (by first | rfl | (simp [AV.cs, oneB, *]; done) | (simp [AV.cs, oneB, *]; repeat' constructor)) (.s (.s (.s (.c .z)))) .nil)))) rfl ?_
    refine xl_put .h rfl rfl (by first | rfl | (simp [AV.cs, oneB, *]; done) | (simp [AV.cs, oneB, *]; repeat' constructor)) rfl (.c (.c (.c (.c (.c .z))))) ?_
    refine xl_pv (pv_assign rfl) rfl ?_
    refine xl_nil ?_
    refine xq_norm (xe_code ?_)
    refine x_ret ?_
    refine xq_bret ?_
    refine xq_ret ?_
    refine xq_doneW (.inr rfl) (pairAV (.mk 1 0 0 x2 [], 1)) (resCT rfl (cr_N rfl .here rfl) rfl) (drop_one .here (drop_one .here drop_nil)) (by repeat (first | exact Wk.refl _ | exact Wk.nil _ | exact All2.nil | refine Wk.tuple ?_ | refine Wk.agg ?_ | refine All2.cons ?_ ?_)) ?_
    exact ⟨by rw [expF, if_pos e1]; rfl, rfl⟩
  · skip
    have e1 : ¬ x1 = 1 := of_decide_eq_false h1
    refine x_seq ?_
    refine x_region ?_
    refine xl_pv (pv_bin rfl rfl rfl) rfl ?_
    refine xl_pv (pv_assign rfl) rfl ?_
    refine xl_nil ?_
    refine xq_norm (xe_code ?_)
    refine x_condT rfl (fun h2 => ?_) (fun h2 => ?_)
    · skip
      have e2 : x1 = 2 := of_decide_eq_true h2
      refine x_seq ?_
      refine x_region ?_
      refine xl_pv (pv_build (by exact (.cons rfl rfl rfl (by first | rfl | (simp [AV.cs, oneB, *]; done) | (simp [AV.cs, oneB, *]; repeat' constructor)) (.c .z) .nil))) rfl ?_
      refine xl_alloc rfl (fun b6 => ?_)
      refine xl_put .h rfl rfl (by first | rfl | (simp [AV.cs, oneB, *]; done) | (simp [AV.cs, oneB, *]; repeat' constructor)) rfl (.c (.c (.c (.c (.c .z))))) ?_
      refine xl_nil ?_
      refine xq_norm (xe_code ?_)
      refine x_seq ?_
      refine x_seq ?_
      refine x_region ?_
      refine xl_pv (pv_field_a rfl) rfl ?_
      refine xl_pv (pv_load1 rfl (.there (.there .here)) rfl) rfl ?_
      refine xl_pv (pv_bin rfl rfl rfl) rfl ?_
      refine xl_nil ?_
      refine xq_norm (xe_code ?_)
      refine x_condT rfl (fun h3 => ?_) (fun h3 => ?_)
      · skip
        have e3 : ¬ x2 = 0 := by simpa using h3
        refine x_region ?_
        refine xl_pv (pv_field_a rfl) rfl ?_
        refine xl_put .h rfl rfl (by first | rfl | (simp [AV.cs, oneB, *]; done) | (simp [AV.cs, oneB, *]; repeat' constructor)) rfl (.s (.s (.s (.c .z)))) ?_
        refine xl_nil ?_
        refine xq_norm (xe_code ?_)
        refine x_seq ?_
        refine x_region ?_
        refine xl_pv (pv_loadN rfl .here rfl) rfl ?_
        refine xl_put (.t .h) rfl rfl (by first | rfl | (simp [AV.cs, oneB, *]; done) | (simp [AV.cs, oneB, *]; repeat' constructor)) rfl (.c (.c (.c (.c (.c .z))))) ?_
        refine xl_pv (pv_assign rfl) rfl ?_
        refine xl_nil ?_
        refine xq_norm (xe_code ?_)
        refine x_ret ?_
        refine xq_bret ?_
        refine xq_ret ?_
        refine xq_doneW (.inr rfl) (pairAV (.mk 1 0 0 1 [], 2)) (resCT rfl (cr_N rfl (.there .here) rfl) rfl) (drop_one .here (drop_one .here (drop_one .here drop_nil))) (by repeat (first | exact Wk.refl _ | exact Wk.nil _ | exact All2.nil | refine Wk.tuple ?_ | refine Wk.agg ?_ | refine All2.cons ?_ ?_)) ?_
        exact ⟨by rw [expF, if_neg e1, if_pos e2, if_neg e3]; rfl, rfl⟩
      · skip
        have e3 : x2 = 0 := by simpa using h3
        refine x_skip ?_
        refine xq_norm (xe_code ?_)
        refine x_seq ?_
        refine x_region ?_
        refine xl_pv (pv_loadN rfl .here rfl) rfl ?_
        refine xl_put (.t .h) rfl rfl (by first | rfl | (simp [AV.cs, oneB, *]; done) | (simp [AV.cs, oneB, *]; repeat' constructor)) rfl (.c (.c (.c (.c (.c .z))))) ?_
        refine xl_pv (pv_assign rfl) rfl ?_
        refine xl_nil ?_
        refine xq_norm (xe_code ?_)
        refine x_ret ?_
        refine xq_bret ?_
        refine xq_ret ?_
        refine xq_doneW (.inr rfl) (pairAV (.mk 1 0 0 0 [], 2)) (resCT rfl (cr_N rfl (.there .here) rfl) rfl) (drop_one .here (drop_one .here (drop_one .here drop_nil))) (by repeat (first | exact Wk.refl _ | exact Wk.nil _ | exact All2.nil | refine Wk.tuple ?_ | refine Wk.agg ?_ | refine All2.cons ?_ ?_)) ?_
        exact ⟨by rw [expF, if_neg e1, if_pos e2, if_pos e3]; rfl, rfl⟩
    · skip
      have e2 : ¬ x1 = 2 := of_decide_eq_false h2
      refine x_join0 [(22, bv (decide (x1 = 3) || decide (x1 = 4) || decide (x1 = 5)))] (.cons (i := 8) rfl (.cons (i := 5) rfl (.cons (i := 4) rfl (.cons (i := 3) rfl (.cons (i := 0) rfl (.nil _)))))) ?_ ?_
      · skip
        refine x_seq ?_
        refine x_region ?_
        refine xl_pv (pv_bin rfl rfl rfl) rfl ?_
        refine xl_pv (pv_assign rfl) rfl ?_
        refine xl_nil ?_
        refine xq_norm (xe_code ?_)
        refine x_condT rfl (fun h3 => ?_) (fun h3 => ?_)
        · skip
          refine x_skip ?_
          refine xq_meetF (.cons_wk (i := 22) rfl (Wk.of_eq (by simp at h3; simp [h3])) (.cons rfl (.cons rfl (.cons rfl (.cons rfl (.cons rfl (.nil _))))))) rfl
        · skip
          refine x_seq ?_
          refine x_region ?_
          refine xl_pv (pv_bin rfl rfl rfl) rfl ?_
          refine xl_pv (pv_assign rfl) rfl ?_
          refine xl_nil ?_
          refine xq_norm (xe_code ?_)
          refine x_condT rfl (fun h4 => ?_) (fun h4 => ?_)
          · skip
            refine x_skip ?_
            refine xq_meetF (.cons_wk (i := 22) rfl (Wk.of_eq (by simp at h3 h4; simp [h3, h4])) (.cons rfl (.cons rfl (.cons rfl (.cons rfl (.cons rfl (.nil _))))))) rfl
          · skip
            refine x_region ?_
            refine xl_pv (pv_bin rfl rfl rfl) rfl ?_
            refine xl_pv (pv_assign rfl) rfl ?_
            refine xl_nil ?_
            refine xq_meetF (.cons_wk (i := 22) rfl (Wk.of_eq (by simp at h3 h4; simp [h3, h4])) (.cons rfl (.cons rfl (.cons rfl (.cons rfl (.cons rfl (.nil _))))))) rfl
      simp only [List.cons_append, List.nil_append]
      refine x_condT rfl (fun h5 => ?_) (fun h5 => ?_)
      · skip
        have e5 : x1 = 3 ∨ x1 = 4 ∨ x1 = 5 := by simpa [or_assoc] using h5
        have eF : expF vs sc (.mk x1 x2 x3 x4 x5 x6) = placeF vs sc x1 x3 x4 (expsF vs sc x6) := by rw [expF, if_neg e1, if_neg e2, if_pos e5]
        rcases hP : placeF vs sc x1 x3 x4 (expsF vs sc x6) with e | ⟨⟨v1, v2, v3, v4, v5⟩, k⟩
        · skip
          refine x_seq ?_
          refine x_region ?_
          refine xl_pv (pv_move rfl) rfl ?_
          refine xl_pv (pv_loadN rfl (.there .here) rfl) rfl ?_
          refine xl_dies (AC_err hp (by rw [hP]; rfl)) rfl (.cons rfl (Wk.refl _) (.cons rfl (Wk.refl _) .nil)) (.k (.k (.x (.x (.x .d))))) rfl ?_
          refine xq_panic ?_
          refine xq_bpanic ?_
          refine xq_panic ?_
          refine xq_drop .here ?_
          refine xq_drop .here ?_
          refine xq_died ?_
          exact ⟨by rw [eF, hP]; rfl, rfl⟩
        · skip
          refine x_seq ?_
          refine x_region ?_
          refine xl_pv (pv_move rfl) rfl ?_
          refine xl_pv (pv_loadN rfl (.there .here) rfl) rfl ?_
          refine xl_go (AC_ok hp (by rw [hP]; rfl)) rfl (.cons rfl (Wk.refl _) (.cons rfl (Wk.refl _) .nil)) (.k (.k (.x (.x (.x .d))))) rfl ?_
          refine xl_pv (pv_extract rfl rfl) rfl ?_
          refine xl_pv (pv_extract rfl rfl) rfl ?_
          refine xl_put .h rfl rfl (by first | rfl | (simp [AV.cs, oneB, *]; done) | (simp [AV.cs, oneB, *]; repeat' constructor)) rfl (.c (.c (.c (.c (.c .z))))) ?_
          refine xl_pv (pv_assign rfl) rfl ?_
          refine xl_nil ?_
          refine xq_norm (xe_code ?_)
          refine x_ret ?_
          refine xq_bret ?_
          refine xq_ret ?_
          refine xq_done' (.inr rfl) _ (resCT rfl (cr_N rfl .here rfl) rfl) (drop_one .here (drop_one .here drop_nil)) ?_
          exact ⟨by rw [eF, hP]; rfl, rfl⟩
      · skip
        have e5 : ¬ (x1 = 3 ∨ x1 = 4 ∨ x1 = 5) := by simp at h5; omega
        refine x_seq ?_
        refine x_region ?_
        refine xl_pv (pv_bin rfl rfl rfl) rfl ?_
        refine xl_pv (pv_assign rfl) rfl ?_
        refine xl_nil ?_
        refine xq_norm (xe_code ?_)
        refine x_condT rfl (fun h6 => ?_) (fun h6 => ?_)
        · skip
          have e6 : x1 = 6 := of_decide_eq_true h6
          have eF : expF vs sc (.mk x1 x2 x3 x4 x5 x6) = unaryF x5 (expsF vs sc x6) := by rw [expF, if_neg e1, if_neg e2, if_neg e5, if_pos e6]
          rcases hP : unaryF x5 (expsF vs sc x6) with e | ⟨⟨v1, v2, v3, v4, v5⟩, k⟩
          · skip
            refine x_seq ?_
            refine x_region ?_
            refine xl_pv (pv_move rfl) rfl ?_
            refine xl_pv (pv_loadN rfl (.there .here) rfl) rfl ?_
            refine xl_dies (AC_err hu (by rw [hP]; rfl)) rfl (.cons rfl (Wk.refl _) (.cons rfl (Wk.refl _) .nil)) (.k (.k (.x (.x (.x .d))))) rfl ?_
            refine xq_panic ?_
            refine xq_bpanic ?_
            refine xq_panic ?_
            refine xq_drop .here ?_
            refine xq_drop .here ?_
            refine xq_died ?_
            exact ⟨by rw [eF, hP]; rfl, rfl⟩
          · skip
            refine x_seq ?_
            refine x_region ?_
            refine xl_pv (pv_move rfl) rfl ?_
            refine xl_pv (pv_loadN rfl (.there .here) rfl) rfl ?_
            refine xl_go (AC_ok hu (by rw [hP]; rfl)) rfl (.cons rfl (Wk.refl _) (.cons rfl (Wk.refl _) .nil)) (.k (.k (.x (.x (.x .d))))) rfl ?_
            refine xl_pv (pv_extract rfl rfl) rfl ?_
            refine xl_pv (pv_extract rfl rfl) rfl ?_
            refine xl_put .h rfl rfl (by first | rfl | (simp [AV.cs, oneB, *]; done) | (simp [AV.cs, oneB, *]; repeat' constructor)) rfl (.c (.c (.c (.c (.c .z))))) ?_
            refine xl_pv (pv_assign rfl) rfl ?_
            refine xl_nil ?_
            refine xq_norm (xe_code ?_)
            refine x_ret ?_
            refine xq_bret ?_
            refine xq_ret ?_
            refine xq_done' (.inr rfl) _ (resCT rfl (cr_N rfl .here rfl) rfl) (drop_one .here (drop_one .here drop_nil)) ?_
            exact ⟨by rw [eF, hP]; rfl, rfl⟩
        · skip
          have e6 : ¬ x1 = 6 := of_decide_eq_false h6
          have eF : expF vs sc (.mk x1 x2 x3 x4 x5 x6) = binaryF x1 x5 (expsF vs sc x6) := by rw [expF, if_neg e1, if_neg e2, if_neg e5, if_neg e6]
          rcases hP : binaryF x1 x5 (expsF vs sc x6) with e | ⟨⟨v1, v2, v3, v4, v5⟩, k⟩
          · skip
            refine x_skip ?_
            refine xq_bnorm ?_
            refine xq_norm (xe_code ?_)
            refine x_seq ?_
            refine x_region ?_
            refine xl_pv (pv_move rfl) rfl ?_
            refine xl_pv (pv_loadN rfl (.there .here) rfl) rfl ?_
            refine xl_dies (AC_err hb (by rw [hP]; rfl)) rfl (.cons rfl (Wk.refl _) (.cons rfl (Wk.refl _) .nil)) (.k (.k (.x (.x (.x .d))))) rfl ?_
            refine xq_panic ?_
            refine xq_drop .here ?_
            refine xq_drop .here ?_
            refine xq_died ?_
            exact ⟨by rw [eF, hP]; rfl, rfl⟩
          · skip
            refine x_skip ?_
            refine xq_bnorm ?_
            refine xq_norm (xe_code ?_)
            refine x_seq ?_
            refine x_region ?_
            refine xl_pv (pv_move rfl) rfl ?_
            refine xl_pv (pv_loadN rfl (.there .here) rfl) rfl ?_
            refine xl_go (AC_ok hb (by rw [hP]; rfl)) rfl (.cons rfl (Wk.refl _) (.cons rfl (Wk.refl _) .nil)) (.k (.k (.x (.x (.x .d))))) rfl ?_
            refine xl_pv (pv_extract rfl rfl) rfl ?_
            refine xl_pv (pv_extract rfl rfl) rfl ?_
            refine xl_put .h rfl rfl (by first | rfl | (simp [AV.cs, oneB, *]; done) | (simp [AV.cs, oneB, *]; repeat' constructor)) rfl (.c (.c (.c (.c (.c .z))))) ?_
            refine xl_pv (pv_assign rfl) rfl ?_
            refine xl_nil ?_
            refine xq_norm (xe_code ?_)
            refine x_ret ?_
            refine xq_done' (.inr rfl) _ (resCT rfl (cr_N rfl .here rfl) rfl) (drop_one .here (drop_one .here drop_nil)) ?_
            exact ⟨by rw [eF, hP]; rfl, rfl⟩

theorem exp_n (vs : List CVar) (sc : List Int) (hvs : vs.length ≤ 2 ^ 40) (hsc : sc.length ≤ 2 ^ 40) (hfl : ∀ v ∈ vs, v.fields.length ≤ 2 ^ 40) : ∀ (n : Nat) (x : CExp), x.sz ≤ n → n ≤ 2 ^ 40 → ExpC vs sc x
  | 0, x, h, _ => by rw [CExp.sz_eq] at h; omega
  | n + 1, x, h, hn => by
    rw [CExp.sz_eq] at h
    have hl := CExp.szs_len x.kids
    refine exp_of vs sc x hvs hsc hfl (by omega) (fun y hy => ?_)
    have := CExp.szs_mem hy
    exact exp_n vs sc hvs hsc hfl n y (by omega) (by omega)
theorem vals_c (vs : List CVar) (sc : List Int) (l : List CExp) (hvs : vs.length ≤ 2 ^ 40) (hsc : sc.length ≤ 2 ^ 40) (hfl : ∀ v ∈ vs, v.fields.length ≤ 2 ^ 40) (hl : CExp.szs l ≤ 2 ^ 40) : ValsC vs sc l := by
  have := CExp.szs_len l
  exact vals_of vs sc l (by omega) (fun x hx => exp_n vs sc hvs hsc hfl _ x (CExp.szs_mem hx) hl)
end Go.Proofs.Ytmallgapchjhnaa
