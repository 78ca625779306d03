/- The checker's expressions: its methods say what the plain functions say. No condition: plain theorems. -/
import Derived.Test.YtmallgapchjhnaaK4
set_option linter.unusedVariables false
set_option linter.unusedSimpArgs false
namespace Go.Proofs.Ytmallgapchjhnaa
set_option maxRecDepth 100000
open Go Go.Ax
attribute [local irreducible] X XL XE XQ PV

theorem unary_of (vs : List CVar) (sc : List Int) (x : CExp) (hx : ValsC vs sc x.kids) (c : Nat) (ss fs bo mn po fi : AV) (vv vc : Value) :
    AC Try.prog 104 [ptr c, x.av] (memE c ss fs bo mn po fi vv vc vs sc) (OutF ((unaryF x.op (expsF vs sc x.kids)).map pairAV) (memE c ss fs bo mn po fi vv vc vs sc)) := by
  obtain ⟨x1, x2, x3, x4, x5, x6⟩ := x
  simp only [CExp.op, CExp.kids] at *
  refine ac_intro Try.func104 rfl rfl fun I w => ?_
  simp only [argEnv, memE]
  refine x_seq ?_
  refine x_region ?_
  refine xl_box rfl (by rfl) rfl (fun b3 => ?_)
  refine xl_alloc rfl (fun b4 => ?_)
  refine xl_pv (pv_assign rfl) rfl ?_
  refine xl_nil ?_
  refine xq_norm (xe_code ?_)
  refine x_seq ?_
  refine x_region ?_
  refine xl_pv (pv_assign rfl) rfl ?_
  refine xl_pv (pv_assign rfl) rfl ?_
  refine xl_nil ?_
  refine xq_norm (xe_code ?_)
  refine x_seq ?_
  refine x_seq ?_
  refine x_region ?_
  refine xl_pv (pv_field_a rfl) rfl ?_
  refine xl_pv (pv_load1 rfl (.there .here) rfl) rfl ?_
  refine xl_pv (pv_str_eq rfl rfl) rfl ?_
  refine xl_nil ?_
  refine xq_norm (xe_code ?_)
  refine x_condT rfl (fun h1 => ?_) (fun h1 => ?_)
  · skip
    have e1 : x5 = bang := of_decide_eq_true h1
    have e2 : (if x5 = bang then (2 : Int) else 1) = 2 := if_pos e1
    rcases hV : valsF (expsF vs sc x6) [2] with e | l
    · skip
      refine x_region ?_
      refine xl_pv (pv_assign rfl) rfl ?_
      refine xl_pv (pv_assign rfl) rfl ?_
      refine xl_nil ?_
      refine xq_norm (xe_code ?_)
      refine x_seq ?_
      refine x_region ?_
      refine xl_pv (pv_move rfl) rfl ?_
      refine xl_pv (pv_move rfl) rfl ?_
      refine xl_pv (pv_field_a rfl) rfl ?_
      refine xl_pv (pv_load1 rfl (.there .here) rfl) rfl ?_
      refine xl_pv (pv_move rfl) rfl ?_
      refine xl_lit (.cons rfl .nil) rfl (by first | (simp [AV.cs]; done) | exact lits (by rfl) | (intro x hx; cases hx with | head => rfl | tail _ h => cases h)) (by rfl) (by decide) rfl ?_
      refine xl_dies (AC_err (hx [2] c ss fs bo mn po fi vv vc) (by rw [hV]; rfl)) rfl (.cons rfl (Wk.refl _) (.cons rfl (Wk.of_eq (by rw [← CExp.avs_eq])) (.cons rfl (Wk.refl _) .nil))) (.k (.k (.x (.x (.x .d))))) rfl ?_
      refine xq_panic ?_
      refine xq_drop .here ?_
      refine xq_drop .here ?_
      refine xq_died ?_
      exact ⟨by rw [unaryF, e2, hV]; rfl, rfl⟩
    · skip
      refine x_region ?_
      refine xl_pv (pv_assign rfl) rfl ?_
      refine xl_pv (pv_assign rfl) rfl ?_
      refine xl_nil ?_
      refine xq_norm (xe_code ?_)
      refine x_seq ?_
      refine x_region ?_
      refine xl_pv (pv_move rfl) rfl ?_
      refine xl_pv (pv_move rfl) rfl ?_
      refine xl_pv (pv_field_a rfl) rfl ?_
      refine xl_pv (pv_load1 rfl (.there .here) rfl) rfl ?_
      refine xl_pv (pv_move rfl) rfl ?_
      refine xl_lit (.cons rfl .nil) rfl (by first | (simp [AV.cs]; done) | exact lits (by rfl) | (intro x hx; cases hx with | head => rfl | tail _ h => cases h)) (by rfl) (by decide) rfl ?_
      refine xl_go (AC_ok (hx [2] c ss fs bo mn po fi vv vc) (by rw [hV]; rfl)) rfl (.cons rfl (Wk.refl _) (.cons rfl (Wk.of_eq (by rw [← CExp.avs_eq])) (.cons rfl (Wk.refl _) .nil))) (.k (.k (.x (.x (.x .d))))) rfl ?_
      refine xl_pv (pv_build (by exact (.cons rfl rfl rfl (by first | rfl | (simp [AV.cs, oneB, *]; done) | (simp [AV.cs, oneB, *]; repeat' constructor)) (.c .z) (.cons rfl rfl rfl (by first | rfl | (simp [AV.cs, oneB, *]; done) | (simp [AV.cs, oneB, *]; repeat' constructor)) (.s (.c .z)) (.cons rfl rfl rfl (by first | rfl | (simp [AV.cs, oneB, *]; done) | (simp [AV.cs, oneB, *]; repeat' constructor)) (.s (.s (.s (.s (.c .z))))) .nil))))) rfl ?_
      refine xl_alloc rfl (fun b8 => ?_)
      refine xl_put .h rfl rfl (by first | rfl | (simp [AV.cs, oneB, *]; done) | (simp [AV.cs, oneB, *]; repeat' constructor)) rfl (.c (.c (.c (.c (.c .z))))) ?_
      refine xl_nil ?_
      refine xq_norm (xe_code ?_)
      refine x_seq ?_
      refine x_region ?_
      refine xl_pv (pv_field_a rfl) rfl ?_
      refine xl_pv (pv_load1 rfl (.there (.there .here)) rfl) rfl ?_
      refine xl_pv (pv_str_eq rfl rfl) rfl ?_
      refine xl_pv (pv_move rfl) rfl ?_
      refine xl_guard rfl rfl (fun h2 => ?_) (fun h2 => ?_)
      · skip
        simp [e1, bang] at h2
      · skip
        refine xl_skip rfl rfl rfl rfl ?_
        refine xl_skip rfl rfl rfl rfl ?_
        refine xl_skip rfl rfl rfl rfl ?_
        refine xl_pv (pv_pick_t rfl rfl) rfl ?_
        refine xl_go (fail_t 9) rfl (.cons rfl (Wk.refl _) (.cons rfl (Wk.refl _) .nil)) .d rfl ?_
        refine xl_nil ?_
        refine xq_norm (xe_code ?_)
        refine x_seq ?_
        refine x_region ?_
        refine xl_pv (pv_loadN rfl .here rfl) rfl ?_
        refine xl_pv (pv_move rfl) rfl ?_
        refine xl_put (.t .h) rfl rfl (by first | rfl | (simp [AV.cs, oneB, *]; done) | (simp [AV.cs, oneB, *]; repeat' constructor)) rfl (.c (.c (.c (.c (.c .z))))) ?_
        refine xl_pv (pv_assign rfl) rfl ?_
        refine xl_nil ?_
        refine xq_norm (xe_code ?_)
        refine x_ret ?_
        refine xq_doneW (.inr rfl) (pairAV (.mk 5 14 0 0 l, 2)) (resCT rfl (cr_N rfl (.there .here) rfl) rfl) (drop_one .here (drop_one .here (drop_one .here drop_nil))) (Wk.of_eq (by simp [pairAV, CVal.av, CVal.avs_eq, listAV])) ?_
        exact ⟨by rw [unaryF, e2, hV]; simp only [if_pos e1]; rfl, rfl⟩
  · skip
    have e1 : ¬ x5 = bang := of_decide_eq_false h1
    have e2 : (if x5 = bang then (2 : Int) else 1) = 1 := if_neg e1
    rcases hV : valsF (expsF vs sc x6) [1] with e | l
    · skip
      refine x_skip ?_
      refine xq_norm (xe_code ?_)
      refine x_seq ?_
      refine x_region ?_
      refine xl_pv (pv_move rfl) rfl ?_
      refine xl_pv (pv_move rfl) rfl ?_
      refine xl_pv (pv_field_a rfl) rfl ?_
      refine xl_pv (pv_load1 rfl (.there .here) rfl) rfl ?_
      refine xl_pv (pv_move rfl) rfl ?_
      refine xl_lit (.cons rfl .nil) rfl (by first | (simp [AV.cs]; done) | exact lits (by rfl) | (intro x hx; cases hx with | head => rfl | tail _ h => cases h)) (by rfl) (by decide) rfl ?_
      refine xl_dies (AC_err (hx [1] c ss fs bo mn po fi vv vc) (by rw [hV]; rfl)) rfl (.cons rfl (Wk.refl _) (.cons rfl (Wk.of_eq (by rw [← CExp.avs_eq])) (.cons rfl (Wk.refl _) .nil))) (.k (.k (.x (.x (.x .d))))) rfl ?_
      refine xq_panic ?_
      refine xq_drop .here ?_
      refine xq_drop .here ?_
      refine xq_died ?_
      exact ⟨by rw [unaryF, e2, hV]; rfl, rfl⟩
    · skip
      refine x_skip ?_
      refine xq_norm (xe_code ?_)
      refine x_seq ?_
      refine x_region ?_
      refine xl_pv (pv_move rfl) rfl ?_
      refine xl_pv (pv_move rfl) rfl ?_
      refine xl_pv (pv_field_a rfl) rfl ?_
      refine xl_pv (pv_load1 rfl (.there .here) rfl) rfl ?_
      refine xl_pv (pv_move rfl) rfl ?_
      refine xl_lit (.cons rfl .nil) rfl (by first | (simp [AV.cs]; done) | exact lits (by rfl) | (intro x hx; cases hx with | head => rfl | tail _ h => cases h)) (by rfl) (by decide) rfl ?_
      refine xl_go (AC_ok (hx [1] c ss fs bo mn po fi vv vc) (by rw [hV]; rfl)) rfl (.cons rfl (Wk.refl _) (.cons rfl (Wk.of_eq (by rw [← CExp.avs_eq])) (.cons rfl (Wk.refl _) .nil))) (.k (.k (.x (.x (.x .d))))) rfl ?_
      refine xl_pv (pv_build (by exact (.cons rfl rfl rfl (by first | rfl | (simp [AV.cs, oneB, *]; done) | (simp [AV.cs, oneB, *]; repeat' constructor)) (.c .z) (.cons rfl rfl rfl (by first | rfl | (simp [AV.cs, oneB, *]; done) | (simp [AV.cs, oneB, *]; repeat' constructor)) (.s (.c .z)) (.cons rfl rfl rfl (by first | rfl | (simp [AV.cs, oneB, *]; done) | (simp [AV.cs, oneB, *]; repeat' constructor)) (.s (.s (.s (.s (.c .z))))) .nil))))) rfl ?_
      refine xl_alloc rfl (fun b8 => ?_)
      refine xl_put .h rfl rfl (by first | rfl | (simp [AV.cs, oneB, *]; done) | (simp [AV.cs, oneB, *]; repeat' constructor)) rfl (.c (.c (.c (.c (.c .z))))) ?_
      refine xl_nil ?_
      refine xq_norm (xe_code ?_)
      refine x_seq ?_
      refine x_region ?_
      refine xl_pv (pv_field_a rfl) rfl ?_
      refine xl_pv (pv_load1 rfl (.there (.there .here)) rfl) rfl ?_
      refine xl_pv (pv_str_eq rfl rfl) rfl ?_
      refine xl_pv (pv_move rfl) rfl ?_
      refine xl_guard rfl rfl (fun h2 => ?_) (fun h2 => ?_)
      · skip
        rcases h3 : decide (x5 = dash) with _ | _
        · skip
          have e3 : ¬ x5 = dash := by simpa using h3
          refine xl_take rfl rfl rfl ?_
          refine xl_pv (pv_field_a rfl) rfl ?_
          refine xl_take rfl rfl rfl ?_
          refine xl_pv (pv_load1 rfl (.there (.there .here)) rfl) rfl ?_
          refine xl_take rfl rfl rfl ?_
          refine xl_pv (pv_str_eq rfl rfl) rfl ?_
          refine xl_pv (pv_pick_f rfl rfl) rfl ?_
          refine xl_dies (fail_f 9) rfl (.cons rfl (Wk.of_eq (by unfold dash at h3; rw [h3])) (.cons rfl (Wk.refl _) .nil)) .d rfl ?_
          refine xq_panic ?_
          refine xq_drop .here ?_
          refine xq_drop .here ?_
          refine xq_drop .here ?_
          refine xq_died ?_
          exact ⟨by rw [unaryF, e2, hV]; simp only [if_neg e1, if_neg e3]; rfl, rfl⟩
        · skip
          have e3 : x5 = dash := by simpa using h3
          refine xl_take rfl rfl rfl ?_
          refine xl_pv (pv_field_a rfl) rfl ?_
          refine xl_take rfl rfl rfl ?_
          refine xl_pv (pv_load1 rfl (.there (.there .here)) rfl) rfl ?_
          refine xl_take rfl rfl rfl ?_
          refine xl_pv (pv_str_eq rfl rfl) rfl ?_
          refine xl_pv (pv_pick_f rfl rfl) rfl ?_
          refine xl_go (fail_t 9) rfl (.cons rfl (Wk.of_eq (by unfold dash at h3; rw [h3])) (.cons rfl (Wk.refl _) .nil)) .d rfl ?_
          refine xl_nil ?_
          refine xq_norm (xe_code ?_)
          refine x_seq ?_
          refine x_region ?_
          refine xl_pv (pv_loadN rfl .here rfl) rfl ?_
          refine xl_pv (pv_move rfl) rfl ?_
          refine xl_put (.t .h) rfl rfl (by first | rfl | (simp [AV.cs, oneB, *]; done) | (simp [AV.cs, oneB, *]; repeat' constructor)) rfl (.c (.c (.c (.c (.c .z))))) ?_
          refine xl_pv (pv_assign rfl) rfl ?_
          refine xl_nil ?_
          refine xq_norm (xe_code ?_)
          refine x_ret ?_
          refine xq_doneW (.inr rfl) (pairAV (.mk 5 15 0 0 l, 1)) (resCT rfl (cr_N rfl (.there .here) rfl) rfl) (drop_one .here (drop_one .here (drop_one .here drop_nil))) (Wk.of_eq (by simp [pairAV, CVal.av, CVal.avs_eq, listAV])) ?_
          exact ⟨by rw [unaryF, e2, hV]; simp only [if_neg e1, if_pos e3]; rfl, rfl⟩
      · skip
        exact absurd (of_decide_eq_true h2) e1

theorem binary_of (vs : List CVar) (sc : List Int) (x : CExp) (hlen : x.kids.length ≤ 2 ^ 40) (hx : ∀ y ∈ x.kids, ExpC vs sc y) (c : Nat) (ss fs bo mn po fi : AV) (vv vc : Value) :
    AC Try.prog 105 [ptr c, x.av] (memE c ss fs bo mn po fi vv vc vs sc) (OutF ((binaryF x.kind x.op (expsF vs sc x.kids)).map pairAV) (memE c ss fs bo mn po fi vv vc vs sc)) := by
  obtain ⟨x1, x2, x3, x4, x5, xk⟩ := x
  simp only [CExp.kind, CExp.op, CExp.kids] at *
  refine ac_intro Try.func105 rfl rfl fun I w => ?_
  simp only [argEnv, memE]
  refine x_seq ?_
  refine x_region ?_
  refine xl_box rfl (by rfl) rfl (fun b3 => ?_)
  refine xl_alloc rfl (fun b4 => ?_)
  refine xl_pv (pv_assign rfl) rfl ?_
  refine xl_nil ?_
  refine xq_norm (xe_code ?_)
  refine x_seq ?_
  refine x_region ?_
  refine xl_pv (pv_assign rfl) rfl ?_
  refine xl_vnil 140 5 ?_
  refine xl_nil ?_
  refine xq_norm (xe_code ?_)
  refine x_seq ?_
  refine x_region ?_
  refine xl_pv (pv_assign rfl) rfl ?_
  refine xl_vnil 5 1 ?_
  refine xl_nil ?_
  refine xq_norm (xe_code ?_)
  refine x_seq ?_
  refine x_seq ?_
  refine x_region ?_
  refine xl_pv (pv_field_a rfl) rfl ?_
  refine xl_pv (pv_load1 rfl (.there (.there (.there .here))) rfl) rfl ?_
  refine xl_sub (.cons_wk (i := 16) (x := .list 6 (xk.map CExp.av)) rfl (Wk.of_eq (by rw [← CExp.avs_eq])) (Sub.refl _)) ?_
  refine xl_pv (pv_len rfl) rfl ?_
  refine xl_pv (pv_move rfl) rfl ?_
  refine xl_nil ?_
  refine xq_norm (xe_code ?_)
  refine x_block ?_
  refine x_loopS (S := Nat × Value × Value × List CVal × List Int) (fun q => q.1 ≤ xk.length ∧ expsF vs sc xk = addR q.2.2.2.1 q.2.2.2.2 (expsF vs sc (xk.drop q.1)) ∧ q.2.2.2.1.length = q.1 ∧ q.2.2.2.2.length = q.1) (fun q => xk.length - q.1) (fun q => [(18, iv q.1), (6, .val q.2.1), (7, .val q.2.2.1)]) (fun q => [.vec q.2.2.1 5 1 (q.2.2.2.2.map kv), .vec q.2.1 140 5 (q.2.2.2.1.map CVal.av), .ref b4 140 ([Value.int .u8 0, .int .u8 0, .int .i64 0, .int .i64 0, .slice none 0 0].map .val), .ref b3 71 (CExp.mk x1 x2 x3 x4 x5 xk).av.cs, .ref c 110 [ss, fs, bo, mn, po, fi, .val vv, .val vc], .vec vv 82 6 (vs.map CVar.av), .vec vc 3 1 (sc.map iv)]) ((0, .slice none 0 0, .slice none 0 0, [], [])) (⟨Nat.zero_le _, (addR_nil _).symm, rfl, rfl⟩) (.cons rfl (.cons rfl (.cons rfl (.cons (i := 17) rfl (.cons (i := 16) rfl (.cons (i := 5) rfl (.cons (i := 4) rfl (.cons (i := 3) rfl (.cons (i := 0) rfl (.nil _)))))))))) (rfl) ?_
  rintro ⟨i, va, vk, la, ka⟩ ⟨hi, hr, hla, hka⟩
  simp only [List.cons_append, List.nil_append]
  dsimp only at hi hr hla hka
  refine x_seq ?_
  refine x_region ?_
  refine xl_pv (pv_bin rfl rfl rfl) rfl ?_
  refine xl_nil ?_
  refine xq_norm (xe_code ?_)
  refine x_seq ?_
  refine x_condT rfl (fun h => ?_) (fun h => ?_)
  · skip
    have hlt : i < xk.length := by simpa using h
    obtain ⟨z, hz⟩ := get_lt hlt
    have hd := get_drop hz
    obtain ⟨z1, z2, z3, z4, z5, z6⟩ := z
    refine x_skip ?_
    refine xq_norm (xe_code ?_)
    refine x_seq ?_
    refine x_block ?_
    refine x_seq ?_
    refine x_region ?_
    refine xl_pv (pv_at rfl rfl (by omega) ((get_map hz))) rfl ?_
    rcases hE : expF vs sc (.mk z1 z2 z3 z4 z5 z6) with e | ⟨⟨v1, v2, v3, v4, v5⟩, k⟩
    · skip
      refine xl_pv (pv_loadN_i rfl rfl) rfl ?_
      refine xl_alloc rfl (fun b9 => ?_)
      refine xl_put .h rfl rfl (by first | rfl | (simp [AV.cs, oneB, *]; done) | (simp [AV.cs, oneB, *]; repeat' constructor)) rfl (.c (.c (.c (.c (.c (.c .z)))))) ?_
      refine xl_nil ?_
      refine xq_norm (xe_code ?_)
      refine x_seq ?_
      refine x_region ?_
      refine xl_pv (pv_move rfl) rfl ?_
      refine xl_pv (pv_loadN rfl .here rfl) rfl ?_
      refine xl_dies (AC_err (hx _ (List.mem_of_getElem? hz) c ss fs bo mn po fi vv vc) (by rw [hE]; rfl)) rfl (.cons rfl (Wk.refl _) (.cons rfl (Wk.refl _) .nil)) (.k (.k (.k (.k (.k (.x (.x (.x .d)))))))) rfl ?_
      refine xq_panic ?_
      refine xq_bpanic ?_
      refine xq_panic ?_
      refine xq_panic ?_
      refine xq_bpanic ?_
      refine xq_panic ?_
      refine xq_drop .here ?_
      refine xq_drop .here ?_
      refine xq_drop .here ?_
      refine xq_drop .here ?_
      refine xq_drop .here ?_
      refine xq_died ?_
      exact ⟨by rw [hr, hd, addR_err hE]; rfl, rfl⟩
    · skip
      refine xl_pv (pv_loadN_i rfl rfl) rfl ?_
      refine xl_alloc rfl (fun b9 => ?_)
      refine xl_put .h rfl rfl (by first | rfl | (simp [AV.cs, oneB, *]; done) | (simp [AV.cs, oneB, *]; repeat' constructor)) rfl (.c (.c (.c (.c (.c (.c .z)))))) ?_
      refine xl_nil ?_
      refine xq_norm (xe_code ?_)
      refine x_seq ?_
      refine x_region ?_
      refine xl_pv (pv_move rfl) rfl ?_
      refine xl_pv (pv_loadN rfl .here rfl) rfl ?_
      refine xl_go (AC_ok (hx _ (List.mem_of_getElem? hz) c ss fs bo mn po fi vv vc) (by rw [hE]; rfl)) rfl (.cons rfl (Wk.refl _) (.cons rfl (Wk.refl _) .nil)) (.k (.k (.k (.k (.k (.x (.x (.x .d)))))))) rfl ?_
      refine xl_pv (pv_move rfl) rfl ?_
      refine xl_pv (pv_extract rfl rfl) rfl ?_
      refine xl_pv (pv_extract rfl rfl) rfl ?_
      refine xl_alloc rfl (fun b10 => ?_)
      refine xl_put .h rfl rfl (by first | rfl | (simp [AV.cs, oneB, *]; done) | (simp [AV.cs, oneB, *]; repeat' constructor)) rfl (.c (.c (.c (.c (.c .z))))) ?_
      refine xl_pv (pv_assign rfl) rfl ?_
      refine xl_nil ?_
      refine xq_norm (xe_code ?_)
      refine x_region ?_
      refine xl_pv (pv_move rfl) rfl ?_
      refine xl_pv (pv_loadN rfl .here rfl) rfl ?_
      refine xl_lit (.cons rfl .nil) rfl (by first | (simp [AV.cs]; done) | exact lits (by rfl) | (intro x hx; cases hx with | head => rfl | tail _ h => cases h)) (by rfl) (by decide) rfl ?_
      refine xl_grow (.t (.t (.t .h))) rfl rfl (by rfl) (by simp; omega) rfl (fun va_1 hva_1 => ?_)
      refine xl_pv (pv_move rfl) rfl ?_
      refine xl_pv (pv_move rfl) rfl ?_
      refine xl_lit (.cons rfl .nil) rfl (by first | (simp [AV.cs]; done) | exact lits (by rfl) | (intro x hx; cases hx with | head => rfl | tail _ h => cases h)) (by rfl) (by decide) rfl ?_
      refine xl_grow (.t (.t .h)) rfl rfl (by rfl) (by simp; omega) rfl (fun vk_2 hvk_2 => ?_)
      refine xl_pv (pv_assign rfl) rfl ?_
      refine xl_pv (pv_assign rfl) rfl ?_
      refine xl_nil ?_
      refine xq_bnorm ?_
      refine xq_norm (xe_code ?_)
      refine x_region ?_
      refine xl_pv (pv_add rfl rfl (by omega) (by omega)) rfl ?_
      refine xl_pv (pv_move rfl) rfl ?_
      refine xl_nil ?_
      refine xq_drop .here ?_
      refine xq_drop .here ?_
      refine xe_loopS ((i + 1, va_1, vk_2, la ++ [.mk v1 v2 v3 v4 v5], ka ++ [k])) (⟨hlt, by rw [hr, hd, addR_ok hE], by simp [hla], by simp [hka]⟩) (by first | omega | (simp at *; omega)) (.cons rfl (.cons rfl (.cons rfl (.nil _)))) (.n rfl (.o rfl (.n rfl (.n rfl (.o rfl (.o rfl (.o rfl (.o rfl (.o rfl (.o rfl (.o rfl (.o rfl (.o rfl (.o rfl (.o rfl (.o rfl (.o rfl (.o rfl (.o rfl (.o rfl (.o rfl (.o rfl (.o rfl (.o rfl (.o rfl (.n rfl (.n rfl (.n rfl .b)))))))))))))))))))))))))))) (by simp [CVal.av])
  · skip
    have hle : xk.length ≤ i := by simpa using h
    have hr2 : expsF vs sc xk = .ok (la, ka) := by rw [hr, List.drop_of_length_le hle]; simp [expsF, addR, Except.map]
    have hka2 : ka.length ≤ 2 ^ 40 := by omega
    refine x_exit ?_
    refine xq_exit ?_
    refine xq_exit ?_
    refine xq_hit ?_
    refine xq_norm (xe_code ?_)
    refine x_seq ?_
    refine x_region ?_
    refine xl_pv (pv_field_a rfl) rfl ?_
    refine xl_pv (pv_load1 rfl (.there (.there (.there .here))) rfl) rfl ?_
    refine xl_go (sign_c x5) rfl (.cons rfl (Wk.refl _) .nil) .d rfl ?_
    generalize ho : signF x5 = o
    refine xl_pv (pv_assign rfl) rfl ?_
    refine xl_nil ?_
    refine xq_norm (xe_code ?_)
    refine x_seq ?_
    refine x_region ?_
    refine xl_pv (pv_assign rfl) rfl ?_
    refine xl_pv (pv_assign rfl) rfl ?_
    refine xl_nil ?_
    refine xq_norm (xe_code ?_)
    refine x_join0 [(13, kv (inK o ka)), (14, kv (outK o))] (.cons (i := 12) rfl (.cons (i := 6) rfl (.cons (i := 7) rfl (.cons (i := 5) rfl (.cons (i := 4) rfl (.cons (i := 3) rfl (.nil _))))))) ?_ ?_
    · skip
      refine x_seq ?_
      refine x_region ?_
      refine xl_pv (pv_move rfl) rfl ?_
      refine xl_nil ?_
      refine xq_norm (xe_code ?_)
      refine x_block ?_
      refine x_join0 [(41, bv (decide (o = 12) || decide (o = 13)))] (.cons (i := 40) rfl (.cons (i := 14) rfl (.cons (i := 13) rfl (.cons (i := 12) rfl (.cons (i := 6) rfl (.cons (i := 7) rfl (.cons (i := 5) rfl (.cons (i := 4) rfl (.cons (i := 3) rfl (.nil _)))))))))) ?_ ?_
      · skip
        refine x_seq ?_
        refine x_region ?_
        refine xl_pv (pv_bin rfl rfl rfl) rfl ?_
        refine xl_pv (pv_assign rfl) rfl ?_
        refine xl_nil ?_
        refine xq_norm (xe_code ?_)
        refine x_condT rfl (fun h12 => ?_) (fun h12 => ?_)
        · skip
          refine x_skip ?_
          refine xq_meetF (.cons_wk (i := 41) rfl (Wk.of_eq (by simp at h12; simp [h12])) (.cons rfl (.cons rfl (.cons rfl (.cons rfl (.cons rfl (.cons rfl (.cons rfl (.cons rfl (.cons rfl (.nil _))))))))))) rfl
        · skip
          refine x_region ?_
          refine xl_pv (pv_bin rfl rfl rfl) rfl ?_
          refine xl_pv (pv_assign rfl) rfl ?_
          refine xl_nil ?_
          refine xq_meetF (.cons_wk (i := 41) rfl (Wk.of_eq (by simp at h12; simp [h12])) (.cons rfl (.cons rfl (.cons rfl (.cons rfl (.cons rfl (.cons rfl (.cons rfl (.cons rfl (.cons rfl (.nil _))))))))))) rfl
      simp only [List.cons_append, List.nil_append]
      refine x_condT rfl (fun hA => ?_) (fun hA => ?_)
      · skip
        simp at hA
        refine x_region ?_
        refine xl_pv (pv_assign rfl) rfl ?_
        refine xl_pv (pv_assign rfl) rfl ?_
        refine xl_nil ?_
        refine xq_bnorm ?_
        refine xq_meetF (.cons_wk (i := 13) rfl (Wk.of_eq (by rcases hA with h | h <;> simp [inK, outK, h])) (.cons_wk (i := 14) rfl (Wk.of_eq (by rcases hA with h | h <;> simp [inK, outK, h])) (.cons rfl (.cons rfl (.cons rfl (.cons rfl (.cons rfl (.cons rfl (.nil _))))))))) rfl
      · skip
        simp at hA
        refine x_join0 [(44, bv (decide (o = 6) || decide (o = 7)))] (.cons (i := 40) rfl (.cons (i := 14) rfl (.cons (i := 13) rfl (.cons (i := 12) rfl (.cons (i := 6) rfl (.cons (i := 7) rfl (.cons (i := 5) rfl (.cons (i := 4) rfl (.cons (i := 3) rfl (.nil _)))))))))) ?_ ?_
        · skip
          refine x_seq ?_
          refine x_region ?_
          refine xl_pv (pv_bin rfl rfl rfl) rfl ?_
          refine xl_pv (pv_assign rfl) rfl ?_
          refine xl_nil ?_
          refine xq_norm (xe_code ?_)
          refine x_condT rfl (fun h6 => ?_) (fun h6 => ?_)
          · skip
            refine x_skip ?_
            refine xq_meetF (.cons_wk (i := 44) rfl (Wk.of_eq (by simp at h6; simp [h6])) (.cons rfl (.cons rfl (.cons rfl (.cons rfl (.cons rfl (.cons rfl (.cons rfl (.cons rfl (.cons rfl (.nil _))))))))))) rfl
          · skip
            refine x_region ?_
            refine xl_pv (pv_bin rfl rfl rfl) rfl ?_
            refine xl_pv (pv_assign rfl) rfl ?_
            refine xl_nil ?_
            refine xq_meetF (.cons_wk (i := 44) rfl (Wk.of_eq (by simp at h6; simp [h6])) (.cons rfl (.cons rfl (.cons rfl (.cons rfl (.cons rfl (.cons rfl (.cons rfl (.cons rfl (.cons rfl (.nil _))))))))))) rfl
        simp only [List.cons_append, List.nil_append]
        refine x_condT rfl (fun hB => ?_) (fun hB => ?_)
        · skip
          simp at hB
          refine x_seq ?_
          refine x_region ?_
          refine xl_pv (pv_assign rfl) rfl ?_
          refine xl_nil ?_
          refine xq_norm (xe_code ?_)
          refine x_seq ?_
          refine x_region ?_
          refine xl_pv (pv_move rfl) rfl ?_
          refine xl_pv (pv_len_o .here rfl) rfl ?_
          refine xl_pv (pv_bin rfl rfl rfl) rfl ?_
          refine xl_pv (pv_move rfl) rfl ?_
          refine xl_guard rfl rfl (fun hG => ?_) (fun hG => ?_)
          · skip
            have hl : 0 < ka.length := by simpa using hG
            obtain ⟨z, hz⟩ := get_lt hl
            have hh : ka.head? = some z := by rw [List.head?_eq_getElem?]; exact hz
            refine xl_slc .here (fun hs => ?_)
            obtain ⟨gvk, cvk, rfl⟩ := hs.full (by simp; omega)
            refine xl_take rfl rfl rfl ?_
            refine xl_pv (pv_move rfl) rfl ?_
            refine xl_take rfl rfl rfl ?_
            refine xl_pv (pv_at_o rfl rfl (by omega) (by simpa using hl)) rfl ?_
            refine xl_take rfl rfl rfl ?_
            refine xl_pv (pv_load1_o (off := 0) .here rfl (get_map hz) rfl) rfl ?_
            refine xl_take rfl rfl rfl ?_
            refine xl_pv (pv_bin rfl rfl rfl) rfl ?_
            refine xl_pv (pv_pick_t rfl rfl) rfl ?_
            refine xl_nil ?_
            refine xq_norm (xe_code ?_)
            refine x_condT rfl (fun hZ => ?_) (fun hZ => ?_)
            · skip
              simp at hZ
              refine x_region ?_
              refine xl_pv (pv_assign rfl) rfl ?_
              refine xl_nil ?_
              refine xq_bnorm ?_
              refine xq_meetF (.cons_wk (i := 13) rfl (Wk.of_eq (by rcases hB with h | h <;> simp [inK, outK, h, hh, hZ])) (.cons_wk (i := 14) rfl (Wk.of_eq (by rcases hB with h | h <;> simp [inK, outK, h, hh, hZ])) (.cons rfl (.cons rfl (.cons rfl (.cons rfl (.cons rfl (.cons rfl (.nil _))))))))) rfl
            · skip
              simp at hZ
              refine x_skip ?_
              refine xq_bnorm ?_
              refine xq_meetF (.cons_wk (i := 13) rfl (Wk.of_eq (by rcases hB with h | h <;> simp [inK, outK, h, hh, hZ])) (.cons_wk (i := 14) rfl (Wk.of_eq (by rcases hB with h | h <;> simp [inK, outK, h, hh, hZ])) (.cons rfl (.cons rfl (.cons rfl (.cons rfl (.cons rfl (.cons rfl (.nil _))))))))) rfl
          · skip
            have hh : ka = [] := by simpa using hG
            refine xl_skip rfl rfl rfl rfl ?_
            refine xl_skip rfl rfl rfl rfl ?_
            refine xl_skip rfl rfl rfl rfl ?_
            refine xl_skip rfl rfl rfl rfl ?_
            refine xl_pv (pv_pick_f rfl rfl) rfl ?_
            refine xl_nil ?_
            refine xq_norm (xe_code ?_)
            refine x_cond rfl (fun h => nomatch h) (fun _ => ?_)
            refine x_skip ?_
            refine xq_bnorm ?_
            refine xq_meetF (.cons_wk (i := 13) rfl (Wk.of_eq (by rcases hB with h | h <;> simp [inK, outK, h, hh])) (.cons_wk (i := 14) rfl (Wk.of_eq (by rcases hB with h | h <;> simp [inK, outK, h, hh])) (.cons rfl (.cons rfl (.cons rfl (.cons rfl (.cons rfl (.cons rfl (.nil _))))))))) rfl
        · skip
          simp at hB
          refine x_join0 [(56, bv (decide (o = 8) || decide (o = 9) || decide (o = 10) || decide (o = 11)))] (.cons (i := 40) rfl (.cons (i := 14) rfl (.cons (i := 13) rfl (.cons (i := 12) rfl (.cons (i := 6) rfl (.cons (i := 7) rfl (.cons (i := 5) rfl (.cons (i := 4) rfl (.cons (i := 3) rfl (.nil _)))))))))) ?_ ?_
          · skip
            refine x_seq ?_
            refine x_region ?_
            refine xl_pv (pv_bin rfl rfl rfl) rfl ?_
            refine xl_pv (pv_assign rfl) rfl ?_
            refine xl_nil ?_
            refine xq_norm (xe_code ?_)
            refine x_condT rfl (fun h8 => ?_) (fun h8 => ?_)
            · skip
              refine x_skip ?_
              refine xq_meetF (.cons_wk (i := 56) rfl (Wk.of_eq (by simp at h8; simp [h8])) (.cons rfl (.cons rfl (.cons rfl (.cons rfl (.cons rfl (.cons rfl (.cons rfl (.cons rfl (.cons rfl (.nil _))))))))))) rfl
            · skip
              refine x_seq ?_
              refine x_region ?_
              refine xl_pv (pv_bin rfl rfl rfl) rfl ?_
              refine xl_pv (pv_assign rfl) rfl ?_
              refine xl_nil ?_
              refine xq_norm (xe_code ?_)
              refine x_condT rfl (fun h9 => ?_) (fun h9 => ?_)
              · skip
                refine x_skip ?_
                refine xq_meetF (.cons_wk (i := 56) rfl (Wk.of_eq (by simp at h8 h9; simp [h8, h9])) (.cons rfl (.cons rfl (.cons rfl (.cons rfl (.cons rfl (.cons rfl (.cons rfl (.cons rfl (.cons rfl (.nil _))))))))))) rfl
              · skip
                refine x_seq ?_
                refine x_region ?_
                refine xl_pv (pv_bin rfl rfl rfl) rfl ?_
                refine xl_pv (pv_assign rfl) rfl ?_
                refine xl_nil ?_
                refine xq_norm (xe_code ?_)
                refine x_condT rfl (fun h10 => ?_) (fun h10 => ?_)
                · skip
                  refine x_skip ?_
                  refine xq_meetF (.cons_wk (i := 56) rfl (Wk.of_eq (by simp at h8 h9 h10; simp [h8, h9, h10])) (.cons rfl (.cons rfl (.cons rfl (.cons rfl (.cons rfl (.cons rfl (.cons rfl (.cons rfl (.cons rfl (.nil _))))))))))) rfl
                · skip
                  refine x_region ?_
                  refine xl_pv (pv_bin rfl rfl rfl) rfl ?_
                  refine xl_pv (pv_assign rfl) rfl ?_
                  refine xl_nil ?_
                  refine xq_meetF (.cons_wk (i := 56) rfl (Wk.of_eq (by simp at h8 h9 h10; simp [h8, h9, h10])) (.cons rfl (.cons rfl (.cons rfl (.cons rfl (.cons rfl (.cons rfl (.cons rfl (.cons rfl (.cons rfl (.nil _))))))))))) rfl
          simp only [List.cons_append, List.nil_append]
          refine x_condT rfl (fun hC => ?_) (fun hC => ?_)
          · skip
            simp at hC
            refine x_region ?_
            refine xl_pv (pv_assign rfl) rfl ?_
            refine xl_nil ?_
            refine xq_bnorm ?_
            refine xq_meetF (.cons_wk (i := 13) rfl (Wk.of_eq (by rcases hC with ((h | h) | h) | h <;> simp [inK, outK, h])) (.cons_wk (i := 14) rfl (Wk.of_eq (by rcases hC with ((h | h) | h) | h <;> simp [inK, outK, h])) (.cons rfl (.cons rfl (.cons rfl (.cons rfl (.cons rfl (.cons rfl (.nil _))))))))) rfl
          · skip
            simp at hC
            refine x_skip ?_
            refine xq_bnorm ?_
            refine xq_meetF (.cons_wk (i := 13) rfl (Wk.of_eq (by simp [inK, outK, hA, hB, hC])) (.cons_wk (i := 14) rfl (Wk.of_eq (by simp [inK, outK, hA, hB, hC])) (.cons rfl (.cons rfl (.cons rfl (.cons rfl (.cons rfl (.cons rfl (.nil _))))))))) rfl
    simp only [List.cons_append, List.nil_append]
    refine x_seq ?_
    refine x_region ?_
    refine xl_pv (pv_field_a rfl) rfl ?_
    refine xl_pv (pv_load1 rfl (.there (.there (.there .here))) rfl) rfl ?_
    refine xl_pv (pv_bin rfl rfl rfl) rfl ?_
    refine xl_pv (pv_move rfl) rfl ?_
    refine xl_guard rfl rfl (fun hk7 => ?_) (fun hk7 => ?_)
    · skip
      have e7 : x1 = 7 := of_decide_eq_true hk7
      refine xl_take rfl rfl rfl ?_
      refine xl_pv (pv_move rfl) rfl ?_
      refine xl_take rfl rfl rfl ?_
      refine xl_pv (pv_bin rfl rfl rfl) rfl ?_
      refine xl_pv (pv_pick_t rfl rfl) rfl ?_
      refine xl_pv (pv_move rfl) rfl ?_
      refine xl_guard rfl rfl (fun ho0 => ?_) (fun ho0 => ?_)
      · skip
        have e0 : o ≠ 0 := by simpa using ho0
        refine xl_take rfl rfl rfl ?_
        refine xl_pv (pv_move rfl) rfl ?_
        refine xl_pub 69 .here rfl ?_
        refine xl_take rfl rfl rfl ?_
        refine xl_pv (pv_move rfl) rfl ?_
        refine xl_take rfl rfl rfl ?_
        refine xl_pv (pv_move rfl) rfl ?_
        refine xl_take rfl rfl rfl ?_
        refine xl_lit (.cons rfl (.cons rfl .nil)) rfl (by first | (simp [AV.cs]; done) | exact lits (by rfl) | (intro x hx; cases hx with | head => rfl | tail _ h => cases h)) (by rfl) (by decide) rfl ?_
        refine xl_take rfl rfl rfl ?_
        refine xl_go (eqU8 ka [inK o ka, inK o ka] hka2) rfl (.cons rfl (Wk.refl _) (.cons rfl (Wk.refl _) .nil)) .d rfl ?_
        rcases hc : decide (ka = [inK o ka, inK o ka]) with _ | _
        · skip
          refine xl_pv (pv_pick_t rfl rfl) rfl ?_
          refine xl_dies (fail_f 9) rfl (.cons rfl (Wk.of_eq (by first | rfl | rw [hc])) (.cons rfl (Wk.refl _) .nil)) .d rfl ?_
          refine xq_panic ?_
          refine xq_drop .here ?_
          refine xq_drop .here ?_
          refine xq_drop .here ?_
          refine xq_died ?_
          exact ⟨by rw [hr2, binaryF, ho, if_neg (by simpa [e7, e0] using hc)]; rfl, rfl⟩
        · skip
          refine xl_pv (pv_pick_t rfl rfl) rfl ?_
          refine xl_go (fail_t 9) rfl (.cons rfl (Wk.of_eq (by first | rfl | rw [hc])) (.cons rfl (Wk.refl _) .nil)) .d rfl ?_
          refine xl_nil ?_
          refine xq_norm (xe_code ?_)
          refine x_seq ?_
          refine x_region ?_
          refine xl_pv (pv_move rfl) rfl ?_
          refine xl_pv (pv_move rfl) rfl ?_
          refine xl_pub 77 .here rfl ?_
          refine xl_pv (pv_build (by exact (.cons rfl rfl rfl (by first | rfl | (simp [AV.cs, oneB, *]; done) | (simp [AV.cs, oneB, *]; repeat' constructor)) (.c .z) (.cons rfl rfl rfl (by first | rfl | (simp [AV.cs, oneB, *]; done) | (simp [AV.cs, oneB, *]; repeat' constructor)) (.s (.c .z)) (.cons rfl rfl rfl (by first | rfl | (simp [AV.cs, oneB, *]; done) | (simp [AV.cs, oneB, *]; repeat' constructor)) (.s (.s (.s (.s (.c .z))))) .nil))))) rfl ?_
          refine xl_pv (pv_move rfl) rfl ?_
          refine xl_put .h rfl rfl (by first | rfl | (simp [AV.cs, oneB, *]; done) | (simp [AV.cs, oneB, *]; repeat' constructor)) rfl (.c (.c (.c (.c (.c .z))))) ?_
          refine xl_pv (pv_assign rfl) rfl ?_
          refine xl_nil ?_
          refine xq_norm (xe_code ?_)
          refine x_ret ?_
          refine xq_doneW (.inr rfl) (pairAV (.mk 6 o 0 0 la, outK o)) (resCT rfl (cr_N rfl .here rfl) rfl) (drop_one .here (drop_one .here drop_nil)) (Wk.of_eq (by simp [pairAV, CVal.av, CVal.avs_eq])) ?_
          exact ⟨by rw [hr2, binaryF, ho, if_pos (by simpa [e7, e0] using hc)]; rfl, rfl⟩
      · skip
        have e0 : o = 0 := by simpa using ho0
        refine xl_skip rfl rfl rfl rfl ?_
        refine xl_skip rfl rfl rfl rfl ?_
        refine xl_skip rfl rfl rfl rfl ?_
        refine xl_skip rfl rfl rfl rfl ?_
        refine xl_skip rfl rfl rfl rfl ?_
        refine xl_pv (pv_pick_f rfl rfl) rfl ?_
        refine xl_dies (fail_f 9) rfl (.cons rfl (Wk.refl _) (.cons rfl (Wk.refl _) .nil)) .d rfl ?_
        refine xq_panic ?_
        refine xq_drop .here ?_
        refine xq_drop .here ?_
        refine xq_drop .here ?_
        refine xq_drop .here ?_
        refine xq_died ?_
        exact ⟨by rw [hr2, binaryF, ho, if_neg (by simp [e0])]; rfl, rfl⟩
    · skip
      have e7 : ¬ x1 = 7 := of_decide_eq_false hk7
      refine xl_skip rfl rfl rfl rfl ?_
      refine xl_skip rfl rfl rfl rfl ?_
      refine xl_pv (pv_pick_f rfl rfl) rfl ?_
      refine xl_pv (pv_move rfl) rfl ?_
      refine xl_skip rfl rfl rfl rfl ?_
      refine xl_skip rfl rfl rfl rfl ?_
      refine xl_skip rfl rfl rfl rfl ?_
      refine xl_skip rfl rfl rfl rfl ?_
      refine xl_skip rfl rfl rfl rfl ?_
      refine xl_pv (pv_pick_f rfl rfl) rfl ?_
      refine xl_dies (fail_f 9) rfl (.cons rfl (Wk.refl _) (.cons rfl (Wk.refl _) .nil)) .d rfl ?_
      refine xq_panic ?_
      refine xq_drop .here ?_
      refine xq_drop .here ?_
      refine xq_drop .here ?_
      refine xq_drop .here ?_
      refine xq_died ?_
      exact ⟨by rw [hr2, binaryF, ho, if_neg (by simp [e7])]; rfl, rfl⟩
end Go.Proofs.Ytmallgapchjhnaa
