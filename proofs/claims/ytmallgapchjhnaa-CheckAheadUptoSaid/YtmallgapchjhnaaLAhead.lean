/- CheckAhead is true for every input of bulk up to 1048576: what is wrong in a declaration is told whatever stands behind it; and declarations behind one that is right turn nothing of its body. Condition: the statement's own bound on the input's bulk. -/
import Derived.Test.YtmallgapchjhnaaRows
import Derived.Test.YtmallgapchjhnaaK36
import Derived.Test.YtmallgapchjhnaaOpK
import Derived.Test.YtmallgapchjhnaaRow
import Derived.Test.YtmallgapchjhnaaOpn
import Derived.WalkKit
import Derived.ProofKit
import Derived.OpenShut
import Derived.ShutString
import Derived.ChangeOld
import Derived.Below
import Derived.JoinedCond
namespace Go.Proofs.Ytmallgapchjhnaa.checkAhead
open Go.ChangeShapes Go.WideShapes Go.ChangeAt Go.RowKit Go.Ax
open Go.ChangeMaps (open_string shut_string)
set_option linter.unusedVariables false
set_option linter.unusedSimpArgs false
theorem own : ownKnob Try.prog.godebug = none := by kernel_rfl
theorem laidOut : laidOutB Try.prog = true := by kernel_rfl
set_option maxRecDepth 100000 in
theorem contract (H : Type) (enc : TypeId × Value → H) (W : World) (base : Nat) (args : Array Value) (ds gs : List (DataW H)) (before : List MemPlace)
    (hval : ∀ (j : Nat) t v, Try.f4.params[j]? = some t → args[j]? = some v → Value.okWide Try.prog W .any base t v)
    (hW : DataW.Whole enc Try.prog Try.f4.params.toList Rows.checkAheadSpec.vars false W args.toList ds gs before) (hk : Rows.uptoSmall H (ds ++ gs) = true) :
    Calls Try.prog 4 args W fun e W' => ∃ v, e = .returned v ∧ Rows.checkAheadSpec.post enc Try.prog Try.f4 false true false false W args v W' := by
  have hW' := hW
  obtain ⟨p, q, hA0, hV, rfl, hfz, hnd⟩ := hW
  have hA : DataW.TrodAll enc Try.prog W 0 (fun _ => true) true Try.f4.params.toList args.toList ds p := hA0
  rw [Try.params4] at hA hval
  obtain ⟨v0, vs0, d0, ds0, p0, q0, hargs, rfl, rfl, h0, r0⟩ := trodAll_cons hA
  obtain ⟨v1, vs1, d1, ds1, p1, q1, rfl, rfl, rfl, h1, r1⟩ := trodAll_cons r0
  obtain ⟨rfl, rfl, rfl⟩ := trodAll_nil r1
  obtain rfl : args = #[v0, v1] := by cases args; simp_all
  obtain ⟨rfl, rfl⟩ := trodVars_none hV
  have hb := of_decide_eq_true hk
  simp only [List.cons_append, List.nil_append, List.append_nil, Rows.uptoBulkAll] at hb
  have k0 := h0
  have lt0 : ∀ x ∈ p0, x.block < W.heap.size := by obtain ⟨m, hm⟩ := k0; exact DataW.trod_lt m _ _ _ hm
  obtain ⟨u0, rfl, _⟩ := okWide_struct Try.underlying25 (hval 0 25 v0 rfl rfl)
  obtain ⟨m0, hm0⟩ := h0
  obtain ⟨a0, o0, e0, j0⟩ := (opn_prog m0 : Opn enc Try.prog W (Rows.uptoBulk d0) m0 25 (fun P : CProg => AV.agg (CProg.cs P)) _ _) m0 (Nat.le_refl _) _ _ hm0 (Nat.le_refl _)
  have vr0 : VR (AllI W) W ((fun P : CProg => AV.agg (CProg.cs P)) a0) (.agg u0) := by have h : VR (AllI W) W (AV.agg (((fun P : CProg => AV.agg (CProg.cs P)) a0).cs)) (.agg u0.toList.toArray) := VR.agg_mk e0; rw [Array.toArray_toList] at h; exact h
  have z0 : Rows.uptoBulk d0 ≤ 1048576 := by omega
  have k1 := h1
  have lt1 : ∀ x ∈ p1, x.block < W.heap.size := by obtain ⟨m, hm⟩ := k1; exact DataW.trod_lt m _ _ _ hm
  obtain ⟨u1, rfl, _⟩ := okWide_struct Try.underlying25 (hval 1 25 v1 rfl rfl)
  obtain ⟨m1, hm1⟩ := h1
  obtain ⟨a1, o1, e1, j1⟩ := (opn_prog m1 : Opn enc Try.prog W (Rows.uptoBulk d1) m1 25 (fun P : CProg => AV.agg (CProg.cs P)) _ _) m1 (Nat.le_refl _) _ _ hm1 (Nat.le_refl _)
  have vr1 : VR (AllI W) W ((fun P : CProg => AV.agg (CProg.cs P)) a1) (.agg u1) := by have h : VR (AllI W) W (AV.agg (((fun P : CProg => AV.agg (CProg.cs P)) a1).cs)) (.agg u1.toList.toArray) := VR.agg_mk e1; rw [Array.toArray_toList] at h; exact h
  have z1 : Rows.uptoBulk d1 ≤ 1048576 := by omega
  clear hA0
  simp only [List.append_nil] at hW'
  have hc := ahead_c a0 a1 (Nat.le_trans j0 (Nat.le_trans z0 (by decide))) (Nat.le_trans j1 (Nat.le_trans z1 (by decide)))
  refine (ac_row (vs := [.agg u0, .agg u1]) hc (.cons vr0 (.cons vr1 .nil))).mono fun e W' ⟨he, bel⟩ => ?_
  subst he
  exact ⟨_, rfl, _, _, _, [], _, [], hW', trodAll_mk1 (shut_bool Try.underlying4 _), (trodAll_cons_mk (Below.trod laidOut (by kernel_rfl) (of_decide_eq_true (by kernel_rfl)) k0 bel lt0) (trodAll_cons_mk (Below.trod laidOut (by kernel_rfl) (of_decide_eq_true (by kernel_rfl)) k1 bel lt1) trodAll_mk0)), rfl, bel.frame _, fun h => by cases h⟩
set_option maxRecDepth 100000 in
theorem lifted (os : Os) (started : os.Started) (H : Type) (enc : TypeId × Value → H) (F : Stop.Interp) :
    ReturnsInHanded {} Try.checked os 4 .any ((Rows.OpenSpec.upto Rows.checkAheadSpec).pre6 enc Try.prog Try.f4 Rows.checkAheadUptoRow.domain false) (((Rows.OpenSpec.upto Rows.checkAheadSpec).at F).post enc Try.prog Try.f4 false true false false) := by
  refine returnsInHanded_of_cond (C := Try.checked) (s := (Rows.OpenSpec.upto Rows.checkAheadSpec)) (k := Rows.uptoSmall) rfl own started (by kernel_rfl) Try.func4
    (OpenSpec.witness (enc := enc) (C := Try.checked) (s := (Rows.OpenSpec.upto Rows.checkAheadSpec)) (k := Rows.uptoSmall) rfl false ⟨#[], #[.agg #[.slice none 0 0, .slice none 0 0], .agg #[.slice none 0 0, .slice none 0 0]], []⟩ 8 (by kernel_rfl) (by kernel_rfl) (by kernel_rfl)
      (x := ([.agg [.nil, .nil], .agg [.nil, .nil]], [], [])) (by kernel_rfl) rfl (by kernel_rfl)) ?_
  intro W base args ds gs before hval hW _ hk _
  exact contract H enc W base args ds gs before hval hW hk
theorem over : Rows.checkAheadUptoRow.holds Try.pinned (Rows.OpenSpec.upto Rows.checkAheadSpec) :=
  OpenClaim.holds_of_cond 4 Try.f4 rfl rfl rfl rfl rfl rfl rfl ⟨rfl, rfl, rfl, rfl, rfl⟩ rfl rfl rfl rfl rfl (by kernel_rfl) Try.func4 (by kernel_rfl)
    (of_decide_eq_true (by kernel_rfl)) (by unfold Func.isWrapper; first | (rw [if_pos (by decide +kernel)]; kernel_rfl) | (rw [if_neg (by decide +kernel)]; exact ⟨rfl, rfl⟩))
    (fun os started H enc _ F => lifted os started H enc F)
theorem proved : Rows.CheckAheadUptoSaid := over
#print axioms proved
end Go.Proofs.Ytmallgapchjhnaa.checkAhead
