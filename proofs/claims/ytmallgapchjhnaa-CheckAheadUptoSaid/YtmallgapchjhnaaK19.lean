/- The laws' small programs. No condition: plain theorems. -/
import Derived.Test.YtmallgapchjhnaaK18
import Derived.Test.YtmallgapchjhnaaAx14
set_option linter.unusedVariables false
set_option linter.unusedSimpArgs false
namespace Go.Proofs.Ytmallgapchjhnaa
set_option maxRecDepth 100000
open Go Go.Ax
attribute [local irreducible] X XL XE XQ PV

def e0 : ByteArray := ⟨#[]⟩
theorem num_c (n : Int) : AC Try.prog 25 [iv n] [] (RetIs (CExp.mk 1 n e0 e0 e0 []).av []) := by
  refine ac_intro Try.func25 rfl rfl fun I w => ?_
  simp only [argEnv]
  refine x_seq ?_
  refine x_region ?_
  refine xl_alloc rfl (fun b2 => ?_)
  refine xl_nil ?_
  refine xq_norm (xe_code ?_)
  refine x_seq ?_
  refine x_region ?_
  refine xl_pv (pv_move rfl) rfl ?_
  refine xl_pv (pv_build (by exact (.cons rfl rfl rfl (by first | rfl | (simp [AV.cs, oneB, *]; done) | (simp [AV.cs, oneB, *]; repeat' constructor)) (.c .z) (.cons rfl rfl rfl (by first | rfl | (simp [AV.cs, oneB, *]; done) | (simp [AV.cs, oneB, *]; repeat' constructor)) (.s (.c .z)) .nil)))) rfl ?_
  refine xl_put .h rfl rfl (by first | rfl | (simp [AV.cs, oneB, *]; done) | (simp [AV.cs, oneB, *]; repeat' constructor)) rfl (.c (.c (.c (.c (.c (.c .z)))))) ?_
  refine xl_nil ?_
  refine xq_norm (xe_code ?_)
  refine x_ret ?_
  refine xq_doneW (.inr rfl) ((CExp.mk 1 n e0 e0 e0 []).av) (resC rfl (cr_N rfl .here rfl)) (drop_one .here drop_nil) (by repeat (first | exact Wk.refl _ | exact Wk.nil _ | exact All2.nil | refine Wk.tuple ?_ | refine Wk.agg ?_ | refine All2.cons ?_ ?_)) ?_
  exact ⟨rfl, rfl⟩
theorem name_c (s : ByteArray) : AC Try.prog 39 [sv s] [] (RetIs (CExp.mk 3 0 s e0 e0 []).av []) := by
  refine ac_intro Try.func39 rfl rfl fun I w => ?_
  simp only [argEnv]
  refine x_seq ?_
  refine x_region ?_
  refine xl_alloc rfl (fun b2 => ?_)
  refine xl_nil ?_
  refine xq_norm (xe_code ?_)
  refine x_seq ?_
  refine x_region ?_
  refine xl_pv (pv_move rfl) rfl ?_
  refine xl_pv (pv_build (by exact (.cons rfl rfl rfl (by first | rfl | (simp [AV.cs, oneB, *]; done) | (simp [AV.cs, oneB, *]; repeat' constructor)) (.c .z) (.cons rfl rfl rfl (by first | rfl | (simp [AV.cs, oneB, *]; done) | (simp [AV.cs, oneB, *]; repeat' constructor)) (.s (.s (.c .z))) .nil)))) rfl ?_
  refine xl_put .h rfl rfl (by first | rfl | (simp [AV.cs, oneB, *]; done) | (simp [AV.cs, oneB, *]; repeat' constructor)) rfl (.c (.c (.c (.c (.c (.c .z)))))) ?_
  refine xl_nil ?_
  refine xq_norm (xe_code ?_)
  refine x_ret ?_
  refine xq_doneW (.inr rfl) ((CExp.mk 3 0 s e0 e0 []).av) (resC rfl (cr_N rfl .here rfl)) (drop_one .here drop_nil) (by repeat (first | exact Wk.refl _ | exact Wk.nil _ | exact All2.nil | refine Wk.tuple ?_ | refine Wk.agg ?_ | refine All2.cons ?_ ?_)) ?_
  exact ⟨rfl, rfl⟩
theorem bin_c (op : ByteArray) (a b : CExp) : AC Try.prog 40 [sv op, a.av, b.av] [] (RetIs (CExp.mk 7 0 e0 e0 op [a, b]).av []) := by
  obtain ⟨a1, a2, a3, a4, a5, a6⟩ := a
  obtain ⟨y1, y2, y3, y4, y5, y6⟩ := b
  refine ac_intro Try.func40 rfl rfl fun I w => ?_
  simp only [argEnv]
  refine x_seq ?_
  refine x_region ?_
  refine xl_box rfl (by rfl) rfl (fun b4 => ?_)
  refine xl_box rfl (by rfl) rfl (fun b5 => ?_)
  refine xl_alloc rfl (fun b6 => ?_)
  refine xl_nil ?_
  refine xq_norm (xe_code ?_)
  refine x_seq ?_
  refine x_region ?_
  refine xl_pv (pv_move rfl) rfl ?_
  refine xl_pv (pv_loadN rfl (.there (.there .here)) rfl) rfl ?_
  refine xl_pv (pv_loadN rfl (.there .here) rfl) rfl ?_
  refine xl_lit (.cons rfl (.cons rfl .nil)) rfl (by first | (simp [AV.cs]; done) | exact lits (by rfl) | (intro x hx; cases hx with | head => rfl | tail _ h => cases h)) (by rfl) (by decide) rfl ?_
  refine xl_pv (pv_build (by exact (.cons rfl rfl rfl (by first | rfl | (simp [AV.cs, oneB, *]; done) | (simp [AV.cs, oneB, *]; repeat' constructor)) (.c .z) (.cons rfl rfl rfl (by first | rfl | (simp [AV.cs, oneB, *]; done) | (simp [AV.cs, oneB, *]; repeat' constructor)) (.s (.s (.s (.s (.c .z))))) (.cons rfl rfl rfl (by first | rfl | (simp [AV.cs, oneB, *]; done) | (simp [AV.cs, oneB, *]; repeat' constructor)) (.s (.s (.s (.s (.s (.c .z)))))) .nil))))) rfl ?_
  refine xl_put .h rfl rfl (by first | rfl | (simp [AV.cs, oneB, *]; done) | (simp [AV.cs, oneB, *]; repeat' constructor)) rfl (.c (.c (.c (.c (.c (.c .z)))))) ?_
  refine xl_nil ?_
  refine xq_norm (xe_code ?_)
  refine x_ret ?_
  refine xq_doneW (.inr rfl) ((CExp.mk 7 0 e0 e0 op [CExp.mk a1 a2 a3 a4 a5 a6, CExp.mk y1 y2 y3 y4 y5 y6]).av) (resC rfl (cr_N rfl .here rfl)) (drop_one .here (drop_one .here (drop_one .here drop_nil))) (by repeat (first | exact Wk.refl _ | exact Wk.nil _ | exact All2.nil | refine Wk.tuple ?_ | refine Wk.agg ?_ | refine All2.cons ?_ ?_)) ?_
  exact ⟨rfl, rfl⟩
end Go.Proofs.Ytmallgapchjhnaa
