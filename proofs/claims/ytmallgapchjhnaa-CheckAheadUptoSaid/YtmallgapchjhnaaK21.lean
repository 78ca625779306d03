/- The anchor of the laws. No condition: plain theorems. -/
import Derived.Test.YtmallgapchjhnaaK20
set_option linter.unusedVariables false
set_option linter.unusedSimpArgs false
namespace Go.Proofs.Ytmallgapchjhnaa
set_option maxRecDepth 100000
open Go Go.Ax
attribute [local irreducible] X XL XE XQ PV

def pFor : CStmt := .mk 7 2 e0 e0 e0 ty0 [pCond] pIn []
def pProg (b : List CStmt) : CProg := ⟨[], [⟨mainB, 1, [], ty0, b⟩]⟩
def pPlain (n : Int) : CProg := pProg [pVar n, pFor]
def pY : CProg := pProg [.mk 1 1 ⟨#[121]⟩ e0 e0 tyI [.mk 1 2 e0 e0 e0 []] [] [], pFor]
def pNum : CProg := pProg [pVar 2, .mk 7 2 e0 e0 e0 ty0 [.mk 1 1 e0 e0 e0 []] pIn []]
def t2 : WTree := (programF (pPlain 2)).1
theorem r2 : (programF (pPlain 2)).2 = (0, 0) := by kernel_rfl
theorem rY : (programF pY).2 = (0, 8) := by kernel_rfl
theorem rN : (programF pNum).2.2 = 9 := by kernel_rfl
theorem r0 : (programF ⟨[], []⟩).2 = (0, 8) := by kernel_rfl
theorem t2b : t2.bodies.length = 1 ∧ (t2.bodies.map fun b => b.acts.length) = [2] := ⟨by kernel_rfl, by kernel_rfl⟩
theorem t2p : t2.points.map (fun p => (p.line, p.scope.length)) = [(1, 0), (2, 1), (3, 1), (4, 1)] := by kernel_rfl
theorem plain_l (n : Int) : AC Try.prog 21 [iv n] [] (RetIs (.agg (pPlain n).cs) []) := by
  refine ac_intro Try.func21 rfl rfl fun I w => ?_
  simp only [argEnv]
  refine x_seq ?_
  refine x_region ?_
  refine xl_alloc rfl (fun b2 => ?_)
  refine xl_nil ?_
  refine xq_norm (xe_code ?_)
  refine x_seq ?_
  refine x_region ?_
  refine xl_go (name_c bx) rfl (.cons rfl (Wk.refl _) .nil) .d rfl ?_
  refine xl_lit (.cons rfl .nil) rfl (by first | (simp [AV.cs]; done) | exact lits (by rfl) | (intro x hx; cases hx with | head => rfl | tail _ h => cases h)) (by rfl) (by decide) rfl ?_
  refine xl_pv (pv_wk ((CStmt.mk 8 3 e0 e0 e0 ty0 [CExp.mk 3 0 bx e0 e0 []] [] []).av) (pv_build (by exact (.cons rfl rfl rfl (by first | rfl | (simp [AV.cs, oneB, *]; done) | (simp [AV.cs, oneB, *]; repeat' constructor)) (.c .z) (.cons rfl rfl rfl (by first | rfl | (simp [AV.cs, oneB, *]; done) | (simp [AV.cs, oneB, *]; repeat' constructor)) (.s (.c .z)) (.cons rfl rfl rfl (by first | rfl | (simp [AV.cs, oneB, *]; done) | (simp [AV.cs, oneB, *]; repeat' constructor)) (.s (.s (.s (.s (.s (.s (.s (.s (.c .z))))))))) .nil))))) (by repeat (first | exact Wk.refl _ | exact Wk.nil _ | exact All2.nil | refine Wk.tuple ?_ | refine Wk.agg ?_ | refine All2.cons ?_ ?_))) rfl ?_
  refine xl_go (name_c bx) rfl (.cons rfl (Wk.refl _) .nil) .d rfl ?_
  refine xl_go (num_c 1) rfl (.cons rfl (Wk.refl _) .nil) .d rfl ?_
  refine xl_go (bin_c _ (.mk 3 0 bx e0 e0 []) (.mk 1 1 e0 e0 e0 [])) rfl (.cons rfl (Wk.refl _) (.cons rfl (Wk.refl _) (.cons rfl (Wk.refl _) .nil))) .d rfl ?_
  refine xl_lit (.cons rfl .nil) rfl (by first | (simp [AV.cs]; done) | exact lits (by rfl) | (intro x hx; cases hx with | head => rfl | tail _ h => cases h)) (by rfl) (by decide) rfl ?_
  refine xl_pv (pv_wk ((CStmt.mk 2 4 bx e0 e0 ty0 [.mk 7 0 e0 e0 ⟨#[45]⟩ [.mk 3 0 bx e0 e0 [], .mk 1 1 e0 e0 e0 []]] [] []).av) (pv_build (by exact (.cons rfl rfl rfl (by first | rfl | (simp [AV.cs, oneB, *]; done) | (simp [AV.cs, oneB, *]; repeat' constructor)) (.c .z) (.cons rfl rfl rfl (by first | rfl | (simp [AV.cs, oneB, *]; done) | (simp [AV.cs, oneB, *]; repeat' constructor)) (.s (.c .z)) (.cons rfl rfl rfl (by first | rfl | (simp [AV.cs, oneB, *]; done) | (simp [AV.cs, oneB, *]; repeat' constructor)) (.s (.s (.c .z))) (.cons rfl rfl rfl (by first | rfl | (simp [AV.cs, oneB, *]; done) | (simp [AV.cs, oneB, *]; repeat' constructor)) (.s (.s (.s (.s (.s (.s (.s (.s (.c .z))))))))) .nil)))))) (by repeat (first | exact Wk.refl _ | exact Wk.nil _ | exact All2.nil | refine Wk.tuple ?_ | refine Wk.agg ?_ | refine All2.cons ?_ ?_))) rfl ?_
  refine xl_lit (.cons rfl (.cons rfl .nil)) rfl (by first | (simp [AV.cs]; done) | exact lits (by rfl) | (intro x hx; cases hx with | head => rfl | tail _ h => cases h)) (by rfl) (by decide) rfl ?_
  refine xl_pv (pv_assign rfl) rfl ?_
  refine xl_nil ?_
  refine xq_norm (xe_code ?_)
  refine x_seq ?_
  refine x_region ?_
  refine xl_pv (pv_build (by exact (.cons rfl rfl rfl (by first | rfl | (simp [AV.cs, oneB, *]; done) | (simp [AV.cs, oneB, *]; repeat' constructor)) (.c .z) .nil))) rfl ?_
  refine xl_pv (pv_move rfl) rfl ?_
  refine xl_go (num_c n) rfl (.cons rfl (Wk.refl _) .nil) .d rfl ?_
  refine xl_lit (.cons rfl .nil) rfl (by first | (simp [AV.cs]; done) | exact lits (by rfl) | (intro x hx; cases hx with | head => rfl | tail _ h => cases h)) (by rfl) (by decide) rfl ?_
  refine xl_pv (pv_wk ((pVar n).av) (pv_build (by exact (.cons rfl rfl rfl (by first | rfl | (simp [AV.cs, oneB, *]; done) | (simp [AV.cs, oneB, *]; repeat' constructor)) (.c .z) (.cons rfl rfl rfl (by first | rfl | (simp [AV.cs, oneB, *]; done) | (simp [AV.cs, oneB, *]; repeat' constructor)) (.s (.c .z)) (.cons rfl rfl rfl (by first | rfl | (simp [AV.cs, oneB, *]; done) | (simp [AV.cs, oneB, *]; repeat' constructor)) (.s (.s (.c .z))) (.cons rfl rfl rfl (by first | rfl | (simp [AV.cs, oneB, *]; done) | (simp [AV.cs, oneB, *]; repeat' constructor)) (.s (.s (.s (.s (.s (.c (.c (.c .z)))))))) (.cons rfl rfl rfl (by first | rfl | (simp [AV.cs, oneB, *]; done) | (simp [AV.cs, oneB, *]; repeat' constructor)) (.s (.s (.s (.s (.s (.s (.s (.s (.c .z))))))))) .nil))))))) (by repeat (first | exact Wk.refl _ | exact Wk.nil _ | exact All2.nil | refine Wk.tuple ?_ | refine Wk.agg ?_ | refine All2.cons ?_ ?_))) rfl ?_
  refine xl_go (name_c bx) rfl (.cons rfl (Wk.refl _) .nil) .d rfl ?_
  refine xl_go (num_c 0) rfl (.cons rfl (Wk.refl _) .nil) .d rfl ?_
  refine xl_go (bin_c _ (.mk 3 0 bx e0 e0 []) (.mk 1 0 e0 e0 e0 [])) rfl (.cons rfl (Wk.refl _) (.cons rfl (Wk.refl _) (.cons rfl (Wk.refl _) .nil))) .d rfl ?_
  refine xl_lit (.cons rfl .nil) rfl (by first | (simp [AV.cs]; done) | exact lits (by rfl) | (intro x hx; cases hx with | head => rfl | tail _ h => cases h)) (by rfl) (by decide) rfl ?_
  refine xl_pv (pv_move rfl) rfl ?_
  refine xl_pv (pv_wk (pFor.av) (pv_build (by exact (.cons rfl rfl rfl (by first | rfl | (simp [AV.cs, oneB, *]; done) | (simp [AV.cs, oneB, *]; repeat' constructor)) (.c .z) (.cons rfl rfl rfl (by first | rfl | (simp [AV.cs, oneB, *]; done) | (simp [AV.cs, oneB, *]; repeat' constructor)) (.s (.c .z)) (.cons rfl rfl rfl (by first | rfl | (simp [AV.cs, oneB, *]; done) | (simp [AV.cs, oneB, *]; repeat' constructor)) (.s (.s (.s (.s (.s (.s (.s (.s (.c .z))))))))) (.cons rfl rfl rfl (by first | rfl | (simp [AV.cs, oneB, *]; done) | (simp [AV.cs, oneB, *]; repeat' constructor)) (.s (.s (.s (.s (.s (.s (.s (.s (.s (.c .z)))))))))) .nil)))))) (by repeat (first | exact Wk.refl _ | exact Wk.nil _ | exact All2.nil | refine Wk.tuple ?_ | refine Wk.agg ?_ | refine All2.cons ?_ ?_))) rfl ?_
  refine xl_lit (.cons rfl (.cons rfl .nil)) rfl (by first | (simp [AV.cs]; done) | exact lits (by rfl) | (intro x hx; cases hx with | head => rfl | tail _ h => cases h)) (by rfl) (by decide) rfl ?_
  refine xl_pv (pv_assign rfl) rfl ?_
  refine xl_nil ?_
  refine xq_norm (xe_code ?_)
  refine x_seq ?_
  refine x_region ?_
  refine xl_pv (pv_move rfl) rfl ?_
  refine xl_pv (pv_wk ((CDecl.mk mainB 1 [] ty0 [pVar n, pFor]).av) (pv_build (by exact (.cons rfl rfl rfl (by first | rfl | (simp [AV.cs, oneB, *]; done) | (simp [AV.cs, oneB, *]; repeat' constructor)) (.c .z) (.cons rfl rfl rfl (by first | rfl | (simp [AV.cs, oneB, *]; done) | (simp [AV.cs, oneB, *]; repeat' constructor)) (.s (.c .z)) (.cons rfl rfl rfl (by first | rfl | (simp [AV.cs, oneB, *]; done) | (simp [AV.cs, oneB, *]; repeat' constructor)) (.s (.s (.s (.s (.s (.s (.c .z))))))) .nil))))) (by repeat (first | exact Wk.refl _ | exact Wk.nil _ | exact All2.nil | refine Wk.tuple ?_ | refine Wk.agg ?_ | refine All2.cons ?_ ?_))) rfl ?_
  refine xl_lit (.cons rfl .nil) rfl (by first | (simp [AV.cs]; done) | exact lits (by rfl) | (intro x hx; cases hx with | head => rfl | tail _ h => cases h)) (by rfl) (by decide) rfl ?_
  refine xl_pv (pv_wk (.agg (pPlain n).cs) (pv_build (by exact (.cons rfl rfl rfl (by first | rfl | (simp [AV.cs, oneB, *]; done) | (simp [AV.cs, oneB, *]; repeat' constructor)) (.s (.c .z)) .nil))) (by repeat (first | exact Wk.refl _ | exact Wk.nil _ | exact All2.nil | refine Wk.tuple ?_ | refine Wk.agg ?_ | refine All2.cons ?_ ?_))) rfl ?_
  refine xl_put .h rfl rfl (by first | rfl | (simp [AV.cs, oneB, *]; done) | (simp [AV.cs, oneB, *]; repeat' constructor)) rfl (.c (.c .z)) ?_
  refine xl_nil ?_
  refine xq_norm (xe_code ?_)
  refine x_ret ?_
  refine xq_done' (.inr rfl) _ (resC rfl (cr_N rfl .here rfl)) (drop_one .here drop_nil) ?_
  exact ⟨rfl, rfl⟩
end Go.Proofs.Ytmallgapchjhnaa
