/- The laws' program that counts down. No condition: plain theorems. -/
import Derived.Test.YtmallgapchjhnaaK19
set_option linter.unusedVariables false
set_option linter.unusedSimpArgs false
namespace Go.Proofs.Ytmallgapchjhnaa
set_option maxRecDepth 100000
open Go Go.Ax
attribute [local irreducible] X XL XE XQ PV

structure VP where
  f : Value
  l : Value
  k : Value
  hf : f.oneCell' = true
  hl : l.oneCell' = true
  hk : k.oneCell' = true
def ty0 : CTy := ⟨0, 0, e0⟩
def tyI : CTy := ⟨1, 0, e0⟩
def bx : ByteArray := ⟨#[120]⟩
def pCond : CExp := .mk 7 0 e0 e0 ⟨#[62]⟩ [.mk 3 0 bx e0 e0 [], .mk 1 0 e0 e0 e0 []]
def pIn : List CStmt := [.mk 8 3 e0 e0 e0 ty0 [.mk 3 0 bx e0 e0 []] [] [], .mk 2 4 bx e0 e0 ty0 [.mk 7 0 e0 e0 ⟨#[45]⟩ [.mk 3 0 bx e0 e0 [], .mk 1 1 e0 e0 e0 []]] [] []]
def pVar (n : Int) : CStmt := .mk 1 1 bx e0 e0 tyI [.mk 1 n e0 e0 e0 []] [] []
/-- The for statement, with its condition in a row of its own. -/
def pForAV (k : Value) : AV := .agg [kv 7, iv 2, sv e0, sv e0, sv e0, kv 0, iv 0, sv e0, .val k, .list 11 (pIn.map CStmt.av), .list 11 []]
def pDeclAV (l : Value) : AV := .agg [sv mainB, iv 1, .list 4 [], kv 0, iv 0, sv e0, .val l]
def memP (n : Int) (q : VP) : List Ck := [.vec q.f 53 7 [pDeclAV q.l], .vec q.l 73 11 [(pVar n).av, pForAV q.k], .vec q.k 71 6 [pCond.av]]
theorem plain_c (n : Int) : AC Try.prog 21 [iv n] [] (RetE (T := VP) (fun q => .agg [.list 2 [], .val q.f]) (memP n)) := by
  refine ac_intro Try.func21 rfl rfl fun I w => ?_
  simp only [argEnv]
  refine x_seq ?_
  refine x_region ?_
  refine xl_alloc rfl (fun b2 => ?_)
  refine xl_nil ?_
  refine xq_norm (xe_code ?_)
  refine x_seq ?_
  refine x_region ?_
  refine xl_go (name_c bx) rfl (.cons rfl (Wk.refl _) .nil) .d rfl ?_
  refine xl_lit (.cons rfl .nil) rfl (by first | (simp [AV.cs]; done) | exact lits (by rfl) | (intro x hx; cases hx with | head => rfl | tail _ h => cases h)) (by rfl) (by decide) rfl ?_
  refine xl_pv (pv_wk ((CStmt.mk 8 3 e0 e0 e0 ty0 [CExp.mk 3 0 bx e0 e0 []] [] []).av) (pv_build (by exact (.cons rfl rfl rfl (by first | rfl | (simp [AV.cs, oneB, *]; done) | (simp [AV.cs, oneB, *]; repeat' constructor)) (.c .z) (.cons rfl rfl rfl (by first | rfl | (simp [AV.cs, oneB, *]; done) | (simp [AV.cs, oneB, *]; repeat' constructor)) (.s (.c .z)) (.cons rfl rfl rfl (by first | rfl | (simp [AV.cs, oneB, *]; done) | (simp [AV.cs, oneB, *]; repeat' constructor)) (.s (.s (.s (.s (.s (.s (.s (.s (.c .z))))))))) .nil))))) (by repeat (first | exact Wk.refl _ | exact Wk.nil _ | exact All2.nil | refine Wk.tuple ?_ | refine Wk.agg ?_ | refine All2.cons ?_ ?_))) rfl ?_
  refine xl_go (name_c bx) rfl (.cons rfl (Wk.refl _) .nil) .d rfl ?_
  refine xl_go (num_c 1) rfl (.cons rfl (Wk.refl _) .nil) .d rfl ?_
  refine xl_go (bin_c _ (.mk 3 0 bx e0 e0 []) (.mk 1 1 e0 e0 e0 [])) rfl (.cons rfl (Wk.refl _) (.cons rfl (Wk.refl _) (.cons rfl (Wk.refl _) .nil))) .d rfl ?_
  refine xl_lit (.cons rfl .nil) rfl (by first | (simp [AV.cs]; done) | exact lits (by rfl) | (intro x hx; cases hx with | head => rfl | tail _ h => cases h)) (by rfl) (by decide) rfl ?_
  refine xl_pv (pv_wk ((CStmt.mk 2 4 bx e0 e0 ty0 [.mk 7 0 e0 e0 ⟨#[45]⟩ [.mk 3 0 bx e0 e0 [], .mk 1 1 e0 e0 e0 []]] [] []).av) (pv_build (by exact (.cons rfl rfl rfl (by first | rfl | (simp [AV.cs, oneB, *]; done) | (simp [AV.cs, oneB, *]; repeat' constructor)) (.c .z) (.cons rfl rfl rfl (by first | rfl | (simp [AV.cs, oneB, *]; done) | (simp [AV.cs, oneB, *]; repeat' constructor)) (.s (.c .z)) (.cons rfl rfl rfl (by first | rfl | (simp [AV.cs, oneB, *]; done) | (simp [AV.cs, oneB, *]; repeat' constructor)) (.s (.s (.c .z))) (.cons rfl rfl rfl (by first | rfl | (simp [AV.cs, oneB, *]; done) | (simp [AV.cs, oneB, *]; repeat' constructor)) (.s (.s (.s (.s (.s (.s (.s (.s (.c .z))))))))) .nil)))))) (by repeat (first | exact Wk.refl _ | exact Wk.nil _ | exact All2.nil | refine Wk.tuple ?_ | refine Wk.agg ?_ | refine All2.cons ?_ ?_))) rfl ?_
  refine xl_lit (.cons rfl (.cons rfl .nil)) rfl (by first | (simp [AV.cs]; done) | exact lits (by rfl) | (intro x hx; cases hx with | head => rfl | tail _ h => cases h)) (by rfl) (by decide) rfl ?_
  refine xl_pv (pv_assign rfl) rfl ?_
  refine xl_nil ?_
  refine xq_norm (xe_code ?_)
  refine x_seq ?_
  refine x_region ?_
  refine xl_pv (pv_build (by exact (.cons rfl rfl rfl (by first | rfl | (simp [AV.cs, oneB, *]; done) | (simp [AV.cs, oneB, *]; repeat' constructor)) (.c .z) .nil))) rfl ?_
  refine xl_pv (pv_move rfl) rfl ?_
  refine xl_go (num_c n) rfl (.cons rfl (Wk.refl _) .nil) .d rfl ?_
  refine xl_lit (.cons rfl .nil) rfl (by first | (simp [AV.cs]; done) | exact lits (by rfl) | (intro x hx; cases hx with | head => rfl | tail _ h => cases h)) (by rfl) (by decide) rfl ?_
  refine xl_pv (pv_wk ((pVar n).av) (pv_build (by exact (.cons rfl rfl rfl (by first | rfl | (simp [AV.cs, oneB, *]; done) | (simp [AV.cs, oneB, *]; repeat' constructor)) (.c .z) (.cons rfl rfl rfl (by first | rfl | (simp [AV.cs, oneB, *]; done) | (simp [AV.cs, oneB, *]; repeat' constructor)) (.s (.c .z)) (.cons rfl rfl rfl (by first | rfl | (simp [AV.cs, oneB, *]; done) | (simp [AV.cs, oneB, *]; repeat' constructor)) (.s (.s (.c .z))) (.cons rfl rfl rfl (by first | rfl | (simp [AV.cs, oneB, *]; done) | (simp [AV.cs, oneB, *]; repeat' constructor)) (.s (.s (.s (.s (.s (.c (.c (.c .z)))))))) (.cons rfl rfl rfl (by first | rfl | (simp [AV.cs, oneB, *]; done) | (simp [AV.cs, oneB, *]; repeat' constructor)) (.s (.s (.s (.s (.s (.s (.s (.s (.c .z))))))))) .nil))))))) (by repeat (first | exact Wk.refl _ | exact Wk.nil _ | exact All2.nil | refine Wk.tuple ?_ | refine Wk.agg ?_ | refine All2.cons ?_ ?_))) rfl ?_
  refine xl_go (name_c bx) rfl (.cons rfl (Wk.refl _) .nil) .d rfl ?_
  refine xl_go (num_c 0) rfl (.cons rfl (Wk.refl _) .nil) .d rfl ?_
  refine xl_go (bin_c _ (.mk 3 0 bx e0 e0 []) (.mk 1 0 e0 e0 e0 [])) rfl (.cons rfl (Wk.refl _) (.cons rfl (Wk.refl _) (.cons rfl (Wk.refl _) .nil))) .d rfl ?_
  refine xl_litv (.cons rfl .nil) rfl (by first | (simp [AV.cs]; done) | exact lits (by rfl) | (intro x hx; cases hx with | head => rfl | tail _ h => cases h)) (by first | rfl | (simp [flat, AV.cs, oneB, *]; done) | (simp [flat, AV.cs, oneB, *]; repeat' constructor)) (by decide) rfl (fun v22 hv22 => ?_)
  refine xl_pv (pv_move rfl) rfl ?_
  refine xl_pv (pv_wk (pForAV v22) (pv_build (by exact (.cons rfl rfl rfl (by first | rfl | (simp [AV.cs, oneB, *]; done) | (simp [AV.cs, oneB, *]; repeat' constructor)) (.c .z) (.cons rfl rfl rfl (by first | rfl | (simp [AV.cs, oneB, *]; done) | (simp [AV.cs, oneB, *]; repeat' constructor)) (.s (.c .z)) (.cons rfl rfl rfl (by first | rfl | (simp [AV.cs, oneB, *]; done) | (simp [AV.cs, oneB, *]; repeat' constructor)) (.s (.s (.s (.s (.s (.s (.s (.s (.c .z))))))))) (.cons rfl rfl rfl (by first | rfl | (simp [AV.cs, oneB, *]; done) | (simp [AV.cs, oneB, *]; repeat' constructor)) (.s (.s (.s (.s (.s (.s (.s (.s (.s (.c .z)))))))))) .nil)))))) (by repeat (first | exact Wk.refl _ | exact Wk.nil _ | exact All2.nil | refine Wk.tuple ?_ | refine Wk.agg ?_ | refine All2.cons ?_ ?_))) rfl ?_
  refine xl_litv (.cons rfl (.cons rfl .nil)) rfl (by first | (simp [AV.cs]; done) | exact lits (by rfl) | (intro x hx; cases hx with | head => rfl | tail _ h => cases h)) (by simp [flat, AV.cs, pVar, CStmt.av, pForAV, oneB, hv22]; repeat' constructor) (by decide) rfl (fun v25 hv25 => ?_)
  refine xl_pv (pv_assign rfl) rfl ?_
  refine xl_nil ?_
  refine xq_norm (xe_code ?_)
  refine x_seq ?_
  refine x_region ?_
  refine xl_pv (pv_move rfl) rfl ?_
  refine xl_pv (pv_wk (pDeclAV v25) (pv_build (by exact (.cons rfl rfl rfl (by first | rfl | (simp [AV.cs, oneB, *]; done) | (simp [AV.cs, oneB, *]; repeat' constructor)) (.c .z) (.cons rfl rfl rfl (by first | rfl | (simp [AV.cs, oneB, *]; done) | (simp [AV.cs, oneB, *]; repeat' constructor)) (.s (.c .z)) (.cons rfl rfl rfl (by first | rfl | (simp [AV.cs, oneB, *]; done) | (simp [AV.cs, oneB, *]; repeat' constructor)) (.s (.s (.s (.s (.s (.s (.c .z))))))) .nil))))) (by repeat (first | exact Wk.refl _ | exact Wk.nil _ | exact All2.nil | refine Wk.tuple ?_ | refine Wk.agg ?_ | refine All2.cons ?_ ?_))) rfl ?_
  refine xl_litv (.cons rfl .nil) rfl (by first | (simp [AV.cs]; done) | exact lits (by rfl) | (intro x hx; cases hx with | head => rfl | tail _ h => cases h)) (by simp [flat, AV.cs, pDeclAV, oneB, hv25]; repeat' constructor) (by decide) rfl (fun v28 hv28 => ?_)
  refine xl_pv (pv_wk (.agg [.list 2 [], .val v28]) (pv_build (by exact (.cons rfl rfl rfl (by first | rfl | (simp [AV.cs, oneB, *]; done) | (simp [AV.cs, oneB, *]; repeat' constructor)) (.s (.c .z)) .nil))) (by repeat (first | exact Wk.refl _ | exact Wk.nil _ | exact All2.nil | refine Wk.tuple ?_ | refine Wk.agg ?_ | refine All2.cons ?_ ?_))) rfl ?_
  refine xl_put (.t (.t (.t .h))) rfl rfl (by first | rfl | (simp [AV.cs, oneB, *]; done) | (simp [AV.cs, oneB, *]; repeat' constructor)) rfl (.c (.c .z)) ?_
  refine xl_nil ?_
  refine xq_norm (xe_code ?_)
  refine x_ret ?_
  refine xq_done' (.inr rfl) _ (resC rfl (cr_N rfl (.there (.there (.there .here))) rfl)) (drop_one (.there (.there (.there .here))) drop_nil) ?_
  exact ⟨⟨v28, v25, v22, hv28, hv25, hv22⟩, rfl, rfl⟩
end Go.Proofs.Ytmallgapchjhnaa
