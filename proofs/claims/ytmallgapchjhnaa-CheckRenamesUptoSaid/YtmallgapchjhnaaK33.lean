/- What the reading tells of a program, as the walks want it. No condition: plain theorems. -/
import Derived.Test.YtmallgapchjhnaaK31
import Derived.Test.YtmallgapchjhnaaOpK
set_option linter.unusedVariables false
namespace Go.Proofs.Ytmallgapchjhnaa
open Go Go.Ax

theorem okX_E {B M : Nat} (hB : B ≤ M) {x : CExp} (h : OkX B x) : OkE M x := by
  induction h with
  | mk h1 h2 h3 h4 h5 _ ih => exact .mk (Nat.le_trans h3 hB) ih
theorem okY_S {B M : Nat} (hB : B ≤ M) {x : CStmt} (h : OkY B x) : OkS M x := by
  induction h with
  | mk h1 h2 h3 h4 h5 h6 h7 _ _ ih1 ih2 => exact .mk (Nat.le_trans h3 hB) (fun x hx => okX_E hB (h7 x hx)) ih1 ih2
theorem okp_of {B : Nat} {P : CProg} (h : OkPr B P) (hB : B ≤ 1048576) : OkP (2 ^ 40) P := fun d hd => by
  have hM : B ≤ 2 ^ 40 := Nat.le_trans hB (by decide)
  have := h.fn d hd
  exact ⟨fun p hp => Nat.le_trans (this.p p hp).n hM, fun s hs => okY_S hM (this.b s hs)⟩
end Go.Proofs.Ytmallgapchjhnaa
