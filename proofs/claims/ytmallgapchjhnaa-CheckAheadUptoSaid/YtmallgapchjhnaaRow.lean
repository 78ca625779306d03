/- From what a law's function is told to do to the row's walk. No condition: plain theorems. -/
import Derived.Test.YtmallgapchjhnaaAx4
import Derived.Below
set_option linter.unusedVariables false
namespace Go.Ax
open Go Go.RowKit

/-- All cells that are there, as cells that nobody writes. -/
def AllI (w : World) : Nat → Nat → Prop := fun b o => ∃ v, w.cell? ⟨b, o, none⟩ = some v
theorem rel_all (w : World) : Rel (AllI w) w [] := ⟨fun _ h => (by cases h), .nil, fun _ h => (by cases h), fun _ _ h => h⟩
theorem ac_row {P : Program} {f : FuncId} {args : List AV} {vs : List Value} {w : World} {b : Bool} (hc : AC P f args [] (fun e σ => e = .ret (.val (.bool b)) ∧ σ = [])) (ha : All2 (VR (AllI w) w) args vs) :
    Calls P f vs.toArray w fun e w' => e = .returned (.bool b) ∧ Below w.heap.size w w' := by
  refine (hc (AllI w) w vs (rel_all w) ha).mono ?_
  rintro e w' ⟨I', σ', ae, hg, he, rfl, rfl⟩
  cases he with
  | ret h =>
    rw [h.val_inv]
    exact ⟨rfl, hg.os, hg.tape, hg.output, hg.size, fun k hk => hg.old k hk (by rintro ⟨c, hc, _⟩; cases hc)⟩
end Go.Ax
