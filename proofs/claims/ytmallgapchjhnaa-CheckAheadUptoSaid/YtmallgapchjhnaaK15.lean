/- The checker's whole: the closure that recovers. No condition: plain theorems. -/
import Derived.Test.YtmallgapchjhnaaK14
import Derived.Tactics
import Derived.Tactics2
import Derived.Defers
import Derived.Recover
import Derived.Laws.Pointers
set_option linter.unusedVariables false
set_option linter.unusedSimpArgs false
namespace Go.Proofs.Ytmallgapchjhnaa
set_option maxRecDepth 100000
open Go Go.Ax

theorem u134 : Try.prog.underlying 134 = some (.int .i64) := by kernel_rfl
theorem u20 : Try.prog.underlying 20 = some (.interface #[]) := by kernel_rfl
theorem ta_nil (w : World) : (Instr.typeAssert .nilIface 20 134 true).run Try.prog w = .ok (.tuple #[.int .i64 0, .bool false]) w := by kernel_rfl
theorem ta_hit (v : Value) (w : World) : (Instr.typeAssert (.iface 134 v) 20 134 true).run Try.prog w = .ok (.tuple #[v, .bool true]) w := by
  simp [Instr.typeAssert, run_underlying u134]
theorem ne_nil (w : World) : (binOp .neq 20 .nilIface .nilIface).run Try.prog w = .ok (.bool false) w := by kernel_rfl
theorem whole1_idle (p : Addr) (w : World) :
    CallsD Try.prog 50 #[.pointer (some p)] .returning w fun e u' w' => e = .returned (.tuple #[]) ∧ u' = .returning ∧ w' = w := by
  refine callsD_of_wpS Try.func50 rfl fun c₀ cs hu => ?_
  apply wpS_seq
  apply wpS_region
  simp [wpOpsS, go_sem, recoverD, hu, Exit.thenS]
  apply wpS_seq
  apply wpS_region
  simp [wpOpsS, go_sem, recoverD, hu, Exit.thenS, ta_nil]
  apply wpS_seq
  apply wpS_region
  simp [wpOpsS, go_sem, recoverD, hu, Exit.thenS]
  refine wpS_cond (t := false) (by simp [Act.eval, Array.replicate]) ?_
  simp only [Bool.false_eq_true, if_false]
  apply wpS_seq
  apply wpS_region
  simp [wpOpsS, go_sem, recoverD, hu, Exit.thenS, ne_nil, eqGuard]
  refine wpS_cond (t := false) (by simp [Act.eval, Array.replicate]) ?_
  simp only [Bool.false_eq_true, if_false]
  refine wpS_of_wp (wp_skip ?_)
  cases c₀
  simp_all [bodyPostS, results]
theorem whole1_panic (b : Nat) (T : TypeId) (n : Int) (w : World) (u : Value) (hc : w.heap[b]? = some (.cells #[u] T (0, 0))) :
    CallsD Try.prog 50 #[.pointer (some ⟨b, 0, none⟩)] (.panicking [{ v := .iface 134 (.int .i64 n), recovered := false }]) w fun e u' w' => e = .returned (.tuple #[]) ∧ u' = .panicking [{ v := .iface 134 (.int .i64 n), recovered := true }] ∧ w' = w.setCell ⟨b, 0, none⟩ (.int .i64 n) := by
  have hcell : w.cell? ⟨b, 0, none⟩ = some u := by rw [cell_of_row w b 0 #[u] T (0, 0) hc]; rfl
  have hfz : w.frozen? ⟨b, 0, none⟩ = false := by simp [World.frozen?, hc]
  refine callsD_of_wpS Try.func50 rfl fun c₀ cs hu => ?_
  apply wpS_seq
  apply wpS_region
  simp [wpOpsS, go_sem, recoverD, hu, Exit.thenS]
  apply wpS_seq
  apply wpS_region
  simp [wpOpsS, go_sem, recoverD, hu, Exit.thenS, ta_hit]
  apply wpS_seq
  apply wpS_region
  simp [wpOpsS, go_sem, recoverD, hu, Exit.thenS]
  refine wpS_cond (t := true) (by simp [Act.eval, Array.replicate]) ?_
  simp only [if_true]
  apply wpS_region
  simp [wpOpsS, go_sem, hcell, hfz, bodyPostS, results]
end Go.Proofs.Ytmallgapchjhnaa
