/- CheckFlow: its tower, what the checker says of it, the walk. Conditions: none but that its second argument is a byte. -/
import Derived.Test.YtmallgapchjhnaaK24
set_option linter.unusedVariables false
set_option linter.unusedSimpArgs false
namespace Go.Proofs.Ytmallgapchjhnaa
set_option maxRecDepth 100000
open Go Go.Ax

def one1 : CExp := .mk 1 1 e0 e0 e0 []
def yes1 : CExp := .mk 2 1 e0 e0 e0 []
def wayB (ways : List Bool) (k : Nat) : Bool := (ways[k]?).getD false
def towF (ways : List Bool) : Nat → Nat → List CStmt
  | 0, k => if wayB ways k = true then [.mk 10 0 e0 e0 e0 ty0 [one1] [] []] else [.mk 8 0 e0 e0 e0 ty0 [one1] [] []]
  | d + 1, k => [.mk 6 0 e0 e0 e0 ty0 [yes1] (towF ways d k) (towF ways d (k + 2 ^ d))]
def towA (ways : List Bool) : Nat → Nat → Bool
  | 0, k => wayB ways k
  | d + 1, k => towA ways d k && towA ways d (k + 2 ^ d)
theorem tow_one (ways : List Bool) : ∀ d k, ∃ s, towF ways d k = [s]
  | 0, k => by rw [towF]; split <;> exact ⟨_, rfl⟩
  | d + 1, k => ⟨_, rfl⟩
theorem tow_ret (ways : List Bool) : ∀ d k, retL (towF ways d k) = towA ways d k
  | 0, k => by
    rw [towF, towA]
    split
    · rename_i h; rw [h]; simp [retL, retS]
    · rename_i h; simp [retL, retS, h]
  | d + 1, k => by
    rw [towF, towA]
    simp [retL, retS, tow_ret ways d]
theorem tow_sz (ways : List Bool) : ∀ d k, CStmt.szs (towF ways d k) ≤ 4 * 2 ^ d - 2
  | 0, k => by rw [towF]; split <;> decide
  | d + 1, k => by
    have h1 := tow_sz ways d k
    have h2 := tow_sz ways d (k + 2 ^ d)
    have h3 : CStmt.szs (towF ways (d + 1) k) = 1 + 1 + CStmt.szs (towF ways d k) + CStmt.szs (towF ways d (k + 2 ^ d)) := by
      rw [towF]
      simp [CStmt.szs, CStmt.sz, CExp.szs, CExp.sz, yes1]
    have h4 : 1 ≤ 2 ^ d := Nat.one_le_two_pow
    rw [h3, Nat.pow_succ]
    omega
theorem tow_go (P : CProg) {d0 : CDecl} (hd : P.funcs[1]? = some d0) (h1 : d0.result.kind = 1) (ways : List Bool) : ∀ d k st, ∃ acts pts, goF P 1 (towF ways d k) st = .ok acts ⟨st.points ++ pts, st.vars, st.scope⟩ ∧ pts.length ≤ 2 * 2 ^ d - 1
  | 0, k, st => by
    rw [towF]
    split
    · refine ⟨[.mk 10 st.points.length (-1) 0 (-1) [.mk 1 0 0 1 []] [] []], [⟨1, 0, st.scope⟩], ?_, by simp⟩
      simp [goF, stmtF, simpleF, hd, h1, expsF, expF, one1, valsF]
    · refine ⟨[.mk 8 st.points.length (-1) 0 (-1) [.mk 1 0 0 1 []] [] []], [⟨1, 0, st.scope⟩], ?_, by simp⟩
      simp [goF, stmtF, simpleF, expsF, expF, one1, valsF]
  | d + 1, k, st => by
    obtain ⟨a1, p1, g1, l1⟩ := tow_go P hd h1 ways d k ⟨st.points ++ [⟨1, 0, st.scope⟩], st.vars, st.scope⟩
    obtain ⟨a2, p2, g2, l2⟩ := tow_go P hd h1 ways d (k + 2 ^ d) ⟨st.points ++ [⟨1, 0, st.scope⟩] ++ p1, st.vars, st.scope⟩
    have h4 : 1 ≤ 2 ^ d := Nat.one_le_two_pow
    refine ⟨[.mk 6 st.points.length (-1) 0 (-1) [.mk 1 0 0 1 []] a1 a2], [⟨1, 0, st.scope⟩] ++ p1 ++ p2, ?_, by simp [Nat.pow_succ]; omega⟩
    rw [towF, goF, stmtF]
    simp only [yes1, expsF, expF, valsF]
    simp [g1, cut]
    simp at g2
    simp [g2, goF]
def fB : ByteArray := ⟨#[102]⟩
def pFlow (ways : List Bool) (d : Nat) : CProg := ⟨[], [⟨mainB, 1, [], ty0, [pVar 1, pFor]⟩, ⟨fB, 9, [], tyI, towF ways d 0⟩]⟩
theorem flow_says (ways : List Bool) (d : Nat) (hd : d ≤ 4) : (towA ways d 0 = true → (programF (pFlow ways d)).2.2 = 0) ∧ (towA ways d 0 = false → programF (pFlow ways d) = (noTree, 1, 10)) := by
  obtain ⟨a, b, ha, hb⟩ := go2 (pFlow ways d)
  have hg : goF (pFlow ways d) 0 [pVar 1, pFor] ⟨[], [], []⟩ = .ok [a, b] st0 := by
    rw [goF, ha]
    simp only
    rw [goF, hb]
    rfl
  have hf0 : funF (pFlow ways d) mainB = 0 := by simp [funF, pFlow, idxF]
  have hf1 : funF (pFlow ways d) fB = 1 := by
    have : mainB ≠ fB := by decide
    simp [funF, pFlow, idxF, this]
  have e1 : scopeN 0 = [] := rfl
  have b0 : bodyF (pFlow ways d) 0 ⟨mainB, 1, [], ty0, [pVar 1, pFor]⟩ [] = .ok (⟨mainB, 0, false, [⟨bx, tyI, 1, []⟩], [a, b]⟩, st0.points) := by
    simp [bodyF, hf0, parF, fine0, ty0, knownB, listF, hg, e1, cut, st0]
  obtain ⟨acts, pts, hgo, hl⟩ := tow_go (pFlow ways d) (d0 := ⟨fB, 9, [], tyI, towF ways d 0⟩) rfl rfl ways d 0 ⟨st0.points, [], []⟩
  have hp : 2 ^ d ≤ 2 ^ 4 := Nat.pow_le_pow_right (by omega) hd
  have b1 : bodyF (pFlow ways d) 1 ⟨fB, 9, [], tyI, towF ways d 0⟩ st0.points = if towA ways d 0 = false then .error 10 else .ok (⟨fB, 0, true, [], acts⟩, st0.points ++ pts) := by
    simp [bodyF, hf1, parF, fine0, tyI, knownB, listF, hgo, e1, cut, tow_ret, scB]
  have e2 : (pFlow ways d).funcs = [⟨mainB, 1, [], ty0, [pVar 1, pFor]⟩, ⟨fB, 9, [], tyI, towF ways d 0⟩] := rfl
  have e3 : (pFlow ways d).structs = [] := rfl
  have hfn : fnsF (pFlow ways d) (pFlow ways d).funcs 0 [] [] = if towA ways d 0 = false then .error (1, 10) else .ok ([⟨mainB, 0, false, [⟨bx, tyI, 1, []⟩], [a, b]⟩, ⟨fB, 0, true, [], acts⟩], st0.points ++ pts) := by
    rw [e2, fnsF, b0]
    simp only
    rw [fnsF, b1]
    cases towA ways d 0 <;> simp [fnsF, e3]
  refine ⟨fun h => ?_, fun h => ?_⟩
  · rw [if_neg (by rw [h]; simp)] at hfn
    have hw : wholeF (pFlow ways d) = .ok ⟨[⟨mainB, 0, false, [⟨bx, tyI, 1, []⟩], [a, b]⟩, ⟨fB, 0, true, [], acts⟩], 0, st0.points ++ pts⟩ := by
      simp [wholeF, e3, stsF, hfn, hf0]
      simp [e2, ty0]
    have hlen : ¬ 1000 < (st0.points ++ pts).length := by simp [st0]; omega
    simp only [programF, hw]
    rw [if_neg]
    rw [e2]
    simp [hlen]
    simpa using hlen
  · rw [if_pos h] at hfn
    have hw : wholeF (pFlow ways d) = .error (1, 10) := by simp [wholeF, e3, stsF, hfn]
    simp [programF, hw]
end Go.Proofs.Ytmallgapchjhnaa
