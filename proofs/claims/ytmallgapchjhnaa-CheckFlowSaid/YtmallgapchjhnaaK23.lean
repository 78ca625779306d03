/- CheckMany's programs: what the plain function says of them. No condition: plain theorems. -/
import Derived.Test.YtmallgapchjhnaaK22
import Derived.Test.YtmallgapchjhnaaAx16
set_option linter.unusedVariables false
set_option linter.unusedSimpArgs false
namespace Go.Proofs.Ytmallgapchjhnaa
set_option maxRecDepth 100000
open Go Go.Ax

def twoL (c : UInt8) (i : Int) : ByteArray := ⟨#[c]⟩ ++ strOfNums [IntKind.u8.wrap (97 + IntKind.u8.wrap (IntKind.i64.wrap (i.tdiv 26))), IntKind.u8.wrap (97 + IntKind.u8.wrap (i.tmod 26))]
def vSt (i : Nat) : CStmt := .mk 1 0 (twoL 118 i) e0 e0 ⟨2, 0, e0⟩ [.mk 2 0 e0 e0 e0 []] [] []
def fDe (i : Nat) : CDecl := ⟨twoL 102 i, 0, [], ty0, []⟩
def rSt : CStmt := .mk 10 0 e0 e0 e0 ty0 [] [] []
def pVars (k : Nat) : CProg := pProg (pVar 1 :: pFor :: (List.range k).map vSt)
def pFuncs (k : Nat) : CProg := ⟨[], ⟨mainB, 1, [], ty0, [pVar 1, pFor]⟩ :: (List.range k).map fDe⟩
def pRets (k : Nat) : CProg := pProg (pVar 1 :: pFor :: List.replicate k rSt)
theorem v63 : (programF (pVars 63)).2.2 = 0 := by kernel_rfl
theorem v64 : programF (pVars 64) = (noTree, 0, 11) := by kernel_rfl
theorem f63 : (programF (pFuncs 63)).2.2 = 0 := by kernel_rfl
theorem f64 : programF (pFuncs 64) = (noTree, 0, 11) := by kernel_rfl
/-! A list of returns. -/
def retA (p : Int) : CAct := .mk 10 p (-1) 0 (-1) [] [] []
def retAs : Nat → Nat → List CAct
  | 0, _ => []
  | n + 1, p => retA p :: retAs n (p + 1)
theorem goR {P : CProg} {fn : Int} {d : CDecl} (hd : P.funcs[fn.toNat]? = some d) (h0 : d.result.kind = 0) : ∀ (n : Nat) (st : CSt),
    goF P fn (List.replicate n rSt) st = .ok (retAs n st.points.length) ⟨st.points ++ List.replicate n ⟨fn, 0, st.scope⟩, st.vars, st.scope⟩
  | 0, st => by simp [goF, retAs]
  | n + 1, st => by
    have h1 : stmtF P fn rSt st = .ok (retA st.points.length) ⟨st.points ++ [⟨fn, 0, st.scope⟩], st.vars, st.scope⟩ := by
      simp [rSt, stmtF, simpleF, expsF, hd, h0, valsF, retA]
    rw [List.replicate_succ, goF, h1]
    simp only
    rw [goR hd h0 n]
    simp [retAs, List.replicate_succ]
def st0 : CSt := ⟨[⟨0, 1, []⟩, ⟨0, 2, [0]⟩, ⟨0, 3, [0]⟩, ⟨0, 4, [0]⟩], [⟨bx, tyI, 1, []⟩], [0]⟩
theorem go2 (P : CProg) : ∃ a b, stmtF P 0 (pVar 1) ⟨[], [], []⟩ = .ok a ⟨[⟨0, 1, []⟩], [⟨bx, tyI, 1, []⟩], [0]⟩ ∧ stmtF P 0 pFor ⟨[⟨0, 1, []⟩], [⟨bx, tyI, 1, []⟩], [0]⟩ = .ok b st0 := ⟨_, _, by rfl, by rfl⟩
theorem retsT (k : Nat) : ∃ acts, programF (pRets k) = if 1000 < 4 + k then (noTree, 0, 11) else (⟨[⟨mainB, 0, false, [⟨bx, tyI, 1, []⟩], acts⟩], 0, st0.points ++ List.replicate k ⟨0, 0, [0]⟩⟩, 0, 0) := by
  obtain ⟨a, b, ha, hb⟩ := go2 (pRets k)
  have hg : goF (pRets k) 0 (pVar 1 :: pFor :: List.replicate k rSt) ⟨[], [], []⟩ = .ok (a :: b :: retAs k 4) ⟨st0.points ++ List.replicate k ⟨0, 0, [0]⟩, st0.vars, st0.scope⟩ := by
    rw [goF, ha]
    simp only
    rw [goF, hb]
    simp only
    rw [goR (d := ⟨mainB, 1, [], ty0, pVar 1 :: pFor :: List.replicate k rSt⟩) rfl rfl]
    rfl
  refine ⟨a :: b :: retAs k 4, ?_⟩
  have hf : funF (pRets k) mainB = 0 := by simp [funF, pRets, pProg, idxF]
  have hbody : bodyF (pRets k) 0 ⟨mainB, 1, [], ty0, pVar 1 :: pFor :: List.replicate k rSt⟩ [] = .ok (⟨mainB, 0, false, [⟨bx, tyI, 1, []⟩], a :: b :: retAs k 4⟩, st0.points ++ List.replicate k ⟨0, 0, [0]⟩) := by
    have e1 : scopeN 0 = [] := rfl
    simp [bodyF, hf, parF, fine0, ty0, knownB, listF, hg, e1, cut, st0]
  have hw : wholeF (pRets k) = .ok ⟨[⟨mainB, 0, false, [⟨bx, tyI, 1, []⟩], a :: b :: retAs k 4⟩], 0, st0.points ++ List.replicate k ⟨0, 0, [0]⟩⟩ := by
    have e1 : (pRets k).structs = [] := rfl
    have e2 : (pRets k).funcs = [⟨mainB, 1, [], ty0, pVar 1 :: pFor :: List.replicate k rSt⟩] := rfl
    have e3 : fnsF (pRets k) (pRets k).funcs 0 [] [] = .ok ([⟨mainB, 0, false, [⟨bx, tyI, 1, []⟩], a :: b :: retAs k 4⟩], st0.points ++ List.replicate k ⟨0, 0, [0]⟩) := by
      rw [e2, fnsF, hbody]
      rfl
    simp [wholeF, e1, e3, stsF, hf]
    simp [e2, ty0]
  have e2 : (pRets k).funcs = [⟨mainB, 1, [], ty0, pVar 1 :: pFor :: List.replicate k rSt⟩] := rfl
  simp [programF, hw, e2, st0]
  congr 1
  exact propext ⟨fun h => by omega, fun h => by omega⟩
theorem r996 : (programF (pRets 996)).2.2 = 0 := by
  obtain ⟨acts, h⟩ := retsT 996
  rw [h, if_neg (by decide)]
theorem r997 : programF (pRets 997) = (noTree, 0, 11) := by
  obtain ⟨acts, h⟩ := retsT 997
  rw [h, if_pos (by decide)]
end Go.Proofs.Ytmallgapchjhnaa
