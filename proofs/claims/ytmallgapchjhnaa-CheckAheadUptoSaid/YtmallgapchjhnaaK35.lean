/- What stands ahead is checked alike whatever stands behind. No condition: plain theorems. -/
import Derived.Test.YtmallgapchjhnaaK34
set_option linter.unusedVariables false
set_option linter.unusedSimpArgs false
namespace Go.Proofs.Ytmallgapchjhnaa
set_option maxRecDepth 100000
open Go Go.Ax

def both (P Q : CProg) : CProg := ⟨P.structs, P.funcs ++ Q.funcs⟩
def NotIn (Q : CProg) (nm : ByteArray) : Prop := ∀ q ∈ Q.funcs, q.name ≠ nm
theorem idx_app {α : Type} {p : α → Bool} : ∀ (l r : List α) (k : Nat), (∀ x ∈ r, p x = false) → idxF p (l ++ r) k = idxF p l k
  | [], [], _, _ => rfl
  | [], x :: r, k, h => by
    have h1 := h x (by simp)
    have h2 := idx_app [] r (k + 1) (fun y hy => h y (by simp [hy]))
    rw [List.nil_append] at h2 ⊢
    show (bif p x then (k : Int) else idxF p r (k + 1)) = -1
    rw [h1]
    exact h2
  | x :: l, r, k, h => by rw [List.cons_append, idxF, idxF, idx_app l r (k + 1) h]
theorem fun_both {P Q : CProg} {nm : ByteArray} (h : NotIn Q nm) : funF (both P Q) nm = funF P nm := by
  unfold funF
  exact idx_app _ _ _ (fun x hx => by simpa using h x hx)
theorem get_both {P Q : CProg} {k : Nat} (h : k < P.funcs.length) : (both P Q).funcs[k]? = P.funcs[k]? := List.getElem?_append_left h
theorem fun_lt {P : CProg} {nm : ByteArray} (h : ¬ funF P nm < 0) : (funF P nm).toNat < P.funcs.length := by
  obtain ⟨i, x, h2, h3, _⟩ := idx_lt (fun d : CDecl => decide (d.name = nm)) P.funcs 0 (by unfold funF at h; omega)
  have h4 := (List.getElem?_eq_some_iff.1 h3).1
  unfold funF
  rw [h2]
  simpa using h4
theorem call_both {P Q : CProg} {vs : List CVar} {sc : List Int} {name call : ByteArray} {r : KR} (h : NotIn Q call) : callF (both P Q) vs sc name call r = callF P vs sc name call r := by
  unfold callF
  rw [fun_both h]
  cases callTo vs sc name with
  | error e => rfl
  | ok k =>
    simp only
    split
    · rfl
    · rename_i hf
      rw [get_both (fun_lt hf)]
theorem variable_both {P Q : CProg} {vs : List CVar} {name : ByteArray} {ty : CTy} {r : KR} : variableF (both P Q) vs name ty r = variableF P vs name ty r := rfl
theorem simple_both {P Q : CProg} {fn : Int} {st : CSt} {p kind : Int} {name field call : ByteArray} {ty : CTy} {r : KR} {st1 : CSt} (h : NotIn Q call) (hf : fn.toNat < P.funcs.length) :
    simpleF (both P Q) fn st p kind name field call ty r st1 = simpleF P fn st p kind name field call ty r st1 := by
  unfold simpleF
  rw [variable_both, call_both h, get_both hf]
def NC (Q : CProg) (s : CStmt) : Prop := ∀ q ∈ Q.funcs, callsS q.name s = false
def NCs (Q : CProg) (l : List CStmt) : Prop := ∀ q ∈ Q.funcs, callsL q.name l = false
mutual
theorem stmt_both {P Q : CProg} {fn : Int} (hf : fn.toNat < P.funcs.length) : ∀ (s : CStmt) (st : CSt), NC Q s → stmtF (both P Q) fn s st = stmtF P fn s st
  | .mk kind line name field call ty kids body els, st, h => by
    have h1 : NotIn Q call := fun q hq e => by
      have := h q hq
      rw [callsS] at this
      simp [e] at this
    have h2 : NCs Q body := fun q hq => by
      have := h q hq
      rw [callsS] at this
      simp at this
      exact this.1.2
    have h3 : NCs Q els := fun q hq => by
      have := h q hq
      rw [callsS] at this
      simp at this
      exact this.2
    rw [stmtF, stmtF, simple_both h1 hf, go_both hf body _ h2]
    split
    · cases valsF (expsF st.vars st.scope kids) [2] with
      | error e => rfl
      | ok l =>
        simp only
        cases goF P fn body ⟨st.points ++ [⟨fn, line, st.scope⟩], st.vars, st.scope⟩ with
        | err e => rfl
        | ok b st2 =>
          simp only
          split
          · rw [go_both hf els _ h3]
          · rfl
    · rfl
theorem go_both {P Q : CProg} {fn : Int} (hf : fn.toNat < P.funcs.length) : ∀ (l : List CStmt) (st : CSt), NCs Q l → goF (both P Q) fn l st = goF P fn l st
  | [], st, _ => by rw [goF, goF]
  | s :: r, st, h => by
    have h1 : NC Q s := fun q hq => by
      have := h q hq
      rw [callsL] at this
      simp at this
      exact this.1
    have h2 : NCs Q r := fun q hq => by
      have := h q hq
      rw [callsL] at this
      simp at this
      exact this.2
    rw [goF, goF, stmt_both hf s st h1]
    cases stmtF P fn s st with
    | err e => rfl
    | ok a st1 =>
      simp only
      rw [go_both hf r st1 h2]
end
theorem list_both {P Q : CProg} {fn : Int} (hf : fn.toNat < P.funcs.length) {l : List CStmt} {st : CSt} (h : NCs Q l) : listF (both P Q) fn l st = listF P fn l st := by
  unfold listF
  rw [go_both hf l st h]
theorem par_both {P Q : CProg} : ∀ (l : List CParam) (names : List ByteArray) (f : Bool), parF (both P Q) l names f = parF P l names f
  | [], _, _ => rfl
  | x :: l, names, f => by
    rw [parF, parF, par_both l]
    rfl
def Apart (P Q : CProg) : Prop := ∀ q ∈ Q.funcs, ∀ p ∈ P.funcs, q.name ≠ p.name ∧ callsL q.name p.body = false
theorem body_both {P Q : CProg} (h : Apart P Q) {i : Nat} {d : CDecl} (hd : d ∈ P.funcs) (hi : i < P.funcs.length) (ps : List CPoint) : bodyF (both P Q) i d ps = bodyF P i d ps := by
  unfold bodyF
  rw [fun_both (fun q hq => (h q hq d hd).1), par_both, list_both (by simpa using hi) (fun q hq => (h q hq d hd).2)]
  rfl
theorem fns_both {P Q : CProg} (h : Apart P Q) : ∀ (l : List CDecl) (i : Nat) (bs : List CBody) (ps : List CPoint) (r : List CDecl), (∀ d ∈ l, d ∈ P.funcs) → i + l.length ≤ P.funcs.length →
    fnsF (both P Q) (l ++ r) i bs ps = match fnsF P l i bs ps with
      | .error e => .error e
      | .ok (bs', ps') => fnsF (both P Q) r (i + l.length) bs' ps'
  | [], i, bs, ps, r, _, _ => by rw [fnsF]; rfl
  | d :: l, i, bs, ps, r, hm, hi => by
    rw [List.length_cons] at hi
    rw [List.cons_append, fnsF, fnsF, body_both h (hm d (by simp)) (by omega)]
    cases bodyF P i d ps with
    | error e => rfl
    | ok x =>
      simp only
      rw [fns_both h l (i + 1) _ _ r (fun y hy => hm y (by simp [hy])) (by omega)]
      rw [List.length_cons, show i + 1 + l.length = i + (l.length + 1) by omega]
theorem fns_pre {P : CProg} : ∀ (l : List CDecl) (i : Nat) (bs : List CBody) (ps : List CPoint) (x : List CBody × List CPoint), fnsF P l i bs ps = .ok x → ∃ r, x.1 = bs ++ r
  | [], i, bs, ps, x, h => by
    rw [fnsF] at h
    cases h
    exact ⟨[], by simp⟩
  | d :: l, i, bs, ps, x, h => by
    rw [fnsF] at h
    split at h
    · cases h
    · rename_i b ps' _
      obtain ⟨r, hr⟩ := fns_pre l _ _ _ _ h
      exact ⟨b :: r, by rw [hr]; simp⟩
theorem sts_both {P Q : CProg} : ∀ (l : List CStruct) (i : Nat), stsF (both P Q) l i = stsF P l i
  | [], _ => rfl
  | s :: l, i => by
    rw [stsF, stsF]
    have : structF (both P Q) i s = structF P i s := rfl
    rw [this]
    cases structF P i s with
    | error e => rfl
    | ok x => exact sts_both l (i + 1)
/-- What is wrong ahead is told, whatever stands behind. -/
theorem whole_bad {P Q : CProg} (h : Apart P Q) {n e : Int} (hw : wholeF P = .error (n, e)) (hn : n < (P.structs.length + P.funcs.length : Nat)) : wholeF (both P Q) = .error (n, e) := by
  unfold wholeF at hw ⊢
  have h1 : (both P Q).structs = P.structs := rfl
  have h2 : (both P Q).funcs = P.funcs ++ Q.funcs := rfl
  rw [h1, sts_both, h2, fns_both h P.funcs 0 [] [] Q.funcs (fun d hd => hd) (by omega)]
  cases hs : stsF P P.structs 0 with
  | error x =>
    rw [hs] at hw
    cases hw
    rfl
  | ok x =>
    rw [hs] at hw
    simp only at hw ⊢
    cases hf : fnsF P P.funcs 0 [] [] with
    | error y =>
      rw [hf] at hw
      cases hw
      rfl
    | ok y =>
      rw [hf] at hw
      simp only at hw
      split at hw
      · cases hw
        omega
      · rename_i hm
        have := fun_lt hm
        rw [List.getElem?_eq_getElem this] at hw
        simp only at hw
        split at hw
        · cases hw
        · cases hw
          omega
theorem whole_pre {P Q : CProg} (h : Apart P Q) {t u : WTree} (hw : wholeF P = .ok t) (hu : wholeF (both P Q) = .ok u) : ∃ r, u.bodies = t.bodies ++ r := by
  unfold wholeF at hw hu
  have h1 : (both P Q).structs = P.structs := rfl
  have h2 : (both P Q).funcs = P.funcs ++ Q.funcs := rfl
  rw [h1, sts_both, h2, fns_both h P.funcs 0 [] [] Q.funcs (fun d hd => hd) (by omega)] at hu
  cases hs : stsF P P.structs 0 with
  | error x =>
    rw [hs] at hw
    cases hw
  | ok x =>
    rw [hs] at hw hu
    simp only at hw hu
    cases hf : fnsF P P.funcs 0 [] [] with
    | error y =>
      rw [hf] at hw
      cases hw
    | ok y =>
      rw [hf] at hw hu
      simp only at hw hu
      have ht : t.bodies = y.1 := by
        split at hw
        · cases hw
        split at hw
        · cases hw
        split at hw
        · cases hw
          rfl
        · cases hw
      split at hu
      · cases hu
      rename_i bs ps hf2
      obtain ⟨r, hr⟩ := fns_pre _ _ _ _ _ hf2
      have hu' : u.bodies = bs := by
        split at hu
        · cases hu
        split at hu
        · cases hu
        split at hu
        · cases hu
          rfl
        · cases hu
      exact ⟨r, by rw [hu', ht]; exact hr⟩
theorem ahead_says {P Q : CProg} (h : Apart P Q) :
    ((programF P).2.2 ≠ 0 → (programF P).2.2 ≠ 11 → (programF P).2.1 < (P.structs.length + P.funcs.length : Nat) → (programF (both P Q)).2 = (programF P).2) ∧
    ((programF P).2.2 = 0 → (programF (both P Q)).2.2 = 0 → ∃ r, (programF (both P Q)).1.bodies = (programF P).1.bodies ++ r) := by
  refine ⟨fun h1 h2 h3 => ?_, fun h1 h2 => ?_⟩
  · cases hw : wholeF P with
    | error x =>
      obtain ⟨n, e⟩ := x
      have h4 : programF P = (noTree, n, e) := by simp [programF, hw]
      rw [h4] at h3 ⊢
      have h5 := whole_bad h hw h3
      simp [programF, h5]
    | ok t =>
      exfalso
      unfold programF at h1 h2
      rw [hw] at h1 h2
      simp only at h1 h2
      split at h1
      · rename_i hc
        rw [if_pos hc] at h2
        exact h2 rfl
      · exact h1 rfl
  · cases hw : wholeF P with
    | error x =>
      obtain ⟨n, e⟩ := x
      exfalso
      have h4 : programF P = (noTree, n, e) := by simp [programF, hw]
      rw [h4] at h1
      have := wholeF_bad hw
      unfold Bad at this
      simp only at h1
      omega
    | ok t =>
      cases hu : wholeF (both P Q) with
      | error x =>
        obtain ⟨n, e⟩ := x
        exfalso
        have h4 : programF (both P Q) = (noTree, n, e) := by simp [programF, hu]
        rw [h4] at h2
        have := wholeF_bad hu
        unfold Bad at this
        simp only at h2
        omega
      | ok u =>
        obtain ⟨r, hr⟩ := whole_pre h hw hu
        unfold programF at h1 h2 ⊢
        rw [hw] at h1 ⊢
        rw [hu] at h2 ⊢
        simp only at h1 h2 ⊢
        split at h1
        · simp at h1
        · rename_i hc
          rw [if_neg hc]
          split at h2
          · simp at h2
          · rename_i hc2
            rw [if_neg hc2]
            exact ⟨r, hr⟩
end Go.Proofs.Ytmallgapchjhnaa
