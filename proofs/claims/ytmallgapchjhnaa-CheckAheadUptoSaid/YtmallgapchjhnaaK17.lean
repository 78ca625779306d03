/- What is told of what is wrong is never nought. No condition: plain theorems. -/
import Derived.Test.YtmallgapchjhnaaK16
set_option linter.unusedVariables false
set_option linter.unusedSimpArgs false
namespace Go.Proofs.Ytmallgapchjhnaa
set_option maxRecDepth 100000
open Go Go.Ax
def Bad (e : Int) : Prop := e = 8 ∨ e = 9 ∨ e = 10
theorem findF_bad {vs : List CVar} {sc : List Int} {nm : ByteArray} {e : Int} (h : findF vs sc nm = .error e) : Bad e := by
  unfold findF at h
  split at h
  · cases h
  · injection h with h; exact .inl h.symm
theorem valsF_bad {r : KR} {want : List Int} {e : Int} (hr : ∀ e, r = .error e → Bad e) (h : valsF r want = .error e) : Bad e := by
  unfold valsF at h
  split at h
  · injection h with h; subst h; exact hr _ rfl
  · split at h
    · cases h
    · injection h with h; exact .inr (.inl h.symm)
theorem placeF_bad {vs : List CVar} {sc : List Int} {k : Int} {n f : ByteArray} {r : KR} {e : Int} (hr : ∀ e, r = .error e → Bad e) (h : placeF vs sc k n f r = .error e) : Bad e := by
  unfold placeF at h
  split at h
  · rename_i e' he; injection h with h; subst h; exact findF_bad he
  · split at h
    · injection h with h; exact .inr (.inl h.symm)
    · split at h
      · split at h
        · cases h
        · injection h with h; exact .inr (.inl h.symm)
      · split at h
        · split at h
          · split at h
            · cases h
            · injection h with h; exact .inl h.symm
          · injection h with h; exact .inr (.inl h.symm)
        · split at h
          · split at h
            · rename_i he; injection h with h; subst h; exact valsF_bad hr he
            · cases h
          · injection h with h; exact .inr (.inl h.symm)
theorem unaryF_bad {op : ByteArray} {r : KR} {e : Int} (hr : ∀ e, r = .error e → Bad e) (h : unaryF op r = .error e) : Bad e := by
  unfold unaryF at h
  split at h
  · rename_i he; injection h with h; subst h; exact valsF_bad hr he
  · split at h
    · cases h
    · split at h
      · cases h
      · injection h with h; exact .inr (.inl h.symm)
theorem binaryF_bad {k : Int} {op : ByteArray} {r : KR} {e : Int} (hr : ∀ e, r = .error e → Bad e) (h : binaryF k op r = .error e) : Bad e := by
  unfold binaryF at h
  split at h
  · injection h with h; subst h; exact hr _ rfl
  · split at h
    · cases h
    · injection h with h; exact .inr (.inl h.symm)
mutual
theorem expF_bad (vs : List CVar) (sc : List Int) : ∀ (x : CExp) {e : Int}, expF vs sc x = .error e → Bad e
  | .mk kind num name field op kids, e, h => by
    have hr := fun e he => expsF_bad vs sc kids (e := e) he
    rw [expF] at h
    split at h
    · cases h
    · split at h
      · cases h
      · split at h
        · exact placeF_bad hr h
        · split at h
          · exact unaryF_bad hr h
          · exact binaryF_bad hr h
theorem expsF_bad (vs : List CVar) (sc : List Int) : ∀ (l : List CExp) {e : Int}, expsF vs sc l = .error e → Bad e
  | [], e, h => by rw [expsF] at h; cases h
  | x :: r, e, h => by
    rw [expsF] at h
    split at h
    · rename_i he; injection h with h; subst h; exact expF_bad vs sc x he
    · split at h
      · rename_i he; injection h with h; subst h; exact expsF_bad vs sc r he
      · cases h
end
theorem mapE_bad {α β : Type} {r : Except Int α} {f : α → β} {e : Int} (hr : ∀ e, r = .error e → Bad e) (h : r.map f = .error e) : Bad e := hr e (map_err h)
theorem variableF_bad {P : CProg} {vs : List CVar} {n : ByteArray} {t : CTy} {r : KR} {e : Int} (hr : ∀ e, r = .error e → Bad e) (h : variableF P vs n t r = .error e) : Bad e := by
  unfold variableF at h
  have hv : ∀ want e, valsF r want = .error e → Bad e := fun want e => valsF_bad hr
  split at h
  · split at h
    · split at h
      · exact mapE_bad (hv _) h
      · injection h with h; exact .inr (.inl h.symm)
    · split at h
      · exact mapE_bad (hv _) h
      · exact mapE_bad (hv _) h
  · injection h with h; exact .inl h.symm
theorem assignF_bad {vs : List CVar} {sc : List Int} {k : Int} {n f : ByteArray} {r : KR} {e : Int} (hr : ∀ e, r = .error e → Bad e) (h : assignF vs sc k n f r = .error e) : Bad e := by
  unfold assignF at h
  have hv : ∀ want e, valsF r want = .error e → Bad e := fun want e => valsF_bad hr
  split at h
  · rename_i he; injection h with h; subst h; exact findF_bad he
  · split at h
    · injection h with h; exact .inr (.inl h.symm)
    · split at h
      · split at h
        · exact mapE_bad (hv _) h
        · injection h with h; exact .inr (.inl h.symm)
      · split at h
        · split at h
          · exact mapE_bad (hv _) h
          · injection h with h; exact .inr (.inl h.symm)
        · split at h
          · split at h
            · exact mapE_bad (hv _) h
            · injection h with h; exact .inr (.inl h.symm)
          · split at h
            · split at h
              · split at h
                · exact mapE_bad (hv _) h
                · injection h with h; exact .inl h.symm
              · injection h with h; exact .inr (.inl h.symm)
            · cases h
theorem callTo_bad {vs : List CVar} {sc : List Int} {n : ByteArray} {e : Int} (h : callTo vs sc n = .error e) : Bad e := by
  obtain ⟨_, h | ⟨_, _, _, _, _, _, h⟩⟩ := callTo_err h
  · exact findF_bad h
  · exact .inr (.inl h)
theorem callF_bad {P : CProg} {vs : List CVar} {sc : List Int} {n c : ByteArray} {r : KR} {e : Int} (hr : ∀ e, r = .error e → Bad e) (h : callF P vs sc n c r = .error e) : Bad e := by
  unfold callF at h
  split at h
  · rename_i he; injection h with h; subst h; exact callTo_bad he
  · split at h
    · injection h with h; exact .inl h.symm
    · split at h
      · injection h with h; exact .inr (.inl h.symm)
      · split at h
        · rename_i he; injection h with h; subst h; exact valsF_bad hr he
        · split at h
          · cases h
          · injection h with h; exact .inr (.inl h.symm)
theorem simpleF_bad {P : CProg} {fn : Int} {st st1 : CSt} {p k : Int} {n f c : ByteArray} {t : CTy} {r : KR} {e : Int} (hr : ∀ e, r = .error e → Bad e) (h : simpleF P fn st p k n f c t r st1 = .err e) : Bad e := by
  unfold simpleF at h
  split at h
  · split at h
    · rename_i he; injection h with h; subst h; exact variableF_bad hr he
    · cases h
  · split at h
    · split at h
      · rename_i he; injection h with h; subst h; exact assignF_bad hr he
      · cases h
    · split at h
      · split at h
        · rename_i he; injection h with h; subst h; exact callF_bad hr he
        · cases h
      · split at h
        · split at h
          · rename_i he; injection h with h; subst h; exact valsF_bad hr he
          · cases h
        · split at h
          · split at h
            · injection h with h; exact .inr (.inl h.symm)
            · split at h
              · rename_i he; injection h with h; subst h; exact valsF_bad hr he
              · cases h
          · split at h
            · rename_i he; injection h with h; subst h; exact valsF_bad hr he
            · injection h with h; exact .inr (.inl h.symm)
mutual
theorem stmtF_bad (P : CProg) (fn : Int) : ∀ (s : CStmt) (st : CSt) {e : Int}, stmtF P fn s st = .err e → Bad e
  | .mk kind line name field call ty kids body els, st, e, h => by
    have hr := fun e he => expsF_bad st.vars st.scope kids (e := e) he
    rw [stmtF] at h
    split at h
    · split at h
      · rename_i he; injection h with h; subst h; exact valsF_bad hr he
      · split at h
        · rename_i he; injection h with h; subst h; exact goF_bad P fn body _ he
        · split at h
          · split at h
            · rename_i he; injection h with h; subst h; exact goF_bad P fn els _ he
            · cases h
          · cases h
    · exact simpleF_bad hr h
theorem goF_bad (P : CProg) (fn : Int) : ∀ (l : List CStmt) (st : CSt) {e : Int}, goF P fn l st = .err e → Bad e
  | [], st, e, h => by rw [goF] at h; cases h
  | s :: r, st, e, h => by
    rw [goF] at h
    split at h
    · rename_i he; injection h with h; subst h; exact stmtF_bad P fn s st he
    · split at h
      · rename_i he; injection h with h; subst h; exact goF_bad P fn r _ he
      · cases h
end
theorem parF_bad {P : CProg} : ∀ {l : List CParam} {ns : List ByteArray} {f : Bool} {e : Int}, parF P l ns f = .error e → Bad e
  | [], _, _, _, h => by rw [parF] at h; cases h
  | x :: r, ns, f, e, h => by
    rw [parF] at h
    split at h
    · exact parF_bad h
    · injection h with h; exact .inl h.symm
theorem bodyF_bad {P : CProg} {i : Nat} {d : CDecl} {ps : List CPoint} {e : Int} (h : bodyF P i d ps = .error e) : Bad e := by
  unfold bodyF at h
  split at h
  · injection h with h; exact .inl h.symm
  split at h
  · rename_i he; injection h with h; subst h; exact parF_bad he
  split at h
  · injection h with h; exact .inl h.symm
  split at h
  · injection h with h; exact .inr (.inl h.symm)
  split at h
  · rename_i he
    injection h with h
    subst h
    unfold listF at he
    split at he
    · rename_i hg; injection he with he; subst he; exact goF_bad P i _ _ hg
    · cases he
  split at h
  · injection h with h; exact .inr (.inr h.symm)
  · cases h
theorem stsF_bad {P : CProg} : ∀ {l : List CStruct} {i : Nat} {x : Int × Int}, stsF P l i = .error x → Bad x.2
  | [], _, _, h => by rw [stsF] at h; cases h
  | s :: r, i, x, h => by
    rw [stsF] at h
    split at h
    · rename_i he
      injection h with h
      subst h
      unfold structF at he
      split at he
      · split at he
        · cases he
        · injection he with he; exact .inr (.inl he.symm)
      · injection he with he; exact .inl he.symm
    · exact stsF_bad h
theorem fnsF_bad {P : CProg} : ∀ {l : List CDecl} {i : Nat} {bs : List CBody} {ps : List CPoint} {x : Int × Int}, fnsF P l i bs ps = .error x → Bad x.2
  | [], _, _, _, _, h => by rw [fnsF] at h; cases h
  | d :: r, i, bs, ps, x, h => by
    rw [fnsF] at h
    split at h
    · rename_i he; injection h with h; subst h; exact bodyF_bad he
    · exact fnsF_bad h
theorem wholeF_bad {P : CProg} {n e : Int} (h : wholeF P = .error (n, e)) : e ≠ 0 := by
  have : Bad e := by
    unfold wholeF at h
    split at h
    · rename_i he; injection h with h; subst h; exact stsF_bad he
    · split at h
      · rename_i he; injection h with h; subst h; exact fnsF_bad he
      · split at h
        · injection h with h; injection h with _ h; exact .inl h.symm
        · split at h
          · injection h with h; injection h with _ h; exact .inr (.inl h.symm)
          · split at h
            · cases h
            · injection h with h; injection h with _ h; exact .inl h.symm
  rcases this with h | h | h <;> omega
end Go.Proofs.Ytmallgapchjhnaa
