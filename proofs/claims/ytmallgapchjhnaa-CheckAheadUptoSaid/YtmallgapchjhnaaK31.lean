/- What the checker's trees hold: names of the program's. No condition: plain theorems. -/
import Derived.Test.YtmallgapchjhnaaK30
set_option linter.unusedVariables false
set_option linter.unusedSimpArgs false
namespace Go.Proofs.Ytmallgapchjhnaa
set_option maxRecDepth 100000
open Go Go.Ax

def NmOk (M : Nat) (vs : List CVar) : Prop := ∀ v ∈ vs, v.name.size ≤ M
theorem variable_nm {P : CProg} {vs : List CVar} {name : ByteArray} {ty : CTy} {r : KR} {x : List CVal × CVar} (h : variableF P vs name ty r = .ok x) : x.2.name = name := by
  unfold variableF at h
  split at h
  · split at h
    · split at h
      · obtain ⟨y, _, rfl⟩ := map_ok h
        rfl
      · cases h
    · split at h
      · obtain ⟨y, _, rfl⟩ := map_ok h
        rfl
      · obtain ⟨y, _, rfl⟩ := map_ok h
        rfl
  · cases h
theorem simple_nm {M : Nat} {P : CProg} {fn : Int} {st : CSt} {p kind : Int} {name field call : ByteArray} {ty : CTy} {r : KR} {st1 st' : CSt} {a : CAct} (hn : name.size ≤ M) (hv : NmOk M st.vars) (h1 : NmOk M st1.vars)
    (h : simpleF P fn st p kind name field call ty r st1 = .ok a st') : NmOk M st'.vars := by
  unfold simpleF at h
  split at h
  · cases hx : variableF P st.vars name ty r with
    | error e => rw [hx] at h; cases h
    | ok x =>
      have := variable_nm hx
      rw [hx] at h
      cases h
      intro v hv'
      rcases List.mem_append.1 hv' with h2 | h2
      · exact hv v h2
      · obtain rfl : v = x.2 := by simpa using h2
        rw [this]
        exact hn
  split at h
  · split at h
    · cases h
    · cases h; exact h1
  split at h
  · split at h
    · cases h
    · cases h; exact h1
  split at h
  · split at h
    · cases h
    · cases h; exact h1
  split at h
  · split at h
    · cases h
    · split at h
      · cases h
      · cases h; exact h1
  · split at h <;> cases h
mutual
theorem stmt_nm {M : Nat} (P : CProg) (fn : Int) : ∀ (s : CStmt) (st : CSt) (a : CAct) (st' : CSt), OkS M s → NmOk M st.vars → stmtF P fn s st = .ok a st' → NmOk M st'.vars
  | .mk kind line name field call ty kids body els, st, a, st', ho, hv, h => by
    cases ho with
    | mk hn hk hb he =>
    rw [stmtF] at h
    split at h
    · split at h
      · cases h
      split at h
      · cases h
      rename_i b st2 hg
      have h2 := go_nm P fn body _ _ _ hb (by exact hv) hg
      split at h
      · split at h
        · cases h
        rename_i c st3 hg3
        have h3 := go_nm P fn els _ _ _ he (by exact h2) hg3
        cases h
        exact h3
      · cases h
        exact h2
    · exact simple_nm hn hv (by exact hv) h
theorem go_nm {M : Nat} (P : CProg) (fn : Int) : ∀ (l : List CStmt) (st : CSt) (acs : List CAct) (st' : CSt), (∀ x ∈ l, OkS M x) → NmOk M st.vars → goF P fn l st = .ok acs st' → NmOk M st'.vars
  | [], st, acs, st', _, hv, h => by
    rw [goF] at h
    cases h
    exact hv
  | s :: r, st, acs, st', ho, hv, h => by
    rw [goF] at h
    split at h
    · cases h
    rename_i a st1 hs
    have h1 := stmt_nm P fn s st a st1 (ho s (by simp)) hv hs
    split at h
    · cases h
    rename_i l st2 hr
    cases h
    exact go_nm P fn r st1 l _ (fun x hx => ho x (by simp [hx])) h1 hr
end
structure OkD (M : Nat) (d : CDecl) : Prop where
  ps : ∀ p ∈ d.params, p.name.size ≤ M
  body : ∀ s ∈ d.body, OkS M s
def OkP (M : Nat) (P : CProg) : Prop := ∀ d ∈ P.funcs, OkD M d
theorem body_nm {M : Nat} {P : CProg} {i : Nat} {d : CDecl} {ps : List CPoint} {x : CBody × List CPoint} (ho : OkD M d) (h : bodyF P i d ps = .ok x) : NmOk M x.1.vars := by
  unfold bodyF at h
  split at h
  · cases h
  split at h
  · cases h
  split at h
  · cases h
  split at h
  · cases h
  split at h
  · cases h
  rename_i acts st hl
  split at h
  · cases h
  cases h
  unfold listF at hl
  split at hl
  · cases hl
  rename_i acs st' hg
  cases hl
  refine go_nm P i d.body _ _ st' ho.body ?_ hg
  intro v hv
  obtain ⟨p, hp, rfl⟩ := List.mem_map.1 hv
  exact ho.ps p hp
theorem fns_nm {M : Nat} {P : CProg} : ∀ (l : List CDecl) (i : Nat) (bs : List CBody) (ps : List CPoint) (x : List CBody × List CPoint), (∀ d ∈ l, OkD M d) → (∀ b ∈ bs, NmOk M b.vars) → fnsF P l i bs ps = .ok x → ∀ b ∈ x.1, NmOk M b.vars
  | [], i, bs, ps, x, _, hb, h => by
    rw [fnsF] at h
    cases h
    exact hb
  | d :: l, i, bs, ps, x, ho, hb, h => by
    rw [fnsF] at h
    split at h
    · cases h
    rename_i b ps' hbd
    refine fns_nm l (i + 1) _ ps' x (fun d hd => ho d (by simp [hd])) (fun b' hb' => ?_) h
    rcases List.mem_append.1 hb' with h1 | h1
    · exact hb b' h1
    · obtain rfl : b' = b := by simpa using h1
      exact body_nm (ho d (by simp)) hbd
theorem program_nm {M : Nat} {P : CProg} (ho : OkP M P) : ∀ b ∈ (programF P).1.bodies, NmOk M b.vars := by
  unfold programF
  split
  · intro b hb
    cases hb
  · rename_i t ht
    split
    · intro b hb
      cases hb
    · unfold wholeF at ht
      split at ht
      · cases ht
      split at ht
      · cases ht
      rename_i bs ps hf
      split at ht
      · cases ht
      split at ht
      · cases ht
      split at ht
      · cases ht
        exact fns_nm P.funcs 0 [] [] _ ho (by simp) hf
      · cases ht
/-! Sizes. -/
theorem fszs_mem {l : List CStruct} {s : CStruct} (h : s ∈ l) : s.fields.length ≤ fszs l := by
  induction l with
  | nil => cases h
  | cons x r ih =>
    rw [fszs]
    rcases List.mem_cons.1 h with rfl | h
    · omega
    · have := ih h
      omega
theorem dszs_mem {l : List CDecl} {d : CDecl} (h : d ∈ l) : dsz d ≤ dszs l := by
  induction l with
  | nil => cases h
  | cons x r ih =>
    rw [dszs]
    rcases List.mem_cons.1 h with rfl | h
    · omega
    · have := ih h
      omega
theorem pok_of {P : CProg} (h : sizeN P ≤ 2 ^ 38) : POk P where
  st := by unfold sizeN at h; omega
  fs := fun s hs => by have := fszs_mem hs; unfold sizeN at h; omega
  fn := by unfold sizeN at h; omega
  pa := fun d hd => by have := dszs_mem hd; unfold sizeN at h; unfold dsz at this; omega
mutual
theorem sz_turnE : ∀ x : CExp, x.turn.sz = x.sz
  | .mk k n a f o kids => by rw [CExp.turn, CExp.sz, CExp.sz, szs_turnE kids]
theorem szs_turnE : ∀ l : List CExp, CExp.szs (CExp.turns l) = CExp.szs l
  | [] => rfl
  | x :: r => by rw [CExp.turns, CExp.szs, CExp.szs, sz_turnE x, szs_turnE r]
end
mutual
theorem sz_turnS : ∀ x : CStmt, x.turn.sz = x.sz
  | .mk kind line name field call ty kids body els => by rw [CStmt.turn, CStmt.sz, CStmt.sz, szs_turnE kids, szs_turnS body, szs_turnS els]
theorem szs_turnS : ∀ l : List CStmt, CStmt.szs (CStmt.turns l) = CStmt.szs l
  | [] => rfl
  | x :: r => by rw [CStmt.turns, CStmt.szs, CStmt.szs, sz_turnS x, szs_turnS r]
end
theorem dszs_turn : ∀ l : List CDecl, dszs (l.map turnD) = dszs l
  | [] => rfl
  | d :: r => by
    rw [List.map_cons, dszs, dszs, dszs_turn r]
    simp [dsz, turnD, szs_turnS]
theorem size_turn (P : CProg) : sizeN (turnP P) = sizeN P := by simp [sizeN, turnP, dszs_turn]
theorem prog_of {P : CProg} (h : sizeN P ≤ 2 ^ 38) : AC Try.prog 17 [.agg P.cs] [] (RetIs (.tuple [(programF P).1.av, iv (programF P).2.1, iv (programF P).2.2]) []) :=
  program_c P (pok_of h) (by unfold sizeN at h; omega)
theorem prog_turn {P : CProg} (h : sizeN P ≤ 2 ^ 38) : AC Try.prog 17 [.agg (turnP P).cs] [] (RetIs (.tuple [(turnT (programF P).1).av, iv (programF P).2.1, iv (programF P).2.2]) []) := by
  have := prog_of (P := turnP P) (by rw [size_turn]; exact h)
  rwa [program_turn] at this
end Go.Proofs.Ytmallgapchjhnaa
