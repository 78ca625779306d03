/- The checker's lists of statements, acs plain functions. No condition: plain definitions and theorems. -/
import Derived.Test.YtmallgapchjhnaaK8
set_option linter.unusedVariables false
set_option linter.unusedSimpArgs false
namespace Go.Proofs.Ytmallgapchjhnaa
set_option maxRecDepth 100000
open Go Go.Ax

def SR.bind {α β : Type} (r : SR α) (f : α → CSt → SR β) : SR β := match r with
  | .ok a s => f a s
  | .err e => .err e
def lift {α : Type} (r : Except Int α) (s : CSt) : SR α := match r with
  | .ok a => .ok a s
  | .error e => .err e
def cut (st st' : CSt) : CSt := ⟨st'.points, st'.vars, st'.scope.take st.scope.length⟩
/-- A statement without lists. -/
def simpleF (P : CProg) (fn : Int) (st : CSt) (p kind : Int) (name field call : ByteArray) (ty : CTy) (r : KR) (st1 : CSt) : SR CAct :=
  if kind = 1 then (match variableF P st.vars name ty r with
    | .error e => .err e
    | .ok (l, v) => .ok (.mk kind p st.vars.length 0 (-1) l [] []) ⟨st1.points, st.vars ++ [v], st.scope ++ [(st.vars.length : Int)]⟩)
  else if kind = 2 ∨ kind = 3 ∨ kind = 4 ∨ kind = 9 then (match assignF st.vars st.scope kind name field r with
    | .error e => .err e
    | .ok (k, f, l) => .ok (.mk kind p k f (-1) l [] []) st1)
  else if kind = 5 then (match callF P st.vars st.scope name call r with
    | .error e => .err e
    | .ok (k, f, l) => .ok (.mk kind p k 0 f l [] []) st1)
  else if kind = 8 then (match valsF r [1] with
    | .error e => .err e
    | .ok l => .ok (.mk kind p (-1) 0 (-1) l [] []) st1)
  else if kind = 10 then (match P.funcs[fn.toNat]? with
    | none => .err 9
    | some d => match valsF r (if d.result.kind = 0 then [] else [d.result.kind]) with
      | .error e => .err e
      | .ok l => .ok (.mk kind p (-1) 0 (-1) l [] []) st1)
  else (match valsF r [] with
    | .error e => .err e
    | .ok _ => .err 9)
mutual
def stmtF (P : CProg) (fn : Int) : CStmt → CSt → SR CAct
  | .mk kind line name field call ty kids body els, st =>
    let st1 : CSt := ⟨st.points ++ [⟨fn, line, st.scope⟩], st.vars, st.scope⟩
    let p : Int := st.points.length
    if kind = 6 ∨ kind = 7 then (match valsF (expsF st.vars st.scope kids) [2] with
      | .error e => .err e
      | .ok l => match goF P fn body st1 with
        | .err e => .err e
        | .ok b st2 => if kind = 6 then (match goF P fn els (cut st1 st2) with
            | .err e => .err e
            | .ok c st3 => .ok (.mk kind p (-1) 0 (-1) l b c) (cut (cut st1 st2) st3))
          else .ok (.mk kind p (-1) 0 (-1) l b []) (cut st1 st2))
    else simpleF P fn st p kind name field call ty (expsF st.vars st.scope kids) st1
def goF (P : CProg) (fn : Int) : List CStmt → CSt → SR (List CAct)
  | [], st => .ok [] st
  | s :: r, st => match stmtF P fn s st with
    | .err e => .err e
    | .ok a st1 => match goF P fn r st1 with
      | .err e => .err e
      | .ok l st2 => .ok (a :: l) st2
end
def listF (P : CProg) (fn : Int) (l : List CStmt) (st : CSt) : SR (List CAct) := match goF P fn l st with
  | .err e => .err e
  | .ok acs st' => .ok acs (cut st st')
mutual
def CStmt.sz : CStmt → Nat
  | .mk _ _ _ _ _ _ kids body els => 1 + CExp.szs kids + CStmt.szs body + CStmt.szs els
def CStmt.szs : List CStmt → Nat
  | [] => 0
  | x :: r => x.sz + CStmt.szs r
end
theorem CStmt.szs_len : ∀ l : List CStmt, l.length ≤ CStmt.szs l
  | [] => Nat.le_refl _
  | x :: r => by
    have := CStmt.szs_len r
    cases x
    rw [CStmt.szs, CStmt.sz, List.length_cons]
    omega
theorem CStmt.szs_mem : ∀ {l : List CStmt} {x : CStmt}, x ∈ l → x.sz ≤ CStmt.szs l
  | y :: r, x, h => by
    rw [CStmt.szs]
    rcases List.mem_cons.1 h with rfl | h
    · omega
    · have := CStmt.szs_mem h
      omega

/-! ### What a list leaves -/
/-- Room for n more, and no struct is too great. -/
structure Bd (st : CSt) (n : Nat) : Prop where
  p : st.points.length + n ≤ 2 ^ 39
  v : st.vars.length + n ≤ 2 ^ 39
  s : st.scope.length + n ≤ 2 ^ 39
  f : ∀ x ∈ st.vars, x.fields.length ≤ 2 ^ 40
theorem Bd.mono {st : CSt} {n m : Nat} (h : Bd st n) (hm : m ≤ n) : Bd st m := ⟨by have := h.p; omega, by have := h.v; omega, by have := h.s; omega, h.f⟩
structure Onw (st st' : CSt) (k : Nat) : Prop where
  s : ∃ t, st'.scope = st.scope ++ t
  b : ∀ n, Bd st (k + n) → Bd st' n
theorem Onw.refl (st : CSt) : Onw st st 0 := ⟨⟨[], by simp⟩, fun n h => by simpa using h⟩
theorem Onw.trans {a b c : CSt} {k m : Nat} (h : Onw a b k) (g : Onw b c m) : Onw a c (k + m) := by
  obtain ⟨t, ht⟩ := h.s
  obtain ⟨u, hu⟩ := g.s
  exact ⟨⟨t ++ u, by rw [hu, ht, List.append_assoc]⟩, fun n hn => g.b n (h.b (m + n) (by rwa [← Nat.add_assoc]))⟩
theorem Onw.mono {a b : CSt} {k m : Nat} (h : Onw a b k) (hm : k ≤ m) : Onw a b m := ⟨h.s, fun n hn => h.b n (hn.mono (by omega))⟩
theorem Onw.cut {a b : CSt} {k : Nat} (h : Onw a b k) : Onw a (cut a b) k ∧ (Go.Proofs.Ytmallgapchjhnaa.cut a b).scope = a.scope := by
  obtain ⟨t, ht⟩ := h.s
  have e : (Go.Proofs.Ytmallgapchjhnaa.cut a b).scope = a.scope := by show b.scope.take a.scope.length = a.scope; rw [ht]; simp
  refine ⟨⟨⟨[], by rw [e]; simp⟩, fun n hn => ?_⟩, e⟩
  have := h.b n hn
  exact ⟨this.p, this.v, by rw [e]; have := hn.s; omega, this.f⟩
theorem point_on (st : CSt) (x : CPoint) : Onw st ⟨st.points ++ [x], st.vars, st.scope⟩ 1 := ⟨⟨[], by simp⟩, fun n h => ⟨by have := h.p; simp; omega, by have := h.v; simp; omega, by have := h.s; simp; omega, h.f⟩⟩
theorem variableF_fields {P : CProg} {vs : List CVar} {name : ByteArray} {ty : CTy} {r : KR} {l : List CVal} {v : CVar} (h : variableF P vs name ty r = .ok (l, v)) (hfs : ∀ s ∈ P.structs, s.fields.length ≤ 2 ^ 40) : v.fields.length ≤ 2 ^ 40 := by
  unfold variableF at h
  have hK := if_ok h
  rw [if_pos hK] at h
  split at h
  · have hT := if_ok h
    rw [if_pos hT] at h
    obtain ⟨_, _, h⟩ := map_ok h
    cases h
    simp
  · split at h
    · obtain ⟨_, _, h⟩ := map_ok h
      cases h
      exact get_strL hfs
    · obtain ⟨_, _, h⟩ := map_ok h
      cases h
      simp
theorem simpleF_on {P : CProg} {fn : Int} {st : CSt} {p kind : Int} {name field call : ByteArray} {ty : CTy} {r : KR} {x : CPoint} {a : CAct} {st' : CSt} (hfs : ∀ s ∈ P.structs, s.fields.length ≤ 2 ^ 40)
    (h : simpleF P fn st p kind name field call ty r ⟨st.points ++ [x], st.vars, st.scope⟩ = .ok a st') : Onw st st' 1 := by
  unfold simpleF at h
  split at h
  · split at h
    · cases h
    · rename_i l v hv
      injection h with _ h
      subst h
      refine ⟨⟨_, rfl⟩, fun n hn => ⟨?_, ?_, ?_, ?_⟩⟩
      · have := hn.p; simp; omega
      · have := hn.v; simp; omega
      · have := hn.s; simp; omega
      · intro y hy
        rcases List.mem_append.1 hy with hy | hy
        · exact hn.f y hy
        · rw [List.mem_singleton.1 hy]
          exact variableF_fields hv hfs
  · split at h
    · split at h
      · cases h
      · injection h with _ h; subst h; exact point_on st x
    · split at h
      · split at h
        · cases h
        · injection h with _ h; subst h; exact point_on st x
      · split at h
        · split at h
          · cases h
          · injection h with _ h; subst h; exact point_on st x
        · split at h
          · split at h
            · cases h
            · split at h
              · cases h
              · injection h with _ h; subst h; exact point_on st x
          · split at h <;> cases h
mutual
theorem stmtF_on (P : CProg) (fn : Int) (hfs : ∀ s ∈ P.structs, s.fields.length ≤ 2 ^ 40) : ∀ (s : CStmt) (st : CSt) {a : CAct} {st' : CSt}, stmtF P fn s st = .ok a st' → Onw st st' s.sz
  | .mk kind line name field call ty kids body els, st, a, st', h => by
    rw [stmtF] at h
    rw [CStmt.sz]
    split at h
    · split at h
      · cases h
      · split at h
        · cases h
        · rename_i b st2 hb
          have h1 := goF_on P fn hfs body _ hb
          have hp := point_on st ⟨fn, line, st.scope⟩
          split at h
          · split at h
            · cases h
            · rename_i c st3 hc
              have h2 := goF_on P fn hfs els _ hc
              injection h with _ h
              subst h
              exact ((hp.trans h1.cut.1).trans h2.cut.1).mono (by omega)
          · injection h with _ h
            subst h
            exact (hp.trans h1.cut.1).mono (by omega)
    · exact (simpleF_on hfs h).mono (by omega)
theorem goF_on (P : CProg) (fn : Int) (hfs : ∀ s ∈ P.structs, s.fields.length ≤ 2 ^ 40) : ∀ (l : List CStmt) (st : CSt) {acs : List CAct} {st' : CSt}, goF P fn l st = .ok acs st' → Onw st st' (CStmt.szs l)
  | [], st, acs, st', h => by
    rw [goF] at h
    injection h with _ h
    subst h
    exact Onw.refl st
  | s :: r, st, acs, st', h => by
    rw [goF] at h
    rw [CStmt.szs]
    split at h
    · cases h
    · rename_i a st1 h1
      split at h
      · cases h
      · rename_i l st2 h2
        injection h with _ h
        subst h
        exact (stmtF_on P fn hfs s st h1).trans (goF_on P fn hfs r st1 h2)
end
/-- What is done already stands ahead. -/
def bindG (acs : List CAct) (r : SR (List CAct)) : SR (List CAct) := match r with
  | .ok l s => .ok (acs ++ l) s
  | .err e => .err e
theorem bindG_nil (r : SR (List CAct)) : bindG [] r = r := by cases r <;> rfl
theorem bindG_ok {P : CProg} {fn : Int} {s : CStmt} {r : List CStmt} {st st1 : CSt} {a : CAct} (h : stmtF P fn s st = .ok a st1) (acs : List CAct) : bindG acs (goF P fn (s :: r) st) = bindG (acs ++ [a]) (goF P fn r st1) := by
  rw [goF, h]
  simp only
  cases hg : goF P fn r st1 <;> simp [bindG]
theorem bindG_err {P : CProg} {fn : Int} {s : CStmt} {r : List CStmt} {st : CSt} {e : Int} (h : stmtF P fn s st = .err e) (acs : List CAct) : bindG acs (goF P fn (s :: r) st) = .err e := by
  rw [goF, h]
  rfl
end Go.Proofs.Ytmallgapchjhnaa
