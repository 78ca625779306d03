/- The checker says the same of a program whose variables' names are turned. No condition: plain theorems. -/
import Derived.Test.YtmallgapchjhnaaK28
set_option linter.unusedVariables false
set_option linter.unusedSimpArgs false
namespace Go.Proofs.Ytmallgapchjhnaa
set_option maxRecDepth 100000
open Go Go.Ax

theorem size_app (a b : ByteArray) : (a ++ b).size = a.size + b.size := ByteArray.size_append
theorem app_inj {a b : ByteArray} (h : a ++ qB = b ++ qB) : a = b := by
  have h1 : (a ++ qB).data = (b ++ qB).data := congrArg _ h
  rw [ByteArray.data_append, ByteArray.data_append] at h1
  have h2 : a.data = b.data := Array.append_left_inj _ |>.1 h1
  cases a
  cases b
  simp_all
theorem called_ne {s : ByteArray} : s ++ qB ≠ ⟨#[]⟩ := fun h => by
  have := congrArg ByteArray.size h
  rw [size_app] at this
  have h1 : qB.size = 2 := rfl
  have h2 : (⟨#[]⟩ : ByteArray).size = 0 := rfl
  omega
theorem called_inj {a b : ByteArray} : calledB a = calledB b ↔ a = b := by
  refine ⟨fun h => ?_, fun h => h ▸ rfl⟩
  unfold calledB at h
  split at h <;> split at h
  · rename_i h1 h2
    rw [h1, h2]
  · rename_i h1 h2
    exact absurd h.symm (h1 ▸ called_ne)
  · rename_i h1 h2
    exact absurd h (h2 ▸ called_ne)
  · exact app_inj h
theorem called_nil {a : ByteArray} : calledB a = ⟨#[]⟩ ↔ a = ⟨#[]⟩ := by
  have : calledB ⟨#[]⟩ = ⟨#[]⟩ := rfl
  rw [← this, called_inj]
  rfl
def turnV (v : CVar) : CVar := ⟨calledB v.name, v.ty, v.words, v.fields⟩
theorem idx_map {α β : Type} {p : β → Bool} {f : α → β} : ∀ (l : List α) (k : Nat), idxF p (l.map f) k = idxF (fun x => p (f x)) l k
  | [], _ => rfl
  | x :: l, k => by rw [List.map_cons, idxF, idxF, idx_map l]
theorem num_turn (vs : List CVar) (nm : ByteArray) : numF (vs.map turnV) (calledB nm) = numF vs nm := by
  rw [numF, idx_map]
  simp only [turnV, called_inj]
  rfl
theorem find_turn (vs : List CVar) (sc : List Int) (nm : ByteArray) : findF (vs.map turnV) sc (calledB nm) = findF vs sc nm := by rw [findF, num_turn, findF]
theorem get_turn (vs : List CVar) (k : Nat) : (vs.map turnV)[k]? = (vs[k]?).map turnV := by simp
theorem place_turn (vs : List CVar) (sc : List Int) (kind : Int) (name field : ByteArray) (r : KR) : placeF (vs.map turnV) sc kind (calledB name) field r = placeF vs sc kind name field r := by
  unfold placeF
  rw [find_turn]
  cases findF vs sc name with
  | error e => rfl
  | ok k =>
    simp only [get_turn]
    cases vs[k.toNat]? with
    | none => rfl
    | some v => rfl
mutual
theorem exp_turn (vs : List CVar) (sc : List Int) : ∀ x : CExp, expF (vs.map turnV) sc x.turn = expF vs sc x
  | .mk k n a f o kids => by
    rw [CExp.turn, expF, expF, place_turn, exps_turn vs sc kids]
theorem exps_turn (vs : List CVar) (sc : List Int) : ∀ l : List CExp, expsF (vs.map turnV) sc (CExp.turns l) = expsF vs sc l
  | [] => by rw [CExp.turns, expsF, expsF]
  | x :: r => by rw [CExp.turns, expsF, expsF, exp_turn vs sc x, exps_turn vs sc r]
end
def turnD (d : CDecl) : CDecl := ⟨d.name, d.line, d.params.map fun p => ⟨calledB p.name, p.ty⟩, d.result, CStmt.turns d.body⟩
def turnP (P : CProg) : CProg := ⟨P.structs, P.funcs.map turnD⟩
theorem str_turn (P : CProg) (nm : ByteArray) : strF (turnP P) nm = strF P nm := rfl
theorem known_turn (P : CProg) (t : CTy) : knownB (turnP P) t = knownB P t := rfl
theorem strl_turn (P : CProg) (nm : ByteArray) : strL (turnP P) nm = strL P nm := rfl
theorem fun_turn (P : CProg) (nm : ByteArray) : funF (turnP P) nm = funF P nm := by
  rw [funF, turnP, idx_map]
  rfl
theorem fget_turn (P : CProg) (k : Nat) : (turnP P).funcs[k]? = (P.funcs[k]?).map turnD := by simp [turnP]
theorem variable_turn (P : CProg) (vs : List CVar) (name : ByteArray) (ty : CTy) (r : KR) : variableF (turnP P) (vs.map turnV) (calledB name) ty r = (variableF P vs name ty r).map (fun p => (p.1, turnV p.2)) := by
  unfold variableF
  rw [num_turn, known_turn, strl_turn]
  split
  · split
    · split
      · cases valsF r [] <;> rfl
      · rfl
    · split
      · cases valsF r [] <;> rfl
      · cases valsF r [ty.kind] <;> rfl
  · rfl
theorem assign_turn (vs : List CVar) (sc : List Int) (kind : Int) (name field : ByteArray) (r : KR) : assignF (vs.map turnV) sc kind (calledB name) field r = assignF vs sc kind name field r := by
  unfold assignF
  rw [find_turn]
  cases findF vs sc name with
  | error e => rfl
  | ok k =>
    simp only [get_turn]
    cases vs[k.toNat]? with
    | none => rfl
    | some v => rfl
theorem callTo_turn (vs : List CVar) (sc : List Int) (name : ByteArray) : callTo (vs.map turnV) sc (calledB name) = callTo vs sc name := by
  unfold callTo
  rw [find_turn]
  simp only [called_nil, get_turn]
  split
  · rfl
  · cases findF vs sc name with
    | error e => rfl
    | ok k =>
      simp only
      cases vs[k.toNat]? with
      | none => rfl
      | some v => rfl
theorem call_turn (P : CProg) (vs : List CVar) (sc : List Int) (name call : ByteArray) (r : KR) : callF (turnP P) (vs.map turnV) sc (calledB name) call r = callF P vs sc name call r := by
  unfold callF
  rw [callTo_turn, fun_turn]
  simp only [fget_turn, get_turn]
  cases callTo vs sc name with
  | error e => rfl
  | ok k =>
    simp only
    split
    · rfl
    · cases P.funcs[(funF P call).toNat]? with
      | none => rfl
      | some d =>
        have e : ((turnD d).params.map fun p => p.ty.kind) = d.params.map fun p => p.ty.kind := by simp [turnD]
        simp only [Option.map_some, e]
        cases vs[k.toNat]? <;> rfl
def turnSt (st : CSt) : CSt := ⟨st.points, st.vars.map turnV, st.scope⟩
def turnR {α : Type} : SR α → SR α
  | .ok a st => .ok a (turnSt st)
  | .err e => .err e
theorem simple_turn (P : CProg) (fn : Int) (st : CSt) (p kind : Int) (name field call : ByteArray) (ty : CTy) (r : KR) (st1 : CSt) :
    simpleF (turnP P) fn (turnSt st) p kind (calledB name) field call ty r (turnSt st1) = turnR (simpleF P fn st p kind name field call ty r st1) := by
  unfold simpleF
  simp only [turnSt]
  rw [variable_turn, assign_turn, call_turn, fget_turn]
  split
  · cases variableF P st.vars name ty r with
    | error e => rfl
    | ok x => simp [Except.map, turnR, turnSt]
  split
  · cases assignF st.vars st.scope kind name field r with
    | error e => rfl
    | ok x => rfl
  split
  · cases callF P st.vars st.scope name call r with
    | error e => rfl
    | ok x => rfl
  split
  · cases valsF r [1] with
    | error e => rfl
    | ok x => rfl
  split
  · cases P.funcs[fn.toNat]? with
    | none => rfl
    | some d =>
      have e : (turnD d).result = d.result := rfl
      simp only [Option.map_some, e]
      cases valsF r (if d.result.kind = 0 then [] else [d.result.kind]) with
      | error e => rfl
      | ok x => rfl
  · cases valsF r [] with
    | error e => rfl
    | ok x => rfl
theorem cut_turn (a b : CSt) : cut (turnSt a) (turnSt b) = turnSt (cut a b) := rfl
mutual
theorem stmt_turn (P : CProg) (fn : Int) : ∀ (s : CStmt) (st : CSt), stmtF (turnP P) fn s.turn (turnSt st) = turnR (stmtF P fn s st)
  | .mk kind line name field call ty kids body els, st => by
    rw [CStmt.turn, stmtF, stmtF]
    have h1 : (⟨(turnSt st).points ++ [⟨fn, line, (turnSt st).scope⟩], (turnSt st).vars, (turnSt st).scope⟩ : CSt) = turnSt ⟨st.points ++ [⟨fn, line, st.scope⟩], st.vars, st.scope⟩ := rfl
    simp only [h1]
    have h2 : expsF (turnSt st).vars (turnSt st).scope (CExp.turns kids) = expsF st.vars st.scope kids := exps_turn _ _ _
    rw [h2]
    split
    · cases valsF (expsF st.vars st.scope kids) [2] with
      | error e => rfl
      | ok l =>
        simp only
        rw [go_turn P fn body]
        cases goF P fn body ⟨st.points ++ [⟨fn, line, st.scope⟩], st.vars, st.scope⟩ with
        | err e => rfl
        | ok b st2 =>
          simp only [turnR]
          split
          · rw [cut_turn, go_turn P fn els]
            cases goF P fn els (cut ⟨st.points ++ [⟨fn, line, st.scope⟩], st.vars, st.scope⟩ st2) with
            | err e => rfl
            | ok c st3 => rfl
          · rfl
    · exact simple_turn P fn st _ _ _ _ _ _ _ _
theorem go_turn (P : CProg) (fn : Int) : ∀ (l : List CStmt) (st : CSt), goF (turnP P) fn (CStmt.turns l) (turnSt st) = turnR (goF P fn l st)
  | [], st => by rw [CStmt.turns, goF, goF]; rfl
  | s :: r, st => by
    rw [CStmt.turns, goF, goF, stmt_turn P fn s]
    cases stmtF P fn s st with
    | err e => rfl
    | ok a st1 =>
      simp only [turnR]
      rw [go_turn P fn r]
      cases goF P fn r st1 <;> rfl
end
theorem list_turn (P : CProg) (fn : Int) (l : List CStmt) (st : CSt) : listF (turnP P) fn (CStmt.turns l) (turnSt st) = turnR (listF P fn l st) := by
  unfold listF
  rw [go_turn]
  cases goF P fn l st <;> rfl
mutual
theorem rets_turn : ∀ s : CStmt, retS s.turn = retS s
  | .mk kind line name field call ty kids body els => by rw [CStmt.turn, retS, retS, retl_turn body, retl_turn els]
theorem retl_turn : ∀ l : List CStmt, retL (CStmt.turns l) = retL l
  | [] => by rw [CStmt.turns]
  | [s] => by rw [CStmt.turns, CStmt.turns, retL, retL, rets_turn s]
  | s :: t :: r => by
    have := retl_turn (t :: r)
    rw [CStmt.turns] at this
    rw [CStmt.turns, CStmt.turns, retL, retL, this]
end
theorem twg_turn : ∀ (l pre : List ByteArray), twG (pre.map calledB) (l.map calledB) = twG pre l
  | [], _ => rfl
  | s :: l, pre => by
    rw [List.map_cons, twG, twG]
    have h1 : (pre.map calledB).any (fun x => decide (calledB s = x)) = pre.any (fun x => decide (s = x)) := by
      rw [List.any_map]
      congr 1
      funext x
      simp [called_inj]
    rw [h1]
    have h2 := twg_turn l (pre ++ [s])
    rw [List.map_append] at h2
    rw [← h2]
    rfl
theorem twb_turn (l : List ByteArray) : twB (l.map calledB) = twB l := twg_turn l []
theorem par_turn (P : CProg) : ∀ (l : List CParam) (names : List ByteArray) (f : Bool), parF (turnP P) (l.map fun p => ⟨calledB p.name, p.ty⟩) (names.map calledB) f = parF P l names f
  | [], _, _ => rfl
  | x :: l, names, f => by
    rw [List.map_cons, parF, parF]
    have h1 : (names.map calledB) ++ [calledB x.name] = (names ++ [x.name]).map calledB := by simp
    simp only [h1, twb_turn, known_turn, par_turn P l]
def turnB (b : CBody) : CBody := ⟨b.name, b.params, b.result, b.vars.map turnV, b.acts⟩
theorem body_turn (P : CProg) (i : Nat) (d : CDecl) (ps : List CPoint) : bodyF (turnP P) i (turnD d) ps = (bodyF P i d ps).map (fun x => (turnB x.1, x.2)) := by
  unfold bodyF
  have h1 : parF (turnP P) (turnD d).params [] (fine0 (turnD d)) = parF P d.params [] (fine0 d) := by
    have hf : fine0 (turnD d) = fine0 d := by
      unfold fine0
      rw [show (turnD d).params.length = d.params.length by simp [turnD]]
      rfl
    rw [hf]
    exact par_turn P d.params [] _
  have h2 : (turnD d).name = d.name := rfl
  have h3 : (turnD d).result = d.result := rfl
  have h4 : listF (turnP P) i (turnD d).body ⟨ps, (turnD d).params.map varOf, scopeN (turnD d).params.length⟩ = turnR (listF P i d.body ⟨ps, d.params.map varOf, scopeN d.params.length⟩) := by
    rw [← list_turn]
    congr 1
    simp [turnSt, turnD, varOf, turnV]
  have h5 : retL (turnD d).body = retL d.body := retl_turn _
  have h6 : (turnD d).params.length = d.params.length := by simp [turnD]
  rw [h1, h2, h3, h4, h5, fun_turn, known_turn, h6]
  split
  · rfl
  cases parF P d.params [] (fine0 d) with
  | error e => rfl
  | ok f =>
    simp only
    split
    · rfl
    split
    · rfl
    cases listF P i d.body ⟨ps, d.params.map varOf, scopeN d.params.length⟩ with
    | err e => rfl
    | ok a st =>
      simp only [turnR]
      split <;> rfl
theorem sts_turn (P : CProg) : ∀ (l : List CStruct) (i : Nat), stsF (turnP P) l i = stsF P l i
  | [], _ => rfl
  | s :: l, i => by
    rw [stsF, stsF]
    have : structF (turnP P) i s = structF P i s := rfl
    rw [this]
    cases structF P i s with
    | error e => rfl
    | ok x => exact sts_turn P l (i + 1)
theorem fns_turn (P : CProg) : ∀ (l : List CDecl) (i : Nat) (bs : List CBody) (ps : List CPoint), fnsF (turnP P) (l.map turnD) i (bs.map turnB) ps = (fnsF P l i bs ps).map (fun x => (x.1.map turnB, x.2))
  | [], _, _, _ => rfl
  | d :: l, i, bs, ps => by
    rw [List.map_cons, fnsF, fnsF, body_turn]
    cases bodyF P i d ps with
    | error e => rfl
    | ok x =>
      simp only [Except.map]
      have := fns_turn P l (i + 1) (bs ++ [x.1]) x.2
      rw [List.map_append] at this
      exact this
def turnT (t : WTree) : WTree := ⟨t.bodies.map turnB, t.main, t.points⟩
theorem whole_turn (P : CProg) : wholeF (turnP P) = (wholeF P).map turnT := by
  unfold wholeF
  have h1 : (turnP P).structs = P.structs := rfl
  have h2 : (turnP P).funcs.length = P.funcs.length := by simp [turnP]
  have h3 := fns_turn P P.funcs 0 [] []
  have h4 : (turnP P).funcs = P.funcs.map turnD := rfl
  rw [h1, sts_turn, h2]
  rw [List.map_nil] at h3
  rw [← h4] at h3
  rw [h3, fun_turn, fget_turn]
  cases stsF P P.structs 0 with
  | error e => rfl
  | ok x =>
    simp only
    cases fnsF P P.funcs 0 [] [] with
    | error e => rfl
    | ok y =>
      simp only [Except.map]
      split
      · rfl
      cases P.funcs[(funF P mainB).toNat]? with
      | none => rfl
      | some d =>
        have e1 : (turnD d).params.length = d.params.length := by simp [turnD]
        have e2 : (turnD d).result = d.result := rfl
        simp only [Option.map_some, e1, e2]
        split <;> rfl
theorem program_turn (P : CProg) : programF (turnP P) = (turnT (programF P).1, (programF P).2) := by
  unfold programF
  rw [whole_turn]
  cases wholeF P with
  | error e => rfl
  | ok t =>
    have h1 : ((turnT t).bodies.any fun b => decide (b.vars.length > 64)) = t.bodies.any fun b => decide (b.vars.length > 64) := by
      simp [turnT, List.any_map, Function.comp_def, turnB]
    have h2 : (turnP P).funcs.length = P.funcs.length := by simp [turnP]
    have h3 : (turnT t).points = t.points := rfl
    simp only [Except.map, h1, h2, h3]
    split <;> rfl
end Go.Proofs.Ytmallgapchjhnaa
