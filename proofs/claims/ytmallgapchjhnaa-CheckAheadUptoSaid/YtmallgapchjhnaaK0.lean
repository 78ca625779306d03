/- The words of the checker's proofs: programs as trees, what memory shows of them. No condition: plain definitions and theorems. -/
import Derived.Test.YtmallgapchjhnaaTy
set_option linter.unusedVariables false
set_option linter.unusedSimpArgs false
namespace Go.Proofs.Ytmallgapchjhnaa
set_option maxRecDepth 100000
open Go Go.Ax

abbrev ptr (g : Nat) : AV := .val (.pointer (some ⟨g, 0, none⟩))
abbrev iv (n : Int) : AV := .val (.int .i64 n)
abbrev bv (b : Bool) : AV := .val (.bool b)
abbrev kv (n : Int) : AV := .val (.int .u8 n)
abbrev sv (s : ByteArray) : AV := .val (.string s)
/-- The first place where p holds, from k on. -/
def idxF {α : Type} (p : α → Bool) : List α → Nat → Int
  | [], _ => -1
  | x :: r, k => bif p x then (k : Int) else idxF p r (k + 1)
theorem get_drop {α : Type} {xs : List α} {i : Nat} {z : α} (h : xs[i]? = some z) : xs.drop i = z :: xs.drop (i + 1) := by
  obtain ⟨h1, h2⟩ := List.getElem?_eq_some_iff.1 h
  rw [List.drop_eq_getElem_cons h1, h2]
theorem get_lt {α : Type} {xs : List α} {i : Nat} (h : i < xs.length) : ∃ z, xs[i]? = some z := ⟨xs[i], List.getElem?_eq_getElem h⟩
theorem get_map {α β : Type} {xs : List α} {f : α → β} {i : Nat} {z : α} (h : xs[i]? = some z) : (xs.map f)[i]? = some (f z) := by simp [h]

structure CTy where
  kind : Int
  n : Int
  name : ByteArray
def CTy.cs (t : CTy) : List AV := [kv t.kind, iv t.n, sv t.name]
def CTy.av (t : CTy) : AV := .agg [kv t.kind, iv t.n, sv t.name]
inductive CExp where
  | mk (kind num : Int) (name field op : ByteArray) (kids : List CExp)
namespace CExp
def kind : CExp → Int | mk k _ _ _ _ _ => k
def num : CExp → Int | mk _ n _ _ _ _ => n
def name : CExp → ByteArray | mk _ _ s _ _ _ => s
def field : CExp → ByteArray | mk _ _ _ f _ _ => f
def op : CExp → ByteArray | mk _ _ _ _ o _ => o
def kids : CExp → List CExp | mk _ _ _ _ _ l => l
end CExp
mutual
def CExp.av : CExp → AV
  | .mk kind num name field op kids => .agg [kv kind, iv num, sv name, sv field, sv op, .list 6 (CExp.avs kids)]
def CExp.avs : List CExp → List AV
  | [] => []
  | x :: r => x.av :: CExp.avs r
end
theorem CExp.avs_eq (l : List CExp) : CExp.avs l = l.map CExp.av := by
  induction l with
  | nil => rfl
  | cons x r ih => simp [CExp.avs, ih]
theorem CExp.av_eq (x : CExp) : x.av = .agg [kv x.kind, iv x.num, sv x.name, sv x.field, sv x.op, .list 6 (x.kids.map CExp.av)] := by
  cases x
  simp [CExp.av, CExp.kind, CExp.num, CExp.name, CExp.field, CExp.op, CExp.kids, CExp.avs_eq]
inductive CStmt where
  | mk (kind line : Int) (name field call : ByteArray) (ty : CTy) (kids : List CExp) (body els : List CStmt)
namespace CStmt
def kind : CStmt → Int | mk k _ _ _ _ _ _ _ _ => k
def line : CStmt → Int | mk _ n _ _ _ _ _ _ _ => n
def name : CStmt → ByteArray | mk _ _ s _ _ _ _ _ _ => s
def field : CStmt → ByteArray | mk _ _ _ f _ _ _ _ _ => f
def call : CStmt → ByteArray | mk _ _ _ _ c _ _ _ _ => c
def ty : CStmt → CTy | mk _ _ _ _ _ t _ _ _ => t
def kids : CStmt → List CExp | mk _ _ _ _ _ _ l _ _ => l
def body : CStmt → List CStmt | mk _ _ _ _ _ _ _ l _ => l
def els : CStmt → List CStmt | mk _ _ _ _ _ _ _ _ l => l
end CStmt
mutual
def CStmt.av : CStmt → AV
  | .mk kind line name field call ty kids body els => .agg [kv kind, iv line, sv name, sv field, sv call, kv ty.kind, iv ty.n, sv ty.name, .list 6 (kids.map CExp.av), .list 11 (CStmt.avs body), .list 11 (CStmt.avs els)]
def CStmt.avs : List CStmt → List AV
  | [] => []
  | x :: r => x.av :: CStmt.avs r
end
theorem CStmt.avs_eq (l : List CStmt) : CStmt.avs l = l.map CStmt.av := by
  induction l with
  | nil => rfl
  | cons x r ih => simp [CStmt.avs, ih]
theorem CStmt.av_eq (x : CStmt) : x.av = .agg [kv x.kind, iv x.line, sv x.name, sv x.field, sv x.call, kv x.ty.kind, iv x.ty.n, sv x.ty.name, .list 6 (x.kids.map CExp.av), .list 11 (x.body.map CStmt.av), .list 11 (x.els.map CStmt.av)] := by
  cases x
  simp [CStmt.av, CStmt.kind, CStmt.line, CStmt.name, CStmt.field, CStmt.call, CStmt.ty, CStmt.kids, CStmt.body, CStmt.els, CStmt.avs_eq]
abbrev strs (l : List ByteArray) : AV := .list 1 (l.map sv)
structure CStruct where
  name : ByteArray
  fields : List ByteArray
def CStruct.av (s : CStruct) : AV := .agg [sv s.name, strs s.fields]
structure CParam where
  name : ByteArray
  ty : CTy
def CParam.av (s : CParam) : AV := .agg [sv s.name, kv s.ty.kind, iv s.ty.n, sv s.ty.name]
structure CDecl where
  name : ByteArray
  line : Int
  params : List CParam
  result : CTy
  body : List CStmt
def CDecl.av (d : CDecl) : AV := .agg [sv d.name, iv d.line, .list 4 (d.params.map CParam.av), kv d.result.kind, iv d.result.n, sv d.result.name, .list 11 (d.body.map CStmt.av)]
structure CProg where
  structs : List CStruct
  funcs : List CDecl
def CProg.cs (p : CProg) : List AV := [.list 2 (p.structs.map CStruct.av), .list 7 (p.funcs.map CDecl.av)]
/-! What the checker makes. -/
inductive CVal where
  | mk (kind op var num : Int) (kids : List CVal)
mutual
def CVal.av : CVal → AV
  | .mk kind op var num kids => .agg [kv kind, kv op, iv var, iv num, .list 5 (CVal.avs kids)]
def CVal.avs : List CVal → List AV
  | [] => []
  | x :: r => x.av :: CVal.avs r
end
theorem CVal.avs_eq (l : List CVal) : CVal.avs l = l.map CVal.av := by
  induction l with
  | nil => rfl
  | cons x r ih => simp [CVal.avs, ih]
structure CVar where
  name : ByteArray
  ty : CTy
  words : Int
  fields : List ByteArray
def CVar.av (v : CVar) : AV := .agg [sv v.name, kv v.ty.kind, iv v.ty.n, sv v.ty.name, iv v.words, strs v.fields]
inductive CAct where
  | mk (kind point var field call : Int) (kids : List CVal) (body els : List CAct)
mutual
def CAct.av : CAct → AV
  | .mk kind point var field call kids body els => .agg [kv kind, iv point, iv var, iv field, iv call, .list 5 (kids.map CVal.av), .list 8 (CAct.avs body), .list 8 (CAct.avs els)]
def CAct.avs : List CAct → List AV
  | [] => []
  | x :: r => x.av :: CAct.avs r
end
theorem CAct.avs_eq (l : List CAct) : CAct.avs l = l.map CAct.av := by
  induction l with
  | nil => rfl
  | cons x r ih => simp [CAct.avs, ih]
structure CPoint where
  func : Int
  line : Int
  scope : List Int
def CPoint.av (p : CPoint) : AV := .agg [iv p.func, iv p.line, .list 1 (p.scope.map iv)]
structure CBody where
  name : ByteArray
  params : Int
  result : Bool
  vars : List CVar
  acts : List CAct
def CBody.av (b : CBody) : AV := .agg [sv b.name, iv b.params, bv b.result, .list 6 (b.vars.map CVar.av), .list 8 (b.acts.map CAct.av)]
end Go.Proofs.Ytmallgapchjhnaa
