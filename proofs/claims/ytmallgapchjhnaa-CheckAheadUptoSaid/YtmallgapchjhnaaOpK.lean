/- Programs as arguments: what the reading tells of them. No condition: plain theorems. -/
import Derived.Test.YtmallgapchjhnaaOpn
import Derived.Test.YtmallgapchjhnaaK27
import Derived.KernelRfl
set_option linter.unusedVariables false
set_option linter.unusedSimpArgs false
namespace Go.Proofs.Ytmallgapchjhnaa
set_option maxRecDepth 100000
open Go Go.Ax

section
variable {H : Type} {enc : TypeId × Value → H} {w : World} {B : Nat}
structure OkT (B : Nat) (t : CTy) : Prop where
  k : (Lit.int .u8 t.kind).wf = true
  n : (Lit.int .i64 t.n).wf = true
  s : t.name.size ≤ B
inductive OkX (B : Nat) : CExp → Prop
  | mk {k n : Int} {a f o : ByteArray} {kids : List CExp} : (Lit.int .u8 k).wf = true → (Lit.int .i64 n).wf = true → a.size ≤ B → f.size ≤ B → o.size ≤ B → (∀ x ∈ kids, OkX B x) → OkX B (.mk k n a f o kids)
inductive OkY (B : Nat) : CStmt → Prop
  | mk {kind line : Int} {name field call : ByteArray} {ty : CTy} {kids : List CExp} {body els : List CStmt} : (Lit.int .u8 kind).wf = true → (Lit.int .i64 line).wf = true → name.size ≤ B → field.size ≤ B → call.size ≤ B → OkT B ty → (∀ x ∈ kids, OkX B x) → (∀ x ∈ body, OkY B x) → (∀ x ∈ els, OkY B x) → OkY B (.mk kind line name field call ty kids body els)
theorem opn_strs {N : Nat} : Opn enc Try.prog w B (N + 1) 80 strs (fun l => ∀ s ∈ l, s.size ≤ B ∧ s.size ≤ maxLen) (fun l => (l.map fun s => s.size + 1).sum + 1) :=
  opn_slice (sz := 1) (e := 9) (by kernel_rfl) (by kernel_rfl) (by omega) (fun _ => rfl) (opn_str (by kernel_rfl))
theorem opn_ty {N : Nat} : Opn enc Try.prog w B N 50 CTy.av (OkT B) (fun _ => 1) := fun n hn cs x h hb => by
  obtain ⟨xs, m, hnm, hx, hl, hxl, hf⟩ := opn_struct (fs := #[⟨ "Kind", 5, 0, false, "", "", 0⟩, ⟨ "N", 3, 1, false, "", "", 8⟩, ⟨ "Name", 9, 2, false, "", "", 16⟩]) (by kernel_rfl) h
  have hk : Try.prog.cellsOf 50 = 3 := by kernel_rfl
  rw [hk] at hl
  obtain ⟨c0, c1, c2, rfl⟩ : ∃ c0 c1 c2, cs = [c0, c1, c2] := by
    match cs, hl with
    | [c0, c1, c2], _ => exact ⟨c0, c1, c2, rfl⟩
  obtain ⟨y0, y1, y2, rfl⟩ : ∃ y0 y1 y2, xs = [y0, y1, y2] := by
    have hxl' : xs.length = 3 := hxl
    match xs, hxl' with
    | [y0, y1, y2], _ => exact ⟨y0, y1, y2, rfl⟩
  have hb' : Rows.uptoBulk (DataW.agg [y0.1, y1.1, y2.1]) ≤ B := by rw [hx] at hb; exact hb
  have g0 : DataW.trod enc Try.prog w 0 (fun _ => true) true m 5 [c0] = some y0 := hf 0 _ rfl
  obtain ⟨a0, o0, e0, b0⟩ := (opn_int (k := .u8) (by kernel_rfl)) m (Nat.le_refl _) _ y0 g0 (part_le (by simp) hb')
  try dsimp only at b0
  try dsimp only at o0
  have g1 : DataW.trod enc Try.prog w 0 (fun _ => true) true m 3 [c1] = some y1 := hf 1 _ rfl
  obtain ⟨a1, o1, e1, b1⟩ := (opn_int (k := .i64) (by kernel_rfl)) m (Nat.le_refl _) _ y1 g1 (part_le (by simp) hb')
  try dsimp only at b1
  try dsimp only at o1
  have g2 : DataW.trod enc Try.prog w 0 (fun _ => true) true m 9 [c2] = some y2 := hf 2 _ rfl
  obtain ⟨a2, o2, e2, b2⟩ := (opn_str (by kernel_rfl)) m (Nat.le_refl _) _ y2 g2 (part_le (by simp) hb')
  try dsimp only at b2
  try dsimp only at o2
  refine ⟨⟨a0, a1, a2⟩, ⟨o0, o1, o2.1⟩, ?_, ?_⟩
  · exact (e0.append (e1.append e2))
  · rw [hx]
    try dsimp only
    simp only [List.map_cons, List.map_nil, Rows.uptoBulk, Rows.uptoBulkAll]
    omega
theorem eszs_sum : ∀ l : List CExp, (l.map CExp.sz).sum = CExp.szs l
  | [] => rfl
  | x :: l => by rw [List.map_cons, List.sum_cons, eszs_sum l, CExp.szs]
theorem sszs_sum : ∀ l : List CStmt, (l.map CStmt.sz).sum = CStmt.szs l
  | [] => rfl
  | x :: l => by rw [List.map_cons, List.sum_cons, sszs_sum l, CStmt.szs]
theorem exp_cs (x : CExp) : x.av.cs.length = 6 := by cases x; rfl
theorem stmt_cs (x : CStmt) : x.av.cs.length = 11 := by cases x; rfl
theorem opn_exp (N : Nat) : Opn enc Try.prog w B N 71 CExp.av (OkX B) CExp.sz := by
  induction N with
  | zero => exact fun n hn cs x h hb => by obtain rfl : n = 0 := (by omega); simp [DataW.trod] at h
  | succ N ih =>
  intro n hn cs x h hb
  obtain ⟨xs, m, hnm, hx, hl, hxl, hf⟩ := opn_struct (fs := #[⟨ "Kind", 5, 0, false, "", "", 0⟩, ⟨ "Num", 2, 1, false, "", "", 8⟩, ⟨ "Name", 9, 2, false, "", "", 16⟩, ⟨ "Field", 9, 3, false, "", "", 32⟩, ⟨ "Op", 9, 4, false, "", "", 48⟩, ⟨ "Kids", 69, 5, false, "", "", 64⟩]) (by kernel_rfl) h
  have hk : Try.prog.cellsOf 71 = 6 := by kernel_rfl
  rw [hk] at hl
  obtain ⟨c0, c1, c2, c3, c4, c5, rfl⟩ : ∃ c0 c1 c2 c3 c4 c5, cs = [c0, c1, c2, c3, c4, c5] := by
    match cs, hl with
    | [c0, c1, c2, c3, c4, c5], _ => exact ⟨c0, c1, c2, c3, c4, c5, rfl⟩
  obtain ⟨y0, y1, y2, y3, y4, y5, rfl⟩ : ∃ y0 y1 y2 y3 y4 y5, xs = [y0, y1, y2, y3, y4, y5] := by
    have hxl' : xs.length = 6 := hxl
    match xs, hxl' with
    | [y0, y1, y2, y3, y4, y5], _ => exact ⟨y0, y1, y2, y3, y4, y5, rfl⟩
  have hb' : Rows.uptoBulk (DataW.agg [y0.1, y1.1, y2.1, y3.1, y4.1, y5.1]) ≤ B := by rw [hx] at hb; exact hb
  have g0 : DataW.trod enc Try.prog w 0 (fun _ => true) true m 5 [c0] = some y0 := hf 0 _ rfl
  obtain ⟨a0, o0, e0, b0⟩ := (opn_int (k := .u8) (by kernel_rfl)) m (Nat.le_refl _) _ y0 g0 (part_le (by simp) hb')
  try dsimp only at b0
  try dsimp only at o0
  have g1 : DataW.trod enc Try.prog w 0 (fun _ => true) true m 2 [c1] = some y1 := hf 1 _ rfl
  obtain ⟨a1, o1, e1, b1⟩ := (opn_int (k := .i64) (by kernel_rfl)) m (Nat.le_refl _) _ y1 g1 (part_le (by simp) hb')
  try dsimp only at b1
  try dsimp only at o1
  have g2 : DataW.trod enc Try.prog w 0 (fun _ => true) true m 9 [c2] = some y2 := hf 2 _ rfl
  obtain ⟨a2, o2, e2, b2⟩ := (opn_str (by kernel_rfl)) m (Nat.le_refl _) _ y2 g2 (part_le (by simp) hb')
  try dsimp only at b2
  try dsimp only at o2
  have g3 : DataW.trod enc Try.prog w 0 (fun _ => true) true m 9 [c3] = some y3 := hf 3 _ rfl
  obtain ⟨a3, o3, e3, b3⟩ := (opn_str (by kernel_rfl)) m (Nat.le_refl _) _ y3 g3 (part_le (by simp) hb')
  try dsimp only at b3
  try dsimp only at o3
  have g4 : DataW.trod enc Try.prog w 0 (fun _ => true) true m 9 [c4] = some y4 := hf 4 _ rfl
  obtain ⟨a4, o4, e4, b4⟩ := (opn_str (by kernel_rfl)) m (Nat.le_refl _) _ y4 g4 (part_le (by simp) hb')
  try dsimp only at b4
  try dsimp only at o4
  have g5 : DataW.trod enc Try.prog w 0 (fun _ => true) true m 69 [c5] = some y5 := hf 5 _ rfl
  obtain ⟨a5, o5, e5, b5⟩ := (Opn.mono (M := m) (opn_slice (sz := 6) (t := 69) (by kernel_rfl) (by kernel_rfl) (by omega) exp_cs ih) (by omega)) m (Nat.le_refl _) _ y5 g5 (part_le (by simp) hb')
  try dsimp only at b5
  try dsimp only at o5
  refine ⟨.mk a0 a1 a2 a3 a4 a5, .mk o0 o1 o2.1 o3.1 o4.1 o5, ?_, ?_⟩
  · rw [CExp.av_eq]
    exact (e0.append (e1.append (e2.append (e3.append (e4.append e5)))))
  · rw [hx]
    try dsimp only
    simp only [List.map_cons, List.map_nil, Rows.uptoBulk, Rows.uptoBulkAll]
    rw [CExp.sz, ← eszs_sum]; omega
theorem opn_exps (N : Nat) : Opn enc Try.prog w B (N + 1) 69 (fun l : List CExp => .list 6 (l.map CExp.av)) (fun l => ∀ x ∈ l, OkX B x) (fun l => CExp.szs l + 1) := fun n hn cs x h hb => by
  obtain ⟨l, h1, h2, h3⟩ := opn_slice (sz := 6) (t := 69) (by kernel_rfl) (by kernel_rfl) (by omega) exp_cs (opn_exp N) n hn cs x h hb
  exact ⟨l, h1, h2, by dsimp only at h3 ⊢; rw [eszs_sum] at h3; exact h3⟩
theorem opn_stmt (N : Nat) : Opn enc Try.prog w B N 73 CStmt.av (OkY B) CStmt.sz := by
  induction N with
  | zero => exact fun n hn cs x h hb => by obtain rfl : n = 0 := (by omega); simp [DataW.trod] at h
  | succ N ih =>
  intro n hn cs x h hb
  obtain ⟨xs, m, hnm, hx, hl, hxl, hf⟩ := opn_struct (fs := #[⟨ "Kind", 5, 0, false, "", "", 0⟩, ⟨ "Line", 3, 1, false, "", "", 8⟩, ⟨ "Name", 9, 2, false, "", "", 16⟩, ⟨ "Field", 9, 3, false, "", "", 32⟩, ⟨ "Call", 9, 4, false, "", "", 48⟩, ⟨ "Type", 50, 5, false, "", "", 64⟩, ⟨ "Kids", 69, 8, false, "", "", 96⟩, ⟨ "Body", 51, 9, false, "", "", 120⟩, ⟨ "Else", 51, 10, false, "", "", 144⟩]) (by kernel_rfl) h
  have hk : Try.prog.cellsOf 73 = 11 := by kernel_rfl
  rw [hk] at hl
  obtain ⟨c0, c1, c2, c3, c4, c5, c6, c7, c8, c9, c10, rfl⟩ : ∃ c0 c1 c2 c3 c4 c5 c6 c7 c8 c9 c10, cs = [c0, c1, c2, c3, c4, c5, c6, c7, c8, c9, c10] := by
    match cs, hl with
    | [c0, c1, c2, c3, c4, c5, c6, c7, c8, c9, c10], _ => exact ⟨c0, c1, c2, c3, c4, c5, c6, c7, c8, c9, c10, rfl⟩
  obtain ⟨y0, y1, y2, y3, y4, y5, y6, y7, y8, rfl⟩ : ∃ y0 y1 y2 y3 y4 y5 y6 y7 y8, xs = [y0, y1, y2, y3, y4, y5, y6, y7, y8] := by
    have hxl' : xs.length = 9 := hxl
    match xs, hxl' with
    | [y0, y1, y2, y3, y4, y5, y6, y7, y8], _ => exact ⟨y0, y1, y2, y3, y4, y5, y6, y7, y8, rfl⟩
  have hb' : Rows.uptoBulk (DataW.agg [y0.1, y1.1, y2.1, y3.1, y4.1, y5.1, y6.1, y7.1, y8.1]) ≤ B := by rw [hx] at hb; exact hb
  have g0 : DataW.trod enc Try.prog w 0 (fun _ => true) true m 5 [c0] = some y0 := hf 0 _ rfl
  obtain ⟨a0, o0, e0, b0⟩ := (opn_int (k := .u8) (by kernel_rfl)) m (Nat.le_refl _) _ y0 g0 (part_le (by simp) hb')
  try dsimp only at b0
  try dsimp only at o0
  have g1 : DataW.trod enc Try.prog w 0 (fun _ => true) true m 3 [c1] = some y1 := hf 1 _ rfl
  obtain ⟨a1, o1, e1, b1⟩ := (opn_int (k := .i64) (by kernel_rfl)) m (Nat.le_refl _) _ y1 g1 (part_le (by simp) hb')
  try dsimp only at b1
  try dsimp only at o1
  have g2 : DataW.trod enc Try.prog w 0 (fun _ => true) true m 9 [c2] = some y2 := hf 2 _ rfl
  obtain ⟨a2, o2, e2, b2⟩ := (opn_str (by kernel_rfl)) m (Nat.le_refl _) _ y2 g2 (part_le (by simp) hb')
  try dsimp only at b2
  try dsimp only at o2
  have g3 : DataW.trod enc Try.prog w 0 (fun _ => true) true m 9 [c3] = some y3 := hf 3 _ rfl
  obtain ⟨a3, o3, e3, b3⟩ := (opn_str (by kernel_rfl)) m (Nat.le_refl _) _ y3 g3 (part_le (by simp) hb')
  try dsimp only at b3
  try dsimp only at o3
  have g4 : DataW.trod enc Try.prog w 0 (fun _ => true) true m 9 [c4] = some y4 := hf 4 _ rfl
  obtain ⟨a4, o4, e4, b4⟩ := (opn_str (by kernel_rfl)) m (Nat.le_refl _) _ y4 g4 (part_le (by simp) hb')
  try dsimp only at b4
  try dsimp only at o4
  have g5 : DataW.trod enc Try.prog w 0 (fun _ => true) true m 50 [c5, c6, c7] = some y5 := hf 5 _ rfl
  obtain ⟨a5, o5, e5, b5⟩ := (opn_ty) m (Nat.le_refl _) _ y5 g5 (part_le (by simp) hb')
  try dsimp only at b5
  try dsimp only at o5
  have g6 : DataW.trod enc Try.prog w 0 (fun _ => true) true m 69 [c8] = some y6 := hf 6 _ rfl
  obtain ⟨a6, o6, e6, b6⟩ := ((opn_exps m).mono (by omega)) m (Nat.le_refl _) _ y6 g6 (part_le (by simp) hb')
  try dsimp only at b6
  try dsimp only at o6
  have g7 : DataW.trod enc Try.prog w 0 (fun _ => true) true m 51 [c9] = some y7 := hf 7 _ rfl
  obtain ⟨a7, o7, e7, b7⟩ := (Opn.mono (M := m) (opn_slice (sz := 11) (t := 51) (by kernel_rfl) (by kernel_rfl) (by omega) stmt_cs ih) (by omega)) m (Nat.le_refl _) _ y7 g7 (part_le (by simp) hb')
  try dsimp only at b7
  try dsimp only at o7
  have g8 : DataW.trod enc Try.prog w 0 (fun _ => true) true m 51 [c10] = some y8 := hf 8 _ rfl
  obtain ⟨a8, o8, e8, b8⟩ := (Opn.mono (M := m) (opn_slice (sz := 11) (t := 51) (by kernel_rfl) (by kernel_rfl) (by omega) stmt_cs ih) (by omega)) m (Nat.le_refl _) _ y8 g8 (part_le (by simp) hb')
  try dsimp only at b8
  try dsimp only at o8
  refine ⟨.mk a0 a1 a2 a3 a4 a5 a6 a7 a8, .mk o0 o1 o2.1 o3.1 o4.1 o5 o6 o7 o8, ?_, ?_⟩
  · rw [CStmt.av_eq]
    exact (e0.append (e1.append (e2.append (e3.append (e4.append (e5.append (e6.append (e7.append e8))))))))
  · rw [hx]
    try dsimp only
    simp only [List.map_cons, List.map_nil, Rows.uptoBulk, Rows.uptoBulkAll]
    rw [CStmt.sz, ← sszs_sum, ← sszs_sum]; omega
theorem opn_stmts (N : Nat) : Opn enc Try.prog w B (N + 1) 51 (fun l : List CStmt => .list 11 (l.map CStmt.av)) (fun l => ∀ x ∈ l, OkY B x) (fun l => CStmt.szs l + 1) := fun n hn cs x h hb => by
  obtain ⟨l, h1, h2, h3⟩ := opn_slice (sz := 11) (t := 51) (by kernel_rfl) (by kernel_rfl) (by omega) stmt_cs (opn_stmt N) n hn cs x h hb
  exact ⟨l, h1, h2, by dsimp only at h3 ⊢; rw [sszs_sum] at h3; exact h3⟩
structure OkSt (B : Nat) (s : CStruct) : Prop where
  n : s.name.size ≤ B
  f : ∀ x ∈ s.fields, x.size ≤ B
structure OkPa (B : Nat) (s : CParam) : Prop where
  n : s.name.size ≤ B
  t : OkT B s.ty
structure OkDe (B : Nat) (s : CDecl) : Prop where
  n : s.name.size ≤ B
  l : (Lit.int .i64 s.line).wf = true
  p : ∀ x ∈ s.params, OkPa B x
  r : OkT B s.result
  b : ∀ x ∈ s.body, OkY B x
structure OkPr (B : Nat) (P : CProg) : Prop where
  st : ∀ x ∈ P.structs, OkSt B x
  fn : ∀ x ∈ P.funcs, OkDe B x
theorem len_sum {α : Type} {f : α → Nat} (hf : ∀ a, 1 ≤ f a) : ∀ l : List α, l.length ≤ (l.map f).sum
  | [] => Nat.le_refl _
  | x :: l => by
    have := len_sum hf l
    have := hf x
    simp only [List.length_cons, List.map_cons, List.sum_cons]
    omega
theorem opn_struc (N : Nat) : Opn enc Try.prog w B N 106 CStruct.av (OkSt B) (fun s => s.fields.length + 1) := fun n hn cs x h hb => by
  obtain ⟨xs, m, hnm, hx, hl, hxl, hf⟩ := opn_struct (fs := #[⟨ "Name", 9, 0, false, "", "", 0⟩, ⟨ "Fields", 80, 1, false, "", "", 16⟩]) (by kernel_rfl) h
  have hk : Try.prog.cellsOf 106 = 2 := by kernel_rfl
  rw [hk] at hl
  obtain ⟨c0, c1, rfl⟩ : ∃ c0 c1, cs = [c0, c1] := by
    match cs, hl with
    | [c0, c1], _ => exact ⟨c0, c1, rfl⟩
  obtain ⟨y0, y1, rfl⟩ : ∃ y0 y1, xs = [y0, y1] := by
    have hxl' : xs.length = 2 := hxl
    match xs, hxl' with
    | [y0, y1], _ => exact ⟨y0, y1, rfl⟩
  have hb' : Rows.uptoBulk (DataW.agg [y0.1, y1.1]) ≤ B := by rw [hx] at hb; exact hb
  have g0 : DataW.trod enc Try.prog w 0 (fun _ => true) true m 9 [c0] = some y0 := hf 0 _ rfl
  obtain ⟨a0, o0, e0, b0⟩ := (opn_str (by kernel_rfl)) m (Nat.le_refl _) _ y0 g0 (part_le (by simp) hb')
  try dsimp only at b0
  try dsimp only at o0
  have g1 : DataW.trod enc Try.prog w 0 (fun _ => true) true m 80 [c1] = some y1 := hf 1 _ rfl
  obtain ⟨a1, o1, e1, b1⟩ := ((opn_strs (N := m)).mono (by omega)) m (Nat.le_refl _) _ y1 g1 (part_le (by simp) hb')
  try dsimp only at b1
  try dsimp only at o1
  refine ⟨⟨a0, a1⟩, ⟨o0.1, fun x hx => (o1 x hx).1⟩, ?_, ?_⟩
  · exact (e0.append e1)
  · rw [hx]
    try dsimp only
    simp only [List.map_cons, List.map_nil, Rows.uptoBulk, Rows.uptoBulkAll]
    have := len_sum (f := fun s : ByteArray => s.size + 1) (fun _ => by omega) a1; omega
theorem opn_param (N : Nat) : Opn enc Try.prog w B N 78 CParam.av (OkPa B) (fun s => 1) := fun n hn cs x h hb => by
  obtain ⟨xs, m, hnm, hx, hl, hxl, hf⟩ := opn_struct (fs := #[⟨ "Name", 9, 0, false, "", "", 0⟩, ⟨ "Type", 50, 1, false, "", "", 16⟩]) (by kernel_rfl) h
  have hk : Try.prog.cellsOf 78 = 4 := by kernel_rfl
  rw [hk] at hl
  obtain ⟨c0, c1, c2, c3, rfl⟩ : ∃ c0 c1 c2 c3, cs = [c0, c1, c2, c3] := by
    match cs, hl with
    | [c0, c1, c2, c3], _ => exact ⟨c0, c1, c2, c3, rfl⟩
  obtain ⟨y0, y1, rfl⟩ : ∃ y0 y1, xs = [y0, y1] := by
    have hxl' : xs.length = 2 := hxl
    match xs, hxl' with
    | [y0, y1], _ => exact ⟨y0, y1, rfl⟩
  have hb' : Rows.uptoBulk (DataW.agg [y0.1, y1.1]) ≤ B := by rw [hx] at hb; exact hb
  have g0 : DataW.trod enc Try.prog w 0 (fun _ => true) true m 9 [c0] = some y0 := hf 0 _ rfl
  obtain ⟨a0, o0, e0, b0⟩ := (opn_str (by kernel_rfl)) m (Nat.le_refl _) _ y0 g0 (part_le (by simp) hb')
  try dsimp only at b0
  try dsimp only at o0
  have g1 : DataW.trod enc Try.prog w 0 (fun _ => true) true m 50 [c1, c2, c3] = some y1 := hf 1 _ rfl
  obtain ⟨a1, o1, e1, b1⟩ := (opn_ty) m (Nat.le_refl _) _ y1 g1 (part_le (by simp) hb')
  try dsimp only at b1
  try dsimp only at o1
  refine ⟨⟨a0, a1⟩, ⟨o0.1, o1⟩, ?_, ?_⟩
  · exact (e0.append e1)
  · rw [hx]
    try dsimp only
    simp only [List.map_cons, List.map_nil, Rows.uptoBulk, Rows.uptoBulkAll]
    omega
theorem opn_decl (N : Nat) : Opn enc Try.prog w B N 53 CDecl.av (OkDe B) (fun s => dsz s + 1) := fun n hn cs x h hb => by
  obtain ⟨xs, m, hnm, hx, hl, hxl, hf⟩ := opn_struct (fs := #[⟨ "Name", 9, 0, false, "", "", 0⟩, ⟨ "Line", 3, 1, false, "", "", 16⟩, ⟨ "Params", 48, 2, false, "", "", 24⟩, ⟨ "Result", 50, 3, false, "", "", 48⟩, ⟨ "Body", 51, 6, false, "", "", 80⟩]) (by kernel_rfl) h
  have hk : Try.prog.cellsOf 53 = 7 := by kernel_rfl
  rw [hk] at hl
  obtain ⟨c0, c1, c2, c3, c4, c5, c6, rfl⟩ : ∃ c0 c1 c2 c3 c4 c5 c6, cs = [c0, c1, c2, c3, c4, c5, c6] := by
    match cs, hl with
    | [c0, c1, c2, c3, c4, c5, c6], _ => exact ⟨c0, c1, c2, c3, c4, c5, c6, rfl⟩
  obtain ⟨y0, y1, y2, y3, y4, rfl⟩ : ∃ y0 y1 y2 y3 y4, xs = [y0, y1, y2, y3, y4] := by
    have hxl' : xs.length = 5 := hxl
    match xs, hxl' with
    | [y0, y1, y2, y3, y4], _ => exact ⟨y0, y1, y2, y3, y4, rfl⟩
  have hb' : Rows.uptoBulk (DataW.agg [y0.1, y1.1, y2.1, y3.1, y4.1]) ≤ B := by rw [hx] at hb; exact hb
  have g0 : DataW.trod enc Try.prog w 0 (fun _ => true) true m 9 [c0] = some y0 := hf 0 _ rfl
  obtain ⟨a0, o0, e0, b0⟩ := (opn_str (by kernel_rfl)) m (Nat.le_refl _) _ y0 g0 (part_le (by simp) hb')
  try dsimp only at b0
  try dsimp only at o0
  have g1 : DataW.trod enc Try.prog w 0 (fun _ => true) true m 3 [c1] = some y1 := hf 1 _ rfl
  obtain ⟨a1, o1, e1, b1⟩ := (opn_int (k := .i64) (by kernel_rfl)) m (Nat.le_refl _) _ y1 g1 (part_le (by simp) hb')
  try dsimp only at b1
  try dsimp only at o1
  have g2 : DataW.trod enc Try.prog w 0 (fun _ => true) true m 48 [c2] = some y2 := hf 2 _ rfl
  obtain ⟨a2, o2, e2, b2⟩ := (Opn.mono (M := m) (opn_slice (sz := 4) (t := 48) (by kernel_rfl) (by kernel_rfl) (by omega) (fun _ => rfl) (opn_param m)) (by omega)) m (Nat.le_refl _) _ y2 g2 (part_le (by simp) hb')
  try dsimp only at b2
  try dsimp only at o2
  have g3 : DataW.trod enc Try.prog w 0 (fun _ => true) true m 50 [c3, c4, c5] = some y3 := hf 3 _ rfl
  obtain ⟨a3, o3, e3, b3⟩ := (opn_ty) m (Nat.le_refl _) _ y3 g3 (part_le (by simp) hb')
  try dsimp only at b3
  try dsimp only at o3
  have g4 : DataW.trod enc Try.prog w 0 (fun _ => true) true m 51 [c6] = some y4 := hf 4 _ rfl
  obtain ⟨a4, o4, e4, b4⟩ := ((opn_stmts m).mono (by omega)) m (Nat.le_refl _) _ y4 g4 (part_le (by simp) hb')
  try dsimp only at b4
  try dsimp only at o4
  refine ⟨⟨a0, a1, a2, a3, a4⟩, ⟨o0.1, o1, o2, o3, o4⟩, ?_, ?_⟩
  · exact (e0.append (e1.append (e2.append (e3.append e4))))
  · rw [hx]
    try dsimp only
    simp only [List.map_cons, List.map_nil, Rows.uptoBulk, Rows.uptoBulkAll]
    have := len_sum (f := fun s : CParam => 1) (fun _ => by omega) a2; simp only [dsz]; omega
theorem fszs_sum : ∀ l : List CStruct, (l.map fun s => s.fields.length + 1).sum = fszs l + l.length
  | [] => rfl
  | x :: l => by rw [List.map_cons, List.sum_cons, fszs_sum l, fszs, List.length_cons]; omega
theorem dszs_sum : ∀ l : List CDecl, (l.map fun s => dsz s + 1).sum = dszs l + l.length
  | [] => rfl
  | x :: l => by rw [List.map_cons, List.sum_cons, dszs_sum l, dszs, List.length_cons]; omega
theorem opn_prog (N : Nat) : Opn enc Try.prog w B N 25 (fun P => .agg (CProg.cs P)) (OkPr B) sizeN := fun n hn cs x h hb => by
  obtain ⟨xs, m, hnm, hx, hl, hxl, hf⟩ := opn_struct (fs := #[⟨ "Structs", 22, 0, false, "", "", 0⟩, ⟨ "Funcs", 23, 1, false, "", "", 24⟩]) (by kernel_rfl) h
  have hk : Try.prog.cellsOf 25 = 2 := by kernel_rfl
  rw [hk] at hl
  obtain ⟨c0, c1, rfl⟩ : ∃ c0 c1, cs = [c0, c1] := by
    match cs, hl with
    | [c0, c1], _ => exact ⟨c0, c1, rfl⟩
  obtain ⟨y0, y1, rfl⟩ : ∃ y0 y1, xs = [y0, y1] := by
    have hxl' : xs.length = 2 := hxl
    match xs, hxl' with
    | [y0, y1], _ => exact ⟨y0, y1, rfl⟩
  have hb' : Rows.uptoBulk (DataW.agg [y0.1, y1.1]) ≤ B := by rw [hx] at hb; exact hb
  have g0 : DataW.trod enc Try.prog w 0 (fun _ => true) true m 22 [c0] = some y0 := hf 0 _ rfl
  obtain ⟨a0, o0, e0, b0⟩ := (Opn.mono (M := m) (opn_slice (sz := 2) (t := 22) (by kernel_rfl) (by kernel_rfl) (by omega) (fun _ => rfl) (opn_struc m)) (by omega)) m (Nat.le_refl _) _ y0 g0 (part_le (by simp) hb')
  try dsimp only at b0
  try dsimp only at o0
  have g1 : DataW.trod enc Try.prog w 0 (fun _ => true) true m 23 [c1] = some y1 := hf 1 _ rfl
  obtain ⟨a1, o1, e1, b1⟩ := (Opn.mono (M := m) (opn_slice (sz := 7) (t := 23) (by kernel_rfl) (by kernel_rfl) (by omega) (fun _ => rfl) (opn_decl m)) (by omega)) m (Nat.le_refl _) _ y1 g1 (part_le (by simp) hb')
  try dsimp only at b1
  try dsimp only at o1
  refine ⟨⟨a0, a1⟩, ⟨o0, o1⟩, ?_, ?_⟩
  · exact (e0.append e1)
  · rw [hx]
    try dsimp only
    simp only [List.map_cons, List.map_nil, Rows.uptoBulk, Rows.uptoBulkAll]
    rw [fszs_sum] at b0; rw [dszs_sum] at b1; simp only [sizeN]; omega
end
end Go.Proofs.Ytmallgapchjhnaa
