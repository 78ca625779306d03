/- The words of the proofs below: values told by what they hold (AV), memory that nobody writes any more (I), memory of the call's own (chunks). No condition: plain definitions and theorems. -/
import Derived.Tactics
import Derived.Below
import Derived.Laws.AppendOwn
import Derived.Laws.OwnMore
set_option linter.unusedVariables false
set_option linter.unusedSimpArgs false
namespace Go.Ax
open Go Go.RowKit

/-- What a value holds: a plain value; a slice told by its elements (its cells are written no more); a pointer to such cells; a struct by its cells; several results. -/
inductive AV where
  | val (v : Value)
  | list (sz : Nat) (xs : List AV)
  | iptr (xs : List AV)
  | agg (xs : List AV)
  | tuple (xs : List AV)

def AV.cs : AV → List AV
  | .agg xs => xs
  | a => [a]

def flat (xs : List AV) : List AV := xs.flatMap AV.cs
theorem flat_nil : flat [] = [] := rfl
theorem flat_cons (x : AV) (xs : List AV) : flat (x :: xs) = x.cs ++ flat xs := by simp [flat]
theorem flat_append (xs ys : List AV) : flat (xs ++ ys) = flat xs ++ flat ys := by simp [flat]
theorem flat_length {sz : Nat} {xs : List AV} (h : ∀ x ∈ xs, x.cs.length = sz) : (flat xs).length = xs.length * sz := by
  induction xs with
  | nil => simp [flat]
  | cons x xs ih =>
    rw [flat_cons, List.length_append, h x (by simp), ih (fun y hy => h y (by simp [hy])), List.length_cons, Nat.add_mul]
    omega

inductive All2 {α β : Type} (R : α → β → Prop) : List α → List β → Prop
  | nil : All2 R [] []
  | cons {a : α} {b : β} {as : List α} {bs : List β} : R a b → All2 R as bs → All2 R (a :: as) (b :: bs)

namespace All2
variable {α β : Type} {R S : α → β → Prop}
theorem length {as : List α} {bs : List β} (h : All2 R as bs) : as.length = bs.length := by
  induction h with
  | nil => rfl
  | cons _ _ ih => simp [ih]
theorem imp {as : List α} {bs : List β} (h : All2 R as bs) (hi : ∀ a b, R a b → S a b) : All2 S as bs := by
  induction h with
  | nil => exact .nil
  | cons h0 _ ih => exact .cons (hi _ _ h0) ih
theorem get {as : List α} {bs : List β} (h : All2 R as bs) {i : Nat} {a : α} (ha : as[i]? = some a) : ∃ b, bs[i]? = some b ∧ R a b := by
  induction h generalizing i with
  | nil => simp at ha
  | cons h0 _ ih =>
    cases i with
    | zero =>
      simp only [List.getElem?_cons_zero, Option.some.injEq] at ha
      subst ha
      exact ⟨_, rfl, h0⟩
    | succ i => exact ih (by simpa using ha)
theorem get2 {as : List α} {bs : List β} (h : All2 R as bs) {i : Nat} {a : α} {b : β} (ha : as[i]? = some a) (hb : bs[i]? = some b) : R a b := by
  obtain ⟨b', hb', hr⟩ := h.get ha
  rw [hb'] at hb
  exact Option.some.inj hb ▸ hr
theorem of_get {as : List α} {bs : List β} (hl : as.length = bs.length) (h : ∀ (i : Nat) (a : α) (b : β), as[i]? = some a → bs[i]? = some b → R a b) : All2 R as bs := by
  induction as generalizing bs with
  | nil =>
    cases bs with
    | nil => exact .nil
    | cons b bs => simp at hl
  | cons a as ih =>
    cases bs with
    | nil => simp at hl
    | cons b bs =>
      exact .cons (h 0 a b rfl rfl) (ih (by simpa using hl) (fun i x y hx hy => h (i + 1) x y (by simpa using hx) (by simpa using hy)))
theorem append {as cs : List α} {bs ds : List β} (h : All2 R as bs) (k : All2 R cs ds) : All2 R (as ++ cs) (bs ++ ds) := by
  induction h with
  | nil => exact k
  | cons h0 _ ih => exact .cons h0 ih
theorem take {as : List α} {bs : List β} (h : All2 R as bs) (n : Nat) : All2 R (as.take n) (bs.take n) := by
  induction h generalizing n with
  | nil => simp; exact .nil
  | cons h0 _ ih =>
    cases n with
    | zero => simp; exact .nil
    | succ n => simp only [List.take_succ_cons]; exact .cons h0 (ih n)
theorem drop {as : List α} {bs : List β} (h : All2 R as bs) (n : Nat) : All2 R (as.drop n) (bs.drop n) := by
  induction h generalizing n with
  | nil => simp; exact .nil
  | cons h0 h1 ih =>
    cases n with
    | zero => exact .cons h0 h1
    | succ n => simp only [List.drop_succ_cons]; exact ih n
theorem set {as : List α} {bs : List β} (h : All2 R as bs) (i : Nat) {a : α} {b : β} (hr : R a b) : All2 R (as.set i a) (bs.set i b) := by
  induction h generalizing i with
  | nil => simp; exact .nil
  | cons h0 h1 ih =>
    cases i with
    | zero => exact .cons hr h1
    | succ i => exact .cons h0 (ih i)
end All2

/-- A value holds what is told of it. -/
inductive VR (I : Nat → Nat → Prop) (w : World) : AV → Value → Prop
  | val (v : Value) : VR I w (.val v) v
  | nil (sz : Nat) (A : Option Addr) (c : Nat) (hm : c ≤ 9223372036854775807) : VR I w (.list sz []) (.slice A 0 c)
  | list (sz : Nat) (xs : List AV) (b o c : Nat) (vs : Nat → Value) (hsz : ∀ x ∈ xs, x.cs.length = sz) (hc : xs.length ≤ c) (hm : c ≤ 9223372036854775807)
      (hI : ∀ i, i < xs.length * sz → I b (o + i)) (hw : ∀ i, i < xs.length * sz → w.cell? ⟨b, o + i, none⟩ = some (vs i))
      (hv : ∀ (i : Nat) (x : AV), (flat xs)[i]? = some x → VR I w x (vs i)) : VR I w (.list sz xs) (.slice (some ⟨b, o, none⟩) xs.length c)
  | iptr (xs : List AV) (b o : Nat) (vs : Nat → Value) (hI : ∀ i, i < xs.length → I b (o + i)) (hw : ∀ i, i < xs.length → w.cell? ⟨b, o + i, none⟩ = some (vs i))
      (hv : ∀ (i : Nat) (x : AV), xs[i]? = some x → VR I w x (vs i)) : VR I w (.iptr xs) (.pointer (some ⟨b, o, none⟩))
  | agg (xs : List AV) (us : List Value) (hl : xs.length = us.length) (h : ∀ (i : Nat) (x : AV) (u : Value), xs[i]? = some x → us[i]? = some u → VR I w x u) : VR I w (.agg xs) (.agg us.toArray)
  | tuple (xs : List AV) (us : List Value) (hl : xs.length = us.length) (h : ∀ (i : Nat) (x : AV) (u : Value), xs[i]? = some x → us[i]? = some u → VR I w x u) : VR I w (.tuple xs) (.tuple us.toArray)

section
variable {I I' : Nat → Nat → Prop} {w w' : World}
/-- What is told stays true: no immutable cell turns. -/
structure Per (I : Nat → Nat → Prop) (w : World) (I' : Nat → Nat → Prop) (w' : World) : Prop where
  imm : ∀ b o, I b o → I' b o
  cell : ∀ b o, I b o → w'.cell? ⟨b, o, none⟩ = w.cell? ⟨b, o, none⟩
theorem Per.refl (I : Nat → Nat → Prop) (w : World) : Per I w I w := ⟨fun _ _ h => h, fun _ _ _ => rfl⟩
theorem Per.trans {I2 : Nat → Nat → Prop} {w2 : World} (h : Per I w I' w') (k : Per I' w' I2 w2) : Per I w I2 w2 :=
  ⟨fun b o h0 => k.imm b o (h.imm b o h0), fun b o h0 => (k.cell b o (h.imm b o h0)).trans (h.cell b o h0)⟩
theorem VR.per (h : Per I w I' w') {a : AV} {v : Value} (hv : VR I w a v) : VR I' w' a v := by
  induction hv with
  | val v => exact .val v
  | nil sz A c hm => exact .nil sz A c hm
  | list sz xs b o c vs hsz hc hm hI hw hv ih => exact .list sz xs b o c vs hsz hc hm (fun i hi => h.imm _ _ (hI i hi)) (fun i hi => (h.cell _ _ (hI i hi)).trans (hw i hi)) ih
  | iptr xs b o vs hI hw hv ih => exact .iptr xs b o vs (fun i hi => h.imm _ _ (hI i hi)) (fun i hi => (h.cell _ _ (hI i hi)).trans (hw i hi)) ih
  | agg xs us hl _ ih => exact .agg xs us hl ih
  | tuple xs us hl _ ih => exact .tuple xs us hl ih
theorem VR.val_inv {v u : Value} (h : VR I w (.val v) u) : u = v := by cases h; rfl
theorem VR.agg_inv {xs : List AV} {u : Value} (h : VR I w (.agg xs) u) : ∃ us : List Value, u = .agg us.toArray ∧ All2 (VR I w) xs us := by
  cases h with
  | agg _ us hl h => exact ⟨us, rfl, .of_get hl h⟩
theorem VR.tuple_inv {xs : List AV} {u : Value} (h : VR I w (.tuple xs) u) : ∃ us : List Value, u = .tuple us.toArray ∧ All2 (VR I w) xs us := by
  cases h with
  | tuple _ us hl h => exact ⟨us, rfl, .of_get hl h⟩
theorem VR.agg_mk {xs : List AV} {us : List Value} (h : All2 (VR I w) xs us) : VR I w (.agg xs) (.agg us.toArray) := .agg xs us h.length (fun i x u hx hu => h.get2 hx hu)
theorem VR.tuple_mk {xs : List AV} {us : List Value} (h : All2 (VR I w) xs us) : VR I w (.tuple xs) (.tuple us.toArray) := .tuple xs us h.length (fun i x u hx hu => h.get2 hx hu)
theorem VR.list_inv {sz : Nat} {xs : List AV} {u : Value} (h : VR I w (.list sz xs) u) : ∃ A c, u = .slice A xs.length c ∧ xs.length ≤ c ∧ c ≤ 9223372036854775807 := by
  cases h with
  | nil _ A c hm => exact ⟨_, _, rfl, Nat.zero_le _, by assumption⟩
  | list _ _ b o c vs hsz hc hm hI hw hv => exact ⟨_, _, rfl, hc, hm⟩
end

/-- A part of memory that is the call's own: a variable (block b, of type T), or a row that grows (the slice v, elements of type e, of sz cells each). -/
inductive Ck where
  | ref (b : Nat) (T : TypeId) (cells : List AV)
  | vec (v : Value) (e : TypeId) (sz : Nat) (xs : List AV)
def Ck.blk : Ck → Option Nat
  | .ref b _ _ => some b
  | .vec v _ _ _ => v.ownBlock
def Ck.holds (I : Nat → Nat → Prop) (w : World) : Ck → Prop
  | .ref b T cells => ∃ vs : List Value, w.heap[b]? = some (.cells vs.toArray T (0, 0)) ∧ All2 (VR I w) cells vs
  | .vec v e sz xs => (∀ x ∈ xs, x.cs.length = sz) ∧ ∃ vs : List Value, w.ownsRow 0 e sz v xs.length vs ∧ All2 (VR I w) (flat xs) vs

theorem own_block_lt {w : World} {e : TypeId} {sz n : Nat} {v : Value} {vs : List Value} (h : w.ownsRow 0 e sz v n vs) {k : Nat} (hk : v.ownBlock = some k) : k < w.heap.size := (h.lt k hk).2

theorem holds_lt {I : Nat → Nat → Prop} {w : World} {c : Ck} (h : c.holds I w) {b : Nat} (hb : c.blk = some b) : b < w.heap.size := by
  cases c with
  | ref b' T cells =>
    obtain ⟨vs, hv, _⟩ := h
    have : b' = b := by simpa [Ck.blk] using hb
    subst this
    exact (Array.getElem?_eq_some_iff.1 hv).1
  | vec v e sz xs =>
    obtain ⟨_, vs, ho, _⟩ := h
    exact own_block_lt ho hb

theorem holds_move {I I' : Nat → Nat → Prop} {w w' : World} {c : Ck} (h : c.holds I w) (hp : Per I w I' w') (hb : ∀ b, c.blk = some b → w'.heap[b]? = w.heap[b]?) : c.holds I' w' := by
  cases c with
  | ref b T cells =>
    obtain ⟨vs, hv, ha⟩ := h
    exact ⟨vs, (hb b rfl).trans hv, ha.imp (fun _ _ h => h.per hp)⟩
  | vec v e sz xs =>
    obtain ⟨hs, vs, ho, ha⟩ := h
    refine ⟨hs, vs, ?_, ha.imp (fun _ _ h => h.per hp)⟩
    refine ⟨ho.1, ?_⟩
    rcases ho.2 with h2 | ⟨g, cap, cur, rfl, hg, hh, r⟩
    · exact .inl h2
    · exact .inr ⟨g, cap, cur, rfl, hg, (hb g (by simp [Ck.blk, Value.ownBlock])).trans hh, r⟩

structure Rel (I : Nat → Nat → Prop) (w : World) (σ : List Ck) : Prop where
  ck : ∀ c ∈ σ, c.holds I w
  ap : σ.Pairwise (fun c d => ∀ b, c.blk = some b → d.blk ≠ some b)
  off : ∀ c ∈ σ, ∀ b, c.blk = some b → ∀ o, ¬ I b o
  ex : ∀ b o, I b o → ∃ v, w.cell? ⟨b, o, none⟩ = some v

def touch (σ : List Ck) (b : Nat) : Prop := ∃ c ∈ σ, c.blk = some b

/-- From where the call began (I0, w0; it may write the blocks T0) to here. -/
structure Good (I0 : Nat → Nat → Prop) (w0 : World) (T0 : Nat → Prop) (I : Nat → Nat → Prop) (w : World) (σ : List Ck) : Prop where
  rel : Rel I w σ
  os : w.os = w0.os
  tape : w.tape = w0.tape
  output : w.output = w0.output
  size : w0.heap.size ≤ w.heap.size
  old : ∀ b, b < w0.heap.size → ¬ T0 b → w.heap[b]? = w0.heap[b]?
  per : Per I0 w0 I w
  immNew : ∀ b o, I b o → I0 b o ∨ w0.heap.size ≤ b ∨ T0 b
  ckNew : ∀ c ∈ σ, ∀ b, c.blk = some b → w0.heap.size ≤ b ∨ T0 b

theorem Good.start {I : Nat → Nat → Prop} {w : World} {σ : List Ck} (h : Rel I w σ) : Good I w (touch σ) I w σ :=
  ⟨h, rfl, rfl, rfl, Nat.le_refl _, fun _ _ _ => rfl, Per.refl _ _, fun _ _ h => .inl h, fun c hc b hb => .inr ⟨c, hc, hb⟩⟩

theorem cell_of_blk {w w' : World} {b : Nat} (h : w'.heap[b]? = w.heap[b]?) (o : Nat) : w'.cell? ⟨b, o, none⟩ = w.cell? ⟨b, o, none⟩ := World.cell?_of_block (a := ⟨b, o, none⟩) h
theorem blk_lt_of_cell {w : World} {b o : Nat} {v : Value} (h : w.cell? ⟨b, o, none⟩ = some v) : b < w.heap.size := World.block_lt_of_cell? w ⟨b, o, none⟩ h

section
variable {I0 : Nat → Nat → Prop} {w0 : World} {T0 : Nat → Prop} {I : Nat → Nat → Prop} {w w1 : World} {σ σ1 : List Ck}

/-- A change of the world that leaves all chunks but those of the list's head, and all that is immutable. -/
theorem Good.step (h : Good I0 w0 T0 I w σ) (I1 : Nat → Nat → Prop) (ho : w1.os = w.os) (ht : w1.tape = w.tape) (hu : w1.output = w.output) (hs : w.heap.size ≤ w1.heap.size)
    (hT : ∀ b, b < w.heap.size → w1.heap[b]? = w.heap[b]? ∨ w0.heap.size ≤ b ∨ T0 b)
    (hp : Per I w I1 w1) (hr : Rel I1 w1 σ1) (hn : ∀ b o, I1 b o → I b o ∨ w.heap.size ≤ b ∨ w0.heap.size ≤ b ∨ T0 b)
    (hc : ∀ c ∈ σ1, ∀ b, c.blk = some b → w.heap.size ≤ b ∨ w0.heap.size ≤ b ∨ T0 b) : Good I0 w0 T0 I1 w1 σ1 where
  rel := hr
  os := ho.trans h.os
  tape := ht.trans h.tape
  output := hu.trans h.output
  size := Nat.le_trans h.size hs
  old := fun b hb hb0 => by
    rcases hT b (Nat.lt_of_lt_of_le hb h.size) with e | e | e
    · exact e.trans (h.old b hb hb0)
    · omega
    · exact absurd e hb0
  per := h.per.trans hp
  immNew := fun b o hb => by
    rcases hn b o hb with e | e | e | e
    · exact h.immNew b o e
    · exact .inr (.inl (Nat.le_trans h.size e))
    · exact .inr (.inl e)
    · exact .inr (.inr e)
  ckNew := fun c hc' b hb => by
    rcases hc c hc' b hb with e | e | e
    · exact .inl (Nat.le_trans h.size e)
    · exact .inl e
    · exact .inr e

/-- A draw. -/
theorem Good.drew (h : Good I0 w0 T0 I w σ) (n : Nat) : Good I0 w0 T0 I { w with drawn := n } σ :=
  h.step I rfl rfl rfl (Nat.le_refl _) (fun _ _ => .inl rfl) ⟨fun _ _ h => h, fun _ _ _ => rfl⟩
    ⟨fun c hc => holds_move (h.rel.ck c hc) ⟨fun _ _ h => h, fun _ _ _ => rfl⟩ (fun _ _ => rfl), h.rel.ap, h.rel.off, h.rel.ex⟩
    (fun _ _ h => .inl h) (fun c hc b hb => (h.ckNew c hc b hb).imp id id |> .inr)

theorem Rel.perm {σ' : List Ck} (h : Rel I w σ) (hp : σ.Perm σ') : Rel I w σ' where
  ck := fun c hc => h.ck c (hp.mem_iff.2 hc)
  ap := by
    refine (hp.pairwise_iff ?_).1 h.ap
    intro c d hcd b hb hd
    exact hcd b hd hb
  off := fun c hc => h.off c (hp.mem_iff.2 hc)
  ex := h.ex
theorem Good.perm {σ' : List Ck} (h : Good I0 w0 T0 I w σ) (hp : σ.Perm σ') : Good I0 w0 T0 I w σ' :=
  { h with rel := h.rel.perm hp, ckNew := fun c hc => h.ckNew c (hp.mem_iff.2 hc) }
/-- A chunk is forgotten. -/
theorem Good.tail {c : Ck} (h : Good I0 w0 T0 I w (c :: σ)) : Good I0 w0 T0 I w σ :=
  { h with rel := ⟨fun d hd => h.rel.ck d (by simp [hd]), (List.pairwise_cons.1 h.rel.ap).2, fun d hd => h.rel.off d (by simp [hd]), h.rel.ex⟩, ckNew := fun d hd => h.ckNew d (by simp [hd]) }

theorem heap_push (w : World) (o : Obj) : (w.alloc o).heap[w.heap.size]? = some o := heap_alloc_new w o

/-- A new block: all that was is as it was. -/
theorem per_alloc (I : Nat → Nat → Prop) (w : World) (o : Obj) (hex : ∀ b o, I b o → ∃ v, w.cell? ⟨b, o, none⟩ = some v) : Per I w I (w.alloc o) :=
  ⟨fun _ _ h => h, fun b o' h => by
    obtain ⟨v, hv⟩ := hex b o' h
    exact cell_of_blk (Below.heap_alloc w o b (blk_lt_of_cell hv)) o'⟩
theorem holds_alloc {c : Ck} (o : Obj) (h : c.holds I w) (hex : ∀ b o, I b o → ∃ v, w.cell? ⟨b, o, none⟩ = some v) : c.holds I (w.alloc o) :=
  holds_move h (per_alloc I w o hex) (fun b hb => Below.heap_alloc w o b (holds_lt h hb))

/-- A new variable. -/
theorem Good.ref (h : Good I0 w0 T0 I w σ) (T : TypeId) (cells : List AV) (vs : List Value) (hv : All2 (VR I w) cells vs) :
    Good I0 w0 T0 I (w.alloc (.cells vs.toArray T)) (.ref w.heap.size T cells :: σ) := by
  have hp := per_alloc I w (.cells vs.toArray T) h.rel.ex
  refine h.step I rfl rfl rfl (by simp) (fun b hb => .inl (Below.heap_alloc w _ b hb)) hp ⟨?_, ?_, ?_, ?_⟩ (fun _ _ h => .inl h) ?_
  · intro c hc
    rcases List.mem_cons.1 hc with rfl | hc
    · exact ⟨vs, heap_push w _, hv.imp (fun _ _ h => h.per hp)⟩
    · exact holds_alloc _ (h.rel.ck c hc) h.rel.ex
  · refine List.pairwise_cons.2 ⟨fun d hd b hb hdb => ?_, h.rel.ap⟩
    have h1 : w.heap.size = b := by simpa [Ck.blk] using hb
    have h2 := holds_lt (h.rel.ck d hd) hdb
    omega
  · intro c hc b hb o hI
    rcases List.mem_cons.1 hc with rfl | hc
    · have h1 : w.heap.size = b := by simpa [Ck.blk] using hb
      obtain ⟨v, hv⟩ := h.rel.ex b o hI
      have := blk_lt_of_cell hv
      omega
    · exact h.rel.off c hc b hb o hI
  · intro b o hI
    obtain ⟨v, hv⟩ := h.rel.ex b o hI
    exact ⟨v, (hp.cell b o hI).trans hv⟩
  · intro c hc b hb
    rcases List.mem_cons.1 hc with rfl | hc
    · have h1 : w.heap.size = b := by simpa [Ck.blk] using hb
      exact .inl (by omega)
    · exact .inr (h.ckNew c hc b hb)

/-- A new block that is written no more. -/
theorem Good.lit (h : Good I0 w0 T0 I w σ) (T : TypeId) (vs : List Value) :
    Good I0 w0 T0 (fun b o => I b o ∨ (b = w.heap.size ∧ o < vs.length)) (w.alloc (.cells vs.toArray T)) σ ∧ Per I w (fun b o => I b o ∨ (b = w.heap.size ∧ o < vs.length)) (w.alloc (.cells vs.toArray T)) := by
  have hp0 := per_alloc I w (.cells vs.toArray T) h.rel.ex
  have hp : Per I w (fun b o => I b o ∨ (b = w.heap.size ∧ o < vs.length)) (w.alloc (.cells vs.toArray T)) := ⟨fun _ _ h => .inl h, hp0.cell⟩
  refine ⟨h.step _ rfl rfl rfl (by simp) (fun b hb => .inl (Below.heap_alloc w _ b hb)) hp ⟨?_, h.rel.ap, ?_, ?_⟩ ?_ ?_, hp⟩
  · intro c hc
    exact holds_move (h.rel.ck c hc) hp (fun b hb => Below.heap_alloc w _ b (holds_lt (h.rel.ck c hc) hb))
  · intro c hc b hb o hI
    rcases hI with hI | ⟨rfl, _⟩
    · exact h.rel.off c hc b hb o hI
    · have := holds_lt (h.rel.ck c hc) hb
      omega
  · intro b o hI
    rcases hI with hI | ⟨rfl, ho⟩
    · obtain ⟨v, hv⟩ := h.rel.ex b o hI
      exact ⟨v, (hp0.cell b o hI).trans hv⟩
    · refine ⟨vs[o], ?_⟩
      rw [cell_of_row _ _ o vs.toArray T (0, 0) (heap_push w _)]
      simp [ho]
  · intro b o hI
    rcases hI with hI | ⟨rfl, _⟩
    · exact .inl hI
    · exact .inr (.inl (Nat.le_refl _))
  · intro c hc b hb
    exact .inr (h.ckNew c hc b hb)

/-- A cell of a variable is written. -/
theorem Good.set {b : Nat} {T : TypeId} {cells : List AV} (h : Good I0 w0 T0 I w (.ref b T cells :: σ)) (o : Nat) {x : AV} {v : Value} (hv : VR I w x v) :
    Good I0 w0 T0 I (w.setCell ⟨b, o, none⟩ v) (.ref b T (cells.set o x) :: σ) ∧ Per I w I (w.setCell ⟨b, o, none⟩ v) := by
  have hb : ∀ k, k ≠ b → (w.setCell ⟨b, o, none⟩ v).heap[k]? = w.heap[k]? := fun k hk => Below.heap_setCell w ⟨b, o, none⟩ v k hk
  have hoff := h.rel.off (.ref b T cells) (by simp) b rfl
  have hp : Per I w I (w.setCell ⟨b, o, none⟩ v) := ⟨fun _ _ h => h, fun k o' hI => cell_of_blk (hb k (fun e => hoff o' (e ▸ hI))) o'⟩
  obtain ⟨vs, hvs, ha⟩ := h.rel.ck (.ref b T cells) (by simp)
  have hnew := h.ckNew (.ref b T cells) (by simp) b rfl
  have hap := List.pairwise_cons.1 h.rel.ap
  refine ⟨h.step I rfl rfl rfl (by simp [World.setCell]) (fun k hk => ?_) hp ⟨?_, ?_, ?_, ?_⟩ (fun _ _ h => .inl h) ?_, hp⟩
  · by_cases e : k = b
    · subst e
      exact .inr hnew
    · exact .inl (hb k e)
  · intro c hc
    rcases List.mem_cons.1 hc with rfl | hc
    · refine ⟨vs.set o v, ?_, (ha.imp (fun _ _ h => h.per hp)).set o (hv.per hp)⟩
      simp [World.setCell, Array.getElem?_modify, hvs]
    · exact holds_move (h.rel.ck c (by simp [hc])) hp (fun k hk => hb k (fun e => hap.1 c hc b rfl (e ▸ hk)))
  · exact List.pairwise_cons.2 ⟨fun d hd k hk => hap.1 d hd k hk, hap.2⟩
  · intro c hc k hk
    rcases List.mem_cons.1 hc with rfl | hc
    · exact h.rel.off (.ref b T cells) (by simp) k hk
    · exact h.rel.off c (by simp [hc]) k hk
  · intro k o' hI
    obtain ⟨u, hu⟩ := h.rel.ex k o' hI
    exact ⟨u, (hp.cell k o' hI).trans hu⟩
  · intro c hc k hk
    rcases List.mem_cons.1 hc with rfl | hc
    · exact .inr (h.ckNew (.ref b T cells) (by simp) k hk)
    · exact .inr (h.ckNew c (by simp [hc]) k hk)

/-- The row that grows has grown (what an append leaves). -/
theorem Good.grow {v v1 : Value} {e : TypeId} {sz : Nat} {xs ys : List AV} {us vs : List Value} (h : Good I0 w0 T0 I w (.vec v e sz xs :: σ)) (hsz : ∀ y ∈ ys, y.cs.length = sz)
    (hold : w.ownsRow 0 e sz v xs.length us) (hu : All2 (VR I w) (flat xs) us) (hy : All2 (VR I w) (flat ys) vs)
    (hown : w1.ownsRow 0 e sz v1 (xs.length + ys.length) (us ++ vs)) (hg : w.grownBy w1 v.ownBlock) (hat : v1.ownBlock = v.ownBlock ∨ v1.ownBlock = some w.heap.size) :
    Good I0 w0 T0 I w1 (.vec v1 e sz (xs ++ ys) :: σ) ∧ Per I w I w1 := by
  obtain ⟨hs, _⟩ := h.rel.ck (.vec v e sz xs) (by simp)
  have hap := List.pairwise_cons.1 h.rel.ap
  have hblk : ∀ k o, I k o → w1.heap[k]? = w.heap[k]? := fun k o hI => by
    obtain ⟨u, hu⟩ := h.rel.ex k o hI
    exact hg.block k (blk_lt_of_cell hu) (fun e' => h.rel.off (.vec v e sz xs) (by simp) k (by simpa [Ck.blk] using e'.symm) o hI)
  have hp : Per I w I w1 := ⟨fun _ _ h => h, fun k o hI => cell_of_blk (hblk k o hI) o⟩
  refine ⟨h.step I hg.os hg.tape hg.output hg.size (fun k hk => ?_) hp ⟨?_, ?_, ?_, ?_⟩ (fun _ _ h => .inl h) ?_, hp⟩
  · by_cases e' : some k = v.ownBlock
    · exact .inr (h.ckNew (.vec v e sz xs) (by simp) k (by simpa [Ck.blk] using e'.symm))
    · exact .inl (hg.block k hk e')
  · intro c hc
    rcases List.mem_cons.1 hc with rfl | hc
    · refine ⟨fun x hx => ?_, us ++ vs, by rw [List.length_append]; exact hown, ?_⟩
      · rcases List.mem_append.1 hx with hx | hx
        · exact hs x hx
        · exact hsz x hx
      · rw [flat_append]
        exact (hu.append hy).imp (fun _ _ h => h.per hp)
    · exact holds_move (h.rel.ck c (by simp [hc])) hp (fun k hk => hg.block k (holds_lt (h.rel.ck c (by simp [hc])) hk) (fun e' => hap.1 c hc k (by simpa [Ck.blk] using e'.symm) hk))
  · refine List.pairwise_cons.2 ⟨fun d hd k hk hdk => ?_, hap.2⟩
    have hk' : v1.ownBlock = some k := hk
    rcases hat with hat | hat
    · exact hap.1 d hd k (by show v.ownBlock = some k; rw [← hat]; exact hk') hdk
    · have h1 := holds_lt (h.rel.ck d (by simp [hd])) hdk
      rw [hat] at hk'
      injection hk' with hk'
      omega
  · intro c hc k hk o hI
    rcases List.mem_cons.1 hc with rfl | hc
    · have hk' : v1.ownBlock = some k := hk
      rcases hat with hat | hat
      · exact h.rel.off (.vec v e sz xs) (by simp) k (by show v.ownBlock = some k; rw [← hat]; exact hk') o hI
      · rw [hat] at hk'
        injection hk' with hk'
        obtain ⟨u, hu⟩ := h.rel.ex k o hI
        have := blk_lt_of_cell hu
        omega
    · exact h.rel.off c (by simp [hc]) k hk o hI
  · intro k o hI
    obtain ⟨u, hu⟩ := h.rel.ex k o hI
    exact ⟨u, (hp.cell k o hI).trans hu⟩
  · intro c hc k hk
    rcases List.mem_cons.1 hc with rfl | hc
    · have hk' : v1.ownBlock = some k := hk
      rcases hat with hat | hat
      · exact .inr (h.ckNew (.vec v e sz xs) (by simp) k (by show v.ownBlock = some k; rw [← hat]; exact hk'))
      · rw [hat] at hk'
        injection hk' with hk'
        exact .inl (by omega)
    · exact .inr (h.ckNew c (by simp [hc]) k hk)

/-- A row that grows no more. -/
theorem Good.pub {v : Value} {e : TypeId} {sz : Nat} {xs : List AV} (h : Good I0 w0 T0 I w (.vec v e sz xs :: σ)) :
    ∃ I1, Good I0 w0 T0 I1 w σ ∧ Per I w I1 w ∧ VR I1 w (.list sz xs) v := by
  obtain ⟨hs, vs, ho, ha⟩ := h.rel.ck (.vec v e sz xs) (by simp)
  have hap := List.pairwise_cons.1 h.rel.ap
  rcases ho.2 with ⟨rfl, h0⟩ | ⟨g, cap, cur, rfl, hg, hh, hn, hm, hcs, htake⟩
  · have hx : xs = [] := List.eq_nil_of_length_eq_zero h0
    subst hx
    exact ⟨I, h.tail, Per.refl _ _, .nil sz none 0 (by omega)⟩
  · have hlen : vs.length = xs.length * sz := ho.1
    have hle : xs.length * sz ≤ cur.size := by rw [hcs]; exact Nat.mul_le_mul_right _ hn
    have hp : Per I w (fun b o => I b o ∨ (b = g ∧ o < xs.length * sz)) w := ⟨fun _ _ h => .inl h, fun _ _ _ => rfl⟩
    have hcell : ∀ i, i < xs.length * sz → w.cell? ⟨g, 0 + i, none⟩ = some (vs.getD i undef) := by
      intro i hi
      rw [Nat.zero_add, cell_of_row w g i cur e (0, 0) hh, List.getD_eq_getElem?_getD, ← htake, List.getElem?_take_of_lt hi]
      simp [Nat.lt_of_lt_of_le hi hle]
    refine ⟨fun b o => I b o ∨ (b = g ∧ o < xs.length * sz), ?_, hp, ?_⟩
    · refine h.step _ rfl rfl rfl (Nat.le_refl _) (fun _ _ => .inl rfl) hp ⟨?_, hap.2, ?_, ?_⟩ ?_ ?_
      · intro c hc
        exact holds_move (h.rel.ck c (by simp [hc])) hp (fun _ _ => rfl)
      · intro c hc b hb o hI
        rcases hI with hI | ⟨rfl, _⟩
        · exact h.rel.off c (by simp [hc]) b hb o hI
        · exact hap.1 c hc b (by simp [Ck.blk, Value.ownBlock]) hb
      · intro b o hI
        rcases hI with hI | ⟨rfl, hi⟩
        · exact h.rel.ex b o hI
        · exact ⟨_, by have := hcell o hi; rwa [Nat.zero_add] at this⟩
      · intro b o hI
        rcases hI with hI | ⟨rfl, _⟩
        · exact .inl hI
        · exact .inr (.inr (h.ckNew _ List.mem_cons_self b rfl))
      · intro c hc b hb
        exact .inr (h.ckNew c (by simp [hc]) b hb)
    · refine .list sz xs g 0 cap (fun i => vs.getD i undef) hs hn (by simpa [maxLen] using hm) (fun i hi => .inr ⟨rfl, by omega⟩) hcell (fun i x hx => ?_)
      obtain ⟨u, hu, hr⟩ := ha.get hx
      have : vs.getD i undef = u := by rw [List.getD_eq_getElem?_getD, hu]; rfl
      rw [this]
      exact hr.per hp

/-- The nil slice is a row of the call's own. -/
theorem Good.vnil (h : Good I0 w0 T0 I w σ) (e : TypeId) (sz : Nat) : Good I0 w0 T0 I w (.vec (.slice none 0 0) e sz [] :: σ) :=
  { h with
    rel := ⟨fun c hc => by
        rcases List.mem_cons.1 hc with rfl | hc
        · exact ⟨by simp, [], World.ownsRow_nil w 0 e sz, .nil⟩
        · exact h.rel.ck c hc,
      List.pairwise_cons.2 ⟨fun d hd b hb => by simp [Ck.blk, Value.ownBlock] at hb, h.rel.ap⟩,
      fun c hc b hb => by
        rcases List.mem_cons.1 hc with rfl | hc
        · simp [Ck.blk, Value.ownBlock] at hb
        · exact h.rel.off c hc b hb, h.rel.ex⟩
    ckNew := fun c hc b hb => by
      rcases List.mem_cons.1 hc with rfl | hc
      · simp [Ck.blk, Value.ownBlock] at hb
      · exact h.ckNew c hc b hb }

/-- A literal that may grow. -/
theorem Good.vlit (h : Good I0 w0 T0 I w σ) (e : TypeId) (sz : Nat) (xs : List AV) (vs : List Value) (hs : ∀ x ∈ xs, x.cs.length = sz) (hm : xs.length ≤ 9223372036854775807) (hv : All2 (VR I w) (flat xs) vs) :
    Good I0 w0 T0 I (w.alloc (.cells vs.toArray e)) (.vec (.slice (some ⟨w.heap.size, 0, none⟩) xs.length xs.length) e sz xs :: σ) := by
  have hp := per_alloc I w (.cells vs.toArray e) h.rel.ex
  have hl : vs.length = xs.length * sz := by rw [← hv.length, flat_length hs]
  refine h.step I rfl rfl rfl (by simp) (fun b hb => .inl (Below.heap_alloc w _ b hb)) hp ⟨?_, ?_, ?_, ?_⟩ (fun _ _ h => .inl h) ?_
  · intro c hc
    rcases List.mem_cons.1 hc with rfl | hc
    · refine ⟨hs, vs, ⟨hl, .inr ⟨w.heap.size, xs.length, vs.toArray, rfl, Nat.zero_le _, heap_push w _, Nat.le_refl _, by simpa [maxLen] using hm, by simpa using hl, ?_⟩⟩, hv.imp (fun _ _ h => h.per hp)⟩
      simp [← hl]
    · exact holds_alloc _ (h.rel.ck c hc) h.rel.ex
  · refine List.pairwise_cons.2 ⟨fun d hd b hb hdb => ?_, h.rel.ap⟩
    have h1 : w.heap.size = b := by simpa [Ck.blk, Value.ownBlock] using hb
    have h2 := holds_lt (h.rel.ck d hd) hdb
    omega
  · intro c hc b hb o hI
    rcases List.mem_cons.1 hc with rfl | hc
    · have h1 : w.heap.size = b := by simpa [Ck.blk, Value.ownBlock] using hb
      obtain ⟨v, hv⟩ := h.rel.ex b o hI
      have := blk_lt_of_cell hv
      omega
    · exact h.rel.off c hc b hb o hI
  · intro b o hI
    obtain ⟨v, hv⟩ := h.rel.ex b o hI
    exact ⟨v, (hp.cell b o hI).trans hv⟩
  · intro c hc b hb
    rcases List.mem_cons.1 hc with rfl | hc
    · have h1 : w.heap.size = b := by simpa [Ck.blk, Value.ownBlock] using hb
      exact .inl (by omega)
    · exact .inr (h.ckNew c hc b hb)

/-- A call has been made that was handed σ, beside σr. -/
theorem Good.call {I1 : Nat → Nat → Prop} {σ2 σr : List Ck} (h : Good I0 w0 T0 I w (σ ++ σr)) (k : Good I w (touch σ) I1 w1 σ2) : Good I0 w0 T0 I1 w1 (σ2 ++ σr) := by
  have hap := List.pairwise_append.1 h.rel.ap
  have hfar : ∀ c ∈ σr, ∀ b, c.blk = some b → ¬ touch σ b := by
    rintro c hc b hb ⟨d, hd, hdb⟩
    exact hap.2.2 d hd c hc b hdb hb
  have hlt : ∀ c ∈ σr, ∀ b, c.blk = some b → b < w.heap.size := fun c hc b hb => holds_lt (h.rel.ck c (by simp [hc])) hb
  have hT : ∀ b, touch σ b → w0.heap.size ≤ b ∨ T0 b := by
    rintro b ⟨c, hc, hb⟩
    exact h.ckNew c (by simp [hc]) b hb
  refine h.step I1 k.os k.tape k.output k.size (fun b hb => ?_) k.per ⟨?_, ?_, ?_, k.rel.ex⟩ ?_ ?_
  · by_cases e : touch σ b
    · exact .inr (hT b e)
    · exact .inl (k.old b hb e)
  · intro c hc
    rcases List.mem_append.1 hc with hc | hc
    · exact k.rel.ck c hc
    · exact holds_move (h.rel.ck c (by simp [hc])) k.per (fun b hb => k.old b (hlt c hc b hb) (hfar c hc b hb))
  · refine List.pairwise_append.2 ⟨k.rel.ap, hap.2.1, fun c hc d hd b hb hdb => ?_⟩
    rcases k.ckNew c hc b hb with e | e
    · have := hlt d hd b hdb
      omega
    · exact hfar d hd b hdb e
  · intro c hc b hb o hI
    rcases List.mem_append.1 hc with hc | hc
    · exact k.rel.off c hc b hb o hI
    · rcases k.immNew b o hI with e | e | e
      · exact h.rel.off c (by simp [hc]) b hb o e
      · have := hlt c hc b hb
        omega
      · exact hfar c hc b hb e
  · intro b o hI
    rcases k.immNew b o hI with e | e | e
    · exact .inl e
    · exact .inr (.inl e)
    · exact .inr (.inr (hT b e))
  · intro c hc b hb
    rcases List.mem_append.1 hc with hc | hc
    · rcases k.ckNew c hc b hb with e | e
      · exact .inl e
      · exact .inr (hT b e)
    · exact .inr (h.ckNew c (by simp [hc]) b hb)
end
end Go.Ax
