/- Rows of the call's own, written in. No condition: plain definitions and theorems. -/
import Derived.Test.YtmallgapchjhnaaAx13
set_option linter.unusedVariables false
set_option linter.unusedSimpArgs false
namespace Go.Ax
open Go Go.RowKit

theorem lits {sz : Nat} {xs : List AV} (h : (xs.all fun x => Nat.beq x.cs.length sz) = true) : ∀ x ∈ xs, x.cs.length = sz := fun x hx => Nat.eq_of_beq_eq_true (List.all_eq_true.1 h x hx)
inductive RepT {T : Type} : List Ck → Ck → (T → Ck) → (T → List Ck) → Prop
  | h {c : Ck} {F : T → Ck} {r : List Ck} : RepT (c :: r) c F (fun v => F v :: r)
  | t {c d : Ck} {F : T → Ck} {r : List Ck} {G : T → List Ck} : RepT r c F G → RepT (d :: r) c F (fun v => d :: G v)
theorem RepT.perm {T : Type} {σ : List Ck} {c : Ck} {F : T → Ck} {G : T → List Ck} (h : RepT σ c F G) : ∃ r, σ.Perm (c :: r) ∧ ∀ v, (G v).Perm (F v :: r) := by
  induction h with
  | h => exact ⟨_, .refl _, fun _ => .refl _⟩
  | t _ ih =>
    obtain ⟨r, h1, h2⟩ := ih
    exact ⟨_, (h1.cons _).trans (.swap _ _ _), fun v => ((h2 v).cons _).trans (.swap _ _ _)⟩

theorem good_swap {I0 I : Nat → Nat → Prop} {w0 w : World} {T0 : Nat → Prop} {c c' : Ck} {σ : List Ck} (h : Good I0 w0 T0 I w (c :: σ)) (hb : c'.blk = c.blk) (hk : c'.holds I w) : Good I0 w0 T0 I w (c' :: σ) := by
  have hap := List.pairwise_cons.1 h.rel.ap
  refine { h with rel := ⟨?_, ?_, ?_, h.rel.ex⟩, ckNew := ?_ }
  · intro x hx
    rcases List.mem_cons.1 hx with rfl | hx
    · exact hk
    · exact h.rel.ck x (by simp [hx])
  · exact List.pairwise_cons.2 ⟨fun x hx b hb' => hap.1 x hx b (hb ▸ hb'), hap.2⟩
  · intro x hx b hb' o
    rcases List.mem_cons.1 hx with rfl | hx
    · exact h.rel.off c List.mem_cons_self b (hb ▸ hb') o
    · exact h.rel.off x (by simp [hx]) b hb' o
  · intro x hx b hb'
    rcases List.mem_cons.1 hx with rfl | hx
    · exact h.ckNew c List.mem_cons_self b (hb ▸ hb')
    · exact h.ckNew x (by simp [hx]) b hb'
/-- A row with room for c, seen cell by cell. -/
theorem vec_ref {I : Nat → Nat → Prop} {w : World} {g n c : Nat} {e : TypeId} {sz : Nat} {xs : List AV} (h : (Ck.vec (.slice (some ⟨g, 0, none⟩) n c) e sz xs).holds I w) : n = xs.length ∧ n ≤ c ∧ c ≤ maxLen ∧ (∀ x ∈ xs, x.cs.length = sz) ∧ ∃ spare : List Value, xs.length * sz + spare.length = c * sz ∧ (Ck.ref g e (flat xs ++ spare.map .val)).holds I w := by
  obtain ⟨hs, vs, ho, ha⟩ := h
  rcases ho.2 with ⟨h0, _⟩ | ⟨g', cap, cur, h0, _, hh, h3, h4, h5, h6⟩
  · cases h0
  · cases h0
    have hle : xs.length * sz ≤ c * sz := Nat.mul_le_mul_right _ h3
    refine ⟨rfl, h3, h4, hs, cur.toList.drop (xs.length * sz), by simp [h5]; omega, vs ++ cur.toList.drop (xs.length * sz), ?_, ?_⟩
    · rw [hh, ← h6, List.take_append_drop]
    · refine ha.append ?_
      generalize cur.toList.drop (xs.length * sz) = l
      induction l with
      | nil => exact .nil
      | cons v l ih => exact .cons (.val v) ih
theorem ref_vec {I : Nat → Nat → Prop} {w : World} {g c : Nat} {e : TypeId} {sz : Nat} {xs spare : List AV} (h : (Ck.ref g e (flat xs ++ spare)).holds I w) (hs : ∀ x ∈ xs, x.cs.length = sz) (hn : xs.length ≤ c) (hc : c ≤ maxLen) (hl : xs.length * sz + spare.length = c * sz) : (Ck.vec (.slice (some ⟨g, 0, none⟩) xs.length c) e sz xs).holds I w := by
  obtain ⟨vs, hv, ha⟩ := h
  have hfl := flat_length hs
  have hlen := ha.length
  rw [List.length_append, hfl, hl] at hlen
  refine ⟨hs, vs.take (xs.length * sz), ⟨?_, .inr ⟨g, c, vs.toArray, rfl, Nat.zero_le _, hv, hn, hc, by simp [← hlen], by simp⟩⟩, ?_⟩
  · rw [List.length_take, ← hlen]
    exact Nat.min_eq_left (Nat.mul_le_mul_right _ hn)
  · have := ha.take (xs.length * sz)
    rwa [List.take_append_of_le_length (by rw [hfl]; exact Nat.le_refl _), List.take_of_length_le (by rw [hfl]; exact Nat.le_refl _)] at this
section
variable {P : Program} {C : Cx} {Q : Exit → Act → World → Prop} {ops : Array Oper} {rest : List Oper} {env r : Env} {ds : List Deferred} {σ σr σ' : List Ck}
/-- The room behind a row. -/
structure Room (xs : List AV) (sz c : Nat) where
  vs : List Value
  h1 : xs.length * sz + vs.length = c * sz
  h2 : xs.length ≤ c
  h3 : c ≤ maxLen
  h4 : ∀ x ∈ xs, x.cs.length = sz
theorem at_vopen {g n c : Nat} {e : TypeId} {sz : Nat} {xs : List AV} {G : Room xs sz c → List Ck} {a : Act} {w : World} (hA : At C env ds σ a w) (hr : RepT σ (.vec (.slice (some ⟨g, 0, none⟩) n c) e sz xs) (fun s => .ref g e (flat xs ++ s.vs.map .val)) G) : ∃ s, At C env ds (G s) a w := by
  obtain ⟨rr, p1, p2⟩ := hr.perm
  obtain ⟨I, hg, hf, hd⟩ := hA
  have hg1 := hg.perm p1
  obtain ⟨h1, h2, h3, h4, sp, h5, h6⟩ := vec_ref (hg1.rel.ck _ List.mem_cons_self)
  refine ⟨⟨sp, h5, h1 ▸ h2, h3, h4⟩, I, (good_swap (c' := .ref g e (flat xs ++ sp.map .val)) hg1 rfl h6).perm (p2 ⟨sp, h5, h1 ▸ h2, h3, h4⟩).symm, hf, hd⟩
theorem x_vopen {k : Code} {g n c : Nat} {e : TypeId} {sz : Nat} {xs : List AV} {G : Room xs sz c → List Ck} (hr : RepT σ (.vec (.slice (some ⟨g, 0, none⟩) n c) e sz xs) (fun s => .ref g e (flat xs ++ s.vs.map .val)) G) (h : ∀ s, X P C k Q env ds (G s)) : X P C k Q env ds σ := by
  unfold X at *
  intro a w hA
  obtain ⟨s, hs⟩ := at_vopen hA hr
  exact h s a w hs
theorem xl_vopen {g n c : Nat} {e : TypeId} {sz : Nat} {xs : List AV} {G : Room xs sz c → List Ck} (hr : RepT σ (.vec (.slice (some ⟨g, 0, none⟩) n c) e sz xs) (fun s => .ref g e (flat xs ++ s.vs.map .val)) G) (h : ∀ s, XL P C ops Q rest env ds (G s)) : XL P C ops Q rest env ds σ :=
  .of fun a w hA => by
    obtain ⟨s, hs⟩ := at_vopen hA hr
    exact (h s).to a w hs
theorem at_vclose {g c : Nat} {e : TypeId} {sz : Nat} {cells xs spare : List AV} {a : Act} {w : World} (hA : At C env ds σ a w) (hr : Rep σ (.ref g e cells) (.vec (.slice (some ⟨g, 0, none⟩) xs.length c) e sz xs) σ') (hcell : cells = flat xs ++ spare) (hs : ∀ x ∈ xs, x.cs.length = sz) (hn : xs.length ≤ c) (hc : c ≤ maxLen) (hl : xs.length * sz + spare.length = c * sz) : At C env ds σ' a w := by
  subst hcell
  obtain ⟨rr, p1, p2⟩ := hr.perm
  obtain ⟨I, hg, hf, hd⟩ := hA
  have hg1 := hg.perm p1
  exact ⟨I, (good_swap (c' := .vec (.slice (some ⟨g, 0, none⟩) xs.length c) e sz xs) hg1 rfl (ref_vec (hg1.rel.ck _ List.mem_cons_self) hs hn hc hl)).perm p2.symm, hf, hd⟩
theorem x_vclose {k : Code} {g c : Nat} {e : TypeId} {sz : Nat} {cells xs spare : List AV} (hr : Rep σ (.ref g e cells) (.vec (.slice (some ⟨g, 0, none⟩) xs.length c) e sz xs) σ') (hcell : cells = flat xs ++ spare) (hs : ∀ x ∈ xs, x.cs.length = sz) (hn : xs.length ≤ c) (hc : c ≤ maxLen) (hl : xs.length * sz + spare.length = c * sz) (h : X P C k Q env ds σ') : X P C k Q env ds σ := by
  unfold X at *
  exact fun a w hA => h a w (at_vclose hA hr hcell hs hn hc hl)
theorem xl_vclose {g c : Nat} {e : TypeId} {sz : Nat} {cells xs spare : List AV} (hr : Rep σ (.ref g e cells) (.vec (.slice (some ⟨g, 0, none⟩) xs.length c) e sz xs) σ') (hcell : cells = flat xs ++ spare) (hs : ∀ x ∈ xs, x.cs.length = sz) (hn : xs.length ≤ c) (hc : c ≤ maxLen) (hl : xs.length * sz + spare.length = c * sz) (h : XL P C ops Q rest env ds σ') : XL P C ops Q rest env ds σ :=
  .of fun a w hA => h.to a w (at_vclose hA hr hcell hs hn hc hl)
theorem SetAt.app {xs ys zs : List AV} {o : Nat} (h : SetAt xs o ys zs) (r : List AV) : SetAt (xs ++ r) o ys (zs ++ r) := by
  induction h with
  | z => exact .z
  | c _ ih => exact .c ih
  | s _ ih => exact .s ih
/-- The inner row, whose slice lies in an element of the outer one, grows no more. -/
theorem at_pube {vi : Value} {ei si : Nat} {ys : List AV} {g n c : Nat} {e : TypeId} {sz : Nat} {xs xs' : List AV} {σ1 σ2 : List Ck} (o : Nat) {a : Act} {w : World} (hA : At C env ds σ a w) (hh : Has σ (.vec vi ei si ys) σ1) (hr : Rep σ1 (.vec (.slice (some ⟨g, 0, none⟩) n c) e sz xs) (.vec (.slice (some ⟨g, 0, none⟩) n c) e sz xs') σ2)
    (ho : (flat xs)[o]? = some (.val vi)) (hs : SetAt (flat xs) o [.list si ys] (flat xs')) (hl : xs'.length = xs.length) (hz : ∀ x ∈ xs', x.cs.length = sz) : At C env ds σ2 a w := by
  obtain ⟨rr, p1, p2⟩ := hr.perm
  have hA1 : At C env ds (.vec (.slice (some ⟨g, 0, none⟩) n c) e sz xs :: .vec vi ei si ys :: rr) a w := hA.perm ((hh.perm.trans (p1.cons _)).trans (.swap _ _ _))
  have hn : n = xs.length := by
    obtain ⟨I, hg, _, _⟩ := hA1
    exact (vec_ref (hg.rel.ck _ List.mem_cons_self)).1
  subst hn
  obtain ⟨s, hA2⟩ := at_vopen hA1 (RepT.h (F := fun (s : Room xs sz c) => .ref g e (flat xs ++ s.vs.map .val)))
  have hlt := (List.getElem?_eq_some_iff.1 ho).1
  have hA3 := at_pubc (o := o) hA2 (.there .here) (.h (c' := .ref g e (flat xs' ++ s.vs.map .val))) (by rw [List.getElem?_append_left hlt]; exact ho) (hs.app _)
  have hA4 := at_vclose (xs := xs') (c := c) (sz := sz) (spare := s.vs.map .val) hA3 .h rfl hz (by have := s.h2; omega) s.h3 (by have := s.h1; rw [hl]; simpa using this)
  rw [hl] at hA4
  exact hA4.perm p2.symm
theorem x_pube {k : Code} {vi : Value} {ei si : Nat} {ys : List AV} {g n c : Nat} {e : TypeId} {sz : Nat} {xs : List AV} (xs' : List AV) {σ1 σ2 : List Ck} (o : Nat) (hh : Has σ (.vec vi ei si ys) σ1) (hr : Rep σ1 (.vec (.slice (some ⟨g, 0, none⟩) n c) e sz xs) (.vec (.slice (some ⟨g, 0, none⟩) n c) e sz xs') σ2)
    (ho : (flat xs)[o]? = some (.val vi)) (hs : SetAt (flat xs) o [.list si ys] (flat xs')) (hl : xs'.length = xs.length) (hz : ∀ x ∈ xs', x.cs.length = sz) (h : X P C k Q env ds σ2) : X P C k Q env ds σ := by
  unfold X at *
  exact fun a w hA => h a w (at_pube o hA hh hr ho hs hl hz)
theorem xl_pube {vi : Value} {ei si : Nat} {ys : List AV} {g n c : Nat} {e : TypeId} {sz : Nat} {xs : List AV} (xs' : List AV) {σ1 σ2 : List Ck} (o : Nat) (hh : Has σ (.vec vi ei si ys) σ1) (hr : Rep σ1 (.vec (.slice (some ⟨g, 0, none⟩) n c) e sz xs) (.vec (.slice (some ⟨g, 0, none⟩) n c) e sz xs') σ2)
    (ho : (flat xs)[o]? = some (.val vi)) (hs : SetAt (flat xs) o [.list si ys] (flat xs')) (hl : xs'.length = xs.length) (hz : ∀ x ∈ xs', x.cs.length = sz) (h : XL P C ops Q rest env ds σ2) : XL P C ops Q rest env ds σ :=
  .of fun a w hA => h.to a w (at_pube o hA hh hr ho hs hl hz)
theorem vput_run {t : TypeId} {x y : Operand} {g n c o k : Nat} {e : TypeId} {sz : Nat} {xs xs' : List AV} {z : AV} {ty : TypeId} {pos : String} {after : Array Edge} [ht : TySz P t k] {I : Nat → Nat → Prop} {w : World} {a : Act} (hg : Good C.I0 C.w0 C.T0 I w (.vec (.slice (some ⟨g, 0, none⟩) n c) e sz xs :: σ)) (hf : Fits I w C.n env a) (hx : evl env x = some (.val (.pointer (some ⟨g, o, none⟩)))) (hy : evl env y = some z) (h1 : z.cs.all oneB = true) (hk : z.cs.length = k)
    (hu : SetAt (flat xs) o z.cs (flat xs')) (hl : xs'.length = xs.length) (hz : ∀ x ∈ xs', x.cs.length = sz) :
    ∃ w', (execOp a.eval ⟨none, .store t x y, ty, pos, after, none⟩).run P w = .ok .skip w' ∧ Good C.I0 C.w0 C.T0 I w' (.vec (.slice (some ⟨g, 0, none⟩) n c) e sz xs' :: σ) ∧ Per I w I w' := by
  obtain ⟨e1, e2, e3, e4, sp, e5, e6⟩ := vec_ref (hg.rel.ck _ List.mem_cons_self)
  subst e1
  have hg1 := good_swap (c' := .ref g e (flat xs ++ sp.map .val)) hg rfl e6
  obtain ⟨u1, u2⟩ := (hu.app (sp.map .val)).upd_eq
  have hxv := (hf.eval hx).val_inv
  have hc := cells_of (hf.eval hy) h1
  obtain ⟨w', hr, hg2, hp⟩ := good_stores (P := P) (o := o) z.cs _ 0 _ w hg1 hc (ones_spec hc h1) (by omega)
  rw [Nat.add_zero, u1] at hg2
  have hsz : (a.eval y).cells.size = k := by have := hc.length; simp at this; omega
  refine ⟨w', ?_, ?_, hp⟩
  · simp [execOp, hxv, Instr.storeAt, Instr.sureAddr, storeVar, ht.h w, hsz, hr, Sem.run_bind]
  · have hv := ref_vec (c := c) (sz := sz) (hg2.rel.ck _ List.mem_cons_self) hz (by omega) e3 (by rw [hl]; simpa using e5)
    rw [hl] at hv
    exact good_swap (c' := .vec (.slice (some ⟨g, 0, none⟩) xs.length c) e sz xs') hg2 rfl hv
theorem xl_vput {t : TypeId} {x y : Operand} {g n c o k : Nat} {e : TypeId} {sz : Nat} {xs : List AV} (xs' : List AV) {z : AV} {ty : TypeId} {pos : String} {after : Array Edge} [ht : TySz P t k] (hr : Rep σ (.vec (.slice (some ⟨g, 0, none⟩) n c) e sz xs) (.vec (.slice (some ⟨g, 0, none⟩) n c) e sz xs') σ') (hx : evl env x = some (.val (.pointer (some ⟨g, o, none⟩)))) (hy : evl env y = some z) (h1 : z.cs.all oneB = true) (hk : z.cs.length = k)
    (hu : SetAt (flat xs) o z.cs (flat xs')) (hl : xs'.length = xs.length) (hz : ∀ x ∈ xs', x.cs.length = sz) (kk : XL P C ops Q rest env ds σ') : XL P C ops Q (⟨none, .store t x y, ty, pos, after, none⟩ :: rest) env ds σ :=
  .of fun a w hA => by
    obtain ⟨I, hg, hf, hds⟩ := hA
    refine wpList_plain rfl fun K hK => ?_
    obtain ⟨rr, p1, p2⟩ := hr.perm
    obtain ⟨w', h1', h2', h3'⟩ := vput_run (P := P) (t := t) (ty := ty) (pos := pos) (after := after) (hg.perm p1) hf hx hy h1 hk hu hl hz
    unfold Oper.wp
    rw [h1']
    exact hK _ _ (kk.to _ _ ⟨I, h2'.perm p2.symm, hf.per h3', hds⟩)
theorem ev_vput {t : TypeId} {x y : Operand} {g n c o k : Nat} {e : TypeId} {sz : Nat} {xs : List AV} (xs' : List AV) {z : AV} {ty : TypeId} {pos : String} {after : Array Edge} [ht : TySz P t k] (hr : Rep σ (.vec (.slice (some ⟨g, 0, none⟩) n c) e sz xs) (.vec (.slice (some ⟨g, 0, none⟩) n c) e sz xs') σ') (hx : evl env x = some (.val (.pointer (some ⟨g, o, none⟩)))) (hy : evl env y = some z) (h1 : z.cs.all oneB = true) (hk : z.cs.length = k)
    (hu : SetAt (flat xs) o z.cs (flat xs')) (hl : xs'.length = xs.length) (hz : ∀ x ∈ xs', x.cs.length = sz) : EV P C ops Q ⟨none, .store t x y, ty, pos, after, none⟩ env ds σ (One (.val undef) σ') := by
  intro I w a K hg hf hds hK
  refine ⟨rfl, ?_⟩
  obtain ⟨rr, p1, p2⟩ := hr.perm
  obtain ⟨w', h1', h2', h3'⟩ := vput_run (P := P) (t := t) (ty := ty) (pos := pos) (after := after) (hg.perm p1) hf hx hy h1 hk hu hl hz
  unfold Oper.wp
  rw [h1']
  exact hK undef w' I _ _ ⟨rfl, rfl⟩ (h2'.perm p2.symm) h3' (.val undef)
end
end Go.Ax
