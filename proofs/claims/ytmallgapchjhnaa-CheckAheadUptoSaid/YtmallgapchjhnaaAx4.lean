/- The rules for memory: variables, elements, calls. No condition: plain definitions and theorems. -/
import Derived.Test.YtmallgapchjhnaaAx3
import Derived.Maps.AppendAt
set_option linter.unusedVariables false
set_option linter.unusedSimpArgs false
namespace Go.Ax
open Go Go.RowKit

inductive Has : List Ck → Ck → List Ck → Prop
  | here {c : Ck} {r : List Ck} : Has (c :: r) c r
  | there {c d : Ck} {r r' : List Ck} : Has r c r' → Has (d :: r) c (d :: r')
theorem Has.perm {σ r : List Ck} {c : Ck} (h : Has σ c r) : σ.Perm (c :: r) := by
  induction h with
  | here => exact .refl _
  | there _ ih => exact (ih.cons _).trans (.swap _ _ _)
theorem Has.mem {σ r : List Ck} {c : Ck} (h : Has σ c r) : c ∈ σ := h.perm.mem_iff.2 List.mem_cons_self
inductive Split : List Ck → List Ck → List Ck → Prop
  | nil {σ : List Ck} : Split σ [] σ
  | cons {σ σ1 σr cs : List Ck} {c : Ck} : Has σ c σ1 → Split σ1 cs σr → Split σ (c :: cs) σr
theorem Split.perm {σ cs σr : List Ck} (h : Split σ cs σr) : σ.Perm (cs ++ σr) := by
  induction h with
  | nil => exact .refl _
  | cons h0 _ ih => exact h0.perm.trans (ih.cons _)

def oneB : AV → Bool
  | .val v => v.oneCell'
  | .list _ _ | .iptr _ => true
  | _ => false
theorem oneB_spec {I : Nat → Nat → Prop} {w : World} {x : AV} {v : Value} (h : VR I w x v) (hx : oneB x = true) : v.oneCell' = true := by
  cases h <;> first | exact hx | rfl | (simp [oneB] at hx)
theorem ones_spec {I : Nat → Nat → Prop} {w : World} {xs : List AV} {vs : List Value} (h : All2 (VR I w) xs vs) (hx : xs.all oneB = true) : ∀ v ∈ vs, v.oneCell' = true := by
  induction h with
  | nil => simp
  | cons h0 _ ih =>
    simp only [List.all_cons, Bool.and_eq_true] at hx
    intro v hv
    rcases List.mem_cons.1 hv with rfl | hv
    · exact oneB_spec h0 hx.1
    · exact ih hx.2 v hv
/-- A value's cells. -/
theorem cells_of {I : Nat → Nat → Prop} {w : World} {x : AV} {v : Value} (h : VR I w x v) (hx : x.cs.all oneB = true) : All2 (VR I w) x.cs v.cells.toList := by
  cases h with
  | val v =>
    have h1 : v.oneCell' = true := by simpa [AV.cs, oneB] using hx
    cases v <;> first | exact .cons (.val _) .nil | (simp [Value.oneCell'] at h1)
  | nil sz A c hm => exact .cons (.nil sz A c hm) .nil
  | list sz xs b o c vs hsz hc hm hI hw hv => exact .cons (.list sz xs b o c vs hsz hc hm hI hw hv) .nil
  | iptr xs b o vs hI hw hv => exact .cons (.iptr xs b o vs hI hw hv) .nil
  | agg xs us hl h => exact .of_get hl h
  | tuple xs us hl h => simp [AV.cs, oneB] at hx

theorem add_plain (b o j : Nat) : (⟨b, o, none⟩ : Addr).add j = ⟨b, o + j, none⟩ := by unfold Addr.add; split <;> simp_all

section
variable {P : Program} {C : Cx} {Q : Exit → Act → World → Prop} {ops : Array Oper} {rest : List Oper} {env : Env} {ds : List Deferred} {σ σr : List Ck} {d : Nat} {ty : TypeId} {pos : String} {after : Array Edge} {op : Op}

theorem ref_cells {I0 I : Nat → Nat → Prop} {w0 w : World} {T0 : Nat → Prop} {b : Nat} {T : TypeId} {cells : List AV} (hg : Good I0 w0 T0 I w σ) (hh : Has σ (.ref b T cells) σr) :
    ∃ vs : List Value, w.heap[b]? = some (.cells vs.toArray T (0, 0)) ∧ All2 (VR I w) cells vs := hg.rel.ck _ hh.mem
theorem ref_cell {w : World} {b : Nat} {T : TypeId} {vs : List Value} (h : w.heap[b]? = some (.cells vs.toArray T (0, 0))) (o : Nat) : w.cell? ⟨b, o, none⟩ = vs[o]? := by
  rw [cell_of_row _ _ o vs.toArray T (0, 0) h]
  simp

theorem pv_load1 {t : TypeId} {x : Operand} {b o : Nat} {T : TypeId} {cells : List AV} {y : AV} [ht : Ty1 P t] (hx : evl env x = some (.val (.pointer (some ⟨b, o, none⟩)))) (hh : Has σ (.ref b T cells) σr) (hc : cells[o]? = some y) : PV P C (.load t x) ty env σ y := fun _ _ _ _ I w a hg hf => by
  have h1 := (hf.eval hx).val_inv
  obtain ⟨vs, hv, ha⟩ := ref_cells hg hh
  obtain ⟨v, hv2, hr⟩ := ha.get hc
  have hcell : w.cell? ⟨b, o, none⟩ = some v := (ref_cell hv o).trans hv2
  exact ⟨v, by simp [execOp, h1, Instr.loadAt, Instr.sureAddr, loadVar, (ht.h w).1, load, hcell, Sem.run_bind, Sem.run], hr⟩
theorem pv_loadN {t : TypeId} {x : Operand} {b o k : Nat} {T : TypeId} {cells : List AV} [ht : TyN P t k] (hx : evl env x = some (.val (.pointer (some ⟨b, o, none⟩)))) (hh : Has σ (.ref b T cells) σr) (hl : ((cells.drop o).take k).length = k) : PV P C (.load t x) ty env σ (.agg ((cells.drop o).take k)) := fun _ _ _ _ I w a hg hf => by
  have h1 := (hf.eval hx).val_inv
  obtain ⟨vs, hv, ha⟩ := ref_cells hg hh
  have ha2 := (ha.drop o).take k
  have hl2 : ((vs.drop o).take k).length = k := by rw [← ha2.length]; exact hl
  refine ⟨.agg ((vs.drop o).take k).toArray, ?_, .agg_mk ha2⟩
  have hrun := run_loadCells_list (P := P) w ⟨b, o, none⟩ ((vs.drop o).take k) (fun j u hu => by
    rw [add_plain, ref_cell hv]
    have hj : j < k := by
      have := (List.getElem?_eq_some_iff.1 hu).1
      omega
    rwa [List.getElem?_take_of_lt hj, List.getElem?_drop] at hu)
  rw [hl2] at hrun
  simp [execOp, h1, Instr.loadAt, Instr.sureAddr, loadVar, (ht.h w).1, (ht.h w).2, hrun]
theorem pv_load1_i {t : TypeId} {x : Operand} {xs : List AV} {y : AV} [ht : Ty1 P t] (hx : evl env x = some (.iptr xs)) (hc : xs[0]? = some y) : PV P C (.load t x) ty env σ y := fun _ _ _ _ I w a hg hf => by
  have h0 := hf.eval hx
  generalize hv : a.eval x = v at h0
  cases h0 with
  | iptr _ b o vs hI hw hv2 =>
    have hl : 0 < xs.length := (List.getElem?_eq_some_iff.1 hc).1
    have hcell := hw 0 hl
    rw [Nat.add_zero] at hcell
    exact ⟨vs 0, by simp [execOp, hv, Instr.loadAt, Instr.sureAddr, loadVar, (ht.h w).1, load, hcell, Sem.run_bind, Sem.run], hv2 0 y hc⟩
theorem pv_loadN_i {t : TypeId} {x : Operand} {xs : List AV} {k : Nat} [ht : TyN P t k] (hx : evl env x = some (.iptr xs)) (hl : (xs.take k).length = k) : PV P C (.load t x) ty env σ (.agg (xs.take k)) := fun _ _ _ _ I w a hg hf => by
  have h0 := hf.eval hx
  generalize hv : a.eval x = v at h0
  cases h0 with
  | iptr _ b o vs hI hw hv2 =>
    have hk : k ≤ xs.length := by simp at hl; omega
    have hrun := run_loadCells_list (P := P) w ⟨b, o, none⟩ ((List.range k).map vs) (fun j u hu => by
      simp only [List.getElem?_map] at hu
      obtain ⟨i, hi, rfl⟩ := Option.map_eq_some_iff.1 hu
      obtain ⟨hi1, hi2⟩ := List.getElem?_eq_some_iff.1 hi
      simp at hi2 hi1
      subst hi2
      rw [add_plain]
      exact hw j (by omega))
    simp only [List.length_map, List.length_range] at hrun
    refine ⟨.agg ((List.range k).map vs).toArray, by simp [execOp, hv, Instr.loadAt, Instr.sureAddr, loadVar, (ht.h w).1, (ht.h w).2, hrun], .agg_mk (.of_get (by simp; omega) (fun i p q hp hq => ?_))⟩
    have hi : i < k := by
      have := (List.getElem?_eq_some_iff.1 hp).1
      simp at this
      omega
    rw [List.getElem?_take_of_lt hi] at hp
    simp [hi] at hq
    subst hq
    exact hv2 i p hp
theorem pv_field_a {s : TypeId} {x : Operand} {b o j off k : Nat} [ht : TyFd P s j off k] (hx : evl env x = some (.val (.pointer (some ⟨b, o, none⟩)))) : PV P C (.fieldAddr s x j) ty env σ (.val (.pointer (some ⟨b, o + off, none⟩))) := fun _ _ _ _ I w a hg hf => by
  have h1 := (hf.eval hx).val_inv
  exact ⟨_, by simp [execOp, h1, ht.h b o w], .val _⟩
theorem pv_field_i {s : TypeId} {x : Operand} {xs : List AV} {j off k : Nat} [ht : TyFd P s j off k] (hx : evl env x = some (.iptr xs)) : PV P C (.fieldAddr s x j) ty env σ (.iptr (xs.drop off)) := fun _ _ _ _ I w a hg hf => by
  have h0 := hf.eval hx
  generalize hv : a.eval x = v at h0
  cases h0 with
  | iptr _ b o vs hI hw hv2 =>
    refine ⟨.pointer (some ⟨b, o + off, none⟩), by simp [execOp, hv, ht.h b o w], .iptr _ b (o + off) (fun i => vs (off + i)) (fun i hi => ?_) (fun i hi => ?_) (fun i y hy => ?_)⟩
    · simp at hi
      have := hI (off + i) (by omega)
      rwa [← Nat.add_assoc] at this
    · simp at hi
      have := hw (off + i) (by omega)
      rwa [← Nat.add_assoc] at this
    · rw [List.getElem?_drop] at hy
      exact hv2 _ y hy

theorem flat_get {sz : Nat} : ∀ {xs : List AV}, (∀ x ∈ xs, x.cs.length = sz) → ∀ {n : Nat} {x : AV}, xs[n]? = some x → ∀ i, i < sz → (flat xs)[n * sz + i]? = x.cs[i]?
  | [], _, n, x, h, i, _ => by simp at h
  | y :: ys, hs, 0, x, h, i, hi => by
    have : y = x := by simpa using h
    subst this
    rw [flat_cons, Nat.zero_mul, Nat.zero_add, List.getElem?_append_left (by rw [hs y (by simp)]; exact hi)]
  | y :: ys, hs, n + 1, x, h, i, hi => by
    have hy := hs y (by simp)
    rw [flat_cons, List.getElem?_append_right (by rw [hy, Nat.add_mul]; omega), hy]
    have e : (n + 1) * sz + i - sz = n * sz + i := by rw [Nat.add_mul]; omega
    rw [e]
    exact flat_get (fun z hz => hs z (by simp [hz])) (by simpa using h) i hi

/-- &xs[i] of a list. -/
theorem pv_at {t e : TypeId} {x y : Operand} {sz : Nat} {xs : List AV} {k : IntKind} {n : Int} {z : AV} [ht : TyU P t (.slice e)] [hz : TySz P e sz] (hx : evl env x = some (.list sz xs)) (hy : evl env y = some (.val (.int k n))) (h0 : 0 ≤ n) (hn : xs[n.toNat]? = some z) :
    PV P C (.indexAddr t x y) ty env σ (.iptr z.cs) := fun _ _ _ _ I w a hg hf => by
  have h1 := hf.eval hx
  have h2 := (hf.eval hy).val_inv
  have hlt := (List.getElem?_eq_some_iff.1 hn).1
  generalize hv : a.eval x = v at h1
  cases h1 with
  | nil => simp at hlt
  | list _ _ b o c vs hsz hc hm hI hw hv2 =>
    have hzl : z.cs.length = sz := hsz z (List.mem_of_getElem? hn)
    have hle : (n.toNat + 1) * sz ≤ xs.length * sz := Nat.mul_le_mul_right _ hlt
    rw [Nat.add_mul, Nat.one_mul] at hle
    refine ⟨.pointer (some ⟨b, o + n.toNat * sz, none⟩), ?_, .iptr _ b (o + n.toNat * sz) (fun i => vs (n.toNat * sz + i)) (fun i hi => ?_) (fun i hi => ?_) (fun i p hp => ?_)⟩
    · have hcond : 0 ≤ n ∧ n < (xs.length : Int) := by omega
      simp [execOp, hv, h2, Instr.indexAt, asIntOf, run_underlying ht.h, hcond, hz.h w, add_plain, Sem.run_bind]
    · have := hI (n.toNat * sz + i) (by omega)
      rwa [← Nat.add_assoc] at this
    · have := hw (n.toNat * sz + i) (by omega)
      rwa [← Nat.add_assoc] at this
    · have hi : i < sz := by
        have := (List.getElem?_eq_some_iff.1 hp).1
        omega
      exact hv2 _ p (by rw [flat_get hsz hn i hi]; exact hp)
theorem pv_field {s : TypeId} {x : Operand} {xs : List AV} {j : Nat} {y : AV} (hr : ∀ (us : List Value) w, us.length = xs.length → ∃ v, (Instr.field s (.agg us.toArray) j).run P w = .ok v w ∧ ∀ I w, All2 (VR I w) xs us → VR I w y v) (hx : evl env x = some (.agg xs)) : PV P C (.field s x j) ty env σ y := fun _ _ _ _ I w a hg hf => by
  obtain ⟨us, h1, h2⟩ := (hf.eval hx).agg_inv
  obtain ⟨v, hv, hq⟩ := hr us w h2.length.symm
  exact ⟨v, by simp [execOp, h1, hv], hq I w h2⟩

/-! ### What turns memory -/
/-- A new variable holds zeros. -/
class TyZ (P : Program) (t : TypeId) (zs : outParam (List Value)) : Prop where
  h : ∀ w, ∃ z : Value, (zeroValue t).run P w = .ok z w ∧ z.cells = zs.toArray
theorem xl_alloc {T : TypeId} {zs : List Value} [ht : TyZ P T zs] (hd : Nat.ble (d + 1) C.n = true) (k : ∀ b, XL P C ops Q rest ((d, .val (.pointer (some ⟨b, 0, none⟩))) :: env) ds (.ref b T (zs.map .val) :: σ)) :
    XL P C ops Q (⟨some d, .alloc T, ty, pos, after, none⟩ :: rest) env ds σ := by
  rintro a w ⟨I, hg, hf, hds⟩
  refine wpList_plain rfl fun K hK => ?_
  obtain ⟨z, hz, hc⟩ := ht.h w
  have hr : (execOp a.eval ⟨some d, .alloc T, ty, pos, after, none⟩).run P w = .ok (.value (.pointer (some ⟨w.heap.size, 0, none⟩))) (w.alloc (.cells zs.toArray T)) := by
    simp [execOp, Instr.alloc, hz, newVar, newRow, newObj, hc, Sem.run_bind, Sem.run]
  unfold Oper.wp
  rw [hr]
  have hg2 := hg.ref T (zs.map .val) zs (All2.of_get (by simp) (fun i x u hx hu => by
    simp only [List.getElem?_map, hu, Option.map_some, Option.some.injEq] at hx
    subst hx
    exact .val u))
  exact hK _ _ (k _ _ _ ⟨I, hg2, (hf.per (per_alloc I w _ hg.rel.ex)).put (Nat.le_of_ble_eq_true hd) (.val _), hds⟩)
theorem xl_box {T : TypeId} {x : Operand} {y : AV} (hx : evl env x = some y) (h1 : y.cs.all oneB = true) (hd : Nat.ble (d + 1) C.n = true) (k : ∀ b, XL P C ops Q rest ((d, .val (.pointer (some ⟨b, 0, none⟩))) :: env) ds (.ref b T y.cs :: σ)) :
    XL P C ops Q (⟨some d, .box T x, ty, pos, after, none⟩ :: rest) env ds σ := by
  rintro a w ⟨I, hg, hf, hds⟩
  refine wpList_plain rfl fun K hK => ?_
  have hv := hf.eval hx
  have hc := cells_of hv h1
  have hr : (execOp a.eval ⟨some d, .box T x, ty, pos, after, none⟩).run P w = .ok (.value (.pointer (some ⟨w.heap.size, 0, none⟩))) (w.alloc (.cells (a.eval x).cells T)) := by
    simp [execOp, Instr.box, newVar, newRow, newObj, Sem.run_bind, Sem.run]
  unfold Oper.wp
  rw [hr]
  have hg2 := hg.ref T y.cs (a.eval x).cells.toList hc
  simp only [Array.toArray_toList] at hg2
  exact hK _ _ (k _ _ _ ⟨I, hg2, (hf.per (per_alloc I w _ hg.rel.ex)).put (Nat.le_of_ble_eq_true hd) (.val _), hds⟩)

def upd (cells : List AV) (o : Nat) : List AV → List AV
  | [] => cells
  | y :: ys => upd (cells.set o y) (o + 1) ys
theorem upd_length (ys : List AV) : ∀ (cells : List AV) (o : Nat), (upd cells o ys).length = cells.length := by
  induction ys with
  | nil => intro _ _; rfl
  | cons y ys ih => intro cells o; simp [upd, ih]

theorem good_stores {I0 I : Nat → Nat → Prop} {w0 : World} {T0 : Nat → Prop} {b : Nat} {T : TypeId} {o : Nat} : ∀ (ys : List AV) (us : List Value) (i : Nat) (cells : List AV) (w : World), Good I0 w0 T0 I w (.ref b T cells :: σ) → All2 (VR I w) ys us → (∀ u ∈ us, u.oneCell' = true) → o + i + ys.length ≤ cells.length →
    ∃ w', (storeCells ⟨b, o, none⟩ us i).run P w = .ok () w' ∧ Good I0 w0 T0 I w' (.ref b T (upd cells (o + i) ys) :: σ) ∧ Per I w I w' := by
  intro ys
  induction ys with
  | nil =>
    intro us i cells w hg ha _ _
    cases ha
    exact ⟨w, by simp [storeCells], hg, Per.refl _ _⟩
  | cons y ys ih =>
    intro us i cells w hg ha h1 hl
    cases ha with
    | cons h0 ha =>
      rename_i u us
      obtain ⟨hg2, hp⟩ := hg.set (o + i) h0
      obtain ⟨vs, hv, hvs⟩ := hg.rel.ck (.ref b T cells) List.mem_cons_self
      have hin : o + i < vs.length := by rw [← hvs.length]; simp at hl; omega
      obtain ⟨w', hr, hg3, hp3⟩ := ih us (i + 1) (cells.set (o + i) y) _ hg2 (ha.imp (fun _ _ h => h.per hp)) (fun z hz => h1 z (by simp [hz])) (by simp at hl ⊢; omega)
      refine ⟨w', ?_, by rw [upd]; exact hg3, hp.trans hp3⟩
      have hcell : w.cell? ⟨b, o + i, none⟩ = some vs[o + i] := (ref_cell hv _).trans (List.getElem?_eq_getElem hin)
      have hfz : w.frozen? ⟨b, o + i, none⟩ = false := by simp [World.frozen?, hv]
      have hone := h1 u (by simp)
      rw [storeCells, Sem.run_bind, add_plain]
      have hst : (store ⟨b, o + i, none⟩ u).run P w = .ok () (w.setCell ⟨b, o + i, none⟩ u) := by
        cases u <;> first | (simp [store, Sem.run, hcell, hfz]; done) | (simp [Value.oneCell'] at hone)
      rw [hst]
      exact hr

theorem xl_store {t : TypeId} {x y : Operand} {b o : Nat} {T : TypeId} {cells : List AV} {z : AV} {k : Nat} [ht : TySz P t k] (hx : evl env x = some (.val (.pointer (some ⟨b, o, none⟩)))) (hy : evl env y = some z) (hh : Has σ (.ref b T cells) σr) (h1 : z.cs.all oneB = true) (hk : z.cs.length = k) (hl : o + k ≤ cells.length)
    (kk : XL P C ops Q rest env ds (.ref b T (upd cells o z.cs) :: σr)) : XL P C ops Q (⟨none, .store t x y, ty, pos, after, none⟩ :: rest) env ds σ := by
  rintro a w ⟨I, hg, hf, hds⟩
  refine wpList_plain rfl fun K hK => ?_
  have hxv := (hf.eval hx).val_inv
  have hc := cells_of (hf.eval hy) h1
  obtain ⟨w', hr, hg2, hp⟩ := good_stores (P := P) (o := o) z.cs _ 0 cells w (hg.perm hh.perm) hc (ones_spec hc h1) (by omega)
  have hsz : (a.eval y).cells.size = k := by have := hc.length; simp at this; omega
  have hrun : (execOp a.eval ⟨none, .store t x y, ty, pos, after, none⟩).run P w = .ok .skip w' := by
    simp [execOp, hxv, Instr.storeAt, Instr.sureAddr, storeVar, ht.h w, hsz, hr, Sem.run_bind]
  unfold Oper.wp
  rw [hrun]
  exact hK _ _ (kk _ _ ⟨I, hg2, (hf.per hp), hds⟩)

theorem xl_panic {x : Operand} {T : TypeId} {v : Value} (hx : evl env x = some (.val (.iface T v))) (k : XQ C Q (.panic [{ v := .iface T v, recovered := false }]) env ds σ) {dst : Option Tmp} : XL P C ops Q (⟨dst, .panic x, ty, pos, after, none⟩ :: rest) env ds σ := by
  rintro a w ⟨I, hg, hf, hds⟩
  refine wpList_plain rfl fun K hK => ?_
  have h1 := (hf.eval hx).val_inv
  unfold Oper.wp
  have hr : (execOp a.eval ⟨dst, .panic x, ty, pos, after, none⟩).run P w = .halt (.panic (.iface T v)) w := by
    simp [execOp, h1, Instr.panic, goPanic, Sem.run_bind, Sem.run]
  rw [hr]
  exact k _ _ ⟨I, hg, hf, hds⟩

/-! ### Calls -/
inductive Evs (env : Env) : List Operand → List AV → Prop
  | nil : Evs env [] []
  | cons {o : Operand} {x y : AV} {os : List Operand} {xs : List AV} : evl env o = some x → Wk x y → Evs env os xs → Evs env (o :: os) (y :: xs)
theorem Evs.all {I : Nat → Nat → Prop} {w : World} {n : Nat} {a : Act} (hf : Fits I w n env a) {os : List Operand} {xs : List AV} (h : Evs env os xs) : All2 (VR I w) xs (os.map a.eval) := by
  induction h with
  | nil => exact .nil
  | cons h0 hw _ ih => exact .cons (hw I w _ (hf.eval h0)) ih
/-- What the function's name and its text say: it has a body. -/
class Fn1 (P : Program) (f : FuncId) : Prop where
  h : ∀ args w, (callFunc f args).run P w = .ok (.enter f args) w
theorem xl_call {f : FuncId} {os : List Operand} {ts : Array TypeId} {args : List AV} {σf : List Ck} {Post : AE → List Ck → Prop} {cal : Operand} [hF : Fn1 P f] (hcal : evl env cal = some (.val (.func (.func f) #[] #[]))) (hargs : Evs env os args) (hs : Split σ σf σr) (hc : AC P f args σf Post)
    (hd : Nat.ble (d + 1) C.n = true) (kr : ∀ x σ', Post (.ret x) σ' → XL P C ops Q rest ((d, x) :: env) ds (σ' ++ σr)) (kp : ∀ v σ', Post (.panic v) σ' → XQ C Q (.panic [{ v, recovered := false }]) env ds (σ' ++ σr)) :
    XL P C ops Q (⟨some d, .call { callee := .value cal, args := os.toArray, argTypes := ts }, ty, pos, after, none⟩ :: rest) env ds σ := by
  rintro a w ⟨I, hg, hf, hds⟩
  refine wpList_plain rfl fun K hK => ?_
  have hcv := (hf.eval hcal).val_inv
  have hg1 := hg.perm hs.perm
  have hrel : Rel I w σf := ⟨fun c hc => hg1.rel.ck c (by simp [hc]), (List.pairwise_append.1 hg1.rel.ap).1, fun c hc => hg1.rel.off c (by simp [hc]), hg1.rel.ex⟩
  have hcall := hc I w _ hrel (hargs.all hf)
  have hr : (execOp a.eval ⟨some d, .call { callee := .value cal, args := os.toArray, argTypes := ts }, ty, pos, after, none⟩).run P w = .ok (.enter f (os.map a.eval).toArray) w := by
    simp [execOp, resolve, hcv, Deferred.ofValue, invoke, hF.h]
  unfold Oper.wp
  rw [hr]
  refine hcall.mono ?_
  rintro e w' ⟨I', σ', ae, hg', he, hp⟩
  have hg2 := Good.call hg1 hg'
  cases he with
  | ret hv => exact hK _ _ (kr _ _ hp _ _ ⟨I', hg2, (hf.per hg'.per).put (Nat.le_of_ble_eq_true hd) hv, hds⟩)
  | panic v => exact kp _ _ hp _ _ ⟨I', hg2, hf.per hg'.per, hds⟩
end
end Go.Ax
