/- The rules for slices: literals, append, make, cuts. No condition: plain definitions and theorems. -/
import Derived.Test.YtmallgapchjhnaaAx4
import Derived.Laws.Slices
import Derived.Laws.MakeOwn
import Derived.Lib.AppendStr
set_option linter.unusedVariables false
set_option linter.unusedSimpArgs false
namespace Go.Ax
open Go Go.RowKit

/-- An element type: its cells, its bytes, its zero. -/
class TyEl (P : Program) (e : TypeId) (sz bytes : outParam Nat) (z : outParam Value) : Prop where
  h : (P.info? e).map (fun i => (i.zero, i.size, i.bytes)) = some (some z, sz, bytes)
  hz : z.cells.size = sz
  hs : 0 < sz
  hb : 0 < bytes
theorem TyEl.info {P : Program} {e : TypeId} {sz bytes : Nat} {z : Value} (h : TyEl P e sz bytes z) : ∃ i, P.info? e = some i ∧ i.zero = some z ∧ i.size = sz ∧ i.bytes = bytes := by
  obtain ⟨i, hi, h2⟩ := Option.map_eq_some_iff.1 h.h
  simp only [Prod.mk.injEq] at h2
  exact ⟨i, hi, h2.1, h2.2.1, h2.2.2⟩

inductive EvP (env : Env) : Nat → List (Nat × Operand) → List AV → Prop
  | nil {k : Nat} : EvP env k [] []
  | cons {k : Nat} {o : Operand} {x : AV} {ps : List (Nat × Operand)} {xs : List AV} : evl env o = some x → EvP env (k + 1) ps xs → EvP env k ((k, o) :: ps) (x :: xs)
inductive SeqP : Nat → List (Nat × Value) → List Value → Prop
  | nil {k : Nat} : SeqP k [] []
  | cons {k : Nat} {v : Value} {ps : List (Nat × Value)} {vs : List Value} : SeqP (k + 1) ps vs → SeqP k ((k, v) :: ps) (v :: vs)
theorem EvP.vals {I : Nat → Nat → Prop} {w : World} {n : Nat} {env : Env} {a : Act} (hf : Fits I w n env a) {k : Nat} {ps : List (Nat × Operand)} {xs : List AV} (h : EvP env k ps xs) :
    ∃ vs, SeqP k (ps.map fun p => (p.1, a.eval p.2)) vs ∧ All2 (VR I w) xs vs := by
  induction h with
  | nil => exact ⟨[], .nil, .nil⟩
  | cons h0 _ ih =>
    obtain ⟨vs, h1, h2⟩ := ih
    exact ⟨_, .cons h1, .cons (hf.eval h0) h2⟩

theorem foldl_set : ∀ (us : List Value) (k off : Nat) (cells : Array Value), off + k + us.length ≤ cells.size →
    ((us.zipIdx k).foldl (fun (cs : Array Value) p => cs.setIfInBounds (off + p.2) p.1) cells).toList = cells.toList.take (off + k) ++ us ++ cells.toList.drop (off + k + us.length)
  | [], k, off, cells, h => by simp
  | u :: us, k, off, cells, h => by
    simp only [List.length_cons] at h
    rw [List.zipIdx_cons, List.foldl_cons, foldl_set us (k + 1) off _ (by simp; omega)]
    have hlt : off + k < cells.toList.length := by simp; omega
    rw [Array.toList_setIfInBounds]
    have e1 : off + (k + 1) = (off + k) + 1 := by omega
    rw [e1, List.take_succ_eq_append_getElem (by simpa using hlt), List.take_set_of_le (Nat.le_refl _), List.drop_set_of_lt (by omega)]
    simp only [List.getElem_set_self, List.length_cons, List.append_assoc, List.singleton_append, List.cons_append, List.nil_append]
    congr 3
    congr 1
    omega

theorem fill_seq {sz : Nat} : ∀ {k : Nat} {ps : List (Nat × Value)} {vs : List Value}, SeqP k ps vs → (∀ v ∈ vs, v.cells.size = sz) → ∀ cells : Array Value, (k + vs.length) * sz ≤ cells.size →
    ∃ c' : Array Value, Instr.fill (fun i => some (i * sz, sz)) cells ps = some c' ∧ c'.toList = cells.toList.take (k * sz) ++ vs.flatMap (fun v => v.cells.toList) ++ cells.toList.drop ((k + vs.length) * sz)
  | k, _, _, .nil, _, cells, _ => ⟨cells, rfl, by simp⟩
  | k, _, _, .cons (v := v) (vs := vs) h, hs, cells, hl => by
    have hv := hs v (by simp)
    simp only [List.length_cons] at hl
    have h1 : k * sz + sz ≤ cells.size := by
      have : (k + 1) * sz ≤ (k + (vs.length + 1)) * sz := Nat.mul_le_mul_right _ (by omega)
      rw [Nat.add_mul, Nat.one_mul] at this
      omega
    have hf := foldl_set v.cells.toList 0 (k * sz) cells (by simp [hv]; omega)
    simp only [Nat.add_zero] at hf
    let c1 : Array Value := (v.cells.toList.zipIdx.foldl (fun (cs : Array Value) p => cs.setIfInBounds (k * sz + p.2) p.1) cells)
    have hc1 : c1.toList = cells.toList.take (k * sz) ++ v.cells.toList ++ cells.toList.drop (k * sz + v.cells.toList.length) := hf
    have hvl : v.cells.toList.length = sz := by simpa using hv
    have hsz1 : c1.size = cells.size := by
      rw [← Array.length_toList, hc1]
      simp [hv]
      omega
    obtain ⟨c', hc', ht⟩ := fill_seq h (fun u hu => hs u (by simp [hu])) c1 (by rw [hsz1, Nat.add_assoc, Nat.add_comm 1]; exact hl)
    refine ⟨c', ?_, ?_⟩
    · rw [Instr.fill]
      have hcond : (decide (v.cells.size ≠ sz) || decide (k * sz + v.cells.size > cells.size)) = false := by
        simp [hv]
        omega
      simp only [hcond]
      have e : v.cells.zipIdx.foldl (fun cs x => match x with | (c, j) => cs.setIfInBounds (k * sz + j) c) cells = c1 := by
        rw [← Array.foldl_toList, Array.toList_zipIdx]
      rw [e]
      exact hc'
    · rw [ht, hc1]
      have hk : (k + 1) * sz = k * sz + sz := by rw [Nat.add_mul, Nat.one_mul]
      have hlen : (cells.toList.take (k * sz) ++ v.cells.toList).length = (k + 1) * sz := by
        simp [hv]
        omega
      rw [List.take_append_of_le_length (by omega), List.take_of_length_le (by omega)]
      have h2 : (k + 1 + vs.length) * sz = (k + 1) * sz + vs.length * sz := by rw [Nat.add_mul]
      rw [List.drop_append, List.drop_of_length_le (by omega), hlen, List.nil_append, List.drop_drop, hvl]
      simp only [List.flatMap_cons, List.append_assoc, List.length_cons]
      congr 3
      congr 1
      rw [h2, show k + (vs.length + 1) = (k + 1) + vs.length by omega, h2]
      omega

theorem flat_all2 {I : Nat → Nat → Prop} {w : World} {xs : List AV} {vs : List Value} (h : All2 (VR I w) xs vs) (h1 : (flat xs).all oneB = true) : All2 (VR I w) (flat xs) (vs.flatMap fun v => v.cells.toList) := by
  induction h with
  | nil => exact .nil
  | cons h0 _ ih =>
    rw [flat_cons, List.all_append, Bool.and_eq_true] at h1
    rw [flat_cons, List.flatMap_cons]
    exact (cells_of h0 h1.1).append (ih h1.2)

section
variable {P : Program} {C : Cx} {Q : Exit → Act → World → Prop} {ops : Array Oper} {rest : List Oper} {env : Env} {ds : List Deferred} {σ σr : List Ck} {d : Nat} {ty : TypeId} {pos : String} {after : Array Edge} {op : Op}

theorem run_lit {t e : TypeId} {sz bytes len : Nat} {z : Value} (ht : P.underlying t = some (.slice e)) (hz : TyEl P e sz bytes z) {ps : List (Nat × Value)} {vs : List Value} (hp : SeqP 0 ps vs) (hlen : vs.length = len) (hv : ∀ v ∈ vs, v.cells.size = sz) (hbig : len * sz ≤ 16777216) (w : World) :
    (Instr.buildSlice t len ps.toArray).run P w = .ok (.slice (some ⟨w.heap.size, 0, none⟩) len len) (w.alloc (.cells (vs.flatMap fun v => v.cells.toList).toArray e)) := by
  obtain ⟨i, hi, h1, h2, h3⟩ := hz.info
  let base : Array Value := (Array.range (len * sz)).map fun k => (if len * sz = 0 then #[] else z.cells)[k % (if len * sz = 0 then #[] else z.cells).size]!
  obtain ⟨c', hc', ht'⟩ := fill_seq hp hv base (by simp [base, hlen])
  have hc2 : c' = (vs.flatMap fun v => v.cells.toList).toArray := by
    apply Array.toList_inj.1
    rw [ht']
    simp [base, hlen]
  have hn : ¬ 16777216 < len * sz := by omega
  by_cases h0 : len * sz = 0
  · have hb : base = #[] := by simp [base, h0]
    rw [hb, hc2] at hc'
    simp [Instr.buildSlice, run_underlying ht, sizeOf, typeInfo, hi, h2, h0, Sem.run_bind, hc', newRow, newObj, Sem.run, Array.range_zero']
  · have hb : base = (Array.range (len * sz)).map fun k => z.cells[k % z.cells.size]! := by simp [base, h0]
    rw [hb, hc2] at hc'
    simp [Instr.buildSlice, run_underlying ht, sizeOf, typeInfo, hi, h2, hn, h0, zeroValue, h1, Sem.run_bind, hc', newRow, newObj, Sem.run]

theorem vs_size {I : Nat → Nat → Prop} {w : World} {sz : Nat} {xs : List AV} {vs : List Value} (h : All2 (VR I w) xs vs) (hs : ∀ x ∈ xs, x.cs.length = sz) (h1 : (flat xs).all oneB = true) : ∀ v ∈ vs, v.cells.size = sz := by
  induction h with
  | nil => simp
  | cons h0 _ ih =>
    rw [flat_cons, List.all_append, Bool.and_eq_true] at h1
    intro v hv
    rcases List.mem_cons.1 hv with rfl | hv
    · have := (cells_of h0 h1.1).length
      rw [hs _ (by simp)] at this
      simpa using this.symm
    · exact ih (fun x hx => hs x (by simp [hx])) h1.2 v hv

theorem list_of_lit {I0 I : Nat → Nat → Prop} {w0 w : World} {T0 : Nat → Prop} (hg : Good I0 w0 T0 I w σ) {sz : Nat} {xs : List AV} {vs : List Value} (e : TypeId) (ha : All2 (VR I w) (flat xs) vs) (hs : ∀ x ∈ xs, x.cs.length = sz) (hm : xs.length ≤ 9223372036854775807) :
    VR (fun b o => I b o ∨ (b = w.heap.size ∧ o < vs.length)) (w.alloc (.cells vs.toArray e)) (.list sz xs) (.slice (some ⟨w.heap.size, 0, none⟩) xs.length xs.length) := by
  obtain ⟨_, hp⟩ := hg.lit e vs
  have hl : vs.length = xs.length * sz := by rw [← ha.length, flat_length hs]
  refine .list sz xs w.heap.size 0 xs.length (fun i => vs.getD i undef) hs (Nat.le_refl _) hm (fun i hi => .inr ⟨rfl, by omega⟩) (fun i hi => ?_) (fun i x hx => ?_)
  · rw [ref_cell (heap_push w _), Nat.zero_add, List.getD_eq_getElem?_getD, List.getElem?_eq_getElem (by omega)]
    rfl
  · obtain ⟨u, hu, hr⟩ := ha.get hx
    have : vs.getD i undef = u := by rw [List.getD_eq_getElem?_getD, hu]; rfl
    rw [this]
    exact hr.per hp

/-- '[]T{..}', written no more. -/
theorem xl_lit {t e : TypeId} {sz bytes len : Nat} {z : Value} {ps : List (Nat × Operand)} {xs : List AV} [ht : TyU P t (.slice e)] [hz : TyEl P e sz bytes z] (hp : EvP env 0 ps xs) (hlen : xs.length = len) (hs : ∀ x ∈ xs, x.cs.length = sz) (h1 : (flat xs).all oneB = true) (hbig : len * sz ≤ 16777216)
    (hd : Nat.ble (d + 1) C.n = true) (k : XL P C ops Q rest ((d, .list sz xs) :: env) ds σ) : XL P C ops Q (⟨some d, .buildSlice t len ps.toArray, ty, pos, after, none⟩ :: rest) env ds σ := by
  rintro a w ⟨I, hg, hf, hds⟩
  refine wpList_plain rfl fun K hK => ?_
  obtain ⟨vs, hsq, ha⟩ := hp.vals hf
  have hvs := vs_size ha hs h1
  have hrun := run_lit ht.h hz hsq (ha.length ▸ hlen) hvs hbig w
  have hfl := flat_all2 ha h1
  have hr : (execOp a.eval ⟨some d, .buildSlice t len ps.toArray, ty, pos, after, none⟩).run P w = .ok (.value (.slice (some ⟨w.heap.size, 0, none⟩) len len)) (w.alloc (.cells (vs.flatMap fun v => v.cells.toList).toArray e)) := by
    have : (ps.toArray.map fun (x : Nat × Operand) => (x.1, a.eval x.2)) = (ps.map fun p => (p.1, a.eval p.2)).toArray := by simp
    simp only [execOp, Sem.run_bind]
    rw [show (ps.toArray.map fun (x : Nat × Operand) => match x with | (i, x) => (i, a.eval x)) = (ps.map fun p => (p.1, a.eval p.2)).toArray by simp]
    rw [hrun]
    rfl
  unfold Oper.wp
  rw [hr]
  obtain ⟨hg2, hper⟩ := hg.lit e (vs.flatMap fun v => v.cells.toList)
  have hv := list_of_lit hg e hfl hs (by
    have := hz.hs
    have : xs.length ≤ len * sz := by rw [hlen]; exact Nat.le_mul_of_pos_right _ this
    omega)
  rw [hlen] at hv
  exact hK _ _ (k _ _ ⟨_, hg2, (hf.per hper).put (Nat.le_of_ble_eq_true hd) hv, hds⟩)

/-- '[]T{..}', a row of the call's own. -/
theorem xl_litv {t e : TypeId} {sz bytes len : Nat} {z : Value} {ps : List (Nat × Operand)} {xs : List AV} [ht : TyU P t (.slice e)] [hz : TyEl P e sz bytes z] (hp : EvP env 0 ps xs) (hlen : xs.length = len) (hs : ∀ x ∈ xs, x.cs.length = sz) (h1 : (flat xs).all oneB = true) (hbig : len * sz ≤ 16777216)
    (hd : Nat.ble (d + 1) C.n = true) (k : ∀ v, v.oneCell' = true → XL P C ops Q rest ((d, .val v) :: env) ds (.vec v e sz xs :: σ)) : XL P C ops Q (⟨some d, .buildSlice t len ps.toArray, ty, pos, after, none⟩ :: rest) env ds σ := by
  rintro a w ⟨I, hg, hf, hds⟩
  refine wpList_plain rfl fun K hK => ?_
  obtain ⟨vs, hsq, ha⟩ := hp.vals hf
  have hvs := vs_size ha hs h1
  have hrun := run_lit ht.h hz hsq (ha.length ▸ hlen) hvs hbig w
  have hfl := flat_all2 ha h1
  have hr : (execOp a.eval ⟨some d, .buildSlice t len ps.toArray, ty, pos, after, none⟩).run P w = .ok (.value (.slice (some ⟨w.heap.size, 0, none⟩) len len)) (w.alloc (.cells (vs.flatMap fun v => v.cells.toList).toArray e)) := by
    simp only [execOp, Sem.run_bind]
    rw [show (ps.toArray.map fun (x : Nat × Operand) => match x with | (i, x) => (i, a.eval x)) = (ps.map fun p => (p.1, a.eval p.2)).toArray by simp]
    rw [hrun]
    rfl
  unfold Oper.wp
  rw [hr]
  have hm : xs.length ≤ 9223372036854775807 := by
    have := hz.hs
    have : xs.length ≤ len * sz := by rw [hlen]; exact Nat.le_mul_of_pos_right _ this
    omega
  have hg2 := hg.vlit e sz xs _ hs hm hfl
  rw [hlen] at hg2
  exact hK _ _ (k _ rfl _ _ ⟨_, hg2, (hf.per (per_alloc I w _ hg.rel.ex)).put (Nat.le_of_ble_eq_true hd) (.val _), hds⟩)

theorem run_append_nil {w : World} {t ty e : TypeId} {i : TypeInfo} {size n : Nat} (ht : P.underlying t = some (.slice e)) (hi : P.info? e = some i)
    (v : Value) (xs : List Value) (hown : w.ownsRow 0 e size v n xs) (c : Nat) : (Builtin.append_ #[t, t] ty #[v, .slice none 0 c]).run P w = .ok v w := by
  rcases hown.2 with ⟨rfl, rfl⟩ | ⟨g, cap, cur, rfl, _, _, hnc, _⟩
  · simp [Builtin.append_, run_underlying ht, sizeOf, typeInfo, hi, Builtin.lenOf, Builtin.firstCells]
  · simp [Builtin.append_, run_underlying ht, sizeOf, typeInfo, hi, Builtin.lenOf, Builtin.firstCells, hnc, storeCells]

theorem own_one {w : World} {e : TypeId} {sz n : Nat} {v : Value} {xs : List Value} (h : w.ownsRow 0 e sz v n xs) : v.oneCell' = true := by
  rcases h.2 with ⟨rfl, _⟩ | ⟨_, _, _, rfl, _⟩ <;> rfl

theorem oneB_flat {I : Nat → Nat → Prop} {w : World} {xs : List AV} {vs : List Value} (h : All2 (VR I w) xs vs) (h1 : xs.all oneB = true) : ∀ u ∈ vs, u.oneCell' = true := ones_spec h h1

/-- What lies in a cell is the value of one cell. -/
theorem cell_one {I : Nat → Nat → Prop} {w : World} {x : AV} {v : Value} (h : VR I w x v) (hx : ∀ ys, x ≠ .agg ys) (hy : ∀ ys, x ≠ .tuple ys) (hv : ∀ u, x = .val u → u.oneCell' = true) : v.oneCell' = true := by
  cases h with
  | val v => exact hv v rfl
  | agg xs us _ _ => exact absurd rfl (hx xs)
  | tuple xs us _ _ => exact absurd rfl (hy xs)
  | _ => rfl

/-- append(v, ys...), v a row of the call's own. -/
theorem app_run {t e : TypeId} {sz bytes : Nat} {z v : Value} {x y : Operand} {xs ys : List AV} [ht : TyU P t (.slice e)] [hz : TyEl P e sz bytes z] {I : Nat → Nat → Prop} {w : World} {a : Act} (hg : Good C.I0 C.w0 C.T0 I w (.vec v e sz xs :: σr)) (hf : Fits I w C.n env a) (hx : evl env x = some (.val v)) (hy : evl env y = some (.list sz ys)) (h1 : (flat ys).all oneB = true)
    (hl : (xs.length + ys.length) * bytes ≤ 140737488355328) : ∃ v1 w1 I1, (execOp a.eval ⟨some d, .call { callee := .builtin .append, args := #[x, y], argTypes := #[t, t] }, ty, pos, after, none⟩).run P w = .ok (.value v1) w1 ∧ v1.oneCell' = true ∧ Good C.I0 C.w0 C.T0 I1 w1 (.vec v1 e sz (xs ++ ys) :: σr) ∧ Per I w I1 w1 := by
  obtain ⟨i, hi, i1, i2, i3⟩ := hz.info
  have hxv := (hf.eval hx).val_inv
  have hg1 := hg
  obtain ⟨hsz, us, ho, hu⟩ := hg1.rel.ck _ List.mem_cons_self
  have hyv := hf.eval hy
  have hb := hz.hb
  have hlen : xs.length + ys.length ≤ 140737488355328 := Nat.le_trans (Nat.le_mul_of_pos_right _ hb) hl
  generalize hyv2 : a.eval y = u at hyv
  have main : ∃ (v1 : Value) (w1 : World) (vs : List Value), (Builtin.append_ #[t, t] ty #[v, u]).run P w = .ok v1 w1 ∧ w1.ownsRow 0 e sz v1 (xs.length + ys.length) (us ++ vs) ∧ w.grownBy w1 v.ownBlock ∧ (v1.ownBlock = v.ownBlock ∨ v1.ownBlock = some w.heap.size) ∧ All2 (VR I w) (flat ys) vs ∧ (∀ x ∈ ys, x.cs.length = sz) := by
    cases hyv with
    | nil _ A c hm =>
      cases A with
      | none => exact ⟨v, w, [], run_append_nil ht.h hi v us ho c, by simpa using ho, World.grownBy.refl w _, .inl rfl, .nil, by simp⟩
      | some ad =>
        obtain ⟨v1, w1, hr, h2, h3, _, h5⟩ := run_append_own_at (P := P) w 0 t ty e i z sz bytes ht.h hi i1 i2 i3 hz.hz hz.hs v xs.length us ho ad 0 c [] (by simp) (by simp) (by simp) (by simp only [maxLen]; omega) (by simpa using hl) (Nat.zero_le _)
        exact ⟨v1, w1, [], hr, by simpa using h2, h3, h5, .nil, by simp⟩
    | list _ _ b o c vs hs hc hm hI hw hv =>
      have hfl := flat_length hs
      have ha : All2 (VR I w) (flat ys) ((List.range (ys.length * sz)).map vs) := .of_get (by simp [hfl]) (fun j p q hp hq => by
        have hj : j < ys.length * sz := by
          have := (List.getElem?_eq_some_iff.1 hp).1
          omega
        simp [hj] at hq
        subst hq
        exact hv j p hp)
      obtain ⟨v1, w1, hr, h2, h3, _, h5⟩ := run_append_own_at (P := P) w 0 t ty e i z sz bytes ht.h hi i1 i2 i3 hz.hz hz.hs v xs.length us ho ⟨b, o, none⟩ ys.length c ((List.range (ys.length * sz)).map vs) (by simp) (fun j q hq => by
        simp only [List.getElem?_map] at hq
        obtain ⟨j', hj', rfl⟩ := Option.map_eq_some_iff.1 hq
        obtain ⟨hj1, hj2⟩ := List.getElem?_eq_some_iff.1 hj'
        simp at hj1 hj2
        subst hj2
        rw [add_plain]
        exact hw j hj1) (ones_spec ha h1) (by simp only [maxLen]; omega) hl (Nat.zero_le _)
      exact ⟨v1, w1, _, hr, h2, h3, h5, ha, hs⟩
  obtain ⟨v1, w1, vs, hr, h2, h3, h5, ha, hs⟩ := main
  obtain ⟨hg2, hper⟩ := hg1.grow hs ho hu ha h2 h3 h5
  have hrun : (execOp a.eval ⟨some d, .call { callee := .builtin .append, args := #[x, y], argTypes := #[t, t] }, ty, pos, after, none⟩).run P w = .ok (.value v1) w1 := by
    simp only [execOp, resolve, invoke, builtin, Sem.run_bind, Sem.run_pure, Result.andThen_ok, List.map_toArray, List.map_cons, List.map_nil, hxv, hyv2, hr]
  exact ⟨v1, w1, _, hrun, own_one h2, hg2, hper⟩
theorem xl_app {t e : TypeId} {sz bytes : Nat} {z v : Value} {x y : Operand} {xs ys : List AV} [ht : TyU P t (.slice e)] [hz : TyEl P e sz bytes z] (hx : evl env x = some (.val v)) (hh : Has σ (.vec v e sz xs) σr) (hy : evl env y = some (.list sz ys)) (h1 : (flat ys).all oneB = true)
    (hl : (xs.length + ys.length) * bytes ≤ 140737488355328) (hd : Nat.ble (d + 1) C.n = true) (k : ∀ v', v'.oneCell' = true → XL P C ops Q rest ((d, .val v') :: env) ds (.vec v' e sz (xs ++ ys) :: σr)) :
    XL P C ops Q (⟨some d, .call { callee := .builtin .append, args := #[x, y], argTypes := #[t, t] }, ty, pos, after, none⟩ :: rest) env ds σ := by
  rintro a w ⟨I, hg, hf, hds⟩
  refine wpList_plain rfl fun K hK => ?_
  obtain ⟨v1, w1, I1, hrun, hone, hg2, hper⟩ := app_run (P := P) (t := t) (d := d) (pos := pos) (after := after) (ty := ty) (hg.perm hh.perm) hf hx hy h1 hl
  unfold Oper.wp
  rw [hrun]
  exact hK _ _ (k _ hone _ _ ⟨I1, hg2, (hf.per hper).put (Nat.le_of_ble_eq_true hd) (.val _), hds⟩)
theorem flat_take {sz : Nat} : ∀ {xs : List AV}, (∀ x ∈ xs, x.cs.length = sz) → ∀ n, flat (xs.take n) = (flat xs).take (n * sz)
  | [], _, n => by simp [flat]
  | x :: xs, h, 0 => by simp [flat]
  | x :: xs, h, n + 1 => by
    have hx := h x (by simp)
    rw [List.take_succ_cons, flat_cons, flat_cons, flat_take (fun y hy => h y (by simp [hy])) n, Nat.add_mul, Nat.one_mul, List.take_append, hx, List.take_of_length_le (l := x.cs) (by omega)]
    congr 2
    omega
theorem flat_drop {sz : Nat} : ∀ {xs : List AV}, (∀ x ∈ xs, x.cs.length = sz) → ∀ n, flat (xs.drop n) = (flat xs).drop (n * sz)
  | [], _, n => by simp [flat]
  | x :: xs, h, 0 => by simp
  | x :: xs, h, n + 1 => by
    have hx := h x (by simp)
    rw [List.drop_succ_cons, flat_cons, flat_drop (fun y hy => h y (by simp [hy])) n, Nat.add_mul, Nat.one_mul, List.drop_append, hx, List.drop_of_length_le (l := x.cs) (by omega), List.nil_append]
    congr 1
    omega
theorem vr_cut {I : Nat → Nat → Prop} {w : World} {sz : Nat} {xs : List AV} {A : Option Addr} {n c : Nat} (h : VR I w (.list sz xs) (.slice A n c)) (l u : Nat) (hl : l ≤ u) (hu : u ≤ xs.length) :
    VR I w (.list sz ((xs.take u).drop l)) (sliced A l u c sz) ∧ n = xs.length ∧ n ≤ c := by
  cases h with
  | nil _ _ _ hm =>
    have h1 : u = 0 := by simpa using hu
    have h2 : l = 0 := by omega
    subst h1 h2
    refine ⟨?_, rfl, Nat.zero_le _⟩
    simp only [sliced, List.take_nil, List.drop_nil, Nat.sub_zero]
    exact .nil sz _ c hm
  | list _ _ b o c vs hs hc hm hI hw hv =>
    refine ⟨?_, rfl, hc⟩
    have hlen : ((xs.take u).drop l).length = u - l := by simp; omega
    by_cases he : u = l
    · subst he
      have h0 : (xs.take u).drop u = [] := List.eq_nil_of_length_eq_zero (by omega)
      rw [h0]
      simp only [sliced, Nat.sub_self]
      exact .nil sz _ _ (by omega)
    · have hne : c ≠ l := by omega
      simp only [sliced, hne, if_false, Option.map_some, add_plain]
      rw [← hlen]
      have hmul : l * sz + (u - l) * sz ≤ xs.length * sz := by rw [← Nat.add_mul]; exact Nat.mul_le_mul_right _ (by omega)
      refine .list sz _ b (o + l * sz) (c - l) (fun i => vs (l * sz + i)) (fun x hx => hs x (List.mem_of_mem_take (List.mem_of_mem_drop hx))) (by omega) (by omega) (fun i hi => ?_) (fun i hi => ?_) (fun i x hx => ?_)
      · rw [hlen] at hi
        have := hI (l * sz + i) (by omega)
        rwa [← Nat.add_assoc] at this
      · rw [hlen] at hi
        have := hw (l * sz + i) (by omega)
        rwa [← Nat.add_assoc] at this
      · rw [flat_drop (fun x hx => hs x (List.mem_of_mem_take hx)), flat_take hs, List.getElem?_drop] at hx
        have hlt := (List.getElem?_eq_some_iff.1 hx).1
        simp at hlt
        rw [List.getElem?_take_of_lt (by omega)] at hx
        exact hv _ x hx
theorem elem_eq {t e : TypeId} (h : P.underlying t = some (.slice e)) : P.elem t = e := by simp [Program.elem, h]
theorem pv_cut {t e : TypeId} {x lo hi : Operand} {sz : Nat} {xs : List AV} {k k' : IntKind} {l u : Int} [ht : TyU P t (.slice e)] [hz : TySz P e sz] (hx : evl env x = some (.list sz xs)) (hlo : evl env lo = some (.val (.int k l))) (hhi : evl env hi = some (.val (.int k' u))) (h0 : 0 ≤ l) (h1 : l ≤ u) (h2 : u ≤ xs.length) :
    PV P C (.slice t x (some lo) (some hi) none) ty env σ (.list sz ((xs.take u.toNat).drop l.toNat)) := fun _ _ _ _ I w a hg hf => by
  have hv := hf.eval hx
  have hl := (hf.eval hlo).val_inv
  have hu := (hf.eval hhi).val_inv
  obtain ⟨A, c, e1, _, _⟩ := hv.list_inv
  rw [e1] at hv
  obtain ⟨hr, _, hc⟩ := vr_cut hv l.toNat u.toNat (by omega) (by omega)
  have he := elem_eq ht.h
  refine ⟨_, ?_, hr⟩
  have hte : P.underlying t = some (.slice (P.elem t)) := by rw [he]; exact ht.h
  simp [execOp, e1, hl, hu, run_sliceAt_slice (h := hte), run_slice_lh (ht := hte) (h0 := h0) (h1 := h1) (h2 := (by omega : u ≤ (c : Int))), he, hz.h w]
theorem pv_cut_h {t e : TypeId} {x hi : Operand} {sz : Nat} {xs : List AV} {k' : IntKind} {u : Int} [ht : TyU P t (.slice e)] [hz : TySz P e sz] (hx : evl env x = some (.list sz xs)) (hhi : evl env hi = some (.val (.int k' u))) (h1 : 0 ≤ u) (h2 : u ≤ xs.length) :
    PV P C (.slice t x none (some hi) none) ty env σ (.list sz (xs.take u.toNat)) := fun _ _ _ _ I w a hg hf => by
  have hv := hf.eval hx
  have hu := (hf.eval hhi).val_inv
  obtain ⟨A, c, e1, _, _⟩ := hv.list_inv
  rw [e1] at hv
  obtain ⟨hr, _, hc⟩ := vr_cut hv 0 u.toNat (by omega) (by omega)
  have he := elem_eq ht.h
  refine ⟨_, ?_, by simpa using hr⟩
  have hte : P.underlying t = some (.slice (P.elem t)) := by rw [he]; exact ht.h
  simp [execOp, e1, hu, run_sliceAt_slice (h := hte), run_slice_h (ht := hte) (h0 := h1) (h2 := (by omega : u ≤ (c : Int))), he, hz.h w]
theorem pv_cut_l {t e : TypeId} {x lo : Operand} {sz : Nat} {xs : List AV} {k : IntKind} {l : Int} [ht : TyU P t (.slice e)] [hz : TySz P e sz] (hx : evl env x = some (.list sz xs)) (hlo : evl env lo = some (.val (.int k l))) (h0 : 0 ≤ l) (h1 : l ≤ xs.length) :
    PV P C (.slice t x (some lo) none none) ty env σ (.list sz (xs.drop l.toNat)) := fun _ _ _ _ I w a hg hf => by
  have hv := hf.eval hx
  have hl := (hf.eval hlo).val_inv
  obtain ⟨A, c, e1, _, _⟩ := hv.list_inv
  rw [e1] at hv
  obtain ⟨hr, _, hc⟩ := vr_cut hv l.toNat xs.length (by omega) (by omega)
  have he := elem_eq ht.h
  refine ⟨_, ?_, by rwa [List.take_length] at hr⟩
  have hte : P.underlying t = some (.slice (P.elem t)) := by rw [he]; exact ht.h
  simp [execOp, e1, hl, run_sliceAt_slice (h := hte), run_slice_l (ht := hte) (h0 := h0) (h1 := h1), he, hz.h w]
end
end Go.Ax
