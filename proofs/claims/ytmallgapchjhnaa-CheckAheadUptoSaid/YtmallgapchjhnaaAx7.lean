/- More rules: rows of the call's own that are read, structs that are built, calls that end in one way, closures, interfaces. No condition: plain definitions and theorems. -/
import Derived.Test.YtmallgapchjhnaaAx6
import Derived.Laws.StructEq
set_option linter.unusedVariables false
set_option linter.unusedSimpArgs false
namespace Go.Ax
open Go Go.RowKit

/-- xs with ys laid at place o is zs. -/
inductive SetAt : List AV → Nat → List AV → List AV → Prop
  | z {xs : List AV} : SetAt xs 0 [] xs
  | c {x y : AV} {xs ys zs : List AV} : SetAt xs 0 ys zs → SetAt (x :: xs) 0 (y :: ys) (y :: zs)
  | s {x : AV} {xs ys zs : List AV} {o : Nat} : SetAt xs o ys zs → SetAt (x :: xs) (o + 1) ys (x :: zs)
theorem upd_shift (ys : List AV) : ∀ (x : AV) (xs : List AV) (o : Nat), upd (x :: xs) (o + 1) ys = x :: upd xs o ys := by
  induction ys with
  | nil => intro _ _ _; rfl
  | cons y ys ih =>
    intro x xs o
    rw [upd, upd, List.set_cons_succ, ih]
theorem SetAt.upd_eq {xs ys zs : List AV} {o : Nat} (h : SetAt xs o ys zs) : upd xs o ys = zs ∧ o + ys.length ≤ xs.length := by
  induction h with
  | z => exact ⟨rfl, by simp⟩
  | c _ ih =>
    refine ⟨?_, by have := ih.2; simp only [List.length_cons]; omega⟩
    rw [upd, List.set_cons_zero, upd_shift, ih.1]
  | s _ ih =>
    refine ⟨?_, by have := ih.2; simp only [List.length_cons]; omega⟩
    rw [upd_shift, ih.1]
/-- xs ++ ys is zs. -/
inductive App : List Ck → List Ck → List Ck → Prop
  | n {ys : List Ck} : App [] ys ys
  | c {x : Ck} {xs ys zs : List Ck} : App xs ys zs → App (x :: xs) ys (x :: zs)
theorem App.eq {xs ys zs : List Ck} (h : App xs ys zs) : xs ++ ys = zs := by
  induction h with
  | n => rfl
  | c _ ih => rw [List.cons_append, ih]

/-- A call that returns x, with memory s; that dies of v, with memory s. -/
def RetIs (x : AV) (s : List Ck) : AE → List Ck → Prop := fun e σ => e = .ret x ∧ σ = s
def DieIs (v : Value) (s : List Ck) : AE → List Ck → Prop := fun e σ => e = .panic v ∧ σ = s

section
variable {P : Program} {C : Cx} {Q : Exit → Act → World → Prop} {ops : Array Oper} {rest : List Oper} {env : Env} {ds : List Deferred} {σ σr σ' : List Ck} {d : Nat} {ty : TypeId} {pos : String} {after : Array Edge} {op : Op}

theorem xl_end {y : Code} (h : X P C y Q env ds σ) : XL P C ops (Exit.then (KC P y Q) Q) [] env ds σ := xl_nil (xq_norm (xe_code h))
theorem x_sreg {id : Nat} {l : List Oper} {y : Code} (h : XL P C l.toArray (Exit.then (KC P y Q) Q) l env ds σ) : X P C (.seq (.region id l.toArray false) y) Q env ds σ := x_seq (x_region h)

theorem xl_ret {f : FuncId} {os : List Operand} {ts : Array TypeId} {args : List AV} {σf s : List Ck} {x : AV} {cal : Operand} [hF : Fn1 P f] (hc : AC P f args σf (RetIs x s)) (hcal : evl env cal = some (.val (.func (.func f) #[] #[]))) (hargs : Evs env os args) (hs : Split σ σf σr)
    (ha : App s σr σ') (hd : Nat.ble (d + 1) C.n = true) (kr : XL P C ops Q rest ((d, x) :: env) ds σ') :
    XL P C ops Q (⟨some d, .call { callee := .value cal, args := os.toArray, argTypes := ts }, ty, pos, after, none⟩ :: rest) env ds σ :=
  xl_call hcal hargs hs hc hd (fun y s' h => by
    obtain ⟨h, rfl⟩ := h
    cases h
    rw [ha.eq]
    exact kr) (fun v s' h => by cases h.1)
theorem xl_die {f : FuncId} {os : List Operand} {ts : Array TypeId} {args : List AV} {σf s : List Ck} {v : Value} {cal : Operand} [hF : Fn1 P f] (hc : AC P f args σf (DieIs v s)) (hcal : evl env cal = some (.val (.func (.func f) #[] #[]))) (hargs : Evs env os args) (hs : Split σ σf σr)
    (ha : App s σr σ') (hd : Nat.ble (d + 1) C.n = true) (kp : XQ C Q (.panic [{ v, recovered := false }]) env ds σ') :
    XL P C ops Q (⟨some d, .call { callee := .value cal, args := os.toArray, argTypes := ts }, ty, pos, after, none⟩ :: rest) env ds σ :=
  xl_call hcal hargs hs hc hd (fun y s' h => by cases h.1) (fun u s' h => by
    obtain ⟨h, rfl⟩ := h
    cases h
    rw [ha.eq]
    exact kp)

/-! Function values that capture. -/
inductive EvV (env : Env) : List Operand → List Value → Prop
  | nil : EvV env [] []
  | cons {o : Operand} {v : Value} {os : List Operand} {vs : List Value} : evl env o = some (.val v) → EvV env os vs → EvV env (o :: os) (v :: vs)
theorem EvV.all {I : Nat → Nat → Prop} {w : World} {n : Nat} {a : Act} (hf : Fits I w n env a) {os : List Operand} {vs : List Value} (h : EvV env os vs) : os.map a.eval = vs := by
  induction h with
  | nil => rfl
  | cons h0 _ ih => rw [List.map_cons, ih, (hf.eval h0).val_inv]
theorem pv_clo {fn : Fn} {os : List Operand} {vs : List Value} (h : EvV env os vs) : PV P C (.makeFunc fn #[] os.toArray) ty env σ (.val (.func fn #[] vs.toArray)) := fun _ _ _ _ I w a _ hf =>
  ⟨_, by simp [execOp, Instr.makeFunc, h.all hf], .val _⟩
theorem all2_append_val {I : Nat → Nat → Prop} {w : World} {xs : List AV} {us : List Value} (h : All2 (VR I w) xs us) (vs : List Value) : All2 (VR I w) (xs ++ vs.map .val) (us ++ vs) := by
  refine h.append ?_
  induction vs with
  | nil => exact .nil
  | cons v vs ih => exact .cons (.val v) ih
theorem xl_clo {f : FuncId} {os : List Operand} {ts : Array TypeId} {args : List AV} {cs : List Value} {σf : List Ck} {Post : AE → List Ck → Prop} {cal : Operand} [hF : Fn1 P f] (hc : AC P f (args ++ cs.map .val) σf Post) (hcal : evl env cal = some (.val (.func (.func f) #[] cs.toArray))) (hargs : Evs env os args) (hs : Split σ σf σr)
    (hd : Nat.ble (d + 1) C.n = true) (kr : ∀ x σ', Post (.ret x) σ' → XL P C ops Q rest ((d, x) :: env) ds (σ' ++ σr)) (kp : ∀ v σ', Post (.panic v) σ' → XQ C Q (.panic [{ v, recovered := false }]) env ds (σ' ++ σr)) :
    XL P C ops Q (⟨some d, .call { callee := .value cal, args := os.toArray, argTypes := ts }, ty, pos, after, none⟩ :: rest) env ds σ := by
  unfold XL
  rintro a w ⟨I, hg, hf, hds⟩
  refine wpList_plain rfl fun K hK => ?_
  have hcv := (hf.eval hcal).val_inv
  have hg1 := hg.perm hs.perm
  have hrel : Rel I w σf := ⟨fun c hc => hg1.rel.ck c (by simp [hc]), (List.pairwise_append.1 hg1.rel.ap).1, fun c hc => hg1.rel.off c (by simp [hc]), hg1.rel.ex⟩
  have hcall := hc I w _ hrel (all2_append_val (hargs.all hf) cs)
  have hr : (execOp a.eval ⟨some d, .call { callee := .value cal, args := os.toArray, argTypes := ts }, ty, pos, after, none⟩).run P w = .ok (.enter f (os.map a.eval ++ cs).toArray) w := by
    simp [execOp, resolve, hcv, Deferred.ofValue, invoke, hF.h]
  unfold Oper.wp
  rw [hr]
  refine hcall.mono ?_
  rintro e w' ⟨I', σ', ae, hg', he, hp⟩
  have hg2 := Good.call hg1 hg'
  cases he with
  | ret hv =>
    have := kr _ _ hp
    unfold XL at this
    exact hK _ _ (this _ _ ⟨I', hg2, (hf.per hg'.per).put (Nat.le_of_ble_eq_true hd) hv, hds⟩)
  | panic v =>
    have := kp _ _ hp
    unfold XQ at this
    exact this _ _ ⟨I', hg2, hf.per hg'.per, hds⟩
theorem xl_cloret {f : FuncId} {os : List Operand} {ts : Array TypeId} {args : List AV} {cs : List Value} {σf s : List Ck} {x : AV} {cal : Operand} [hF : Fn1 P f] (hc : AC P f (args ++ cs.map .val) σf (RetIs x s)) (hcal : evl env cal = some (.val (.func (.func f) #[] cs.toArray))) (hargs : Evs env os args) (hs : Split σ σf σr)
    (ha : App s σr σ') (hd : Nat.ble (d + 1) C.n = true) (kr : XL P C ops Q rest ((d, x) :: env) ds σ') :
    XL P C ops Q (⟨some d, .call { callee := .value cal, args := os.toArray, argTypes := ts }, ty, pos, after, none⟩ :: rest) env ds σ :=
  xl_clo hc hcal hargs hs hd (fun y s' h => by
    obtain ⟨h, rfl⟩ := h
    cases h
    rw [ha.eq]
    exact kr) (fun v s' h => by cases h.1)

/-! Stores. -/
theorem xl_set {t : TypeId} {x y : Operand} {b o : Nat} {T : TypeId} {cells cells' : List AV} {z : AV} {k : Nat} [ht : TySz P t k] (hh : Has σ (.ref b T cells) σr) (hx : evl env x = some (.val (.pointer (some ⟨b, o, none⟩)))) (hy : evl env y = some z) (h1 : z.cs.all oneB = true) (hk : z.cs.length = k) (hu : SetAt cells o z.cs cells')
    (kk : XL P C ops Q rest env ds (.ref b T cells' :: σr)) : XL P C ops Q (⟨none, .store t x y, ty, pos, after, none⟩ :: rest) env ds σ := by
  obtain ⟨h2, h3⟩ := hu.upd_eq
  exact xl_store hx hy hh h1 hk (by omega) (h2 ▸ kk)

/-! Numbers within bounds. -/
theorem wrap64 {n : Int} (h1 : -9223372036854775808 ≤ n) (h2 : n ≤ 9223372036854775807) : IntKind.i64.wrap n = n := by
  unfold IntKind.wrap
  simp only [IntKind.bits, IntKind.signed]
  simp
  split <;> omega
theorem pv_add {t t' : TypeId} {x y : Operand} {m n : Int} (hx : evl env x = some (.val (.int .i64 m))) (hy : evl env y = some (.val (.int .i64 n))) (h1 : -9223372036854775808 ≤ m + n) (h2 : m + n ≤ 9223372036854775807) : PV P C (.binOp .add t x y t') ty env σ (.val (.int .i64 (m + n))) := by
  have := pv_bin (P := P) (C := C) (t := t) (t' := t') (ty := ty) (σ := σ) (op := .add) hx hy rfl
  rwa [wrap64 h1 h2] at this
theorem pv_sub {t t' : TypeId} {x y : Operand} {m n : Int} (hx : evl env x = some (.val (.int .i64 m))) (hy : evl env y = some (.val (.int .i64 n))) (h1 : -9223372036854775808 ≤ m - n) (h2 : m - n ≤ 9223372036854775807) : PV P C (.binOp .sub t x y t') ty env σ (.val (.int .i64 (m - n))) := by
  have := pv_bin (P := P) (C := C) (t := t) (t' := t') (ty := ty) (σ := σ) (op := .sub) hx hy rfl
  rwa [wrap64 h1 h2] at this

/-! Rows of the call's own, read. -/
theorem XL.of (h : ∀ a w, At C env ds σ a w → wpList P ops Q rest a w) : XL P C ops Q rest env ds σ := by unfold XL; exact h
theorem XL.to (h : XL P C ops Q rest env ds σ) : ∀ a w, At C env ds σ a w → wpList P ops Q rest a w := by unfold XL at h; exact h
/-- What a slice of the call's own is. -/
inductive Slc : Value → Nat → Prop
  | nil : Slc (.slice none 0 0) 0
  | mk (g n c : Nat) : n ≤ c → c ≤ 9223372036854775807 → Slc (.slice (some ⟨g, 0, none⟩) n c) n
theorem Slc.full {v : Value} {n : Nat} (h : Slc v n) (hn : 0 < n) : ∃ g c, v = .slice (some ⟨g, 0, none⟩) n c := by
  cases h with
  | nil => omega
  | mk g _ c _ _ => exact ⟨g, c, rfl⟩
theorem vec_slc {I : Nat → Nat → Prop} {w : World} {v : Value} {e : TypeId} {sz : Nat} {xs : List AV} (h : (Ck.vec v e sz xs).holds I w) : Slc v xs.length := by
  obtain ⟨_, vs, ho, _⟩ := h
  rcases ho.2 with ⟨rfl, h0⟩ | ⟨g, cap, cur, rfl, _, _, h1, h2, _⟩
  · rw [h0]; exact .nil
  · exact .mk g _ cap h1 (by simpa [maxLen] using h2)
theorem xl_slc {v : Value} {e : TypeId} {sz : Nat} {xs : List AV} (hh : Has σ (.vec v e sz xs) σr) (k : Slc v xs.length → XL P C ops Q rest env ds σ) : XL P C ops Q rest env ds σ :=
  .of fun a w hA => by
    obtain ⟨I, hg, hf, hds⟩ := hA
    exact (k (vec_slc (hg.rel.ck _ hh.mem))).to a w ⟨I, hg, hf, hds⟩
theorem x_slc {c : Code} {v : Value} {e : TypeId} {sz : Nat} {xs : List AV} (hh : Has σ (.vec v e sz xs) σr) (k : Slc v xs.length → X P C c Q env ds σ) : X P C c Q env ds σ := by
  unfold X at *
  intro a w hA
  obtain ⟨I, hg, hf, hds⟩ := hA
  exact k (vec_slc (hg.rel.ck _ hh.mem)) a w ⟨I, hg, hf, hds⟩
theorem pv_len_o {t : TypeId} {e e' : TypeId} {x : Operand} {v : Value} {sz : Nat} {xs : List AV} [ht : TyU P t (.slice e)] (hh : Has σ (.vec v e' sz xs) σr) (hx : evl env x = some (.val v)) : PV P C (.call { callee := .builtin .len, args := #[x], argTypes := #[t] }) ty env σ (.val (.int .i64 xs.length)) := by
  unfold PV
  intro _ _ _ _ I w a hg hf
  have h1 := (hf.eval hx).val_inv
  refine ⟨_, ?_, .val _⟩
  have hs := vec_slc (hg.rel.ck _ hh.mem)
  revert h1
  generalize xs.length = m at hs ⊢
  intro h1
  cases hs <;> simp [execOp, resolve, invoke, builtin, h1, Builtin.len_, run_underlying ht.h, goInt]
/-- &v[i] -/
theorem pv_at_o {t e : TypeId} {x y : Operand} {g m c sz : Nat} {k : IntKind} {n : Int} [ht : TyU P t (.slice e)] [hz : TySz P e sz] (hx : evl env x = some (.val (.slice (some ⟨g, 0, none⟩) m c))) (hy : evl env y = some (.val (.int k n))) (h0 : 0 ≤ n) (hn : n < m) :
    PV P C (.indexAddr t x y) ty env σ (.val (.pointer (some ⟨g, n.toNat * sz, none⟩))) := by
  unfold PV
  intro _ _ _ _ I w a hg hf
  have h1 := (hf.eval hx).val_inv
  have h2 := (hf.eval hy).val_inv
  have hcond : 0 ≤ n ∧ n < (m : Int) := ⟨h0, hn⟩
  exact ⟨_, by simp [execOp, h1, h2, Instr.indexAt, asIntOf, run_underlying ht.h, hcond, hz.h w, add_plain, Sem.run_bind], .val _⟩
theorem vec_cells {I : Nat → Nat → Prop} {w : World} {g n c : Nat} {e : TypeId} {sz : Nat} {xs : List AV} (h : (Ck.vec (.slice (some ⟨g, 0, none⟩) n c) e sz xs).holds I w) {j : Nat} {y : AV} (hj : (flat xs)[j]? = some y) : ∃ u, w.cell? ⟨g, j, none⟩ = some u ∧ VR I w y u := by
  obtain ⟨_, vs, ho, ha⟩ := h
  rcases ho.2 with ⟨h0, _⟩ | ⟨g', cap, cur, h0, _, hh, _, _, _, ht⟩
  · cases h0
  · cases h0
    obtain ⟨u, hu, hr⟩ := ha.get hj
    refine ⟨u, ?_, hr⟩
    rw [cell_of_row w g j cur e (0, 0) hh]
    rw [← ht] at hu
    have hlt := (List.getElem?_eq_some_iff.1 hu).1
    rw [List.getElem?_take_of_lt (by simp at hlt; omega)] at hu
    simpa using hu
theorem vec_cs {I : Nat → Nat → Prop} {w : World} {v : Value} {e : TypeId} {sz : Nat} {xs : List AV} (h : (Ck.vec v e sz xs).holds I w) : ∀ x ∈ xs, x.cs.length = sz := h.1
theorem pv_load1_o {t : TypeId} {x : Operand} {g i off n c : Nat} {e : TypeId} {sz : Nat} {xs : List AV} {z y : AV} [ht : Ty1 P t] (hh : Has σ (.vec (.slice (some ⟨g, 0, none⟩) n c) e sz xs) σr) (hx : evl env x = some (.val (.pointer (some ⟨g, i * sz + off, none⟩)))) (hz : xs[i]? = some z) (hy : z.cs[off]? = some y) : PV P C (.load t x) ty env σ y := by
  unfold PV
  intro _ _ _ _ I w a hg hf
  have h1 := (hf.eval hx).val_inv
  have hk := hg.rel.ck _ hh.mem
  have hlt : off < sz := by
    have := (List.getElem?_eq_some_iff.1 hy).1
    rwa [hk.1 z (List.mem_of_getElem? hz)] at this
  obtain ⟨u, hu, hr⟩ := vec_cells hk (j := i * sz + off) (y := y) (by rw [flat_get hk.1 hz off hlt]; exact hy)
  exact ⟨u, by simp [execOp, h1, Instr.loadAt, Instr.sureAddr, loadVar, (ht.h w).1, load, hu, Sem.run_bind, Sem.run], hr⟩
theorem pv_loadN_o {t : TypeId} {x : Operand} {g i off n c k : Nat} {e : TypeId} {sz : Nat} {xs : List AV} {z : AV} [ht : TyN P t k] (hh : Has σ (.vec (.slice (some ⟨g, 0, none⟩) n c) e sz xs) σr) (hx : evl env x = some (.val (.pointer (some ⟨g, i * sz + off, none⟩)))) (hz : xs[i]? = some z) (hl : ((z.cs.drop off).take k).length = k) : PV P C (.load t x) ty env σ (.agg ((z.cs.drop off).take k)) := by
  unfold PV
  intro _ _ _ _ I w a hg hf
  have h1 := (hf.eval hx).val_inv
  have hk := hg.rel.ck _ hh.mem
  have hsz := hk.1 z (List.mem_of_getElem? hz)
  have hle : off + k ≤ sz ∨ k = 0 := by simp at hl; omega
  have hall : ∀ j, j < k → ∃ u y, w.cell? ⟨g, i * sz + off + j, none⟩ = some u ∧ z.cs[off + j]? = some y ∧ VR I w y u := by
    intro j hj
    have hlt : off + j < z.cs.length := by omega
    obtain ⟨u, hu, hr⟩ := vec_cells hk (j := i * sz + (off + j)) (y := z.cs[off + j]) (by rw [flat_get hk.1 hz (off + j) (by omega)]; exact List.getElem?_eq_getElem hlt)
    exact ⟨u, _, by rw [Nat.add_assoc]; exact hu, List.getElem?_eq_getElem hlt, hr⟩
  let us : Nat → Value := fun j => (w.cell? ⟨g, i * sz + off + j, none⟩).getD undef
  have hus : ∀ j, j < k → w.cell? ⟨g, i * sz + off + j, none⟩ = some (us j) := fun j hj => by
    obtain ⟨u, y, h, _⟩ := hall j hj
    simp [us, h]
  have hrun := run_loadCells_list (P := P) w ⟨g, i * sz + off, none⟩ ((List.range k).map us) (fun j u hu => by
    simp only [List.getElem?_map] at hu
    obtain ⟨q, hq, rfl⟩ := Option.map_eq_some_iff.1 hu
    obtain ⟨hq1, hq2⟩ := List.getElem?_eq_some_iff.1 hq
    simp at hq2 hq1
    subst hq2
    rw [add_plain]
    exact hus j hq1)
  simp only [List.length_map, List.length_range] at hrun
  refine ⟨.agg ((List.range k).map us).toArray, by simp [execOp, h1, Instr.loadAt, Instr.sureAddr, loadVar, (ht.h w).1, (ht.h w).2, hrun], .agg_mk (.of_get (by simp; simp at hl; omega) (fun j p q hp hq => ?_))⟩
  have hj : j < k := by
    have := (List.getElem?_eq_some_iff.1 hp).1
    simp at this
    omega
  rw [List.getElem?_take_of_lt hj, List.getElem?_drop] at hp
  simp [hj] at hq
  subst hq
  obtain ⟨u, y, h1', h2', h3'⟩ := hall j hj
  rw [h2'] at hp
  cases hp
  rw [hus j hj] at h1'
  cases h1'
  exact h3'

/-! Structs that are built. -/
class TyBd (P : Program) (t : TypeId) (zs : outParam (List Value)) (pl : outParam (List (Nat × Nat))) : Prop where
  hz : ∀ w, ∃ z : Value, (zeroValue t).run P w = .ok z w ∧ z.cells = zs.toArray
  hp : ∀ w, (match P.underlying t with
    | some (.struct fs) => (fs.mapM fun (f : Go.Field) => do pure (f.offset, ← sizeOf f.type) : Sem (Array (Nat × Nat)))
    | _ => stuck "").run P w = .ok pl.toArray w
theorem run_build {P : Program} {t : TypeId} {zs : List Value} {pl : List (Nat × Nat)} (ht : TyBd P t zs pl) (parts : Array (Nat × Value)) (cells : Array Value) (w : World) (h : Instr.fill (fun i => pl[i]?) zs.toArray parts.toList = some cells) : (Instr.build t parts).run P w = .ok (.agg cells) w := by
  obtain ⟨z, hz, hc⟩ := ht.hz w
  have hp := ht.hp w
  cases hu : P.underlying t with
  | none => rw [hu] at hp; simp [stuck, Sem.run] at hp
  | some u =>
    rw [hu] at hp
    cases u with
    | struct fs =>
      simp only at hp
      have e : (fun (i : Nat) => pl.toArray[i]?) = fun (i : Nat) => pl[i]? := by funext i; simp
      unfold Instr.build
      simp only [Sem.run_bind, hz, hc, Result.andThen_ok, run_underlying hu]
      rw [hp]
      simp only [Result.andThen_ok, e, h]
      rfl
    | _ => simp [stuck, Sem.run] at hp
inductive EvB (env : Env) (pl : List (Nat × Nat)) : List AV → List (Nat × Operand) → List AV → Prop
  | nil {zs : List AV} : EvB env pl zs [] zs
  | cons {zs zs' out : List AV} {j off k : Nat} {o : Operand} {x : AV} {ps : List (Nat × Operand)} : pl[j]? = some (off, k) → evl env o = some x → x.cs.length = k → x.cs.all oneB = true → SetAt zs off x.cs zs' → EvB env pl zs' ps out → EvB env pl zs ((j, o) :: ps) out
theorem fill_upd {I : Nat → Nat → Prop} {w : World} (us : List Value) : ∀ (ys : List AV) (k off : Nat) (zs : List AV) (cells : List Value), All2 (VR I w) ys us → All2 (VR I w) zs cells → 
    All2 (VR I w) (upd zs (off + k) ys) ((us.zipIdx k).foldl (fun (cs : Array Value) p => cs.setIfInBounds (off + p.2) p.1) cells.toArray).toList := by
  induction us with
  | nil =>
    intro ys k off zs cells h hz
    cases h
    simpa [upd] using hz
  | cons u us ih =>
    intro ys k off zs cells h hz
    cases h with
    | cons h0 h =>
      rename_i y ys
      rw [List.zipIdx_cons, List.foldl_cons, upd, List.setIfInBounds_toArray]
      exact ih ys (k + 1) off _ _ h (hz.set _ h0)
theorem EvB.run {I : Nat → Nat → Prop} {w : World} {n : Nat} {a : Act} (hf : Fits I w n env a) {pl : List (Nat × Nat)} {zs out : List AV} {ps : List (Nat × Operand)} (h : EvB env pl zs ps out) : ∀ cells : List Value, All2 (VR I w) zs cells →
    ∃ c' : List Value, Instr.fill (fun i => pl[i]?) cells.toArray (ps.map fun p => (p.1, a.eval p.2)) = some c'.toArray ∧ All2 (VR I w) out c' := by
  induction h with
  | nil => exact fun cells hc => ⟨cells, rfl, hc⟩
  | cons hp ho hk h1 hs _ ih =>
    rename_i zs zs' out j off k o x ps _
    intro cells hc
    have hx := cells_of (hf.eval ho) h1
    obtain ⟨hu, hle⟩ := hs.upd_eq
    have hfold := fill_upd (a.eval o).cells.toList x.cs 0 off zs cells hx hc
    rw [Nat.add_zero, hu] at hfold
    obtain ⟨c', hc', ha⟩ := ih _ hfold
    refine ⟨c', ?_, ha⟩
    rw [List.map_cons, Instr.fill]
    have hsz : (a.eval o).cells.size = k := by
      have := hx.length
      simp at this
      omega
    have hcs := hc.length
    have hcond : (decide ((a.eval o).cells.size ≠ k) || decide (off + (a.eval o).cells.size > cells.toArray.size)) = false := by
      simp [hsz]
      omega
    simp only [hp, hcond]
    rw [Array.toArray_toList] at hc'
    have e : (a.eval o).cells.zipIdx.foldl (fun cs x => match x with | (c, j) => cs.setIfInBounds (off + j) c) cells.toArray = ((a.eval o).cells.toList.zipIdx 0).foldl (fun (cs : Array Value) p => cs.setIfInBounds (off + p.2) p.1) cells.toArray := by
      rw [← Array.foldl_toList, Array.toList_zipIdx]
    rw [e]
    exact hc'
theorem pv_build {t : TypeId} {zs : List Value} {pl : List (Nat × Nat)} {ps : List (Nat × Operand)} {out : List AV} [ht : TyBd P t zs pl] (h : EvB env pl (zs.map .val) ps out) : PV P C (.build t ps.toArray) ty env σ (.agg out) := by
  unfold PV
  intro _ _ _ _ I w a hg hf
  obtain ⟨c', hc, ha⟩ := h.run hf zs (All2.of_get (by simp) (fun i x u hx hu => by
    simp only [List.getElem?_map, hu, Option.map_some, Option.some.injEq] at hx
    subst hx
    exact .val u))
  refine ⟨.agg c'.toArray, ?_, .agg_mk ha⟩
  have e : (ps.toArray.map fun (x : Nat × Operand) => match x with | (i, x) => (i, a.eval x)) = (ps.map fun p => (p.1, a.eval p.2)).toArray := by simp
  have hb := run_build ht (ps.map fun p => (p.1, a.eval p.2)).toArray _ w hc
  simp only [execOp, Sem.run_bind]
  rw [e, hb]
  rfl

/-! Interfaces. -/
class TyC (P : Program) (t : TypeId) : Prop where
  h : ∀ x w, (Instr.makeInterface t x).run P w = .ok (.iface t x) w
theorem pv_iface {t : TypeId} {x : Operand} {v : Value} [ht : TyC P t] (hx : evl env x = some (.val v)) : PV P C (.makeInterface t x) ty env σ (.val (.iface t v)) := by
  unfold PV
  intro _ _ _ _ I w a hg hf
  have h1 := (hf.eval hx).val_inv
  exact ⟨_, by simp [execOp, h1, ht.h], .val _⟩
theorem pv_beq {t t' : TypeId} {x y : Operand} {m n : Bool} [ht : TyU P t .bool] (hx : evl env x = some (.val (.bool m))) (hy : evl env y = some (.val (.bool n))) : PV P C (.binOp .eql t x y t') ty env σ (.val (.bool (m == n))) := by
  unfold PV
  intro _ _ _ _ I w a hg hf
  have h1 := (hf.eval hx).val_inv
  have h2 := (hf.eval hy).val_inv
  exact ⟨_, by simp [execOp, h1, h2, eqGuard, binOp, run_equal_bool _ _ _ _ ht.h, Sem.run_bind], .val _⟩
end
end Go.Ax
