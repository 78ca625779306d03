/- Effects and values within statements whose order is open. No condition: plain definitions and theorems. -/
import Derived.Test.YtmallgapchjhnaaAx8
set_option linter.unusedVariables false
set_option linter.unusedSimpArgs false
namespace Go.Ax
open Go Go.RowKit

section
variable {P : Program} {C : Cx} {Q : Exit → Act → World → Prop} {ops : Array Oper} {env r : Env} {ds : List Deferred} {σ σr σ' : List Ck} {d : Nat} {ty : TypeId} {pos : String} {after : Array Edge} {op : Op}

theorem PV.to {x : AV} (h : PV P C op ty env σ x) : OV P C op ty env σ x := by
  unfold PV at h
  intro dst pos after guard I w a hg hf
  obtain ⟨v, hr, hv⟩ := h dst pos after guard I w a hg hf
  exact ⟨v, w, I, hr, hg, Per.refl _ _, hv⟩
theorem gv_v {x : AV} (h : PV P C op ty env σ x) (hd : Nat.ble (d + 1) C.n = true) : GV P C ops ⟨some d, op, ty, pos, after, none⟩ env σ x := ⟨⟨d, rfl, Nat.le_of_ble_eq_true hd⟩, h.to⟩
theorem gv_o {x : AV} (h : OV P C op ty env σ x) (hd : Nat.ble (d + 1) C.n = true) : GV P C ops ⟨some d, op, ty, pos, after, none⟩ env σ x := ⟨⟨d, rfl, Nat.le_of_ble_eq_true hd⟩, h⟩
theorem gv_take {x : AV} {j dj : Nat} {t b : Bool} (hj : dstI ops j = some dj) (ht : lk env dj = some (.val (.bool t))) (hb : (t == b) = true) (h : PV P C op ty env σ x) (hd : Nat.ble (d + 1) C.n = true) : GV P C ops ⟨some d, op, ty, pos, after, some (j, b)⟩ env σ x :=
  ⟨⟨d, rfl, Nat.le_of_ble_eq_true hd⟩, dj, t, hj, ht, .inl ⟨hb, h.to⟩⟩
theorem gv_skip {j dj : Nat} {t b : Bool} (hj : dstI ops j = some dj) (ht : lk env dj = some (.val (.bool t))) (hb : (t == b) = false) (hd : Nat.ble (d + 1) C.n = true) : GV P C ops ⟨some d, op, ty, pos, after, some (j, b)⟩ env σ (.val undef) :=
  ⟨⟨d, rfl, Nat.le_of_ble_eq_true hd⟩, dj, t, hj, ht, .inr ⟨hb, rfl⟩⟩
theorem ov_lit {t e : TypeId} {sz bytes len : Nat} {z : Value} {ps : List (Nat × Operand)} {xs : List AV} [ht : TyU P t (.slice e)] [hz : TyEl P e sz bytes z] (hp : EvP env 0 ps xs) (hlen : xs.length = len) (hs : ∀ x ∈ xs, x.cs.length = sz) (h1 : (flat xs).all oneB = true) (hbig : len * sz ≤ 16777216) : OV P C (.buildSlice t len ps.toArray) ty env σ (.list sz xs) := by
  intro dst pos after guard I w a hg hf
  obtain ⟨vs, hsq, ha⟩ := hp.vals hf
  have hvs := vs_size ha hs h1
  have hrun := run_lit ht.h hz hsq (ha.length ▸ hlen) hvs hbig w
  have hfl := flat_all2 ha h1
  have hm : xs.length ≤ 9223372036854775807 := by
    have hs0 := hz.hs
    have : len ≤ len * sz := Nat.le_mul_of_pos_right _ hs0
    omega
  obtain ⟨hg2, hp2⟩ := hg.lit e (vs.flatMap fun v => v.cells.toList)
  refine ⟨_, _, _, ?_, hg2, hp2, hlen ▸ list_of_lit hg e hfl hs hm⟩
  simp only [execOp, Sem.run_bind]
  rw [show (ps.toArray.map fun (x : Nat × Operand) => match x with | (i, x) => (i, a.eval x)) = (ps.map fun p => (p.1, a.eval p.2)).toArray by simp]
  rw [hrun]
  simp [Sem.run]

/-! Effects. -/
def One (x : AV) (s : List Ck) : AV → List Ck → Prop := fun y σ => y = x ∧ σ = s
theorem ev_go {f : FuncId} {os : List Operand} {ts : Array TypeId} {args : List AV} {σf s : List Ck} {x : AV} {cal : Operand} {dst : Option Tmp} [hF : Fn1 P f] (hc : AC P f args σf (RetIs x s)) (hcal : evl env cal = some (.val (.func (.func f) #[] #[]))) (hargs : Evs env os args) (hs : Swp σ σf s σ') :
    EV P C ops Q ⟨dst, .call { callee := .value cal, args := os.toArray, argTypes := ts }, ty, pos, after, none⟩ env ds σ (One x σ') := by
  intro I w a K hg hf hds hK
  refine ⟨rfl, ?_⟩
  obtain ⟨r, p1, p2⟩ := hs.perm
  have hcv := (hf.eval hcal).val_inv
  have hg1 := hg.perm p1
  have hrel : Rel I w σf := ⟨fun c hc => hg1.rel.ck c (by simp [hc]), (List.pairwise_append.1 hg1.rel.ap).1, fun c hc => hg1.rel.off c (by simp [hc]), hg1.rel.ex⟩
  have hcall := hc I w _ hrel (hargs.all hf)
  have hr : (execOp a.eval ⟨dst, .call { callee := .value cal, args := os.toArray, argTypes := ts }, ty, pos, after, none⟩).run P w = .ok (.enter f (os.map a.eval).toArray) w := by
    simp [execOp, resolve, hcv, Deferred.ofValue, invoke, hF.h]
  unfold Oper.wp
  rw [hr]
  refine hcall.mono ?_
  rintro e w' ⟨I', s', ae, hg', he, hp, hp'⟩
  subst hp hp'
  have hg2 := (Good.call hg1 hg').perm p2.symm
  cases he with
  | ret hv => exact hK _ _ _ _ _ ⟨rfl, rfl⟩ hg2 hg'.per hv
theorem ev_dies {f : FuncId} {os : List Operand} {ts : Array TypeId} {args : List AV} {σf s : List Ck} {v : Value} {cal : Operand} {dst : Option Tmp} [hF : Fn1 P f] (hc : AC P f args σf (DieIs v s)) (hcal : evl env cal = some (.val (.func (.func f) #[] #[]))) (hargs : Evs env os args) (hs : Swp σ σf s σ') (kp : XQ C Q (.panic [{ v, recovered := false }]) [] ds σ') :
    EV P C ops Q ⟨dst, .call { callee := .value cal, args := os.toArray, argTypes := ts }, ty, pos, after, none⟩ env ds σ (fun _ _ => False) := by
  intro I w a K hg hf hds hK
  refine ⟨rfl, ?_⟩
  obtain ⟨r, p1, p2⟩ := hs.perm
  have hcv := (hf.eval hcal).val_inv
  have hg1 := hg.perm p1
  have hrel : Rel I w σf := ⟨fun c hc => hg1.rel.ck c (by simp [hc]), (List.pairwise_append.1 hg1.rel.ap).1, fun c hc => hg1.rel.off c (by simp [hc]), hg1.rel.ex⟩
  have hcall := hc I w _ hrel (hargs.all hf)
  have hr : (execOp a.eval ⟨dst, .call { callee := .value cal, args := os.toArray, argTypes := ts }, ty, pos, after, none⟩).run P w = .ok (.enter f (os.map a.eval).toArray) w := by
    simp [execOp, resolve, hcv, Deferred.ofValue, invoke, hF.h]
  unfold Oper.wp
  rw [hr]
  refine hcall.mono ?_
  rintro e w' ⟨I', s', ae, hg', he, hp, hp'⟩
  subst hp hp'
  have hg2 := (Good.call hg1 hg').perm p2.symm
  cases he with
  | panic v =>
    unfold XQ at kp
    exact kp _ _ ⟨I', hg2, ⟨hf.size, fun i x h => by simp [lk] at h⟩, hds⟩
theorem ev_put {t : TypeId} {x y : Operand} {b o : Nat} {T : TypeId} {cells cells' : List AV} {z : AV} {k : Nat} [ht : TySz P t k] (hr : Rep σ (.ref b T cells) (.ref b T cells') σ') (hx : evl env x = some (.val (.pointer (some ⟨b, o, none⟩)))) (hy : evl env y = some z) (h1 : z.cs.all oneB = true) (hk : z.cs.length = k) (hu : SetAt cells o z.cs cells') :
    EV P C ops Q ⟨none, .store t x y, ty, pos, after, none⟩ env ds σ (One (.val undef) σ') := by
  intro I w a K hg hf hds hK
  refine ⟨rfl, ?_⟩
  obtain ⟨r, p1, p2⟩ := hr.perm
  obtain ⟨u1, u2⟩ := hu.upd_eq
  have hxv := (hf.eval hx).val_inv
  have hc := cells_of (hf.eval hy) h1
  obtain ⟨w', hr, hg2, hp⟩ := good_stores (P := P) (o := o) z.cs _ 0 cells w (hg.perm p1) hc (ones_spec hc h1) (by omega)
  rw [Nat.add_zero, u1] at hg2
  have hsz : (a.eval y).cells.size = k := by have := hc.length; simp at this; omega
  have hrun : (execOp a.eval ⟨none, .store t x y, ty, pos, after, none⟩).run P w = .ok .skip w' := by
    simp [execOp, hxv, Instr.storeAt, Instr.sureAddr, storeVar, ht.h w, hsz, hr, Sem.run_bind]
  unfold Oper.wp
  rw [hrun]
  exact hK undef w' I _ _ ⟨rfl, rfl⟩ (hg2.perm p2.symm) hp (.val undef)
theorem ev_alloc {T : TypeId} {zs : List Value} [ht : TyZ P T zs] : EV P C ops Q ⟨some d, .alloc T, ty, pos, after, none⟩ env ds σ (fun x σ' => ∃ b, x = .val (.pointer (some ⟨b, 0, none⟩)) ∧ σ' = .ref b T (zs.map .val) :: σ) := by
  intro I w a K hg hf hds hK
  refine ⟨rfl, ?_⟩
  obtain ⟨z, hz, hc⟩ := ht.h w
  have hr : (execOp a.eval ⟨some d, .alloc T, ty, pos, after, none⟩).run P w = .ok (.value (.pointer (some ⟨w.heap.size, 0, none⟩))) (w.alloc (.cells zs.toArray T)) := by
    simp [execOp, Instr.alloc, hz, newVar, newRow, newObj, hc, Sem.run_bind, Sem.run]
  unfold Oper.wp
  rw [hr]
  have hg2 := hg.ref T (zs.map .val) zs (All2.of_get (by simp) (fun i x u hx hu => by
    simp only [List.getElem?_map, hu, Option.map_some, Option.some.injEq] at hx
    subst hx
    exact .val u))
  exact hK _ _ _ _ _ ⟨_, rfl, rfl⟩ hg2 (per_alloc I w _ hg.rel.ex) (.val _)
theorem ev_grow {t e : TypeId} {sz bytes : Nat} {z v : Value} {x y : Operand} {xs ys : List AV} {G : Value → List Ck} [ht : TyU P t (.slice e)] [hz : TyEl P e sz bytes z] (hr : RepV σ (.vec v e sz xs) (fun v' => .vec v' e sz (xs ++ ys)) G) (hx : evl env x = some (.val v)) (hy : evl env y = some (.list sz ys)) (h1 : (flat ys).all oneB = true)
    (hl : (xs.length + ys.length) * bytes ≤ 140737488355328) : EV P C ops Q ⟨some d, .call { callee := .builtin .append, args := #[x, y], argTypes := #[t, t] }, ty, pos, after, none⟩ env ds σ (fun x' σ' => ∃ v', v'.oneCell' = true ∧ x' = .val v' ∧ σ' = G v') := by
  intro I w a K hg hf hds hK
  refine ⟨rfl, ?_⟩
  obtain ⟨r, p1, p2⟩ := hr.perm
  obtain ⟨v1, w1, I1, hrun, h1', hg2, hp⟩ := app_run (P := P) (t := t) (d := d) (ty := ty) (pos := pos) (after := after) (hg.perm p1) hf hx hy h1 hl
  unfold Oper.wp
  rw [hrun]
  exact hK _ _ _ _ _ ⟨v1, h1', rfl, rfl⟩ (hg2.perm (p2 v1).symm) hp (.val v1)
end
end Go.Ax
