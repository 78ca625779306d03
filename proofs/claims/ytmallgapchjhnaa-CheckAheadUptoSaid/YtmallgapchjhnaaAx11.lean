/- More rules: nil rows asked for, a row of the call's own appended. No condition: plain definitions and theorems. -/
import Derived.Test.YtmallgapchjhnaaAx10
import Derived.Laws.Cover3
set_option linter.unusedVariables false
set_option linter.unusedSimpArgs false
namespace Go.Ax
open Go Go.RowKit

section
variable {P : Program} {C : Cx} {Q : Exit → Act → World → Prop} {ops : Array Oper} {rest : List Oper} {env r : Env} {ds : List Deferred} {σ σr σ' : List Ck} {d : Nat} {ty : TypeId} {pos : String} {after : Array Edge} {op : Op}

theorem xl_nilq {t t' e : TypeId} {x : Operand} {sz : Nat} {xs : List AV} [ht : TyU P t (.slice e)] (hx : evl env x = some (.list sz xs)) (hd : Nat.ble (d + 1) C.n = true) (k : ∀ b, (b = true → xs = []) → XL P C ops Q rest ((d, .val (.bool b)) :: env) ds σ) :
    XL P C ops Q (⟨some d, .binOp .eql t x (.const (.slice none 0 0)) t', ty, pos, after, none⟩ :: rest) env ds σ :=
  .of fun a w hA => by
    obtain ⟨I, hg, hf, hds⟩ := hA
    refine wpList_plain rfl fun K hK => ?_
    have h1 := hf.eval hx
    obtain ⟨A, c, h2, _, _⟩ := h1.list_inv
    have hb : A.isNone = true → xs = [] := fun h => by
      rw [h2] at h1
      cases h1 with
      | nil => rfl
      | list => cases h
    have hr : (execOp a.eval ⟨some d, .binOp .eql t x (.const (.slice none 0 0)) t', ty, pos, after, none⟩).run P w = .ok (.value (.bool A.isNone)) w := by
      have e0 : a.eval (.const (.slice none 0 0)) = .slice none 0 0 := rfl
      simp [execOp, h2, e0, eqGuard, binOp, run_equal_slice_nil _ _ _ _ _ _ ht.h, Sem.run_bind]
    unfold Oper.wp
    rw [hr]
    exact hK _ _ ((k _ hb).to _ _ ⟨I, hg, hf.put (Nat.le_of_ble_eq_true hd) (.val _), hds⟩)
theorem xl_nilo {t t' e e' : TypeId} {x : Operand} {v : Value} {sz : Nat} {xs : List AV} [ht : TyU P t (.slice e)] (hh : Has σ (.vec v e' sz xs) σr) (hx : evl env x = some (.val v)) (hd : Nat.ble (d + 1) C.n = true) (k : ∀ b, (b = true → v = .slice none 0 0 ∧ xs = []) → XL P C ops Q rest ((d, .val (.bool b)) :: env) ds σ) :
    XL P C ops Q (⟨some d, .binOp .eql t x (.const (.slice none 0 0)) t', ty, pos, after, none⟩ :: rest) env ds σ :=
  .of fun a w hA => by
    obtain ⟨I, hg, hf, hds⟩ := hA
    refine wpList_plain rfl fun K hK => ?_
    have h1 := (hf.eval hx).val_inv
    have hs := vec_slc (hg.rel.ck _ hh.mem)
    have e0 : a.eval (.const (.slice none 0 0)) = .slice none 0 0 := rfl
    have : ∃ A n c, v = .slice A n c ∧ (A.isNone = true → v = .slice none 0 0 ∧ xs = []) := by
      generalize hn : xs.length = n at hs
      cases hs with
      | nil => exact ⟨_, _, _, rfl, fun _ => ⟨rfl, List.eq_nil_of_length_eq_zero hn⟩⟩
      | mk g n c _ _ => exact ⟨_, _, _, rfl, fun h => by cases h⟩
    obtain ⟨A, n, c, h2, hb⟩ := this
    have hr : (execOp a.eval ⟨some d, .binOp .eql t x (.const (.slice none 0 0)) t', ty, pos, after, none⟩).run P w = .ok (.value (.bool A.isNone)) w := by
      simp [execOp, h1, h2, e0, eqGuard, binOp, run_equal_slice_nil _ _ _ _ _ _ ht.h, Sem.run_bind]
    unfold Oper.wp
    rw [hr]
    exact hK _ _ ((k _ hb).to _ _ ⟨I, hg, hf.put (Nat.le_of_ble_eq_true hd) (.val _), hds⟩)
theorem own_reads {w : World} {e : TypeId} {sz n : Nat} {g c : Nat} {vs : List Value} (h : w.ownsRow 0 e sz (.slice (some ⟨g, 0, none⟩) n c) n vs) : ∀ j u, vs[j]? = some u → w.cell? ((⟨g, 0, none⟩ : Addr).add j) = some u := by
  intro j u hu
  rcases h.2 with ⟨h0, _⟩ | ⟨g', cap, cur, h0, _, hh, _, _, _, ht⟩
  · cases h0
  · cases h0
    rw [add_plain, Nat.zero_add, cell_of_row w g j cur e (0, 0) hh]
    rw [← ht] at hu
    have hlt := (List.getElem?_eq_some_iff.1 hu).1
    rw [List.getElem?_take_of_lt (by simp at hlt; omega)] at hu
    simpa using hu
/-- append(v, u...), both rows of the call's own. -/
theorem xl_growo {t e e' : TypeId} {sz bytes : Nat} {z v u : Value} {x y : Operand} {xs ys : List AV} {G : Value → List Ck} [ht : TyU P t (.slice e)] [hz : TyEl P e sz bytes z] (hr : RepV σ (.vec v e sz xs) (fun v' => .vec v' e sz (xs ++ ys)) G) (hh : Has σ (.vec u e' sz ys) σr) (hx : evl env x = some (.val v)) (hy : evl env y = some (.val u)) (h1 : (flat ys).all oneB = true)
    (hl : (xs.length + ys.length) * bytes ≤ 140737488355328) (hd : Nat.ble (d + 1) C.n = true) (k : ∀ v', v'.oneCell' = true → XL P C ops Q rest ((d, .val v') :: env) ds (G v')) :
    XL P C ops Q (⟨some d, .call { callee := .builtin .append, args := #[x, y], argTypes := #[t, t] }, ty, pos, after, none⟩ :: rest) env ds σ :=
  .of fun a w hA => by
    obtain ⟨I, hg, hf, hds⟩ := hA
    refine wpList_plain rfl fun K hK => ?_
    obtain ⟨r, p1, p2⟩ := hr.perm
    obtain ⟨i, hi, i1, i2, i3⟩ := hz.info
    have hxv := (hf.eval hx).val_inv
    have hyv := (hf.eval hy).val_inv
    obtain ⟨hsy, vs, hoy, hay⟩ := hg.rel.ck _ hh.mem
    have hg1 := hg.perm p1
    obtain ⟨hsz, us, ho, hu⟩ := hg1.rel.ck _ List.mem_cons_self
    have hb := hz.hb
    have hlen : xs.length + ys.length ≤ 140737488355328 := Nat.le_trans (Nat.le_mul_of_pos_right _ hb) hl
    have main : ∃ (v1 : Value) (w1 : World), (Builtin.append_ #[t, t] ty #[v, u]).run P w = .ok v1 w1 ∧ w1.ownsRow 0 e sz v1 (xs.length + ys.length) (us ++ vs) ∧ w.grownBy w1 v.ownBlock ∧ (v1.ownBlock = v.ownBlock ∨ v1.ownBlock = some w.heap.size) := by
      rcases hoy.2 with ⟨rfl, h0⟩ | ⟨g, cap, cur, rfl, hb1, hb2, hb3, hb4, hb5, hb6⟩
      · have h00 : ys = [] := List.eq_nil_of_length_eq_zero h0
        subst h00
        have : vs = [] := List.eq_nil_of_length_eq_zero (by simpa using hoy.1)
        subst this
        exact ⟨v, w, run_append_nil ht.h hi v us ho 0, by simpa using ho, World.grownBy.refl w _, .inl rfl⟩
      · obtain ⟨v1, w1, hr, h2, h3, _, h5⟩ := run_append_own_at (P := P) w 0 t ty e i z sz bytes ht.h hi i1 i2 i3 hz.hz hz.hs v xs.length us ho ⟨g, 0, none⟩ ys.length cap vs hoy.1 (own_reads hoy) (ones_spec hay h1) (by simp only [maxLen]; omega) hl (Nat.zero_le _)
        exact ⟨v1, w1, hr, h2, h3, h5⟩
    obtain ⟨v1, w1, hr, h2, h3, h5⟩ := main
    obtain ⟨hg2, hper⟩ := hg1.grow hsy ho hu hay h2 h3 h5
    have hrun : (execOp a.eval ⟨some d, .call { callee := .builtin .append, args := #[x, y], argTypes := #[t, t] }, ty, pos, after, none⟩).run P w = .ok (.value v1) w1 := by
      simp only [execOp, resolve, invoke, builtin, Sem.run_bind, Sem.run_pure, Result.andThen_ok, List.map_toArray, List.map_cons, List.map_nil, hxv, hyv, hr]
    unfold Oper.wp
    rw [hrun]
    exact hK _ _ ((k _ (own_one h2)).to _ _ ⟨I, hg2.perm (p2 v1).symm, (hf.per hper).put (Nat.le_of_ble_eq_true hd) (.val _), hds⟩)
/-- The row cut at its end. -/
theorem xl_cuto {t e : TypeId} {x hi : Operand} {g n c sz : Nat} {k' : IntKind} {u : Int} {xs : List AV} {G : Value → List Ck} [ht : TyU P t (.slice e)] [hz : TySz P e sz] (hr : RepV σ (.vec (.slice (some ⟨g, 0, none⟩) n c) e sz xs) (fun v' => .vec v' e sz (xs.take u.toNat)) G) (hx : evl env x = some (.val (.slice (some ⟨g, 0, none⟩) n c))) (hhi : evl env hi = some (.val (.int k' u))) (h1 : 0 ≤ u) (h2 : u ≤ xs.length)
    (hd : Nat.ble (d + 1) C.n = true) (k : XL P C ops Q rest ((d, .val (.slice (some ⟨g, 0, none⟩) u.toNat c)) :: env) ds (G (.slice (some ⟨g, 0, none⟩) u.toNat c))) :
    XL P C ops Q (⟨some d, .slice t x none (some hi) none, ty, pos, after, none⟩ :: rest) env ds σ :=
  .of fun a w hA => by
    obtain ⟨I, hg, hf, hds⟩ := hA
    refine wpList_plain rfl fun K hK => ?_
    obtain ⟨r, p1, p2⟩ := hr.perm
    have hv := (hf.eval hx).val_inv
    have hu := (hf.eval hhi).val_inv
    have hg1 := hg.perm p1
    have hk := hg1.rel.ck _ List.mem_cons_self
    have hnc : n = xs.length ∧ n ≤ c := by
      obtain ⟨_, vs, ho, _⟩ := hk
      rcases ho.2 with ⟨h0, _⟩ | ⟨g', cap, cur, h0, _, _, h3, _⟩
      · cases h0
      · cases h0; exact ⟨rfl, h3⟩
    have he := elem_eq ht.h
    have hte : P.underlying t = some (.slice (P.elem t)) := by rw [he]; exact ht.h
    have hcut := vec_cut hk u.toNat (by omega)
    have hg2 := good_cut (v' := .slice (some ⟨g, 0, none⟩) u.toNat c) hg1 rfl hcut
    have hrun : (execOp a.eval ⟨some d, .slice t x none (some hi) none, ty, pos, after, none⟩).run P w = .ok (.value (.slice (some ⟨g, 0, none⟩) u.toNat c)) w := by
      simp [execOp, hv, hu, run_sliceAt_slice (h := hte), run_slice_h (ht := hte) (h0 := h1) (h2 := (by omega : u ≤ (c : Int))), he, hz.h w, sliced, add_plain]
    unfold Oper.wp
    rw [hrun]
    exact hK _ _ (k.to _ _ ⟨I, hg2.perm (p2 _).symm, hf.put (Nat.le_of_ble_eq_true hd) (.val _), hds⟩)
end
end Go.Ax
