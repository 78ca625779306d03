/- Deferred calls. No condition: plain definitions and theorems. -/
import Derived.Test.YtmallgapchjhnaaAx12
import Derived.Defers
set_option linter.unusedVariables false
set_option linter.unusedSimpArgs false
namespace Go.Ax
open Go Go.RowKit

/-- As AC, of the function's text. -/
def AW (P : Program) (f : FuncId) (args : List AV) (σ : List Ck) (Post : AE → List Ck → Prop) : Prop :=
  ∃ fn c, P.funcs[f]? = some fn ∧ fn.body = some c ∧ ∀ I w vs, Rel I w σ → All2 (VR I w) args vs → c.wp P (bodyPost P fn (APost I w (touch σ) Post)) { tmps := vs.toArray ++ Array.replicate (fn.ntmps - vs.toArray.size) undef, defers := [] } w
theorem AW.ac {P : Program} {f : FuncId} {args : List AV} {σ : List Ck} {Post : AE → List Ck → Prop} (h : AW P f args σ Post) : AC P f args σ Post := by
  obtain ⟨fn, c, hf, hb, h⟩ := h
  exact fun I w vs hr ha => calls_of_wp hf hb (h I w vs hr ha)
theorem start_at {fn : Func} {args : List AV} {σ : List Ck} {I : Nat → Nat → Prop} {w : World} {vs : List Value} (hn : Nat.ble args.length fn.ntmps = true) (hr : Rel I w σ) (ha : All2 (VR I w) args vs) : At ⟨I, w, touch σ, fn.ntmps⟩ (argEnv 0 args) [] σ { tmps := vs.toArray ++ Array.replicate (fn.ntmps - vs.toArray.size) undef, defers := [] } w := by
  refine ⟨I, Good.start hr, ⟨?_, ?_⟩, rfl⟩
  · have := ha.length
    have := Nat.le_of_ble_eq_true hn
    simp
    omega
  · intro i x hi
    obtain ⟨v, _, hv, hx⟩ := argEnv_get args vs 0 ha i x hi
    have hlt : i < vs.length := (List.getElem?_eq_some_iff.1 hv).1
    refine ⟨v, ?_, hx⟩
    rw [Array.getElem?_append_left (by simpa using hlt)]
    simpa using hv
theorem aw_intro {P : Program} {f : FuncId} {fn : Func} {c : Code} {args : List AV} {σ : List Ck} {Post : AE → List Ck → Prop} (hf : P.funcs[f]? = some fn) (hb : fn.body = some c) (hn : Nat.ble args.length fn.ntmps = true)
    (h : ∀ I w, X P ⟨I, w, touch σ, fn.ntmps⟩ c (bodyPost P fn (APost I w (touch σ) Post)) (argEnv 0 args) [] σ) : AW P f args σ Post := by
  refine ⟨fn, c, hf, hb, fun I w vs hr ha => ?_⟩
  have := h I w
  unfold X at this
  exact this _ w (start_at hn hr ha)
theorem ac_introD {P : Program} {f : FuncId} {fn : Func} {c : Code} {args : List AV} {σ : List Ck} {Post : AE → List Ck → Prop} (hf : P.funcs[f]? = some fn) (hb : fn.body = some c) (hn : Nat.ble args.length fn.ntmps = true)
    (h : ∀ I w, X P ⟨I, w, touch σ, fn.ntmps⟩ c (bodyPostD P fn (APost I w (touch σ) Post)) (argEnv 0 args) [] σ) : AC P f args σ Post := by
  intro I w vs hr ha
  have := h I w
  unfold X at this
  exact calls_of_wp_defers hf hb (this _ w (start_at hn hr ha))

/-- The call leaves. -/
def XV (P : Program) (C : Cx) (fn : Func) (R : Ending → World → Prop) (u : FrameMode) (env : Env) (ds : List Deferred) (σ : List Ck) : Prop := ∀ a w, At C env ds σ a w → Leaves P fn a.tmps R ds u w
section
variable {P : Program} {C : Cx} {Q : Exit → Act → World → Prop} {ops : Array Oper} {rest : List Oper} {env r : Env} {ds : List Deferred} {σ σr σ' : List Ck} {d : Nat} {ty : TypeId} {pos : String} {after : Array Edge} {op : Op} {fn : Func} {R : Ending → World → Prop}
theorem xv_ret {e : Exit} (he : e = .normal ∨ e = .ret) (h : XV P C fn R .returning env ds σ) : XQ C (bodyPostD P fn R) e env ds σ := by
  unfold XQ
  intro a w hA
  have hd : a.defers = ds := by obtain ⟨_, _, _, hd⟩ := hA; exact hd
  rcases he with rfl | rfl
  · show Leaves P fn a.tmps R a.defers .returning w
    rw [hd]; exact h a w hA
  · show Leaves P fn a.tmps R a.defers .returning w
    rw [hd]; exact h a w hA
theorem xv_panic {l : List PanicEntry} (h : XV P C fn R (.panicking l) env ds σ) : XQ C (bodyPostD P fn R) (.panic l) env ds σ := by
  unfold XQ
  intro a w hA
  have hd : a.defers = ds := by obtain ⟨_, _, _, hd⟩ := hA; exact hd
  show Leaves P fn a.tmps R a.defers (.panicking l) w
  rw [hd]; exact h a w hA
theorem xv_done {I0 : Nat → Nat → Prop} {w0 : World} {T0 : Nat → Prop} {n : Nat} {Post : AE → List Ck → Prop} (x : AV) {x0 : AV} (hr : ∀ I w (a : Act), Fits I w n env a → Good I0 w0 T0 I w σ → ∃ v, (results fn a.tmps).run P w = .ok v w ∧ VR I w x0 v) (hs : ∃ r, σ.Perm (r ++ σ')) (hw : Wk x0 x) (hp : Post (.ret x) σ') :
    XV P ⟨I0, w0, T0, n⟩ fn (APost I0 w0 T0 Post) .returning env [] σ := by
  rintro a w ⟨I, hg, hf, hd⟩
  obtain ⟨v, hv, hx⟩ := hr I w a hf hg
  obtain ⟨r, hs⟩ := hs
  have hg2 : Good I0 w0 T0 I w σ' := by
    have := hg.perm hs
    clear hs
    induction r with
    | nil => exact this
    | cons c r ih => exact ih this.tail
  exact ⟨v, hv, I, σ', .ret x, hg2, .ret (hw _ _ _ hx), hp⟩
theorem xv_died {I0 : Nat → Nat → Prop} {w0 : World} {T0 : Nat → Prop} {n : Nat} {Post : AE → List Ck → Prop} {v : Value} (hs : ∃ r, σ.Perm (r ++ σ')) (hp : Post (.panic v) σ') : XV P ⟨I0, w0, T0, n⟩ fn (APost I0 w0 T0 Post) (.panicking [{ v, recovered := false }]) env [] σ := by
  rintro a w ⟨I, hg, hf, hd⟩
  obtain ⟨r, hs⟩ := hs
  have hg2 : Good I0 w0 T0 I w σ' := by
    have := hg.perm hs
    clear hs
    induction r with
    | nil => exact this
    | cons c r ih => exact ih this.tail
  exact ⟨I, σ', .panic v, hg2, .panic v, hp⟩
theorem xv_sub {u : FrameMode} (hs : Sub r env) (h : XV P C fn R u r ds σ) : XV P C fn R u env ds σ := fun a w k => h a w (k.sub hs)
/-- One deferred call that returns. -/
theorem xv_defer {u : FrameMode} {f : FuncId} {caps args : List Value} {σf : List Ck} {T : Type} {s : T → List Ck} {x : T → AV} {G : T → List Ck} [hF : Fn1 P f] (hu : u ≠ .run) (hse : settle u = u) (hc : AW P f ((args ++ caps).map .val) σf (RetE x s)) (hs : SwpE σ σf s G)
    (k : ∀ q, XV P C fn R u env ds (G q)) : XV P C fn R u env ({ target := .fn (.func f) caps.toArray, args := args.toArray } :: ds) σ := by
  rintro a w ⟨I, hg, hf, hd⟩
  obtain ⟨rr, p1, p2⟩ := hs.perm
  obtain ⟨fn', c', h1, h2, h3⟩ := hc
  have hg1 := hg.perm p1
  have hrel : Rel I w σf := ⟨fun c hc => hg1.rel.ck c (by simp [hc]), (List.pairwise_append.1 hg1.rel.ap).1, fun c hc => hg1.rel.off c (by simp [hc]), hg1.rel.ex⟩
  have hall : All2 (VR I w) ((args ++ caps).map .val) (args ++ caps) := by
    generalize args ++ caps = l
    induction l with
    | nil => exact .nil
    | cons v l ih => exact .cons (.val v) ih
  refine leaves_cons (args := (args ++ caps).toArray) hu (by simp [invoke, hF.h]) ((callsD_of_wp h1 h2 (h3 I w _ hrel hall)).mono ?_)
  rintro e u' w' ⟨rfl, I', s', ae, hg', he, q, hq, rfl⟩
  subst hq
  cases he with
  | ret hv =>
    show Leaves P fn a.tmps R ds (settle u') w'
    rw [hse]
    refine k q { a with defers := ds } w' ⟨I', (Good.call hg1 hg').perm (p2 q).symm, ?_, rfl⟩
    exact ⟨(hf.per hg'.per).size, (hf.per hg'.per).get⟩

theorem cuto_run {t e : TypeId} {x hi : Operand} {g n c sz : Nat} {k' : IntKind} {u : Int} {xs : List AV} {dst : Option Tmp} [ht : TyU P t (.slice e)] [hz : TySz P e sz] {I : Nat → Nat → Prop} {w : World} {a : Act} (hg : Good C.I0 C.w0 C.T0 I w (.vec (.slice (some ⟨g, 0, none⟩) n c) e sz xs :: σr)) (hf : Fits I w C.n env a) (hx : evl env x = some (.val (.slice (some ⟨g, 0, none⟩) n c))) (hhi : evl env hi = some (.val (.int k' u))) (h1 : 0 ≤ u) (h2 : u ≤ xs.length) :
    (execOp a.eval ⟨dst, .slice t x none (some hi) none, ty, pos, after, none⟩).run P w = .ok (.value (.slice (some ⟨g, 0, none⟩) u.toNat c)) w ∧ Good C.I0 C.w0 C.T0 I w (.vec (.slice (some ⟨g, 0, none⟩) u.toNat c) e sz (xs.take u.toNat) :: σr) := by
  have hv := (hf.eval hx).val_inv
  have hu := (hf.eval hhi).val_inv
  have hk := hg.rel.ck _ List.mem_cons_self
  have hnc : n = xs.length ∧ n ≤ c := by
    obtain ⟨_, vs, ho, _⟩ := hk
    rcases ho.2 with ⟨h0, _⟩ | ⟨g', cap, cur, h0, _, _, h3, _⟩
    · cases h0
    · cases h0; exact ⟨rfl, h3⟩
  have he := elem_eq ht.h
  have hte : P.underlying t = some (.slice (P.elem t)) := by rw [he]; exact ht.h
  refine ⟨?_, good_cut (v' := .slice (some ⟨g, 0, none⟩) u.toNat c) hg rfl (vec_cut hk u.toNat (by omega))⟩
  simp [execOp, hv, hu, run_sliceAt_slice (h := hte), run_slice_h (ht := hte) (h0 := h1) (h2 := (by omega : u ≤ (c : Int))), he, hz.h w, sliced, add_plain]
theorem ev_cuto {t e : TypeId} {x hi : Operand} {g n c sz : Nat} {k' : IntKind} {u : Int} {xs : List AV} {G : Value → List Ck} [ht : TyU P t (.slice e)] [hz : TySz P e sz] (hr : RepV σ (.vec (.slice (some ⟨g, 0, none⟩) n c) e sz xs) (fun v' => .vec v' e sz (xs.take u.toNat)) G) (hx : evl env x = some (.val (.slice (some ⟨g, 0, none⟩) n c))) (hhi : evl env hi = some (.val (.int k' u))) (h1 : 0 ≤ u) (h2 : u ≤ xs.length) :
    EV P C ops Q ⟨some d, .slice t x none (some hi) none, ty, pos, after, none⟩ env ds σ (One (.val (.slice (some ⟨g, 0, none⟩) u.toNat c)) (G (.slice (some ⟨g, 0, none⟩) u.toNat c))) := by
  intro I w a K hg hf hds hK
  refine ⟨rfl, ?_⟩
  obtain ⟨r, p1, p2⟩ := hr.perm
  obtain ⟨hrun, hg2⟩ := cuto_run (P := P) (t := t) (ty := ty) (dst := some d) (pos := pos) (after := after) (hg.perm p1) hf hx hhi h1 h2
  unfold Oper.wp
  rw [hrun]
  exact hK _ _ _ _ _ ⟨rfl, rfl⟩ (hg2.perm (p2 _).symm) (Per.refl _ _) (.val _)
theorem pv_cutn {t e : TypeId} {x hi : Operand} {k' : IntKind} {sz : Nat} [ht : TyU P t (.slice e)] [hz : TySz P e sz] (hx : evl env x = some (.val (.slice none 0 0))) (hhi : evl env hi = some (.val (.int k' 0))) : PV P C (.slice t x none (some hi) none) ty env σ (.val (.slice none 0 0)) := by
  unfold PV
  intro _ _ _ _ I w a hg hf
  have hv := (hf.eval hx).val_inv
  have hu := (hf.eval hhi).val_inv
  have he := elem_eq ht.h
  have hte : P.underlying t = some (.slice (P.elem t)) := by rw [he]; exact ht.h
  refine ⟨_, ?_, .val _⟩
  simp [execOp, hv, hu, run_sliceAt_slice (h := hte), run_slice_h (ht := hte) (h0 := (by omega : (0 : Int) ≤ 0)) (h2 := (by omega : (0 : Int) ≤ ((0 : Nat) : Int))), he, hz.h w, sliced]
theorem xl_skipu {j dj : Nat} {b : Bool} (hj : (ops[j]?).bind (·.dst) = some dj) (ht : lk env dj = some (.val undef)) (hd : Nat.ble (d + 1) C.n = true) (k : XL P C ops Q rest ((d, .val undef) :: env) ds σ) :
    XL P C ops Q (⟨some d, op, ty, pos, after, some (j, b)⟩ :: rest) env ds σ := .of fun a w hA => by
  obtain ⟨I, hg, hf, hds⟩ := hA
  obtain ⟨u, hu, hr⟩ := hf.get dj _ ht
  rw [hr.val_inv] at hu
  have hw : Region.wanted ⟨some d, op, ty, pos, after, some (j, b)⟩ (yielded ops a.tmps) = false := by
    simp only [Region.wanted, yielded, hj, Option.bind_some, hu]
    rfl
  unfold wpList
  rw [if_neg (by rw [hw]; simp)]
  exact k.to _ _ ⟨I, hg, hf.put (Nat.le_of_ble_eq_true hd) (.val undef), hds⟩
theorem xl_skipu0 {j dj : Nat} {b : Bool} (hj : (ops[j]?).bind (·.dst) = some dj) (ht : lk env dj = some (.val undef)) (k : XL P C ops Q rest env ds σ) :
    XL P C ops Q (⟨none, op, ty, pos, after, some (j, b)⟩ :: rest) env ds σ := .of fun a w hA => by
  obtain ⟨I, hg, hf, hds⟩ := hA
  obtain ⟨u, hu, hr⟩ := hf.get dj _ ht
  rw [hr.val_inv] at hu
  have hw : Region.wanted ⟨none, op, ty, pos, after, some (j, b)⟩ (yielded ops a.tmps) = false := by
    simp only [Region.wanted, yielded, hj, Option.bind_some, hu]
    rfl
  unfold wpList
  rw [if_neg (by rw [hw]; simp)]
  exact k.to _ _ ⟨I, hg, hf, hds⟩
/-- c is put in somewhere. -/
inductive Ins (c : Ck) : List Ck → List Ck → Prop
  | h {σ : List Ck} : Ins c σ (c :: σ)
  | t {d : Ck} {σ σ' : List Ck} : Ins c σ σ' → Ins c (d :: σ) (d :: σ')
theorem Ins.perm {c : Ck} {σ σ' : List Ck} (h : Ins c σ σ') : (c :: σ).Perm σ' := by
  induction h with
  | h => exact .refl _
  | t _ ih => exact (List.Perm.swap _ _ _).trans (ih.cons _)
theorem x_vnilAt {c : Code} (e : TypeId) (sz : Nat) (hi : Ins (.vec (.slice none 0 0) e sz []) σ σ') (h : X P C c Q env ds σ') : X P C c Q env ds σ := by
  unfold X at *
  exact fun a w k => h a w ((k.vnil e sz).perm hi.perm)
theorem xl_vnilAt (e : TypeId) (sz : Nat) (hi : Ins (.vec (.slice none 0 0) e sz []) σ σ') (h : XL P C ops Q rest env ds σ') : XL P C ops Q rest env ds σ :=
  .of fun a w k => h.to a w ((k.vnil e sz).perm hi.perm)
/-- The row whose slice lies in a variable grows no more. -/
theorem at_pubc {v : Value} {e : TypeId} {sz : Nat} {xs : List AV} {b o : Nat} {T : TypeId} {cells cells' : List AV} {σ1 σ2 : List Ck} {a : Act} {w : World} (hA : At C env ds σ a w) (hh : Has σ (.vec v e sz xs) σ1) (hr : Rep σ1 (.ref b T cells) (.ref b T cells') σ2) (ho : cells[o]? = some (.val v)) (hs : SetAt cells o [.list sz xs] cells') : At C env ds σ2 a w := by
  obtain ⟨I, hg, hf, hd⟩ := hA
  obtain ⟨I1, hg1, hp, hv⟩ := (hg.perm hh.perm).pub
  obtain ⟨r, p1, p2⟩ := hr.perm
  have hg2 := hg1.perm p1
  obtain ⟨hu, hle⟩ := hs.upd_eq
  refine ⟨I1, ?_, hf.per hp, hd⟩
  have hap := List.pairwise_cons.1 hg2.rel.ap
  have hg3 : Good C.I0 C.w0 C.T0 I1 w (.ref b T cells' :: r) := by
    refine { hg2 with rel := ⟨?_, ?_, ?_, hg2.rel.ex⟩, ckNew := ?_ }
    · intro c hc
      rcases List.mem_cons.1 hc with rfl | hc
      · obtain ⟨vs, hvs, ha⟩ := hg2.rel.ck (.ref b T cells) List.mem_cons_self
        obtain ⟨u, hu1, hu2⟩ := ha.get ho
        have : u = v := hu2.val_inv
        subst this
        refine ⟨vs, hvs, ?_⟩
        rw [← hu]
        show All2 (VR I1 w) (cells.set o (.list sz xs)) vs
        have h3 := ha.set o hv
        have e1 : vs.set o u = vs := by
          apply List.ext_getElem?
          intro i
          rw [List.getElem?_set]
          split
          · rename_i h; subst h
            rw [hu1]
            have := (List.getElem?_eq_some_iff.1 hu1).1
            simp [this]
          · rfl
        rwa [e1] at h3
      · exact hg2.rel.ck c (by simp [hc])
    · exact List.pairwise_cons.2 ⟨fun c hc b' hb' => hap.1 c hc b' hb', hap.2⟩
    · intro c hc b' hb' o'
      rcases List.mem_cons.1 hc with rfl | hc
      · exact hg2.rel.off (.ref b T cells) List.mem_cons_self b' hb' o'
      · exact hg2.rel.off c (by simp [hc]) b' hb' o'
    · intro c hc b' hb'
      rcases List.mem_cons.1 hc with rfl | hc
      · exact hg2.ckNew (.ref b T cells) List.mem_cons_self b' hb'
      · exact hg2.ckNew c (by simp [hc]) b' hb'
  exact hg3.perm p2.symm
theorem x_pubc {c : Code} {v : Value} {e : TypeId} {sz : Nat} {xs : List AV} {b : Nat} (o : Nat) {T : TypeId} {cells cells' : List AV} {σ1 σ2 : List Ck} (hh : Has σ (.vec v e sz xs) σ1) (hr : Rep σ1 (.ref b T cells) (.ref b T cells') σ2) (ho : cells[o]? = some (.val v)) (hs : SetAt cells o [.list sz xs] cells') (h : X P C c Q env ds σ2) : X P C c Q env ds σ := by
  unfold X at *
  exact fun a w k => h a w (at_pubc k hh hr ho hs)
theorem xl_pubc {v : Value} {e : TypeId} {sz : Nat} {xs : List AV} {b : Nat} (o : Nat) {T : TypeId} {cells cells' : List AV} {σ1 σ2 : List Ck} (hh : Has σ (.vec v e sz xs) σ1) (hr : Rep σ1 (.ref b T cells) (.ref b T cells') σ2) (ho : cells[o]? = some (.val v)) (hs : SetAt cells o [.list sz xs] cells') (h : XL P C ops Q rest env ds σ2) : XL P C ops Q rest env ds σ :=
  .of fun a w k => h.to a w (at_pubc k hh hr ho hs)
theorem pv_wk {x : AV} (y : AV) (h : PV P C op ty env σ x) (hw : Wk x y) : PV P C op ty env σ y := by
  unfold PV at *
  intro dst pos after guard I w a hg hf
  obtain ⟨v, h1, h2⟩ := h dst pos after guard I w a hg hf
  exact ⟨v, h1, hw _ _ _ h2⟩
theorem xl_retE {f : FuncId} {os : List Operand} {ts : Array TypeId} {args : List AV} {σf : List Ck} {T : Type} {s : T → List Ck} {x : T → AV} {cal : Operand} {G : T → List Ck} [hF : Fn1 P f] (hc : AC P f args σf (RetE x s)) (hcal : evl env cal = some (.val (.func (.func f) #[] #[]))) (hargs : Evs env os args) (hs : Split σ σf σr)
    (ha : ∀ q, App (s q) σr (G q)) (hd : Nat.ble (d + 1) C.n = true) (kr : ∀ q, XL P C ops Q rest ((d, x q) :: env) ds (G q)) :
    XL P C ops Q (⟨some d, .call { callee := .value cal, args := os.toArray, argTypes := ts }, ty, pos, after, none⟩ :: rest) env ds σ :=
  xl_call hcal hargs hs hc hd (fun y s' h => by
    obtain ⟨q, h, rfl⟩ := h
    cases h
    rw [(ha q).eq]
    exact kr q) (fun v s' h => by obtain ⟨q, h, _⟩ := h; cases h)
/-- A deferred call that recovers, and lays what it made of the panic's value. -/
theorem xv_recover {f : FuncId} {caps args : List Value} {b : Nat} {T : TypeId} {x : AV} {v nv : Value} [hF : Fn1 P f]
    (hc : ∀ (w : World) (u : Value), w.heap[b]? = some (.cells #[u] T (0, 0)) → CallsD P f (args ++ caps).toArray (.panicking [{ v, recovered := false }]) w fun e u' w' => e = .returned (.tuple #[]) ∧ u' = .panicking [{ v, recovered := true }] ∧ w' = w.setCell ⟨b, 0, none⟩ nv)
    (hh : Has σ (.ref b T [x]) σr) (k : XV P C fn R .returning env ds (.ref b T [.val nv] :: σr)) : XV P C fn R (.panicking [{ v, recovered := false }]) env ({ target := .fn (.func f) caps.toArray, args := args.toArray } :: ds) σ := by
  rintro a w ⟨I, hg, hf, hd⟩
  have hg1 := hg.perm hh.perm
  obtain ⟨vs, hv, ha⟩ := hg1.rel.ck (.ref b T [x]) List.mem_cons_self
  have hvs : ∃ u, vs = [u] := by
    have := ha.length
    match vs, this with
    | [u], _ => exact ⟨u, rfl⟩
  obtain ⟨u, rfl⟩ := hvs
  refine leaves_cons (args := (args ++ caps).toArray) (by simp) (by simp [invoke, hF.h]) ((hc w u (by simpa using hv)).mono ?_)
  rintro e u' w' ⟨rfl, rfl, rfl⟩
  show Leaves P fn a.tmps R ds (settle _) _
  have hs : settle (.panicking [{ v, recovered := true }]) = .returning := rfl
  rw [hs]
  obtain ⟨hg2, hp⟩ := hg1.set 0 (.val nv : VR I w (.val nv) nv)
  exact k { a with defers := ds } _ ⟨I, hg2, ⟨(hf.per hp).size, (hf.per hp).get⟩, rfl⟩
/-- .. that finds nothing to recover. -/
theorem xv_idle {f : FuncId} {caps args : List Value} [hF : Fn1 P f]
    (hc : ∀ (w : World), CallsD P f (args ++ caps).toArray .returning w fun e u' w' => e = .returned (.tuple #[]) ∧ u' = .returning ∧ w' = w)
    (k : XV P C fn R .returning env ds σ) : XV P C fn R .returning env ({ target := .fn (.func f) caps.toArray, args := args.toArray } :: ds) σ := by
  rintro a w ⟨I, hg, hf, hd⟩
  refine leaves_cons (args := (args ++ caps).toArray) (by simp) (by simp [invoke, hF.h]) ((hc w).mono ?_)
  rintro e u' w' ⟨rfl, rfl, rfl⟩
  show Leaves P fn a.tmps R ds (settle _) _
  exact k { a with defers := ds } _ ⟨I, hg, ⟨hf.size, hf.get⟩, rfl⟩
/-- A call that looks at a row of the call's own, and answers a plain value. -/
theorem xl_look {f : FuncId} {o cal : Operand} {ts : Array TypeId} {v r : Value} {e : TypeId} {sz : Nat} {xs : List AV} [hF : Fn1 P f] (hc : AC P f [.list sz xs] [] (RetIs (.val r) [])) (hh : Has σ (.vec v e sz xs) σr) (hcal : evl env cal = some (.val (.func (.func f) #[] #[]))) (ho : evl env o = some (.val v))
    (hd : Nat.ble (d + 1) C.n = true) (k : XL P C ops Q rest ((d, .val r) :: env) ds σ) :
    XL P C ops Q (⟨some d, .call { callee := .value cal, args := #[o], argTypes := ts }, ty, pos, after, none⟩ :: rest) env ds σ :=
  .of fun a w hA => by
    obtain ⟨I, hg, hf, hds⟩ := hA
    refine wpList_plain rfl fun K hK => ?_
    have hcv := (hf.eval hcal).val_inv
    have hov := (hf.eval ho).val_inv
    obtain ⟨I1, hg1, hp1, hv1⟩ := (hg.perm hh.perm).pub
    have hrel : Rel I1 w [] := ⟨fun c hc => by simp at hc, List.Pairwise.nil, fun c hc => by simp at hc, hg1.rel.ex⟩
    have hcall := hc I1 w [v] hrel (.cons hv1 .nil)
    have hr : (execOp a.eval ⟨some d, .call { callee := .value cal, args := #[o], argTypes := ts }, ty, pos, after, none⟩).run P w = .ok (.enter f #[v]) w := by
      simp [execOp, resolve, hcv, hov, Deferred.ofValue, invoke, hF.h]
    unfold Oper.wp
    rw [hr]
    refine hcall.mono ?_
    rintro en w' ⟨I', s', ae, hg', he, h1, h2⟩
    subst h1 h2
    have hper : Per I w I w' := ⟨fun _ _ h => h, fun b o h => hg'.per.cell b o (hp1.imm b o h)⟩
    have hk : Good I w (touch []) I w' [] := ⟨⟨fun c hc => by simp at hc, List.Pairwise.nil, fun c hc => by simp at hc, fun b o h => by
      obtain ⟨u, hu⟩ := hg.rel.ex b o h
      exact ⟨u, (hper.cell b o h).trans hu⟩⟩, hg'.os, hg'.tape, hg'.output, hg'.size, hg'.old, hper, fun b o h => .inl h, fun c hc => by simp at hc⟩
    have hg2 := Good.call (σ := []) (σr := σ) hg hk
    cases he with
    | ret hv =>
      have := hv.val_inv
      subst this
      exact hK _ _ (k.to _ _ ⟨I, hg2, (hf.per hper).put (Nat.le_of_ble_eq_true hd) (.val _), hds⟩)
/-- defer f(args) -/
theorem xl_defer {f : FuncId} {os : List Operand} {ts : Array TypeId} {args caps : List Value} {cal : Operand} (hcal : evl env cal = some (.val (.func (.func f) #[] caps.toArray))) (hargs : EvV env os args)
    (k : XL P C ops Q rest env ({ target := .fn (.func f) caps.toArray, args := args.toArray } :: ds) σ) :
    XL P C ops Q (⟨none, .defer { callee := .value cal, args := os.toArray, argTypes := ts }, ty, pos, after, none⟩ :: rest) env ds σ :=
  .of fun a w hA => by
    obtain ⟨I, hg, hf, hds⟩ := hA
    refine wpList_plain rfl fun K hK => ?_
    have hcv := (hf.eval hcal).val_inv
    have hav := hargs.all hf
    have hr : (execOp a.eval ⟨none, .defer { callee := .value cal, args := os.toArray, argTypes := ts }, ty, pos, after, none⟩).run P w = .ok (.defer { target := .fn (.func f) caps.toArray, args := args.toArray }) w := by
      simp [execOp, resolve, hcv, Deferred.ofValue, hav]
    unfold Oper.wp
    rw [hr]
    exact hK _ _ (k.to _ _ ⟨I, hg, ⟨hf.size, hf.get⟩, by simp [Act.put, hds]⟩)
end
end Go.Ax
