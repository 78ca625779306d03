/- Results that lie in variables. No condition: plain definitions and theorems. -/
import Derived.Test.YtmallgapchjhnaaAx11
set_option linter.unusedVariables false
set_option linter.unusedSimpArgs false
namespace Go.Ax
open Go Go.RowKit

section
variable {P : Program} {C : Cx} {env : Env} {ds : List Deferred} {σ σr : List Ck} {I0 : Nat → Nat → Prop} {w0 : World} {T0 : Nat → Prop} {n : Nat} {fn : Func} {Post : AE → List Ck → Prop}
/-- What a variable of type t at slot a holds at the end. -/
def CR (P : Program) (env : Env) (σ : List Ck) (a : Tmp) (t : TypeId) (x : AV) : Prop := ∀ I0 w0 T0 n I w (act : Act), Fits I w n env act → Good I0 w0 T0 I w σ → ∃ p v, (asAddr (act.tmps[a]?.getD undef)).run P w = .ok p w ∧ (loadVar t p).run P w = .ok v w ∧ VR I w x v
theorem cr_1 {a : Tmp} {t : TypeId} {b o : Nat} {T : TypeId} {cells : List AV} {y : AV} [ht : Ty1 P t] (hx : lk env a = some (.val (.pointer (some ⟨b, o, none⟩)))) (hh : Has σ (.ref b T cells) σr) (hc : cells[o]? = some y) : CR P env σ a t y := fun I0 w0 T0 n I w act hf hg => by
  obtain ⟨u, hu, hr⟩ := hf.get a _ hx
  rw [hr.val_inv] at hu
  obtain ⟨vs, hv, ha⟩ := ref_cells hg hh
  obtain ⟨v, hv2, hr2⟩ := ha.get hc
  have hcell : w.cell? ⟨b, o, none⟩ = some v := (ref_cell hv o).trans hv2
  refine ⟨⟨b, o, none⟩, v, ?_, ?_, hr2⟩
  · rw [hu]
    rfl
  · simp [loadVar, (ht.h w).1, load, hcell, Sem.run_bind, Sem.run]
theorem cr_N {a : Tmp} {t : TypeId} {b o k : Nat} {T : TypeId} {cells : List AV} [ht : TyN P t k] (hx : lk env a = some (.val (.pointer (some ⟨b, o, none⟩)))) (hh : Has σ (.ref b T cells) σr) (hl : ((cells.drop o).take k).length = k) : CR P env σ a t (.agg ((cells.drop o).take k)) := fun I0 w0 T0 n I w act hf hg => by
  obtain ⟨u, hu, hr⟩ := hf.get a _ hx
  rw [hr.val_inv] at hu
  obtain ⟨vs, hv, ha⟩ := ref_cells hg hh
  have ha2 := (ha.drop o).take k
  have hl2 : ((vs.drop o).take k).length = k := by rw [← ha2.length]; exact hl
  refine ⟨⟨b, o, none⟩, .agg ((vs.drop o).take k).toArray, ?_, ?_, .agg_mk ha2⟩
  · rw [hu]
    rfl
  · have hrun := run_loadCells_list (P := P) w ⟨b, o, none⟩ ((vs.drop o).take k) (fun j u hu => by
      rw [add_plain, ref_cell hv]
      have hj : j < k := by
        have := (List.getElem?_eq_some_iff.1 hu).1
        omega
      rwa [List.getElem?_take_of_lt hj, List.getElem?_drop] at hu)
    rw [hl2] at hrun
    simp [loadVar, (ht.h w).1, (ht.h w).2, hrun]
theorem resC {a : Tmp} {t : TypeId} {x : AV} (h : fn.results = #[.cell a t]) (hx : CR P env σ a t x) : ∀ I w (act : Act), Fits I w n env act → Good I0 w0 T0 I w σ → ∃ v, (results fn act.tmps).run P w = .ok v w ∧ VR I w x v := fun I w act hf hg => by
  obtain ⟨p, v, h1, h2, h3⟩ := hx _ _ _ _ I w act hf hg
  exact ⟨v, by simp [results, h, h1, h2, Sem.run_bind], h3⟩
theorem resCT {a u : Tmp} {t : TypeId} {x y : AV} (h : fn.results = #[.cell a t, .tmp u]) (hx : CR P env σ a t x) (hy : lk env u = some y) : ∀ I w (act : Act), Fits I w n env act → Good I0 w0 T0 I w σ → ∃ v, (results fn act.tmps).run P w = .ok v w ∧ VR I w (.tuple [x, y]) v := fun I w act hf hg => by
  obtain ⟨p, v, h1, h2, h3⟩ := hx _ _ _ _ I w act hf hg
  exact ⟨.tuple #[v, act.eval (.tmp u)], by simp [results, h, h1, h2, Sem.run_bind, Act.eval], .tuple_mk (.cons h3 (.cons (hf.eval (o := .tmp u) hy) .nil))⟩
theorem resTC {a u : Tmp} {t : TypeId} {x y : AV} (h : fn.results = #[.tmp u, .cell a t]) (hy : lk env u = some y) (hx : CR P env σ a t x) : ∀ I w (act : Act), Fits I w n env act → Good I0 w0 T0 I w σ → ∃ v, (results fn act.tmps).run P w = .ok v w ∧ VR I w (.tuple [y, x]) v := fun I w act hf hg => by
  obtain ⟨p, v, h1, h2, h3⟩ := hx _ _ _ _ I w act hf hg
  exact ⟨.tuple #[act.eval (.tmp u), v], by simp [results, h, h1, h2, Sem.run_bind, Act.eval], .tuple_mk (.cons (hf.eval (o := .tmp u) hy) (.cons h3 .nil))⟩
theorem resCTT {a u u2 : Tmp} {t : TypeId} {x y z : AV} (h : fn.results = #[.cell a t, .tmp u, .tmp u2]) (hx : CR P env σ a t x) (hy : lk env u = some y) (hz : lk env u2 = some z) : ∀ I w (act : Act), Fits I w n env act → Good I0 w0 T0 I w σ → ∃ v, (results fn act.tmps).run P w = .ok v w ∧ VR I w (.tuple [x, y, z]) v := fun I w act hf hg => by
  obtain ⟨p, v, h1, h2, h3⟩ := hx _ _ _ _ I w act hf hg
  exact ⟨.tuple #[v, act.eval (.tmp u), act.eval (.tmp u2)], by simp [results, h, h1, h2, Sem.run_bind, Act.eval], .tuple_mk (.cons h3 (.cons (hf.eval (o := .tmp u) hy) (.cons (hf.eval (o := .tmp u2) hz) .nil)))⟩
/-- As xq_done, and then what was the call's own alone is let go. -/
theorem xq_done' {e : Exit} (he : e = .normal ∨ e = .ret) (x : AV) {σ' : List Ck} (hr : ∀ I w (a : Act), Fits I w n env a → Good I0 w0 T0 I w σ → ∃ v, (results fn a.tmps).run P w = .ok v w ∧ VR I w x v) (hs : ∃ r, σ.Perm (r ++ σ')) (hp : Post (.ret x) σ') :
    XQ ⟨I0, w0, T0, n⟩ (bodyPost P fn (APost I0 w0 T0 Post)) e env [] σ := by
  unfold XQ
  rintro a w ⟨I, hg, hf, hd⟩
  obtain ⟨v, hv, hx⟩ := hr I w a hf hg
  obtain ⟨r, hs⟩ := hs
  have hg2 : Good I0 w0 T0 I w σ' := by
    have := hg.perm hs
    clear hs
    induction r with
    | nil => exact this
    | cons c r ih => exact ih this.tail
  have : bodyPost P fn (APost I0 w0 T0 Post) .ret a w := ⟨hd, v, hv, I, σ', .ret x, hg2, .ret hx, hp⟩
  rcases he with rfl | rfl
  · exact this
  · exact this
theorem Wk.agg {xs ys : List AV} (h : All2 Wk xs ys) : Wk (.agg xs) (.agg ys) := fun I w v hv => by
  obtain ⟨us, rfl, hu⟩ := hv.agg_inv
  refine .agg_mk (.of_get (by rw [← h.length]; exact hu.length) (fun i y u hy hu' => ?_))
  have hlt : i < xs.length := by rw [h.length]; exact (List.getElem?_eq_some_iff.1 hy).1
  have hx : xs[i]? = some xs[i] := List.getElem?_eq_getElem hlt
  exact h.get2 hx hy I w u (hu.get2 hx hu')
theorem Wk.tuple {xs ys : List AV} (h : All2 Wk xs ys) : Wk (.tuple xs) (.tuple ys) := fun I w v hv => by
  obtain ⟨us, rfl, hu⟩ := hv.tuple_inv
  refine .tuple_mk (.of_get (by rw [← h.length]; exact hu.length) (fun i y u hy hu' => ?_))
  have hlt : i < xs.length := by rw [h.length]; exact (List.getElem?_eq_some_iff.1 hy).1
  have hx : xs[i]? = some xs[i] := List.getElem?_eq_getElem hlt
  exact h.get2 hx hy I w u (hu.get2 hx hu')
theorem good_wk {I0 I : Nat → Nat → Prop} {w0 w : World} {T0 : Nat → Prop} {b : Nat} {T : TypeId} {cells cells' : List AV} (h : Good I0 w0 T0 I w (.ref b T cells :: σ)) (hw : All2 Wk cells cells') : Good I0 w0 T0 I w (.ref b T cells' :: σ) := by
  have hap := List.pairwise_cons.1 h.rel.ap
  refine { h with rel := ⟨?_, ?_, ?_, h.rel.ex⟩, ckNew := ?_ }
  · intro c hc
    rcases List.mem_cons.1 hc with rfl | hc
    · obtain ⟨vs, hv, ha⟩ := h.rel.ck (.ref b T cells) List.mem_cons_self
      refine ⟨vs, hv, .of_get (by rw [← hw.length]; exact ha.length) (fun i y u hy hu => ?_)⟩
      have hlt : i < cells.length := by rw [hw.length]; exact (List.getElem?_eq_some_iff.1 hy).1
      have hx : cells[i]? = some cells[i] := List.getElem?_eq_getElem hlt
      exact hw.get2 hx hy I w u (ha.get2 hx hu)
    · exact h.rel.ck c (by simp [hc])
  · exact List.pairwise_cons.2 ⟨fun c hc b' hb' => hap.1 c hc b' hb', hap.2⟩
  · intro c hc b' hb' o
    rcases List.mem_cons.1 hc with rfl | hc
    · exact h.rel.off (.ref b T cells) List.mem_cons_self b' hb' o
    · exact h.rel.off c (by simp [hc]) b' hb' o
  · intro c hc b' hb'
    rcases List.mem_cons.1 hc with rfl | hc
    · exact h.ckNew (.ref b T cells) List.mem_cons_self b' hb'
    · exact h.ckNew c (by simp [hc]) b' hb'
theorem xq_wk {Q : Exit → Act → World → Prop} {e : Exit} {b : Nat} {T : TypeId} {cells cells' : List AV} {σ' : List Ck} (hr : Rep σ (.ref b T cells) (.ref b T cells') σ') (hw : All2 Wk cells cells') (h : XQ C Q e env ds σ') : XQ C Q e env ds σ := by
  obtain ⟨r, p1, p2⟩ := hr.perm
  unfold XQ at *
  intro a w hA
  obtain ⟨I, hg, hf, hd⟩ := hA
  exact h a w ⟨I, (good_wk (hg.perm p1) hw).perm p2.symm, hf, hd⟩
theorem at_wk {C : Cx} {b : Nat} {T : TypeId} {cells cells' : List AV} {σ' : List Ck} {a : Act} {w : World} (hA : At C env ds σ a w) (hr : Rep σ (.ref b T cells) (.ref b T cells') σ') (hw : All2 Wk cells cells') : At C env ds σ' a w := by
  obtain ⟨r, p1, p2⟩ := hr.perm
  obtain ⟨I, hg, hf, hd⟩ := hA
  exact ⟨I, (good_wk (hg.perm p1) hw).perm p2.symm, hf, hd⟩
theorem x_wk {Q : Exit → Act → World → Prop} {c : Code} {b : Nat} {T : TypeId} {cells cells' : List AV} {σ' : List Ck} (hr : Rep σ (.ref b T cells) (.ref b T cells') σ') (hw : All2 Wk cells cells') (h : X P C c Q env ds σ') : X P C c Q env ds σ := by
  unfold X at *
  exact fun a w hA => h a w (at_wk hA hr hw)
theorem xl_wk {Q : Exit → Act → World → Prop} {ops : Array Oper} {rest : List Oper} {b : Nat} {T : TypeId} {cells cells' : List AV} {σ' : List Ck} (hr : Rep σ (.ref b T cells) (.ref b T cells') σ') (hw : All2 Wk cells cells') (h : XL P C ops Q rest env ds σ') : XL P C ops Q rest env ds σ := by
  unfold XL at *
  exact fun a w hA => h a w (at_wk hA hr hw)
theorem at_veq {C : Cx} {v : Value} {e : TypeId} {sz : Nat} {xs xs' : List AV} {σ' : List Ck} {a : Act} {w : World} (hA : At C env ds σ a w) (hr : Rep σ (.vec v e sz xs) (.vec v e sz xs') σ') (hx : xs = xs') : At C env ds σ' a w := by
  subst hx
  obtain ⟨r, p1, p2⟩ := hr.perm
  exact hA.perm (p1.trans p2.symm)
theorem x_veq {Q : Exit → Act → World → Prop} {c : Code} {v : Value} {e : TypeId} {sz : Nat} {xs xs' : List AV} {σ' : List Ck} (hr : Rep σ (.vec v e sz xs) (.vec v e sz xs') σ') (hx : xs = xs') (h : X P C c Q env ds σ') : X P C c Q env ds σ := by
  unfold X at *
  exact fun a w hA => h a w (at_veq hA hr hx)
theorem xl_veq {Q : Exit → Act → World → Prop} {ops : Array Oper} {rest : List Oper} {v : Value} {e : TypeId} {sz : Nat} {xs xs' : List AV} {σ' : List Ck} (hr : Rep σ (.vec v e sz xs) (.vec v e sz xs') σ') (hx : xs = xs') (h : XL P C ops Q rest env ds σ') : XL P C ops Q rest env ds σ := by
  unfold XL at *
  exact fun a w hA => h a w (at_veq hA hr hx)
theorem xq_veq {Q : Exit → Act → World → Prop} {ex : Exit} {v : Value} {e : TypeId} {sz : Nat} {xs xs' : List AV} {σ' : List Ck} (hr : Rep σ (.vec v e sz xs) (.vec v e sz xs') σ') (hx : xs = xs') (h : XQ C Q ex env ds σ') : XQ C Q ex env ds σ := by
  unfold XQ at *
  exact fun a w hA => h a w (at_veq hA hr hx)
/-- .. and less is told of the result. -/
theorem xq_doneW {e : Exit} (he : e = .normal ∨ e = .ret) (x : AV) {x0 : AV} {σ' : List Ck} (hr : ∀ I w (a : Act), Fits I w n env a → Good I0 w0 T0 I w σ → ∃ v, (results fn a.tmps).run P w = .ok v w ∧ VR I w x0 v) (hs : ∃ r, σ.Perm (r ++ σ')) (hw : Wk x0 x) (hp : Post (.ret x) σ') :
    XQ ⟨I0, w0, T0, n⟩ (bodyPost P fn (APost I0 w0 T0 Post)) e env [] σ :=
  xq_done' he x (fun I w a hf hg => by
    obtain ⟨v, h1, h2⟩ := hr I w a hf hg
    exact ⟨v, h1, hw _ _ _ h2⟩) hs hp
theorem drop_nil {σ : List Ck} : ∃ r, σ.Perm (r ++ σ) := ⟨[], .refl _⟩
theorem drop_one {c : Ck} {σ' : List Ck} (hh : Has σ c σr) (h : ∃ r, σr.Perm (r ++ σ')) : ∃ r, σ.Perm (r ++ σ') := by
  obtain ⟨r, h⟩ := h
  exact ⟨c :: r, hh.perm.trans (h.cons _)⟩
end
end Go.Ax
