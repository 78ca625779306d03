/- A statement whose order is open, two of whose effects may come in either order. No condition: plain theorems. -/
import Derived.Test.YtmallgapchjhnaaAx14
set_option linter.unusedVariables false
set_option linter.unusedSimpArgs false
namespace Go.Ax
open Go Go.RowKit

section
variable {P : Program} {C : Cx} {Q : Exit → Act → World → Prop} {ops : Array Oper} {env : Env} {ds : List Deferred} {σ : List Ck}
/-- As EV, of an operation that may bear a guard. -/
def EVG (P : Program) (C : Cx) (ops : Array Oper) (Q : Exit → Act → World → Prop) (o : Oper) (env : Env) (ds : List Deferred) (σ : List Ck) (R : AV → List Ck → Prop) : Prop :=
  ∀ I w (a : Act) (K : Act → World → Prop), Good C.I0 C.w0 C.T0 I w σ → Fits I w C.n env a → a.defers = ds → (∀ v w' I' x σ', R x σ' → Good C.I0 C.w0 C.T0 I' w' σ' → Per I w I' w' → VR I' w' x v → K (a.put o.dst v) w') → Region.wanted o (yielded ops a.tmps) = true ∧ o.wp P a w K Q
theorem EV.toG {o : Oper} {R : AV → List Ck → Prop} (h : EV P C ops Q o env ds σ R) : EVG P C ops Q o env ds σ R := fun I w a K h1 h2 h3 h4 => by
  obtain ⟨hg, hw⟩ := h I w a K h1 h2 h3 h4
  exact ⟨by simp [Region.wanted, hg], hw⟩
theorem evg_take {dst : Option Tmp} {op : Op} {ty : TypeId} {pos : String} {after : Array Edge} {R : AV → List Ck → Prop} {j dj : Nat} {t b : Bool} (hj : dstI ops j = some dj) (ht : lk env dj = some (.val (.bool t))) (hb : (t == b) = true) (h : EV P C ops Q ⟨dst, op, ty, pos, after, none⟩ env ds σ R) : EVG P C ops Q ⟨dst, op, ty, pos, after, some (j, b)⟩ env ds σ R := fun I w a K h1 h2 h3 h4 => by
  obtain ⟨_, hw⟩ := h I w a K h1 h2 h3 h4
  refine ⟨?_, hw⟩
  obtain ⟨u, hu, hr⟩ := h2.get dj _ ht
  rw [hr.val_inv] at hu
  have hj' : (ops[j]?).bind (·.dst) = some dj := hj
  simp only [Region.wanted, yielded, hj', Option.bind_some, hu]
  cases t <;> cases b <;> simp_all
/-- Any of E may be the next that turns memory. -/
theorem xd_anyG (hs : stat ops = true) {vl : List (Nat × AV)} {pd : List Nat} (E : List Nat) (hE : ∃ i, i ∈ E)
    (hoth : (List.range ops.size).all (fun k => (lk vl k).isSome || E.contains k || (needsI ops k).any (fun j => (lk vl j).isNone)) = true)
    (h : ∀ i ∈ E, ∃ o R, ops[i]? = some o ∧ lk vl i = none ∧ (needsI ops i).all (fun j => (lk vl j).isSome) = true ∧ (∀ d, o.dst = some d → d < C.n) ∧ EVG P C ops Q o (opEnv ops i vl env) ds σ R ∧
      ∀ x σ', R x σ' → (∀ m, m ∈ pd.filter (fun m => !(needsI ops i).contains m) → ∀ o' y, ops[m]? = some o' → lk vl m = some y → GV P C ops o' (opEnv ops m vl env) σ' y) ∧ XD P C ops Q ((i, x) :: vl) (pd.filter (fun m => !(needsI ops i).contains m)) env ds σ') :
    XD P C ops Q vl pd env ds σ := by
  unfold XD at *
  intro hpd fuel
  obtain ⟨i0, hi0⟩ := hE
  obtain ⟨o0, R0, ho0, hi0', hn0, hd0, hv0, k0⟩ := h i0 hi0
  have hlt0 := (Array.getElem?_eq_some_iff.1 ho0).1
  have hoth' := List.all_eq_true.1 hoth
  induction fuel with
  | zero =>
    intro L a w hL hfuel hcl hdone hknown hat
    exfalso
    have hnot : doneB L i0 = false := by
      cases h : doneB L i0 with
      | false => rfl
      | true =>
        have := hknown i0 h
        rw [hi0'] at this
        cases this
    have : i0 ∈ (List.range ops.size).filter fun i => !doneB L i := by simp [hlt0, hnot]
    unfold left at hfuel
    have := List.length_pos_of_mem this
    omega
  | succ fuel ih =>
    intro L a w hL hfuel hcl hdone hknown hat
    have hnot0 : doneB L i0 = false := by
      cases h : doneB L i0 with
      | false => rfl
      | true =>
        have := hknown i0 h
        rw [hi0'] at this
        cases this
    refine ⟨fun hr => ?_, fun m hm => ?_⟩
    · have := ready_nil hs hL hr i0 hlt0
      rw [hnot0] at this
      cases this
    · obtain ⟨h1, h2, h3, _⟩ := ready_mem hm hL
      by_cases e : m ∈ E
      · obtain ⟨o, R, ho, hi, hn, hd, hv, k⟩ := h m e
        have hnot : doneB L m = false := by
          cases h : doneB L m with
          | false => rfl
          | true =>
            have := hknown m h
            rw [hi] at this
            cases this
        have hn' := List.all_eq_true.1 hn
        obtain ⟨I, hg, a1, a2, a3, a4⟩ := hat
        have hf := fits_op hs h1 h2 h3 hcl a1 a2 a3
        have main := hv I w a (wpAny P .any ops Q fuel (L.setIfInBounds m true)) hg hf a4 (fun v w' I' x σ' hR hg' hp hx => by
          obtain ⟨hpend, hk⟩ := k x σ' hR
          refine hk (fun q hq => ?_) fuel _ _ w' (by simpa using hL) (by have := left_set hL h1 h2; omega) (fun q hq hqd j hj => ?_) (fun q hq1 hq2 hq3 => ?_) (fun q hq => ?_) ?_
          · obtain ⟨hq1, hq2⟩ := List.mem_filter.1 hq
            obtain ⟨b1, b2, o', y, b3, b4, b5⟩ := hpd q hq1
            have hne : q ≠ m := fun e => by rw [e, hi] at b4; cases b4
            refine ⟨b1, fun j hj => ?_, o', y, b3, by rw [lk_cons_ne hne]; exact b4, by rw [opEnv_cons b2 hi]; exact hpend q hq o' y b3 b4⟩
            by_cases e : j = m
            · rw [e, lk_cons_eq]; rfl
            · rw [lk_cons_ne e]; exact b2 j hj
          · rw [doneB_set (by omega)] at hqd ⊢
            split
            · rfl
            · by_cases e : q = m
              · subst e
                exact h3 j hj
              · rw [if_neg e] at hqd
                exact hcl q hq hqd j hj
          · rw [doneB_set (by omega)]
            split
            · rfl
            · rename_i hne
              rw [lk_cons_ne hne] at hq2
              cases Decidable.em (q ∈ pd) with
              | inl hqp =>
                have : q ∈ needsI ops m := by
                  cases Decidable.em (q ∈ needsI ops m) with
                  | inl h => exact h
                  | inr h => exact absurd (List.mem_filter.2 ⟨hqp, by simpa using h⟩) hq3
                exact h3 q this
              | inr hqp => exact hdone q hq1 hq2 hqp
          · rw [doneB_set (by omega)] at hq
            by_cases e : q = m
            · rw [e, lk_cons_eq]; rfl
            · rw [if_neg e] at hq
              rw [lk_cons_ne e]
              exact hknown q hq
          · cases hod : o.dst with
            | some d =>
              have a3' : ∀ j y t, j < ops.size → doneB L j = true → dstI ops j = some t → lk ((m, x) :: vl) j = some y → ∃ v, a.tmps[t]? = some v ∧ VR I w y v := fun j y t hj hjD hjd hjx => by
                have hne : j ≠ m := fun e => by rw [e, hnot] at hjD; cases hjD
                rw [lk_cons_ne hne] at hjx
                exact a3 j y t hj hjD hjd hjx
              exact ats_put hs hL h1 (hd d hod) (by simp [dstI, ho, hod]) lk_cons_eq hg' hp hx a1 a2 a3' a4
            | none =>
              have hdn : dstI ops m = none := by simp [dstI, ho, hod]
              refine ⟨I', hg', a1, fun t y ht hall => ?_, fun j y t hj hjD hjd hjx => ?_, a4⟩
              · obtain ⟨u, hu, hr⟩ := a2 t y ht (fun j hj hjD => hall j hj (by rw [doneB_set (by omega)]; split <;> simp [hjD]))
                exact ⟨u, hu, hr.per hp⟩
              · have hne : j ≠ m := fun e => by rw [e, hdn] at hjd; cases hjd
                rw [doneB_set (by omega), if_neg hne] at hjD
                rw [lk_cons_ne hne] at hjx
                obtain ⟨u, hu, hr⟩ := a3 j y t hj hjD hjd hjx
                exact ⟨u, hu, hr.per hp⟩)
        unfold wpOp
        rw [ho]
        simp only
        rw [if_pos main.1]
        exact .inl main.2
      · have hk : (lk vl m).isSome = true := by
          have := hoth' m (List.mem_range.2 h1)
          simp only [Bool.or_eq_true] at this
          rcases this with (this | this) | this
          · exact this
          · exact absurd (by simpa using this) e
          · obtain ⟨j, hj, hjn⟩ := List.any_eq_true.1 this
            have := hknown j (h3 j hj)
            simp [Option.isNone_iff_eq_none.1 hjn] at this
        have hp : m ∈ pd := by
          cases Decidable.em (m ∈ pd) with
          | inl h => exact h
          | inr h =>
            have := hdone m h1 hk h
            rw [h2] at this
            cases this
        refine xd_pend hs hpd hL hcl hat hp h2 h3 (fun a' w' hat' => ?_)
        refine ih _ a' w' (by simpa using hL) (by have := left_set hL h1 h2; omega) (fun q hq hqd j hj => ?_) (fun q hq1 hq2 hq3 => ?_) (fun q hq => ?_) hat'
        · rw [doneB_set (by omega)] at hqd ⊢
          split
          · rfl
          · by_cases e : q = m
            · subst e
              exact h3 j hj
            · rw [if_neg e] at hqd
              exact hcl q hq hqd j hj
        · rw [doneB_set (by omega)]
          split
          · rfl
          · exact hdone q hq1 hq2 hq3
        · rw [doneB_set (by omega)] at hq
          by_cases e : q = m
          · subst e
            exact hk
          · rw [if_neg e] at hq
            exact hknown q hq

theorem xd_any (hs : stat ops = true) {vl : List (Nat × AV)} {pd : List Nat} (E : List Nat) (hE : ∃ i, i ∈ E)
    (hoth : (List.range ops.size).all (fun k => (lk vl k).isSome || E.contains k || (needsI ops k).any (fun j => (lk vl j).isNone)) = true)
    (h : ∀ i ∈ E, ∃ o R, ops[i]? = some o ∧ lk vl i = none ∧ (needsI ops i).all (fun j => (lk vl j).isSome) = true ∧ (∀ d, o.dst = some d → d < C.n) ∧ EV P C ops Q o (opEnv ops i vl env) ds σ R ∧
      ∀ x σ', R x σ' → (∀ m, m ∈ pd.filter (fun m => !(needsI ops i).contains m) → ∀ o' y, ops[m]? = some o' → lk vl m = some y → GV P C ops o' (opEnv ops m vl env) σ' y) ∧ XD P C ops Q ((i, x) :: vl) (pd.filter (fun m => !(needsI ops i).contains m)) env ds σ') :
    XD P C ops Q vl pd env ds σ :=
  xd_anyG hs E hE hoth (fun i hi => by
    obtain ⟨o, R, h1, h2, h3, h4, h5, h6⟩ := h i hi
    exact ⟨o, R, h1, h2, h3, h4, h5.toG, h6⟩)
/-- The next that turns memory, with a guard that is met. -/
theorem xd_eg (hs : stat ops = true) {vl : List (Nat × AV)} {pd : List Nat} (i : Nat) {o : Oper} {R : AV → List Ck → Prop} (ho : ops[i]? = some o) (hi : lk vl i = none) (hn : (needsI ops i).all (fun j => (lk vl j).isSome) = true)
    (hd : ∀ d, o.dst = some d → d < C.n) (hoth : (List.range ops.size).all (fun k => (lk vl k).isSome || [i].contains k || (needsI ops k).any (fun j => (lk vl j).isNone)) = true) (hv : EVG P C ops Q o (opEnv ops i vl env) ds σ R)
    (k : ∀ x σ', R x σ' → (∀ m, m ∈ pd.filter (fun m => !(needsI ops i).contains m) → ∀ o' y, ops[m]? = some o' → lk vl m = some y → GV P C ops o' (opEnv ops m vl env) σ' y) ∧ XD P C ops Q ((i, x) :: vl) (pd.filter (fun m => !(needsI ops i).contains m)) env ds σ') :
    XD P C ops Q vl pd env ds σ :=
  xd_anyG hs [i] ⟨i, by simp⟩ hoth (fun m hm => by
    obtain rfl : m = i := by simpa using hm
    exact ⟨o, R, ho, hi, hn, hd, hv, k⟩)
end
end Go.Ax
