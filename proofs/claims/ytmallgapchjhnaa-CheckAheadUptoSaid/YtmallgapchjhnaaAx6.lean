/- A statement whose order is open: what its operations come to whatever the order. No condition: plain definitions and theorems. -/
import Derived.Test.YtmallgapchjhnaaAx5
import Derived.Orders
set_option linter.unusedVariables false
set_option linter.unusedSimpArgs false
namespace Go.Ax
open Go Go.RowKit

def needsI (ops : Array Oper) (i : Nat) : List Nat := match ops[i]? with
  | some o => (o.after.toList.filter (Region.binds .any)).map (·.on)
  | none => []
def dstI (ops : Array Oper) (i : Nat) : Option Nat := (ops[i]?).bind (·.dst)
def looksI (ops : Array Oper) (i : Nat) : List Nat := match ops[i]? with
  | some o => (o.op.operands.toList.filterMap fun | .tmp t => some t | _ => none) ++ (match o.guard with
    | some (g, _) => (dstI ops g).toList
    | none => [])
  | none => []
/-- What is asked of the edges, by reckoning. -/
def stat (ops : Array Oper) : Bool :=
  (List.range ops.size).all fun i =>
    (needsI ops i).all (fun j => Nat.blt j i) &&
    (looksI ops i).all (fun t => (List.range ops.size).all fun j => !(dstI ops j == some t) || (needsI ops i).contains j || (needsI ops j).contains i) &&
    (List.range ops.size).all (fun j => Nat.beq i j || (dstI ops i).isNone || !(dstI ops j == dstI ops i))

def vlk (vl : List (Nat × AV)) (i : Nat) : Option AV := lk vl i
/-- The slots that an operation looks at. -/
def opEnv (ops : Array Oper) (i : Nat) (vl : List (Nat × AV)) (env : Env) : Env :=
  (looksI ops i).filterMap fun t => match (needsI ops i).find? (fun j => dstI ops j == some t) with
    | some j => (lk vl j).map fun x => (t, x)
    | none => (lk env t).map fun x => (t, x)

theorem lk_filterMap {f : Nat → Option AV} : ∀ (l : List Nat) (i : Nat) (x : AV), lk (l.filterMap fun t => (f t).map fun x => (t, x)) i = some x → f i = some x
  | [], i, x, h => by simp [lk] at h
  | t :: l, i, x, h => by
    cases ht : f t with
    | none =>
      rw [List.filterMap_cons_none (by simp [ht])] at h
      exact lk_filterMap l i x h
    | some y =>
      rw [List.filterMap_cons_some (b := (t, y)) (by simp [ht])] at h
      by_cases e : i = t
      · subst e
        have : y = x := by simpa [lk] using h
        rw [ht, this]
      · exact lk_filterMap l i x (by simpa [lk, nbeq e] using h)
theorem lk_mem_filterMap {f : Nat → Option AV} : ∀ (l : List Nat) (i : Nat) (x : AV), lk (l.filterMap fun t => (f t).map fun x => (t, x)) i = some x → i ∈ l
  | [], i, x, h => by simp [lk] at h
  | t :: l, i, x, h => by
    by_cases e : i = t
    · subst e
      exact List.mem_cons_self
    · refine List.mem_cons_of_mem _ (lk_mem_filterMap (f := f) l i x ?_)
      cases ht : f t with
      | none => rwa [List.filterMap_cons_none (by simp [ht])] at h
      | some y =>
        rw [List.filterMap_cons_some (b := (t, y)) (by simp [ht])] at h
        simpa [lk, nbeq e] using h

def opF (ops : Array Oper) (i : Nat) (vl : List (Nat × AV)) (env : Env) (t : Nat) : Option AV := match (needsI ops i).find? (fun j => dstI ops j == some t) with
  | some j => lk vl j
  | none => lk env t
theorem opEnv_eq (ops : Array Oper) (i : Nat) (vl : List (Nat × AV)) (env : Env) : opEnv ops i vl env = (looksI ops i).filterMap fun t => (opF ops i vl env t).map fun x => (t, x) := by
  unfold opEnv opF
  congr 1
  funext t
  split <;> simp_all

section
variable {P : Program} {C : Cx} {Q : Exit → Act → World → Prop} {ops : Array Oper} {env : Env} {ds : List Deferred} {σ : List Ck}

/-- What is known of the slots, the operations D being done. -/
def AtS (C : Cx) (ops : Array Oper) (vl : List (Nat × AV)) (env : Env) (ds : List Deferred) (σ : List Ck) (D : Nat → Bool) (a : Act) (w : World) : Prop :=
  ∃ I, Good C.I0 C.w0 C.T0 I w σ ∧ a.tmps.size = C.n ∧ (∀ t y, lk env t = some y → (∀ j, j < ops.size → D j = true → dstI ops j ≠ some t) → ∃ v, a.tmps[t]? = some v ∧ VR I w y v) ∧
    (∀ j x t, j < ops.size → D j = true → dstI ops j = some t → lk vl j = some x → ∃ v, a.tmps[t]? = some v ∧ VR I w x v) ∧ a.defers = ds

theorem stat_needs (hs : stat ops = true) {i j : Nat} (hi : i < ops.size) (hj : j ∈ needsI ops i) : j < i := by
  have h := List.all_eq_true.1 hs i (List.mem_range.2 hi)
  simp only [Bool.and_eq_true, List.all_eq_true] at h
  have h2 := h.1.1 j hj
  simp [Nat.blt] at h2
  omega
theorem stat_looks (hs : stat ops = true) {i j t : Nat} (hi : i < ops.size) (ht : t ∈ looksI ops i) (hj : j < ops.size) (hd : dstI ops j = some t) : j ∈ needsI ops i ∨ i ∈ needsI ops j := by
  have h := List.all_eq_true.1 hs i (List.mem_range.2 hi)
  simp only [Bool.and_eq_true, List.all_eq_true] at h
  have := h.1.2 t ht j (List.mem_range.2 hj)
  simp only [hd, Bool.or_eq_true, beq_self_eq_true, Bool.not_true, Bool.false_eq_true, false_or, List.contains_iff_mem] at this
  exact this
theorem stat_dst (hs : stat ops = true) {i j t : Nat} (hi : i < ops.size) (hj : j < ops.size) (h1 : dstI ops i = some t) (h2 : dstI ops j = some t) : i = j := by
  have h := List.all_eq_true.1 hs i (List.mem_range.2 hi)
  simp only [Bool.and_eq_true, List.all_eq_true] at h
  have := h.2 j (List.mem_range.2 hj)
  simp only [h1, h2, Option.isNone_some, Bool.or_false, beq_self_eq_true, Bool.not_true] at this
  exact Nat.eq_of_beq_eq_true this

/-- A ready operation finds its operands. -/
theorem fits_op (hs : stat ops = true) {vl : List (Nat × AV)} {D : Nat → Bool} {a : Act} {w : World} {i : Nat} {I : Nat → Nat → Prop} (hi : i < ops.size) (hD : D i = false) (hn : ∀ j ∈ needsI ops i, D j = true) (hcl : ∀ j, j < ops.size → D j = true → ∀ k ∈ needsI ops j, D k = true)
    (h1 : a.tmps.size = C.n) (h2 : ∀ t y, lk env t = some y → (∀ j, j < ops.size → D j = true → dstI ops j ≠ some t) → ∃ v, a.tmps[t]? = some v ∧ VR I w y v)
    (h3 : ∀ j x t, j < ops.size → D j = true → dstI ops j = some t → lk vl j = some x → ∃ v, a.tmps[t]? = some v ∧ VR I w x v) : Fits I w C.n (opEnv ops i vl env) a := by
  refine ⟨h1, fun t y ht => ?_⟩
  rw [opEnv_eq] at ht
  have hmem := lk_mem_filterMap _ _ _ ht
  have hf := lk_filterMap _ _ _ ht
  unfold opF at hf
  split at hf
  · rename_i j hj
    have hjm := List.mem_of_find?_eq_some hj
    have hjd : dstI ops j = some t := by simpa using List.find?_some hj
    exact h3 j y t (Nat.lt_trans (stat_needs hs hi hjm) hi) (hn j hjm) hjd hf
  · rename_i hnone
    refine h2 t y hf (fun j hj hjD hjd => ?_)
    rcases stat_looks hs hi hmem hj hjd with h | h
    · have := List.find?_eq_none.1 hnone j h
      simp [hjd] at this
    · have := hcl j hj hjD i h
      rw [hD] at this
      cases this

/-- An operation whose value does not hang on when it is carried out; it may make memory. -/
def OV (P : Program) (C : Cx) (op : Op) (ty : TypeId) (env : Env) (σ : List Ck) (x : AV) : Prop :=
  ∀ dst pos after guard I w (a : Act), Good C.I0 C.w0 C.T0 I w σ → Fits I w C.n env a → ∃ v w' I', (execOp a.eval ⟨dst, op, ty, pos, after, guard⟩).run P w = .ok (.value v) w' ∧ Good C.I0 C.w0 C.T0 I' w' σ ∧ Per I w I' w' ∧ VR I' w' x v
/-- .. or it is not carried out at all. -/
def GV (P : Program) (C : Cx) (ops : Array Oper) (o : Oper) (env : Env) (σ : List Ck) (x : AV) : Prop :=
  (∃ d, o.dst = some d ∧ d < C.n) ∧ match o.guard with
  | none => OV P C o.op o.type env σ x
  | some (g, b) => ∃ dg t, dstI ops g = some dg ∧ lk env dg = some (.val (.bool t)) ∧ (((t == b) = true ∧ OV P C o.op o.type env σ x) ∨ ((t == b) = false ∧ x = .val undef))

theorem gv_step {o : Oper} {i : Nat} {x : AV} {a : Act} {w : World} {I : Nat → Nat → Prop} {K : Act → World → Prop} (ho : ops[i]? = some o) (h : GV P C ops o env σ x) (hg : Good C.I0 C.w0 C.T0 I w σ) (hf : Fits I w C.n env a)
    (hK : ∀ v w' I' d, o.dst = some d → Good C.I0 C.w0 C.T0 I' w' σ → Per I w I' w' → VR I' w' x v → K (a.put (some d) v) w') : wpOp P ops Q i K a w := by
  obtain ⟨⟨d, hd, hdn⟩, h⟩ := h
  unfold wpOp
  rw [ho]
  simp only
  have run : OV P C o.op o.type env σ x → o.wp P a w K Q := fun ho => by
    obtain ⟨v, w', I', hr, hg', hp, hv⟩ := ho o.dst o.pos o.after o.guard I w a hg hf
    unfold Oper.wp
    rw [show (⟨o.dst, o.op, o.type, o.pos, o.after, o.guard⟩ : Oper) = o by rfl] at hr
    rw [hr]
    show K (a.put o.dst v) w'
    rw [hd]
    exact hK v w' I' d hd hg' hp hv
  cases hgd : o.guard with
  | none =>
    rw [hgd] at h
    rw [if_pos (by simp [Region.wanted, hgd])]
    exact .inl (run h)
  | some gb =>
    obtain ⟨g, b⟩ := gb
    rw [hgd] at h
    obtain ⟨dg, t, hdg, ht, h⟩ := h
    obtain ⟨u, hu, hr⟩ := hf.get dg _ ht
    rw [hr.val_inv] at hu
    have hw : Region.wanted o (yielded ops a.tmps) = (t == b) := by
      have : (ops[g]?).bind (·.dst) = some dg := hdg
      simp only [Region.wanted, hgd, yielded, this, Option.bind_some, hu]
      cases t <;> cases b <;> rfl
    rcases h with ⟨he, h⟩ | ⟨he, rfl⟩
    · rw [if_pos (by rw [hw, he])]
      exact .inl (run h)
    · rw [if_neg (by rw [hw, he]; simp), hd]
      exact hK undef w I d hd hg (Per.refl _ _) (.val undef)

/-- An operation that may turn the call's own memory, or call. -/
def EV (P : Program) (C : Cx) (ops : Array Oper) (Q : Exit → Act → World → Prop) (o : Oper) (env : Env) (ds : List Deferred) (σ : List Ck) (R : AV → List Ck → Prop) : Prop :=
  ∀ I w (a : Act) (K : Act → World → Prop), Good C.I0 C.w0 C.T0 I w σ → Fits I w C.n env a → a.defers = ds → (∀ v w' I' x σ', R x σ' → Good C.I0 C.w0 C.T0 I' w' σ' → Per I w I' w' → VR I' w' x v → K (a.put o.dst v) w') → o.guard = none ∧ o.wp P a w K Q

def doneB (L : Array Bool) (i : Nat) : Bool := L.getD i false
def left (ops : Array Oper) (L : Array Bool) : Nat := ((List.range ops.size).filter fun i => !doneB L i).length

/-- vl: the operations whose values are known, pd: those of them that may not have been carried out yet. -/
def XD (P : Program) (C : Cx) (ops : Array Oper) (Q : Exit → Act → World → Prop) (vl : List (Nat × AV)) (pd : List Nat) (env : Env) (ds : List Deferred) (σ : List Ck) : Prop :=
  (∀ i ∈ pd, i < ops.size ∧ (∀ j ∈ needsI ops i, (lk vl j).isSome = true) ∧ ∃ o x, ops[i]? = some o ∧ lk vl i = some x ∧ GV P C ops o (opEnv ops i vl env) σ x) →
  ∀ (fuel : Nat) (L : Array Bool) (a : Act) (w : World), L.size = ops.size → left ops L ≤ fuel →
    (∀ i, i < ops.size → doneB L i = true → ∀ j ∈ needsI ops i, doneB L j = true) → (∀ i, i < ops.size → (lk vl i).isSome = true → i ∉ pd → doneB L i = true) → (∀ i, doneB L i = true → (lk vl i).isSome = true) →
    AtS C ops vl env ds σ (doneB L) a w → wpAny P .any ops Q fuel L a w

theorem doneB_set {L : Array Bool} {i : Nat} (hi : i < L.size) (j : Nat) : doneB (L.setIfInBounds i true) j = if j = i then true else doneB L j := by
  unfold doneB
  rw [Array.getD_eq_getD_getElem?, Array.getD_eq_getD_getElem?, Array.getElem?_setIfInBounds]
  by_cases e : i = j
  · subst e
    simp [hi]
  · simp [e, Ne.symm e]
theorem left_set {L : Array Bool} {i : Nat} (hL : L.size = ops.size) (hi : i < ops.size) (hd : doneB L i = false) : left ops (L.setIfInBounds i true) < left ops L := by
  unfold left
  have hsub : ((List.range ops.size).filter fun k => !doneB (L.setIfInBounds i true) k) = (((List.range ops.size).filter fun k => !doneB L k).filter fun k => !(k == i)) := by
    rw [List.filter_filter]
    refine List.filter_congr (fun k _ => ?_)
    rw [doneB_set (by omega)]
    by_cases e : k = i <;> simp [e]
  rw [hsub]
  have hm : i ∈ (List.range ops.size).filter fun k => !doneB L k := by simp [hi, hd]
  exact Nat.lt_of_le_of_ne (List.length_filter_le _ _) (fun e => by
    have := List.length_filter_eq_length_iff.1 e i hm
    simp at this)
theorem ready_mem {L : Array Bool} {i : Nat} (h : i ∈ Region.ready .any ops L) (hL : L.size = ops.size) : i < ops.size ∧ doneB L i = false ∧ (∀ j ∈ needsI ops i, doneB L j = true) ∧ ∃ o, ops[i]? = some o := by
  unfold Region.ready at h
  obtain ⟨h1, h2⟩ := List.mem_filter.1 h
  have hi := List.mem_range.1 h1
  simp only [Bool.and_eq_true, Bool.not_eq_true'] at h2
  have hiL : i < L.size := by omega
  refine ⟨hi, ?_, ?_, ⟨ops[i], Array.getElem?_eq_getElem hi⟩⟩
  · have := h2.1
    simp [doneB, Array.getD_eq_getD_getElem?, hiL] at this ⊢
    exact this
  · intro j hj
    have h3 := h2.2
    rw [Array.getElem?_eq_getElem hi] at h3
    simp only [Option.map_some, Option.getD_some, Array.all_eq_true_iff_forall_mem] at h3
    unfold needsI at hj
    rw [Array.getElem?_eq_getElem hi] at hj
    obtain ⟨e, he, rfl⟩ := List.mem_map.1 hj
    obtain ⟨he1, he2⟩ := List.mem_filter.1 he
    have := h3 e (by simpa using he1)
    simp [he2] at this
    simpa [doneB] using this
theorem ready_nil (hs : stat ops = true) {L : Array Bool} (hL : L.size = ops.size) (h : Region.ready .any ops L = []) : ∀ i, i < ops.size → doneB L i = true := by
  intro i
  induction i using Nat.strongRecOn with
  | _ i ih =>
    intro hi
    cases hd : doneB L i with
    | true => rfl
    | false =>
      have hmem : i ∈ Region.ready .any ops L := by
        unfold Region.ready
        refine List.mem_filter.2 ⟨List.mem_range.2 hi, ?_⟩
        have hiL : i < L.size := by omega
        rw [Bool.and_eq_true]
        refine ⟨?_, ?_⟩
        · simp [doneB, Array.getD_eq_getD_getElem?, hiL] at hd ⊢
          exact hd
        · rw [Array.getElem?_eq_getElem hi]
          simp only [Option.map_some, Option.getD_some, Array.all_eq_true_iff_forall_mem]
          intro e he
          cases hb : Region.binds .any e with
          | false => rfl
          | true =>
            have hn : e.on ∈ needsI ops i := by
              unfold needsI
              rw [Array.getElem?_eq_getElem hi]
              exact List.mem_map.2 ⟨e, List.mem_filter.2 ⟨by simpa using he, hb⟩, rfl⟩
            have hlt := stat_needs hs hi hn
            simpa [doneB] using ih e.on hlt (by omega)
      rw [h] at hmem
      cases hmem

/-- A ready operation of those that are known is carried out. -/
theorem ats_put (hs : stat ops = true) {vl : List (Nat × AV)} {L : Array Bool} {a : Act} {w w' : World} {i d : Nat} {x : AV} {v : Value} {I I' : Nat → Nat → Prop} {σ' : List Ck} (hL : L.size = ops.size) (hi : i < ops.size) (hdn : d < C.n) (hd : dstI ops i = some d) (hx : lk vl i = some x)
    (hg : Good C.I0 C.w0 C.T0 I' w' σ') (hp : Per I w I' w') (hv : VR I' w' x v) (h1 : a.tmps.size = C.n) (h2 : ∀ t y, lk env t = some y → (∀ j, j < ops.size → doneB L j = true → dstI ops j ≠ some t) → ∃ v, a.tmps[t]? = some v ∧ VR I w y v)
    (h3 : ∀ j x t, j < ops.size → doneB L j = true → dstI ops j = some t → lk vl j = some x → ∃ v, a.tmps[t]? = some v ∧ VR I w x v) (h4 : a.defers = ds) :
    AtS C ops vl env ds σ' (doneB (L.setIfInBounds i true)) (a.put (some d) v) w' := by
  refine ⟨I', hg, by simp [Act.put, h1], fun t y ht hall => ?_, fun j y t hj hjD hjd hjx => ?_, h4⟩
  · have hne : t ≠ d := fun e => hall i hi (by rw [doneB_set (by omega)]; simp) (by rw [hd, e])
    obtain ⟨u, hu, hr⟩ := h2 t y ht (fun j hj hjD => hall j hj (by rw [doneB_set (by omega)]; split <;> simp [hjD]))
    refine ⟨u, ?_, hr.per hp⟩
    show (a.tmps.setIfInBounds d v)[t]? = some u
    rw [Array.getElem?_setIfInBounds_ne (fun e => hne e.symm)]
    exact hu
  · by_cases e : j = i
    · subst e
      rw [hd] at hjd
      injection hjd with hjd
      subst hjd
      rw [hx] at hjx
      injection hjx with hjx
      subst hjx
      exact ⟨v, by simp [Act.put, h1, hdn], hv⟩
    · rw [doneB_set (by omega), if_neg e] at hjD
      obtain ⟨u, hu, hr⟩ := h3 j y t hj hjD hjd hjx
      have hne : t ≠ d := fun e' => e (stat_dst hs hj hi hjd (by rw [hd, e']))
      refine ⟨u, ?_, hr.per hp⟩
      show (a.tmps.setIfInBounds d v)[t]? = some u
      rw [Array.getElem?_setIfInBounds_ne (fun e => hne e.symm)]
      exact hu

theorem lk_cons_ne {vl : List (Nat × AV)} {i j : Nat} {x : AV} (h : j ≠ i) : lk ((i, x) :: vl) j = lk vl j := by simp [lk, nbeq h]
theorem lk_cons_eq {vl : List (Nat × AV)} {i : Nat} {x : AV} : lk ((i, x) :: vl) i = some x := by simp [lk]
theorem opF_cons {vl : List (Nat × AV)} {i k : Nat} {x : AV} (hn : ∀ j ∈ needsI ops k, (lk vl j).isSome = true) (hi : lk vl i = none) (t : Nat) : opF ops k ((i, x) :: vl) env t = opF ops k vl env t := by
  unfold opF
  split
  · rename_i j hj
    have hjm := List.mem_of_find?_eq_some hj
    have hne : j ≠ i := fun e => by
      have := hn j hjm
      rw [e, hi] at this
      cases this
    exact lk_cons_ne hne
  · rfl
theorem opEnv_cons {vl : List (Nat × AV)} {i k : Nat} {x : AV} (hn : ∀ j ∈ needsI ops k, (lk vl j).isSome = true) (hi : lk vl i = none) : opEnv ops k ((i, x) :: vl) env = opEnv ops k vl env := by
  rw [opEnv_eq, opEnv_eq]
  congr 1
  funext t
  rw [opF_cons hn hi]

/-- The value of an operation is known. -/
theorem xd_v {vl : List (Nat × AV)} {pd : List Nat} (i : Nat) {o : Oper} {x : AV} (ho : ops[i]? = some o) (hi : lk vl i = none) (hn : (needsI ops i).all (fun j => (lk vl j).isSome) = true) (hv : GV P C ops o (opEnv ops i vl env) σ x)
    (k : XD P C ops Q ((i, x) :: vl) (i :: pd) env ds σ) : XD P C ops Q vl pd env ds σ := by
  intro hpd fuel L a w hL hfuel hcl hdone hknown hat
  have hlt := (Array.getElem?_eq_some_iff.1 ho).1
  have hn' := List.all_eq_true.1 hn
  have hnot : doneB L i = false := by
    cases h : doneB L i with
    | false => rfl
    | true =>
      have := hknown i h
      rw [hi] at this
      cases this
  refine k (fun m hm => ?_) fuel L a w hL hfuel hcl (fun m hm1 hm2 hm3 => ?_) (fun m hm => ?_) ?_
  · rcases List.mem_cons.1 hm with rfl | hm
    · refine ⟨hlt, fun j hj => ?_, o, x, ho, lk_cons_eq, ?_⟩
      · by_cases e : j = m
        · rw [e, lk_cons_eq]; rfl
        · rw [lk_cons_ne e]; exact hn' j hj
      · rw [opEnv_cons hn' hi]; exact hv
    · obtain ⟨h1, h2, o', y, h3, h4, h5⟩ := hpd m hm
      have hne : m ≠ i := fun e => by rw [e, hi] at h4; cases h4
      refine ⟨h1, fun j hj => ?_, o', y, h3, by rw [lk_cons_ne hne]; exact h4, by rw [opEnv_cons h2 hi]; exact h5⟩
      by_cases e : j = i
      · rw [e, lk_cons_eq]; rfl
      · rw [lk_cons_ne e]; exact h2 j hj
  · have hne : m ≠ i := fun e => hm3 (by rw [e]; exact List.mem_cons_self)
    rw [lk_cons_ne hne] at hm2
    exact hdone m hm1 hm2 (fun h => hm3 (List.mem_cons_of_mem _ h))
  · have hne : m ≠ i := fun e => by rw [e, hnot] at hm; cases hm
    rw [lk_cons_ne hne]
    exact hknown m hm
  · obtain ⟨I, h0, h1, h2, h3, h4⟩ := hat
    refine ⟨I, h0, h1, h2, fun j y t hj hjD hjd hjx => ?_, h4⟩
    have hne : j ≠ i := fun e => by rw [e, hnot] at hjD; cases hjD
    rw [lk_cons_ne hne] at hjx
    exact h3 j y t hj hjD hjd hjx

/-- One that is pending may come up at any time. -/
theorem xd_pend (hs : stat ops = true) {vl : List (Nat × AV)} {pd : List Nat} (hpd : ∀ i ∈ pd, i < ops.size ∧ (∀ j ∈ needsI ops i, (lk vl j).isSome = true) ∧ ∃ o x, ops[i]? = some o ∧ lk vl i = some x ∧ GV P C ops o (opEnv ops i vl env) σ x)
    {fuel : Nat} {L : Array Bool} {a : Act} {w : World} (hL : L.size = ops.size) (hcl : ∀ i, i < ops.size → doneB L i = true → ∀ j ∈ needsI ops i, doneB L j = true) (hat : AtS C ops vl env ds σ (doneB L) a w) {i : Nat} (hi : i ∈ pd) (hd : doneB L i = false) (hn : ∀ j ∈ needsI ops i, doneB L j = true)
    (ih : ∀ a w, AtS C ops vl env ds σ (doneB (L.setIfInBounds i true)) a w → wpAny P .any ops Q fuel (L.setIfInBounds i true) a w) : wpOp P ops Q i (wpAny P .any ops Q fuel (L.setIfInBounds i true)) a w := by
  obtain ⟨h1, h2, o, x, h3, h4, h5⟩ := hpd i hi
  obtain ⟨I, hg, a1, a2, a3, a4⟩ := hat
  have hf := fits_op hs h1 hd hn hcl a1 a2 a3
  obtain ⟨d, hod, hdn⟩ := h5.1
  refine gv_step h3 h5 hg hf (fun v w' I' d' hd' hg' hp hv => ih _ _ ?_)
  rw [hod] at hd'
  injection hd' with hd'
  subst hd'
  exact ats_put hs hL h1 hdn (by simp [dstI, h3, hod]) h4 hg' hp hv a1 a2 a3 a4

def finEnv (ops : Array Oper) : List (Nat × AV) → Env → Env
  | [], env => env
  | (i, x) :: r, env => match dstI ops i with
    | some d => (d, x) :: finEnv ops r env
    | none => finEnv ops r env
theorem finEnv_get : ∀ (vl : List (Nat × AV)) (t : Nat) (y : AV), lk (finEnv ops vl env) t = some y → (∃ i, dstI ops i = some t ∧ (i, y) ∈ vl) ∨ ((∀ i x, (i, x) ∈ vl → dstI ops i ≠ some t) ∧ lk env t = some y)
  | [], t, y, h => .inr ⟨by simp, h⟩
  | (i, x) :: r, t, y, h => by
    unfold finEnv at h
    cases hd : dstI ops i with
    | none =>
      rw [hd] at h
      rcases finEnv_get r t y h with ⟨j, h1, h2⟩ | ⟨h1, h2⟩
      · exact .inl ⟨j, h1, List.mem_cons_of_mem _ h2⟩
      · refine .inr ⟨fun j z hj => ?_, h2⟩
        rcases List.mem_cons.1 hj with e | hj
        · injection e with e1 e2
          rw [e1, hd]; simp
        · exact h1 j z hj
    | some d =>
      rw [hd] at h
      by_cases e : t = d
      · subst e
        have : x = y := by simpa [lk] using h
        subst this
        exact .inl ⟨i, hd, List.mem_cons_self⟩
      · rw [lk_cons_ne e] at h
        rcases finEnv_get r t y h with ⟨j, h1, h2⟩ | ⟨h1, h2⟩
        · exact .inl ⟨j, h1, List.mem_cons_of_mem _ h2⟩
        · refine .inr ⟨fun j z hj => ?_, h2⟩
          rcases List.mem_cons.1 hj with e' | hj
          · injection e' with e1 e2
            rw [e1, hd]
            simpa using fun h => e h.symm
          · exact h1 j z hj

def nodupB : List (Nat × AV) → Bool
  | [] => true
  | (i, _) :: r => (lk r i).isNone && nodupB r
theorem lk_of_mem : ∀ {vl : List (Nat × AV)}, nodupB vl = true → ∀ {i : Nat} {x : AV}, (i, x) ∈ vl → lk vl i = some x
  | [], _, i, x, h => by cases h
  | (j, y) :: r, hn, i, x, h => by
    simp only [nodupB, Bool.and_eq_true, Option.isNone_iff_eq_none] at hn
    rcases List.mem_cons.1 h with e | h
    · injection e with e1 e2
      subst e1 e2
      exact lk_cons_eq
    · have h1 := lk_of_mem hn.2 h
      have hne : i ≠ j := fun e => by rw [e, hn.1] at h1; cases h1
      rw [lk_cons_ne hne]
      exact h1

/-- All are known. -/
theorem xd_end (hs : stat ops = true) {vl : List (Nat × AV)} {pd : List Nat} (hall : (List.range ops.size).all (fun i => (lk vl i).isSome) = true) (hnd : nodupB vl = true) (hin : vl.all (fun p => Nat.blt p.1 ops.size) = true) (k : XQ C Q .normal (finEnv ops vl env) ds σ) : XD P C ops Q vl pd env ds σ := by
  intro hpd fuel
  have hall' := List.all_eq_true.1 hall
  induction fuel with
  | zero =>
    intro L a w hL hfuel hcl hdone hknown hat
    have hd : ∀ i, i < ops.size → doneB L i = true := by
      intro i hi
      cases h : doneB L i with
      | true => rfl
      | false =>
        have : i ∈ (List.range ops.size).filter fun i => !doneB L i := by simp [hi, h]
        unfold left at hfuel
        have := List.length_pos_of_mem this
        omega
    have hfin : At C (finEnv ops vl env) ds σ a w := by
      obtain ⟨I, hg, a1, a2, a3, a4⟩ := hat
      refine ⟨I, hg, ⟨a1, fun t y ht => ?_⟩, a4⟩
      rcases finEnv_get vl t y ht with ⟨i, h1, h2⟩ | ⟨h1, h2⟩
      · have hlt : i < ops.size := by
              have h9 := List.all_eq_true.1 hin _ h2
              simp [Nat.blt] at h9
              omega
        exact a3 i y t hlt (hd i hlt) h1 (lk_of_mem hnd h2)
      · refine a2 t y h2 (fun j hj _ hjd => ?_)
        have := hall' j (List.mem_range.2 hj)
        obtain ⟨x, hx⟩ := Option.isSome_iff_exists.1 this
        have hmem : ∀ {vl : List (Nat × AV)}, lk vl j = some x → (j, x) ∈ vl := by
          intro vl
          induction vl with
          | nil => intro h; simp [lk] at h
          | cons p r ih =>
            obtain ⟨q, z⟩ := p
            intro h
            by_cases e : j = q
            · subst e
              have : z = x := by simpa [lk] using h
              rw [this]
              exact List.mem_cons_self
            · rw [lk_cons_ne e] at h
              exact List.mem_cons_of_mem _ (ih h)
        exact h1 j x (hmem hx) hjd
    have hr : Region.ready .any ops L = [] := by
      refine List.eq_nil_iff_forall_not_mem.2 (fun i hi => ?_)
      obtain ⟨h1, h2, _⟩ := ready_mem hi hL
      rw [hd i h1] at h2
      cases h2
    exact ⟨hr, k a w hfin⟩
  | succ fuel ih =>
    intro L a w hL hfuel hcl hdone hknown hat
    refine ⟨fun hr => ?_, fun i hi => ?_⟩
    · have hd := ready_nil hs hL hr
      have h0 : left ops L ≤ 0 := by
        unfold left
        rw [List.filter_eq_nil_iff.2 (fun i hi => by simp [hd i (List.mem_range.1 hi)])]
        exact Nat.le_refl _
      have hz : wpAny P .any ops Q 0 L a w := by
        clear ih
        have hfin : At C (finEnv ops vl env) ds σ a w := by
          obtain ⟨I, hg, a1, a2, a3, a4⟩ := hat
          refine ⟨I, hg, ⟨a1, fun t y ht => ?_⟩, a4⟩
          rcases finEnv_get vl t y ht with ⟨i, h1, h2⟩ | ⟨h1, h2⟩
          · have hlt : i < ops.size := by
              have h9 := List.all_eq_true.1 hin _ h2
              simp [Nat.blt] at h9
              omega
            exact a3 i y t hlt (hd i hlt) h1 (lk_of_mem hnd h2)
          · refine a2 t y h2 (fun j hj _ hjd => ?_)
            have := hall' j (List.mem_range.2 hj)
            obtain ⟨x, hx⟩ := Option.isSome_iff_exists.1 this
            have hmem : ∀ {vl : List (Nat × AV)}, lk vl j = some x → (j, x) ∈ vl := by
              intro vl
              induction vl with
              | nil => intro h; simp [lk] at h
              | cons p r ih =>
                obtain ⟨q, z⟩ := p
                intro h
                by_cases e : j = q
                · subst e
                  have : z = x := by simpa [lk] using h
                  rw [this]
                  exact List.mem_cons_self
                · rw [lk_cons_ne e] at h
                  exact List.mem_cons_of_mem _ (ih h)
            exact h1 j x (hmem hx) hjd
        exact ⟨hr, k a w hfin⟩
      exact hz.2
    · obtain ⟨h1, h2, h3, _⟩ := ready_mem hi hL
      have hp : i ∈ pd := by
        cases Decidable.em (i ∈ pd) with
        | inl h => exact h
        | inr h =>
          have := hdone i h1 (hall' i (List.mem_range.2 h1)) h
          rw [h2] at this
          cases this
      refine xd_pend hs hpd hL hcl hat hp h2 h3 (fun a' w' hat' => ?_)
      refine ih _ a' w' (by simpa using hL) (by have := left_set hL h1 h2; omega) (fun m hm hmd j hj => ?_) (fun m hm1 hm2 hm3 => ?_) (fun m hm => ?_) hat'
      · rw [doneB_set (by omega)] at hmd ⊢
        split
        · rfl
        · by_cases e : m = i
          · subst e
            exact h3 j hj
          · rw [if_neg e] at hmd
            exact hcl m hm hmd j hj
      · rw [doneB_set (by omega)]
        split
        · rfl
        · exact hdone m hm1 hm2 hm3
      · rw [doneB_set (by omega)] at hm
        by_cases e : m = i
        · subst e
          exact hall' m (List.mem_range.2 h1)
        · rw [if_neg e] at hm
          exact hknown m hm

/-- The next that turns memory. -/
theorem xd_e (hs : stat ops = true) {vl : List (Nat × AV)} {pd : List Nat} (i : Nat) {o : Oper} {R : AV → List Ck → Prop} (ho : ops[i]? = some o) (hi : lk vl i = none) (hn : (needsI ops i).all (fun j => (lk vl j).isSome) = true)
    (hd : ∀ d, o.dst = some d → d < C.n) (hoth : (List.range ops.size).all (fun k => (lk vl k).isSome || Nat.beq k i || (needsI ops k).any (fun j => (lk vl j).isNone)) = true) (hv : EV P C ops Q o (opEnv ops i vl env) ds σ R)
    (k : ∀ x σ', R x σ' → (∀ m, m ∈ pd.filter (fun m => !(needsI ops i).contains m) → ∀ o' y, ops[m]? = some o' → lk vl m = some y → GV P C ops o' (opEnv ops m vl env) σ' y) ∧ XD P C ops Q ((i, x) :: vl) (pd.filter (fun m => !(needsI ops i).contains m)) env ds σ') :
    XD P C ops Q vl pd env ds σ := by
  intro hpd fuel
  have hlt := (Array.getElem?_eq_some_iff.1 ho).1
  have hn' := List.all_eq_true.1 hn
  have hoth' := List.all_eq_true.1 hoth
  induction fuel with
  | zero =>
    intro L a w hL hfuel hcl hdone hknown hat
    exfalso
    have hnot : doneB L i = false := by
      cases h : doneB L i with
      | false => rfl
      | true =>
        have := hknown i h
        rw [hi] at this
        cases this
    have : i ∈ (List.range ops.size).filter fun i => !doneB L i := by simp [hlt, hnot]
    unfold left at hfuel
    have := List.length_pos_of_mem this
    omega
  | succ fuel ih =>
    intro L a w hL hfuel hcl hdone hknown hat
    have hnot : doneB L i = false := by
      cases h : doneB L i with
      | false => rfl
      | true =>
        have := hknown i h
        rw [hi] at this
        cases this
    refine ⟨fun hr => ?_, fun m hm => ?_⟩
    · have := ready_nil hs hL hr i hlt
      rw [hnot] at this
      cases this
    · obtain ⟨h1, h2, h3, _⟩ := ready_mem hm hL
      by_cases e : m = i
      · subst e
        obtain ⟨I, hg, a1, a2, a3, a4⟩ := hat
        have hf := fits_op hs h1 h2 h3 hcl a1 a2 a3
        have hw : ∀ (hgd : o.guard = none), Region.wanted o (yielded ops a.tmps) = true := fun hgd => by simp [Region.wanted, hgd]
        have main := hv I w a (wpAny P .any ops Q fuel (L.setIfInBounds m true)) hg hf a4 (fun v w' I' x σ' hR hg' hp hx => by
          obtain ⟨hpend, hk⟩ := k x σ' hR
          refine hk (fun q hq => ?_) fuel _ _ w' (by simpa using hL) (by have := left_set hL h1 h2; omega) (fun q hq hqd j hj => ?_) (fun q hq1 hq2 hq3 => ?_) (fun q hq => ?_) ?_
          · obtain ⟨hq1, hq2⟩ := List.mem_filter.1 hq
            obtain ⟨b1, b2, o', y, b3, b4, b5⟩ := hpd q hq1
            have hne : q ≠ m := fun e => by rw [e, hi] at b4; cases b4
            refine ⟨b1, fun j hj => ?_, o', y, b3, by rw [lk_cons_ne hne]; exact b4, by rw [opEnv_cons b2 hi]; exact hpend q hq o' y b3 b4⟩
            by_cases e : j = m
            · rw [e, lk_cons_eq]; rfl
            · rw [lk_cons_ne e]; exact b2 j hj
          · rw [doneB_set (by omega)] at hqd ⊢
            split
            · rfl
            · by_cases e : q = m
              · subst e
                exact h3 j hj
              · rw [if_neg e] at hqd
                exact hcl q hq hqd j hj
          · rw [doneB_set (by omega)]
            split
            · rfl
            · rename_i hne
              rw [lk_cons_ne hne] at hq2
              cases Decidable.em (q ∈ pd) with
              | inl hqp =>
                have : q ∈ needsI ops m := by
                  cases Decidable.em (q ∈ needsI ops m) with
                  | inl h => exact h
                  | inr h => exact absurd (List.mem_filter.2 ⟨hqp, by simpa using h⟩) hq3
                exact h3 q this
              | inr hqp => exact hdone q hq1 hq2 hqp
          · rw [doneB_set (by omega)] at hq
            by_cases e : q = m
            · rw [e, lk_cons_eq]; rfl
            · rw [if_neg e] at hq
              rw [lk_cons_ne e]
              exact hknown q hq
          · cases hod : o.dst with
            | some d =>
              have a3' : ∀ j y t, j < ops.size → doneB L j = true → dstI ops j = some t → lk ((m, x) :: vl) j = some y → ∃ v, a.tmps[t]? = some v ∧ VR I w y v := fun j y t hj hjD hjd hjx => by
                have hne : j ≠ m := fun e => by rw [e, hnot] at hjD; cases hjD
                rw [lk_cons_ne hne] at hjx
                exact a3 j y t hj hjD hjd hjx
              exact ats_put hs hL h1 (hd d hod) (by simp [dstI, ho, hod]) lk_cons_eq hg' hp hx a1 a2 a3' a4
            | none =>
              have hdn : dstI ops m = none := by simp [dstI, ho, hod]
              refine ⟨I', hg', a1, fun t y ht hall => ?_, fun j y t hj hjD hjd hjx => ?_, a4⟩
              · obtain ⟨u, hu, hr⟩ := a2 t y ht (fun j hj hjD => hall j hj (by rw [doneB_set (by omega)]; split <;> simp [hjD]))
                exact ⟨u, hu, hr.per hp⟩
              · have hne : j ≠ m := fun e => by rw [e, hdn] at hjd; cases hjd
                rw [doneB_set (by omega), if_neg hne] at hjD
                rw [lk_cons_ne hne] at hjx
                obtain ⟨u, hu, hr⟩ := a3 j y t hj hjD hjd hjx
                exact ⟨u, hu, hr.per hp⟩)
        unfold wpOp
        rw [ho]
        simp only
        rw [if_pos (hw main.1)]
        exact .inl main.2
      · have hk : (lk vl m).isSome = true := by
          have := hoth' m (List.mem_range.2 h1)
          simp only [Bool.or_eq_true] at this
          rcases this with (this | this) | this
          · exact this
          · exact absurd (Nat.eq_of_beq_eq_true this) e
          · obtain ⟨j, hj, hjn⟩ := List.any_eq_true.1 this
            have := hknown j (h3 j hj)
            simp [Option.isNone_iff_eq_none.1 hjn] at this
        have hp : m ∈ pd := by
          cases Decidable.em (m ∈ pd) with
          | inl h => exact h
          | inr h =>
            have := hdone m h1 hk h
            rw [h2] at this
            cases this
        refine xd_pend hs hpd hL hcl hat hp h2 h3 (fun a' w' hat' => ?_)
        refine ih _ a' w' (by simpa using hL) (by have := left_set hL h1 h2; omega) (fun q hq hqd j hj => ?_) (fun q hq1 hq2 hq3 => ?_) (fun q hq => ?_) hat'
        · rw [doneB_set (by omega)] at hqd ⊢
          split
          · rfl
          · by_cases e : q = m
            · subst e
              exact h3 j hj
            · rw [if_neg e] at hqd
              exact hcl q hq hqd j hj
        · rw [doneB_set (by omega)]
          split
          · rfl
          · exact hdone q hq1 hq2 hq3
        · rw [doneB_set (by omega)] at hq
          by_cases e : q = m
          · subst e
            exact hk
          · rw [if_neg e] at hq
            exact hknown q hq

class Mixed (P : Program) : Prop where
  h : P.follows .mixedOrders = true
theorem x_draw [hm : Mixed P] {id : Nat} (hs : stat ops = true) (h : XD P C ops Q [] [] env ds σ) : X P C (.region id ops true) Q env ds σ := by
  unfold X
  rintro a w ⟨I, hg, hf, hds⟩
  refine wp_region_any hm.h ?_
  have hd : ∀ i, doneB (Array.replicate ops.size false) i = false := fun i => by
    simp [doneB, Array.getD_eq_getD_getElem?, Array.getElem?_replicate]
    split <;> rfl
  have h4 : ∀ (j : Nat) (x : AV) (t : Nat), j < ops.size → doneB (Array.replicate ops.size false) j = true → dstI ops j = some t → lk ([] : List (Nat × AV)) j = some x → ∃ v, a.tmps[t]? = some v ∧ VR I { w with drawn := w.drawn + 1 } x v := fun j _ _ _ hj _ _ => by rw [hd j] at hj; cases hj
  have hP : Per I w I { w with drawn := w.drawn + 1 } := ⟨fun _ _ h => h, fun _ _ _ => rfl⟩
  refine h (by simp) ops.size _ a _ (by simp) ?_ (fun i _ hi => by rw [hd i] at hi; cases hi) (fun i _ hi => by simp [lk] at hi) (fun i hi => by rw [hd i] at hi; cases hi) ⟨I, hg.drew _, hf.size, fun t y ht _ => ?_, h4, hds⟩
  · unfold left
    exact Nat.le_trans (List.length_filter_le _ _) (by simp)
  · obtain ⟨v, hv, hr⟩ := hf.get t y ht
    exact ⟨v, hv, hr.per hP⟩
end
attribute [irreducible] XD
end Go.Ax
