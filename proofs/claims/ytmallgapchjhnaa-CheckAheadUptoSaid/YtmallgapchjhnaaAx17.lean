/- More rules: structs compared. No condition: plain theorems. -/
import Derived.Test.YtmallgapchjhnaaAx16
import Derived.Laws.StructEq
set_option linter.unusedVariables false
set_option linter.unusedSimpArgs false
namespace Go.Ax
open Go Go.RowKit

inductive SK where
  | int (k : IntKind)
  | bool
  | str
def SK.desc : SK → TypeDesc
  | .int k => .int k
  | .bool => .bool
  | .str => .string
inductive FitK : SK → Value → Prop
  | int {k : IntKind} (n : Int) : FitK (.int k) (.int k n)
  | bool (b : Bool) : FitK .bool (.bool b)
  | str (s : ByteArray) : FitK .str (.string s)
def eqV : Value → Value → Bool
  | .int _ a, .int _ b => decide (a = b)
  | .bool a, .bool b => decide (a = b)
  | .string a, .string b => decide (a = b)
  | _, _ => false
def eqVs : List Value → List Value → Bool
  | [], [] => true
  | a :: r, b :: s => eqV a b && eqVs r s
  | _, _ => false
theorem eqVs_append : ∀ {a b c d : List Value}, a.length = b.length → eqVs (a ++ c) (b ++ d) = (eqVs a b && eqVs c d)
  | [], [], _, _, _ => by simp [eqVs]
  | [], _ :: _, _, _, h => by simp at h
  | _ :: _, [], _, _, h => by simp at h
  | x :: a, y :: b, c, d, h => by
    simp only [List.cons_append, eqVs]
    rw [eqVs_append (by simpa using h), Bool.and_assoc]
theorem eqVs_refl {ks : List SK} {a : List Value} (h : All2 FitK ks a) : eqVs a a = true := by
  induction h with
  | nil => rfl
  | cons h0 _ ih => cases h0 <;> simp [eqVs, eqV, ih]
theorem eqVs_true {ks : List SK} {a b : List Value} (h : All2 FitK ks a) (g : All2 FitK ks b) : eqVs a b = true → a = b := by
  induction h generalizing b with
  | nil => cases g; simp
  | cons h0 _ ih =>
    cases g with
    | cons g0 g1 =>
      intro he
      simp only [eqVs, Bool.and_eq_true] at he
      rw [ih g1 he.2]
      cases h0 <;> cases g0 <;> simp_all [eqV]
section
variable {P : Program}
/-- Cells of the kinds ks of a struct of type t are compared one by one. -/
class TyQ (P : Program) (t : TypeId) (ks : outParam (List SK)) : Prop where
  q : ∀ (d : Nat), 50 ≤ d → ∀ (a b : List Value) (w : World), All2 FitK ks a → All2 FitK ks b → (Op.equalIn d t (.agg a.toArray) (.agg b.toArray)).run P w = .ok (eqVs a b) w
  g : P.eqGuardType P.depth t = false
inductive FldQ (P : Program) (D : Nat) : List Field → Nat → List SK → Prop
  | nil {o : Nat} : FldQ P D [] o []
  | one {f : Field} {fs : List Field} {o : Nat} {k : SK} {ks : List SK} : (f.name == "_") = false → f.offset = o → P.underlying f.type = some k.desc → (∀ w, (isAgg f.type).run P w = .ok false w) → FldQ P D fs (o + 1) ks → FldQ P D (f :: fs) o (k :: ks)
  | many {f : Field} {fs : List Field} {o n : Nat} {k ks : List SK} : (f.name == "_") = false → f.offset = o → k.length = n → (∀ (d : Nat), D ≤ d → ∀ (a b : List Value) (w : World), All2 FitK k a → All2 FitK k b → (Op.equalIn d f.type (.agg a.toArray) (.agg b.toArray)).run P w = .ok (eqVs a b) w) →
      (∀ w, (isAgg f.type).run P w = .ok true w ∧ (sizeOf f.type).run P w = .ok n w) → FldQ P D fs (o + n) ks → FldQ P D (f :: fs) o (k ++ ks)
theorem all2_split {α β : Type} {R : α → β → Prop} : ∀ {as cs : List α} {bs : List β}, All2 R (as ++ cs) bs → ∃ b1 b2, bs = b1 ++ b2 ∧ All2 R as b1 ∧ All2 R cs b2
  | [], cs, bs, h => ⟨[], bs, rfl, .nil, h⟩
  | a :: as, cs, _, .cons h0 h1 => by
    obtain ⟨b1, b2, rfl, h2, h3⟩ := all2_split h1
    exact ⟨_ :: b1, b2, rfl, .cons h0 h2, h3⟩
theorem equal_k {k : SK} {t : TypeId} {a b : Value} {d : Nat} {w : World} (ht : P.underlying t = some k.desc) (ha : FitK k a) (hb : FitK k b) : (Op.equalIn (d + 1) t a b).run P w = .ok (eqV a b) w := by
  cases ha with
  | int n => cases hb with
    | int m =>
      rw [run_equalIn_int w d t _ _ n m ht]
      congr 1
  | bool n => cases hb with
    | bool m =>
      rw [run_equalIn_bool' w d t n m ht]
      congr 1
  | str n => cases hb with
    | str m =>
      rw [run_equalIn_string w d t n m ht, bytes_beq]
      rfl
theorem flds_run {D : Nat} {w : World} : ∀ {fs : List Field} {o : Nat} {ks : List SK}, FldQ P D fs o ks → ∀ (d : Nat), D ≤ d + 1 → ∀ (pa pb a b : List Value), pa.length = o → pb.length = o → All2 FitK ks a → All2 FitK ks b →
    (Op.eqFields (d + 1) (pa ++ a).toArray (pb ++ b).toArray fs).run P w = .ok (eqVs a b) w
  | _, _, _, .nil, d, _, pa, pb, a, b, _, _, ha, hb => by
    cases ha
    cases hb
    simp [Op.eqFields, eqVs]
  | f :: fs, o, _, .one hn ho ht hg hr, d, hD, pa, pb, _, _, hpa, hpb, .cons (b := a0) (bs := a) ha0 ha, .cons (b := b0) (bs := b) hb0 hb => by
    have hn' : f.name ≠ "_" := by simpa using hn
    have h1 : (part f.type (pa ++ a0 :: a).toArray f.offset).run P w = .ok a0 w := by
      rw [ho]
      simp [part, hg w, hpa]
    have h2 : (part f.type (pb ++ b0 :: b).toArray f.offset).run P w = .ok b0 w := by
      rw [ho]
      simp [part, hg w, hpb]
    have ih := flds_run (w := w) hr d hD (pa ++ [a0]) (pb ++ [b0]) a b (by simp [hpa]) (by simp [hpb]) ha hb
    simp only [List.append_assoc, List.singleton_append] at ih
    simp only [Op.eqFields, if_pos hn', Sem.run_bind, h1, h2, equal_k ht ha0 hb0, Result.andThen_ok, eqVs]
    cases eqV a0 b0
    · simp
    · simpa using ih
  | f :: fs, o, _, .many (n := n) hn ho hk hq hg hr, d, hD, pa, pb, a, b, hpa, hpb, ha, hb => by
    have hn' : f.name ≠ "_" := by simpa using hn
    obtain ⟨a1, a2, rfl, ha1, ha2⟩ := all2_split ha
    obtain ⟨b1, b2, rfl, hb1, hb2⟩ := all2_split hb
    have la := ha1.length
    have lb := hb1.length
    have h1 : (part f.type (pa ++ (a1 ++ a2)).toArray f.offset).run P w = .ok (.agg a1.toArray) w := by
      rw [ho]
      simp [part, hg w, ← hpa, ← hk, la]
    have h2 : (part f.type (pb ++ (b1 ++ b2)).toArray f.offset).run P w = .ok (.agg b1.toArray) w := by
      rw [ho]
      simp [part, hg w, ← hpb, ← hk, lb]
    have ih := flds_run (w := w) hr d hD (pa ++ a1) (pb ++ b1) a2 b2 (by simp [hpa, ← la, hk]) (by simp [hpb, ← lb, hk]) ha2 hb2
    simp only [List.append_assoc] at ih
    simp only [Op.eqFields, if_pos hn', Sem.run_bind, h1, h2, hq (d + 1) hD a1 b1 w ha1 hb1, Result.andThen_ok]
    rw [eqVs_append (by omega)]
    cases eqVs a1 b1
    · simp
    · simpa using ih
theorem tyq_q {t : TypeId} {fs : List Field} {ks : List SK} {D : Nat} (ht : P.underlying t = some (.struct fs.toArray)) (hp : P.stoodInHeld t = false) (hf : FldQ P D fs 0 ks) (d : Nat) (hd : D + 2 ≤ d) (a b : List Value) (w : World) (ha : All2 FitK ks a) (hb : All2 FitK ks b) : (Op.equalIn d t (.agg a.toArray) (.agg b.toArray)).run P w = .ok (eqVs a b) w := by
  obtain ⟨d, rfl⟩ : ∃ e, d = e + 2 := ⟨d - 2, by omega⟩
  have hfo : P.fieldsOf t = fs.toArray := by simp [Program.fieldsOf, ht]
  rw [run_equalIn_struct w (d + 1) t _ _ (by rw [hfo]; exact ht) hp, hfo]
  exact flds_run hf d (by omega) [] [] a b rfl rfl ha hb
theorem tyq_mk {t : TypeId} {fs : List Field} {ks : List SK} (ht : P.underlying t = some (.struct fs.toArray)) {D : Nat} (hD : D ≤ 48) (hp : P.stoodInHeld t = false) (hg : P.eqGuardType P.depth t = false) (hf : FldQ P D fs 0 ks) : TyQ P t ks where
  g := hg
  q := fun d hd a b w ha hb => tyq_q ht hp hf d (by omega) a b w ha hb
variable {C : Cx} {env : Env} {σ : List Ck} {ty : TypeId}
theorem all2_val {I : Nat → Nat → Prop} {w : World} : ∀ {as us : List Value}, All2 (VR I w) (as.map .val) us → us = as
  | [], _, .nil => rfl
  | a :: as, _, .cons h0 h1 => by rw [h0.val_inv, all2_val h1]
theorem agg_is {I : Nat → Nat → Prop} {w : World} {as : List Value} {v : Value} (h : VR I w (.agg (as.map .val)) v) : v = .agg as.toArray := by
  obtain ⟨us, rfl, h1⟩ := h.agg_inv
  rw [all2_val h1]
/-- ==, != of structs of plain cells. -/
theorem pv_agg_eq {t t' : TypeId} {x y : Operand} {a b : AV} (as bs : List Value) {ks : List SK} [hq : TyQ P t ks] (hx : evl env x = some a) (hy : evl env y = some b) (ha : Wk a (.agg (as.map .val))) (hb : Wk b (.agg (bs.map .val))) (fa : All2 FitK ks as) (fb : All2 FitK ks bs) : PV P C (.binOp .eql t x y t') ty env σ (.val (.bool (eqVs as bs))) := by
  unfold PV
  intro dst pos after guard I w act hg hf
  have h1 := agg_is (ha _ _ _ (hf.eval hx))
  have h2 := agg_is (hb _ _ _ (hf.eval hy))
  refine ⟨_, ?_, .val _⟩
  have h3 := hq.q 10000 (by omega) as bs w fa fb
  have h4 := run_eqGuard_agg w .eql t x y as.toArray bs.toArray hq.g
  have h5 := run_eql_struct (P := P) w t as.toArray bs.toArray
  simp [execOp, h1, h2, h4, h5, h3]
theorem pv_agg_ne {t t' : TypeId} {x y : Operand} {a b : AV} (as bs : List Value) {ks : List SK} [hq : TyQ P t ks] (hx : evl env x = some a) (hy : evl env y = some b) (ha : Wk a (.agg (as.map .val))) (hb : Wk b (.agg (bs.map .val))) (fa : All2 FitK ks as) (fb : All2 FitK ks bs) : PV P C (.binOp .neq t x y t') ty env σ (.val (.bool (!eqVs as bs))) := by
  unfold PV
  intro dst pos after guard I w act hg hf
  have h1 := agg_is (ha _ _ _ (hf.eval hx))
  have h2 := agg_is (hb _ _ _ (hf.eval hy))
  refine ⟨_, ?_, .val _⟩
  have h3 := hq.q 10000 (by omega) as bs w fa fb
  have h4 := run_eqGuard_agg w .neq t x y as.toArray bs.toArray hq.g
  have h5 := run_neq_struct (P := P) w t as.toArray bs.toArray
  simp [execOp, h1, h2, h4, h5, h3]
variable {Q : Exit → Act → World → Prop} {ops : Array Oper} {rest : List Oper} {ds : List Deferred}
/-- A list is no longer than memory bears. -/
theorem at_llen {sz : Nat} {xs : List AV} (i : Nat) (hi : lk env i = some (.list sz xs)) {a : Act} {w : World} (h : At C env ds σ a w) : xs.length ≤ 9223372036854775807 := by
  obtain ⟨I, hg, hf, hd⟩ := h
  obtain ⟨v, _, hr⟩ := hf.get i _ hi
  obtain ⟨_, _, _, h1, h2⟩ := hr.list_inv
  exact Nat.le_trans h1 h2
theorem x_llen {c : Code} {sz : Nat} {xs : List AV} (i : Nat) (hi : lk env i = some (.list sz xs)) (k : xs.length ≤ 9223372036854775807 → X P C c Q env ds σ) : X P C c Q env ds σ := by
  unfold X at k ⊢
  exact fun a w h => k (at_llen i hi h) a w h
theorem xl_llen {sz : Nat} {xs : List AV} (i : Nat) (hi : lk env i = some (.list sz xs)) (k : xs.length ≤ 9223372036854775807 → XL P C ops Q rest env ds σ) : XL P C ops Q rest env ds σ := .of fun a w h => (k (at_llen i hi h)).to a w h
theorem ev_litv {d : Nat} {pos : String} {after : Array Edge} {t e : TypeId} {sz bytes len : Nat} {z : Value} {ps : List (Nat × Operand)} {xs : List AV} [ht : TyU P t (.slice e)] [hz : TyEl P e sz bytes z] (hp : EvP env 0 ps xs) (hlen : xs.length = len) (hs : ∀ x ∈ xs, x.cs.length = sz) (h1 : (flat xs).all oneB = true) (hbig : len * sz ≤ 16777216) :
    EV P C ops Q ⟨some d, .buildSlice t len ps.toArray, ty, pos, after, none⟩ env ds σ (fun x' σ' => ∃ v, v.oneCell' = true ∧ x' = .val v ∧ σ' = .vec v e sz xs :: σ) := by
  intro I w a K hg hf hds hK
  refine ⟨rfl, ?_⟩
  obtain ⟨vs, hsq, ha⟩ := hp.vals hf
  have hvs := vs_size ha hs h1
  have hrun := run_lit ht.h hz hsq (ha.length ▸ hlen) hvs hbig w
  have hfl := flat_all2 ha h1
  have hr : (execOp a.eval ⟨some d, .buildSlice t len ps.toArray, ty, pos, after, none⟩).run P w = .ok (.value (.slice (some ⟨w.heap.size, 0, none⟩) len len)) (w.alloc (.cells (vs.flatMap fun v => v.cells.toList).toArray e)) := by
    simp only [execOp, Sem.run_bind]
    rw [show (ps.toArray.map fun (x : Nat × Operand) => match x with | (i, x) => (i, a.eval x)) = (ps.map fun p => (p.1, a.eval p.2)).toArray by simp]
    rw [hrun]
    rfl
  unfold Oper.wp
  rw [hr]
  have hm : xs.length ≤ 9223372036854775807 := by
    have := hz.hs
    have : xs.length ≤ len * sz := by rw [hlen]; exact Nat.le_mul_of_pos_right _ this
    omega
  have hg2 := hg.vlit e sz xs _ hs hm hfl
  rw [hlen] at hg2
  exact hK _ _ _ _ _ ⟨_, rfl, rfl, rfl⟩ hg2 (per_alloc I w _ hg.rel.ex) (.val _)
/-- Where ways meet, the memory told up to some values. -/
def MeetE {T : Type} (C : Cx) (e : T → Env) (env : Env) (σ1 : T → List Ck) (ds : List Deferred) (a : Act) (w : World) : Prop := ∃ q, At C (e q ++ env) ds (σ1 q) a w
theorem x_joinE {T : Type} {x y : Code} (e : T → Env) (σ1 : T → List Ck) {cur env0 : Env} (hb : Sub env0 cur) (h1 : X P C x (Exit.then (MeetE C e env0 σ1 ds) Q) cur ds σ) (h2 : ∀ q, X P C y Q (e q ++ env0) ds (σ1 q)) : X P C (.seq x y) Q cur ds σ := by
  unfold X at *
  intro a w hA
  refine wp_seq (Code.wp_mono ?_ (h1 a w hA))
  intro ex a w hq
  cases ex with
  | normal =>
    obtain ⟨q, hq⟩ := hq
    exact h2 q a w hq
  | _ => exact hq
theorem xq_meetE {T : Type} {e : T → Env} {env0 env' : Env} {σ1 : T → List Ck} (q : T) (he : Sub (e q ++ env0) env') (hm : σ1 q = σ) : XQ C (Exit.then (MeetE C e env0 σ1 ds) Q) .normal env' ds σ := by
  unfold XQ
  intro a w hA
  subst hm
  exact ⟨q, hA.sub he⟩
end
end Go.Ax
