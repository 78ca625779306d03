/- More rules: texts made of bytes, texts joined. No condition: plain theorems. -/
import Derived.Test.YtmallgapchjhnaaAx15
import Derived.Laws.BytesArg
import Derived.Laws.Concat
set_option linter.unusedVariables false
set_option linter.unusedSimpArgs false
namespace Go.Ax
open Go Go.RowKit

section
variable {P : Program} {C : Cx} {Q : Exit → Act → World → Prop} {ops : Array Oper} {rest : List Oper} {env r : Env} {ds : List Deferred} {σ σr σ' : List Ck} {ty : TypeId} {d : Nat} {pos : String} {after : Array Edge}
abbrev u8s (xs : List Int) : List AV := xs.map fun n => .val (.int .u8 n)
theorem flat_u8s (xs : List Int) : flat (u8s xs) = u8s xs := by
  induction xs with
  | nil => rfl
  | cons x xs ih =>
    show flat (_ :: u8s xs) = _
    rw [flat_cons, ih]
    rfl
theorem run_bytes_empty {s t e : TypeId} (hs : P.underlying s = some (.slice e)) (he : P.underlying e = some (.int .u8)) (ht : P.underlying t = some .string) (A : Option Addr) (c : Nat) (w : World) : (convert s t (.slice A 0 c)).run P w = .ok (.string (strOfNums [])) w := by
  rw [run_convert_bytes_string w s t e _ 0 c hs he ht]
  cases A with
  | none => simp [Conv.bytesToString, strOfNums]; rfl
  | some a =>
    have := run_bytesToString (P := P) w a 0 c [] (by simp [loadCells, loadCellsFrom])
    rw [this]
    rfl
/-- string(b) -/
theorem pv_bytes_str {s t e : TypeId} {x : Operand} {ys : List AV} (xs : List Int) [hs : TyU P s (.slice e)] [he : TyU P e (.int .u8)] [ht : TyU P t .string] (hx : evl env x = some (.list 1 ys)) (hy : ys = u8s xs) : PV P C (.convert s t x) ty env σ (.val (.string (strOfNums xs))) := by
  unfold PV
  intro dst pos after guard I w a hg hf
  have hr := hf.eval hx
  subst hy
  refine ⟨_, ?_, .val _⟩
  have run : ∀ u, VR I w (.list 1 (u8s xs)) u → (convert s t u).run P w = .ok (.string (strOfNums xs)) w := by
    intro u hr
    generalize hz : u8s xs = zs at hr
    cases hr with
    | nil _ A c hm =>
      have : xs = [] := by simpa using hz
      subst this
      exact run_bytes_empty hs.h he.h ht.h A c w
    | list _ _ b o c vs hsz hc hm hI hw hv =>
      subst hz
      refine run_convert_bytes_arg w s e hs.h he.h b o _ c xs (by simp) (fun i hi => ?_) t ht.h
      have hi' : i < xs.length := by simpa using hi
      rw [hw i (by simpa using hi')]
      have := (hv i (.val (.int .u8 xs[i])) (by rw [flat_u8s]; simp [hi'])).val_inv
      rw [this]
      simp [hi']
  have := run _ hr
  simp [execOp, this]
theorem pv_str_add {t t' : TypeId} {x y : Operand} {m n : ByteArray} (hx : evl env x = some (.val (.string m))) (hy : evl env y = some (.val (.string n))) (hb : m.size + n.size ≤ 9223372036854775807) : PV P C (.binOp .add t x y t') ty env σ (.val (.string (m ++ n))) := by
  unfold PV
  intro dst pos after guard I w a hg hf
  have h1 := (hf.eval hx).val_inv
  have h2 := (hf.eval hy).val_inv
  refine ⟨_, ?_, .val _⟩
  simp [execOp, h1, h2, eqGuard, binOp, run_string_add_sum, hb]
/-! Literals, some of whose parts are told otherwise than they lie there. -/
inductive EvPw (env : Env) : Nat → List (Nat × Operand) → List AV → Prop
  | nil {k : Nat} : EvPw env k [] []
  | cons {k : Nat} {o : Operand} {x y : AV} {ps : List (Nat × Operand)} {xs : List AV} : evl env o = some x → Wk x y → EvPw env (k + 1) ps xs → EvPw env k ((k, o) :: ps) (y :: xs)
theorem EvPw.vals {I : Nat → Nat → Prop} {w : World} {n : Nat} {env : Env} {a : Act} (hf : Fits I w n env a) {k : Nat} {ps : List (Nat × Operand)} {xs : List AV} (h : EvPw env k ps xs) :
    ∃ vs, SeqP k (ps.map fun p => (p.1, a.eval p.2)) vs ∧ All2 (VR I w) xs vs := by
  induction h with
  | nil => exact ⟨[], .nil, .nil⟩
  | cons h0 hw _ ih =>
    obtain ⟨vs, h1, h2⟩ := ih
    exact ⟨_, .cons h1, .cons (hw _ _ _ (hf.eval h0)) h2⟩
theorem all2_vals {I : Nat → Nat → Prop} {w : World} : ∀ us : List Value, All2 (VR I w) (us.map .val) us
  | [] => .nil
  | u :: us => .cons (.val u) (all2_vals us)
theorem wk_agg (us : List Value) : Wk (.val (.agg us.toArray)) (.agg (us.map .val)) := fun I w v h => by
  rw [h.val_inv]
  exact VR.agg_mk (all2_vals us)
theorem xl_litw {t e : TypeId} {sz bytes len : Nat} {z : Value} {ps : List (Nat × Operand)} {xs : List AV} [ht : TyU P t (.slice e)] [hz : TyEl P e sz bytes z] (hp : EvPw env 0 ps xs) (hlen : xs.length = len) (hs : ∀ x ∈ xs, x.cs.length = sz) (h1 : (flat xs).all oneB = true) (hbig : len * sz ≤ 16777216)
    (hd : Nat.ble (d + 1) C.n = true) (k : XL P C ops Q rest ((d, .list sz xs) :: env) ds σ) : XL P C ops Q (⟨some d, .buildSlice t len ps.toArray, ty, pos, after, none⟩ :: rest) env ds σ := by
  refine .of ?_
  rintro a w ⟨I, hg, hf, hds⟩
  refine wpList_plain rfl fun K hK => ?_
  obtain ⟨vs, hsq, ha⟩ := hp.vals hf
  have hvs := vs_size ha hs h1
  have hrun := run_lit ht.h hz hsq (ha.length ▸ hlen) hvs hbig w
  have hfl := flat_all2 ha h1
  have hr : (execOp a.eval ⟨some d, .buildSlice t len ps.toArray, ty, pos, after, none⟩).run P w = .ok (.value (.slice (some ⟨w.heap.size, 0, none⟩) len len)) (w.alloc (.cells (vs.flatMap fun v => v.cells.toList).toArray e)) := by
    have : (ps.toArray.map fun (x : Nat × Operand) => (x.1, a.eval x.2)) = (ps.map fun p => (p.1, a.eval p.2)).toArray := by simp
    simp only [execOp, Sem.run_bind]
    rw [show (ps.toArray.map fun (x : Nat × Operand) => match x with | (i, x) => (i, a.eval x)) = (ps.map fun p => (p.1, a.eval p.2)).toArray by simp]
    rw [hrun]
    rfl
  unfold Oper.wp
  rw [hr]
  obtain ⟨hg2, hper⟩ := hg.lit e (vs.flatMap fun v => v.cells.toList)
  have hv := list_of_lit hg e hfl hs (by
    have := hz.hs
    have : xs.length ≤ len * sz := by rw [hlen]; exact Nat.le_mul_of_pos_right _ this
    omega)
  rw [hlen] at hv
  exact hK _ _ (k.to _ _ ⟨_, hg2, (hf.per hper).put (Nat.le_of_ble_eq_true hd) hv, hds⟩)

theorem ov_litw {t e : TypeId} {sz bytes len : Nat} {z : Value} {ps : List (Nat × Operand)} {xs : List AV} [ht : TyU P t (.slice e)] [hz : TyEl P e sz bytes z] (hp : EvPw env 0 ps xs) (hlen : xs.length = len) (hs : ∀ x ∈ xs, x.cs.length = sz) (h1 : (flat xs).all oneB = true) (hbig : len * sz ≤ 16777216) : OV P C (.buildSlice t len ps.toArray) ty env σ (.list sz xs) := by
  unfold OV
  intro dst pos after guard I w a hg hf
  obtain ⟨vs, hsq, ha⟩ := hp.vals hf
  have hvs := vs_size ha hs h1
  have hrun := run_lit ht.h hz hsq (ha.length ▸ hlen) hvs hbig w
  have hfl := flat_all2 ha h1
  have hm : xs.length ≤ 9223372036854775807 := by
    have hs0 := hz.hs
    have : len ≤ len * sz := Nat.le_mul_of_pos_right _ hs0
    omega
  obtain ⟨hg2, hp2⟩ := hg.lit e (vs.flatMap fun v => v.cells.toList)
  refine ⟨_, _, _, ?_, hg2, hp2, hlen ▸ list_of_lit hg e hfl hs hm⟩
  simp only [execOp, Sem.run_bind]
  rw [show (ps.toArray.map fun (x : Nat × Operand) => match x with | (i, x) => (i, a.eval x)) = (ps.map fun p => (p.1, a.eval p.2)).toArray by simp]
  rw [hrun]
  simp [Sem.run]

theorem SetAt.pre {xs ys zs : List AV} : ∀ {pre : List AV}, SetAt xs 0 ys zs → SetAt (pre ++ xs) pre.length ys (pre ++ zs)
  | [], h => h
  | _ :: pre, h => .s (SetAt.pre (pre := pre) h)
theorem setat_whole : ∀ {xs ys : List AV}, xs.length = ys.length → SetAt xs 0 ys ys
  | [], [], _ => .z
  | [], _ :: _, h => by simp at h
  | _ :: _, [], h => by simp at h
  | _ :: xs, _ :: ys, h => .c (setat_whole (by simpa using h))
/-- The last element is written. -/
theorem setat_last {sz : Nat} {xs : List AV} {z y : AV} (hs : ∀ x ∈ xs, x.cs.length = sz) (h : z.cs.length = y.cs.length) : SetAt (flat (xs ++ [z])) (xs.length * sz) y.cs (flat (xs ++ [y])) := by
  rw [flat_append, flat_append, ← flat_length hs]
  have e : ∀ u : AV, flat [u] = u.cs := fun u => by simp [flat]
  rw [e, e]
  exact SetAt.pre (setat_whole h)
end
end Go.Ax
