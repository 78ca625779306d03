/- The rules for operations that turn nothing in memory. No condition: plain definitions and theorems. -/
import Derived.Test.YtmallgapchjhnaaAx2
import Derived.Tactics2
import Derived.Lib.Strings
import Derived.Deep.MidRow
set_option linter.unusedVariables false
set_option linter.unusedSimpArgs false
namespace Go.Ax
open Go Go.RowKit

/-! ### What is known of types -/
class Ty1 (P : Program) (t : TypeId) : Prop where
  h : ∀ w, (isAgg t).run P w = .ok false w ∧ (sizeOf t).run P w = .ok 1 w
class TyN (P : Program) (t : TypeId) (k : outParam Nat) : Prop where
  h : ∀ w, (isAgg t).run P w = .ok true w ∧ (sizeOf t).run P w = .ok k w
class TySz (P : Program) (t : TypeId) (k : outParam Nat) : Prop where
  h : ∀ w, (sizeOf t).run P w = .ok k w
class TyU (P : Program) (t : TypeId) (u : outParam TypeDesc) : Prop where
  h : P.underlying t = some u
class TyFd (P : Program) (s : TypeId) (j : Nat) (off k : outParam Nat) : Prop where
  h : ∀ b o w, (Instr.fieldAt s (.pointer (some ⟨b, o, none⟩)) j).run P w = .ok (.pointer (some ⟨b, o + off, none⟩)) w

/-! ### Rules -/
section
variable {P : Program} {C : Cx} {Q : Exit → Act → World → Prop} {ops : Array Oper} {rest : List Oper} {env : Env} {ds : List Deferred} {σ : List Ck} {d : Nat} {ty : TypeId} {pos : String} {after : Array Edge} {op : Op}

theorem xl_nil (h : XQ C Q .normal env ds σ) : XL P C ops Q [] env ds σ := fun a w k => wpList_nil (h a w k)

/-- The operation's value, whatever the world: x. -/
def PV (P : Program) (C : Cx) (op : Op) (ty : TypeId) (env : Env) (σ : List Ck) (x : AV) : Prop :=
  ∀ dst pos after guard I w (a : Act), Good C.I0 C.w0 C.T0 I w σ → Fits I w C.n env a → ∃ v, (execOp a.eval ⟨dst, op, ty, pos, after, guard⟩).run P w = .ok (.value v) w ∧ VR I w x v

theorem xl_pv {x : AV} (h : PV P C op ty env σ x) (hd : Nat.ble (d + 1) C.n = true) (k : XL P C ops Q rest ((d, x) :: env) ds σ) : XL P C ops Q (⟨some d, op, ty, pos, after, none⟩ :: rest) env ds σ := by
  rintro a w ⟨I, hg, hf, hds⟩
  obtain ⟨v, hr, hv⟩ := h (some d) pos after none I w a hg hf
  refine wpList_plain rfl fun K hK => ?_
  unfold Oper.wp
  rw [hr]
  exact hK _ _ (k _ _ ⟨I, hg, hf.put (Nat.le_of_ble_eq_true hd) hv, hds⟩)

/-- A guarded operation. -/
theorem xl_skip {j dj : Nat} {t b : Bool} (hj : (ops[j]?).bind (·.dst) = some dj) (ht : lk env dj = some (.val (.bool t))) (hb : (t == b) = false) (hd : Nat.ble (d + 1) C.n = true) (k : XL P C ops Q rest ((d, .val undef) :: env) ds σ) :
    XL P C ops Q (⟨some d, op, ty, pos, after, some (j, b)⟩ :: rest) env ds σ := by
  rintro a w ⟨I, hg, hf, hds⟩
  obtain ⟨u, hu, hr⟩ := hf.get dj _ ht
  rw [hr.val_inv] at hu
  have hw : Region.wanted ⟨some d, op, ty, pos, after, some (j, b)⟩ (yielded ops a.tmps) = false := by
    simp only [Region.wanted, yielded, hj, Option.bind_some, hu]
    cases t <;> cases b <;> simp_all
  unfold wpList
  rw [if_neg (by rw [hw]; simp)]
  exact k _ _ ⟨I, hg, hf.put (Nat.le_of_ble_eq_true hd) (.val undef), hds⟩
theorem xl_skip0 {j dj : Nat} {t b : Bool} (hj : (ops[j]?).bind (·.dst) = some dj) (ht : lk env dj = some (.val (.bool t))) (hb : (t == b) = false) (k : XL P C ops Q rest env ds σ) :
    XL P C ops Q (⟨none, op, ty, pos, after, some (j, b)⟩ :: rest) env ds σ := by
  rintro a w ⟨I, hg, hf, hds⟩
  obtain ⟨u, hu, hr⟩ := hf.get dj _ ht
  rw [hr.val_inv] at hu
  have hw : Region.wanted ⟨none, op, ty, pos, after, some (j, b)⟩ (yielded ops a.tmps) = false := by
    simp only [Region.wanted, yielded, hj, Option.bind_some, hu]
    cases t <;> cases b <;> simp_all
  unfold wpList
  rw [if_neg (by rw [hw]; simp)]
  exact k _ _ ⟨I, hg, hf, hds⟩
theorem xl_take {dst : Option Tmp} {j dj : Nat} {t b : Bool} (hj : (ops[j]?).bind (·.dst) = some dj) (ht : lk env dj = some (.val (.bool t))) (hb : (t == b) = true) (k : XL P C ops Q (⟨dst, op, ty, pos, after, none⟩ :: rest) env ds σ) :
    XL P C ops Q (⟨dst, op, ty, pos, after, some (j, b)⟩ :: rest) env ds σ := by
  rintro a w ⟨I, hg, hf, hds⟩
  obtain ⟨u, hu, hr⟩ := hf.get dj _ ht
  rw [hr.val_inv] at hu
  have hw : Region.wanted ⟨dst, op, ty, pos, after, some (j, b)⟩ (yielded ops a.tmps) = true := by
    simp only [Region.wanted, yielded, hj, Option.bind_some, hu]
    cases t <;> cases b <;> simp_all
  have h := k _ _ ⟨I, hg, hf, hds⟩
  unfold wpList at h ⊢
  rw [if_pos hw]
  rw [if_pos (by rfl)] at h
  exact h
/-- The guard is decided here. -/
theorem xl_guard {dst : Option Tmp} {j dj : Nat} {t b : Bool} (hj : (ops[j]?).bind (·.dst) = some dj) (ht : lk env dj = some (.val (.bool t)))
    (k1 : t = b → XL P C ops Q (⟨dst, op, ty, pos, after, some (j, b)⟩ :: rest) ((dj, .val (.bool b)) :: env) ds σ)
    (k2 : t = !b → XL P C ops Q (⟨dst, op, ty, pos, after, some (j, b)⟩ :: rest) ((dj, .val (.bool (!b))) :: env) ds σ) :
    XL P C ops Q (⟨dst, op, ty, pos, after, some (j, b)⟩ :: rest) env ds σ := by
  have hsub : ∀ t', t = t' → Sub ((dj, .val (.bool t')) :: env) env := fun t' e => e ▸ Sub.cons ht (Sub.refl env)
  rintro a w h
  by_cases e : t = b
  · exact k1 e a w (h.sub (hsub b e))
  · have e' : t = !b := by cases t <;> cases b <;> simp_all
    exact k2 e' a w (h.sub (hsub _ e'))

/-! ### Values -/
theorem pv_move {x : Operand} {y : AV} (h : evl env x = some y) : PV P C (.move x) ty env σ y := fun _ _ _ _ I w a _ hf => ⟨a.eval x, by simp [execOp], hf.eval h⟩
theorem pv_assign {x : Operand} {y : AV} (h : evl env x = some y) : PV P C (.assign x) ty env σ y := fun _ _ _ _ I w a _ hf => ⟨a.eval x, by simp [execOp], hf.eval h⟩
theorem pv_pick_t {c x y : Operand} {z : AV} (hc : evl env c = some (.val (.bool true))) (h : evl env x = some z) : PV P C (.pick c x y) ty env σ z := fun _ _ _ _ I w a _ hf => by
  have h1 := (hf.eval hc).val_inv
  exact ⟨a.eval x, by simp [execOp, h1, asBool], hf.eval h⟩
theorem pv_pick_f {c x y : Operand} {z : AV} (hc : evl env c = some (.val (.bool false))) (h : evl env y = some z) : PV P C (.pick c x y) ty env σ z := fun _ _ _ _ I w a _ hf => by
  have h1 := (hf.eval hc).val_inv
  exact ⟨a.eval y, by simp [execOp, h1, asBool], hf.eval h⟩
theorem pv_nil {x : Operand} {b : Addr} (h : evl env x = some (.val (.pointer (some b)))) : PV P C (.nilCheck x) ty env σ (.val (.pointer (some b))) := fun _ _ _ _ I w a _ hf => by
  have h1 := (hf.eval h).val_inv
  exact ⟨a.eval x, by simp [execOp, h1], hf.eval h⟩
theorem pv_nil_i {x : Operand} {xs : List AV} (h : evl env x = some (.iptr xs)) : PV P C (.nilCheck x) ty env σ (.iptr xs) := fun _ _ _ _ I w a _ hf => by
  have h1 := hf.eval h
  refine ⟨a.eval x, ?_, h1⟩
  cases h2 : a.eval x with
  | pointer p =>
    rw [h2] at h1
    cases h1
    simp [execOp, h2]
  | _ => rw [h2] at h1; cases h1

def intBin (op : BinOp) (k : IntKind) (a b : Int) : Option Value :=
  match op with
  | .add => some (.int k (k.wrap (a + b)))
  | .sub => some (.int k (k.wrap (a - b)))
  | .mul => some (.int k (k.wrap (a * b)))
  | .eql => some (.bool (decide (a = b)))
  | .neq => some (.bool (!decide (a = b)))
  | .lss => some (.bool (decide (a < b)))
  | .leq => some (.bool (decide (a ≤ b)))
  | .gtr => some (.bool (decide (a > b)))
  | .geq => some (.bool (decide (a ≥ b)))
  | .and => some (.int k (k.wrap ((BitVec.ofInt k.bits a &&& BitVec.ofInt k.bits b).toNat)))
  | .or => some (.int k (k.wrap ((BitVec.ofInt k.bits a ||| BitVec.ofInt k.bits b).toNat)))
  | _ => none
theorem pv_bin {op : BinOp} {t t' : TypeId} {x y : Operand} {k : IntKind} {m n : Int} {v : Value} (hx : evl env x = some (.val (.int k m))) (hy : evl env y = some (.val (.int k n))) (h : intBin op k m n = some v) :
    PV P C (.binOp op t x y t') ty env σ (.val v) := fun _ _ _ _ I w a _ hf => by
  have h1 := (hf.eval hx).val_inv
  have h2 := (hf.eval hy).val_inv
  refine ⟨v, ?_, .val v⟩
  cases op <;> simp [intBin] at h <;> subst h <;>
    simp [execOp, h1, h2, eqGuard, binOp, Op.intArith, Op.intCmp, Op.intBits] <;> rfl
theorem pv_shl {t t' : TypeId} {x y : Operand} {k k' : IntKind} {m n : Int} (hx : evl env x = some (.val (.int k m))) (hy : evl env y = some (.val (.int k' n))) (hn : 0 ≤ n) : PV P C (.binOp .shl t x y t') ty env σ (.val (.int k (k.wrap (m * 2 ^ min n.toNat k.bits)))) := fun _ _ _ _ I w a _ hf => by
  have h1 := (hf.eval hx).val_inv
  have h2 := (hf.eval hy).val_inv
  refine ⟨_, ?_, .val _⟩
  have hn' : ¬ n < 0 := by omega
  simp [execOp, h1, h2, eqGuard, binOp, Op.shift, hn']
theorem pv_shr {t t' : TypeId} {x y : Operand} {k k' : IntKind} {m n : Int} (hx : evl env x = some (.val (.int k m))) (hy : evl env y = some (.val (.int k' n))) (hn : 0 ≤ n) : PV P C (.binOp .shr t x y t') ty env σ (.val (.int k (m.fdiv (2 ^ min n.toNat k.bits)))) := fun _ _ _ _ I w a _ hf => by
  have h1 := (hf.eval hx).val_inv
  have h2 := (hf.eval hy).val_inv
  refine ⟨_, ?_, .val _⟩
  have hn' : ¬ n < 0 := by omega
  simp [execOp, h1, h2, eqGuard, binOp, Op.shift, hn']
theorem pv_quo {t t' : TypeId} {x y : Operand} {k : IntKind} {m n : Int} (hx : evl env x = some (.val (.int k m))) (hy : evl env y = some (.val (.int k n))) (h : n ≠ 0) : PV P C (.binOp .quo t x y t') ty env σ (.val (.int k (k.wrap (m.tdiv n)))) := fun _ _ _ _ I w a _ hf => by
  have h1 := (hf.eval hx).val_inv
  have h2 := (hf.eval hy).val_inv
  refine ⟨_, ?_, .val _⟩
  simp [execOp, h1, h2, eqGuard, binOp, Op.intDiv, h]
theorem pv_rem {t t' : TypeId} {x y : Operand} {k : IntKind} {m n : Int} (hx : evl env x = some (.val (.int k m))) (hy : evl env y = some (.val (.int k n))) (h : n ≠ 0) : PV P C (.binOp .rem t x y t') ty env σ (.val (.int k (m.tmod n))) := fun _ _ _ _ I w a _ hf => by
  have h1 := (hf.eval hx).val_inv
  have h2 := (hf.eval hy).val_inv
  refine ⟨_, ?_, .val _⟩
  simp [execOp, h1, h2, eqGuard, binOp, Op.intDiv, h]

theorem bytes_beq (s t : ByteArray) : (s.toList == t.toList) = decide (s = t) := by
  rw [Bool.eq_iff_iff, beq_iff_eq, decide_eq_true_iff]
  constructor
  · intro h
    rw [Lib.toList_data, Lib.toList_data] at h
    cases s
    cases t
    simpa [Array.toList_inj] using h
  · intro h
    rw [h]
theorem pv_str_eq {t t' : TypeId} {x y : Operand} {m n : ByteArray} (hx : evl env x = some (.val (.string m))) (hy : evl env y = some (.val (.string n))) : PV P C (.binOp .eql t x y t') ty env σ (.val (.bool (decide (m = n)))) := fun _ _ _ _ I w a _ hf => by
  have h1 := (hf.eval hx).val_inv
  have h2 := (hf.eval hy).val_inv
  refine ⟨_, ?_, .val _⟩
  rw [← bytes_beq]
  simp [execOp, h1, h2, eqGuard, binOp, Op.stringOp]
theorem pv_str_ne {t t' : TypeId} {x y : Operand} {m n : ByteArray} (hx : evl env x = some (.val (.string m))) (hy : evl env y = some (.val (.string n))) : PV P C (.binOp .neq t x y t') ty env σ (.val (.bool (!decide (m = n)))) := fun _ _ _ _ I w a _ hf => by
  have h1 := (hf.eval hx).val_inv
  have h2 := (hf.eval hy).val_inv
  refine ⟨_, ?_, .val _⟩
  rw [← bytes_beq]
  simp [execOp, h1, h2, eqGuard, binOp, Op.stringOp]
theorem pv_not {t : TypeId} {x : Operand} {b : Bool} (hx : evl env x = some (.val (.bool b))) : PV P C (.unOp .not t x) ty env σ (.val (.bool (!b))) := fun _ _ _ _ I w a _ hf => by
  have h1 := (hf.eval hx).val_inv
  exact ⟨_, by simp [execOp, h1, Op.unary], .val _⟩
theorem pv_neg {t : TypeId} {x : Operand} {k : IntKind} {m : Int} (hx : evl env x = some (.val (.int k m))) : PV P C (.unOp .neg t x) ty env σ (.val (.int k (k.wrap (0 - m)))) := fun _ _ _ _ I w a _ hf => by
  have h1 := (hf.eval hx).val_inv
  exact ⟨_, by simp [execOp, h1, Op.unary, Op.intArith], .val _⟩
theorem pv_conv {s t : TypeId} {x : Operand} {k k' : IntKind} {m : Int} [hs : TyU P s (.int k)] [ht : TyU P t (.int k')] (hx : evl env x = some (.val (.int k m))) : PV P C (.convert s t x) ty env σ (.val (.int k' (k'.wrap m))) := fun _ _ _ _ I w a _ hf => by
  have h1 := (hf.eval hx).val_inv
  refine ⟨_, ?_, .val _⟩
  simp [execOp, h1, convert, run_underlying hs.h, run_underlying ht.h, Conv.intToInt]
theorem pv_extract {x : Operand} {xs : List AV} {i : Nat} {y : AV} (hx : evl env x = some (.tuple xs)) (hi : xs[i]? = some y) : PV P C (.extract x i) ty env σ y := fun _ _ _ _ I w a _ hf => by
  obtain ⟨us, h1, h2⟩ := (hf.eval hx).tuple_inv
  obtain ⟨v, hv, hr⟩ := h2.get hi
  exact ⟨v, by simp [execOp, h1, Instr.extract, hv], hr⟩
theorem pv_func {fn : Fn} : PV P C (.makeFunc fn #[] #[]) ty env σ (.val (.func fn #[] #[])) := fun _ _ _ _ I w a _ hf => ⟨_, by simp [execOp, Instr.makeFunc], .val _⟩
theorem pv_len {t : TypeId} {e : TypeId} {x : Operand} {sz : Nat} {xs : List AV} [ht : TyU P t (.slice e)] (hx : evl env x = some (.list sz xs)) : PV P C (.call { callee := .builtin .len, args := #[x], argTypes := #[t] }) ty env σ (.val (.int .i64 xs.length)) := fun _ _ _ _ I w a _ hf => by
  obtain ⟨A, c, h1, _⟩ := (hf.eval hx).list_inv
  refine ⟨_, ?_, .val _⟩
  simp [execOp, resolve, invoke, builtin, h1, Builtin.len_, run_underlying ht.h, goInt]
theorem pv_len_v {t : TypeId} {e : TypeId} {x : Operand} {A : Option Addr} {n c : Nat} [ht : TyU P t (.slice e)] (hx : evl env x = some (.val (.slice A n c))) : PV P C (.call { callee := .builtin .len, args := #[x], argTypes := #[t] }) ty env σ (.val (.int .i64 n)) := fun _ _ _ _ I w a _ hf => by
  have h1 := (hf.eval hx).val_inv
  refine ⟨_, ?_, .val _⟩
  simp [execOp, resolve, invoke, builtin, h1, Builtin.len_, run_underlying ht.h, goInt]
theorem pv_len_s {t : TypeId} {x : Operand} {s : ByteArray} [ht : TyU P t .string] (hx : evl env x = some (.val (.string s))) : PV P C (.call { callee := .builtin .len, args := #[x], argTypes := #[t] }) ty env σ (.val (.int .i64 s.size)) := fun _ _ _ _ I w a _ hf => by
  have h1 := (hf.eval hx).val_inv
  refine ⟨_, ?_, .val _⟩
  simp [execOp, resolve, invoke, builtin, h1, Builtin.len_, run_underlying ht.h, goInt]
end
end Go.Ax
