/- What the checker says, as plain functions of trees; and its small methods. No condition: plain definitions and theorems. -/
import Derived.Test.YtmallgapchjhnaaK1
set_option linter.unusedVariables false
set_option linter.unusedSimpArgs false
namespace Go.Proofs.Ytmallgapchjhnaa
set_option maxRecDepth 100000
open Go Go.Ax
attribute [local irreducible] X XL XE XQ PV

/-! ### The plain functions -/
def scB (t : CTy) : Bool := decide (t.kind = 1) || decide (t.kind = 2)
def numF (vs : List CVar) (nm : ByteArray) : Int := idxF (fun v => decide (v.name = nm)) vs 0
def funF (P : CProg) (nm : ByteArray) : Int := idxF (fun d => decide (d.name = nm)) P.funcs 0
def strF (P : CProg) (nm : ByteArray) : Int := idxF (fun d => decide (d.name = nm)) P.structs 0
def strL (P : CProg) (nm : ByteArray) : Option (List ByteArray) := if strF P nm < 0 then none else (P.structs[(strF P nm).toNat]?).map CStruct.fields
def knownB (P : CProg) (t : CTy) : Bool := decide (t.kind ≠ 4) || decide (0 ≤ strF P t.name)
def findF (vs : List CVar) (sc : List Int) (nm : ByteArray) : Except Int Int := if 0 ≤ numF vs nm ∧ numF vs nm ∈ sc then .ok (numF vs nm) else .error 8
def fldF (l : List ByteArray) (nm : ByteArray) : Int := idxF (fun x => decide (nm = x)) l 0
def signs : List ByteArray := [⟨#[43]⟩, ⟨#[45]⟩, ⟨#[42]⟩, ⟨#[47]⟩, ⟨#[37]⟩, ⟨#[61, 61]⟩, ⟨#[33, 61]⟩, ⟨#[60]⟩, ⟨#[60, 61]⟩, ⟨#[62]⟩, ⟨#[62, 61]⟩, ⟨#[38, 38]⟩, ⟨#[124, 124]⟩]
def signF (s : ByteArray) : Int := idxF (fun x => decide (s = x)) signs 0 + 1
def valsF (r : Except Int (List CVal × List Int)) (want : List Int) : Except Int (List CVal) := match r with
  | .error e => .error e
  | .ok (l, ks) => if ks = want then .ok l else .error 9
def placeF (vs : List CVar) (sc : List Int) (kind : Int) (name field : ByteArray) (r : Except Int (List CVal × List Int)) : Except Int (CVal × Int) := match findF vs sc name with
  | .error e => .error e
  | .ok k => match vs[k.toNat]? with
    | none => .error 9
    | some v =>
      if kind = 3 then (if scB v.ty then .ok (.mk 2 0 k 0 [], v.ty.kind) else .error 9)
      else if kind = 5 then (if v.ty.kind = 4 then (if 0 ≤ fldF v.fields field then .ok (.mk 4 0 k (fldF v.fields field) [], 1) else .error 8) else .error 9)
      else (if v.ty.kind = 3 then (match valsF r [1] with
        | .error e => .error e
        | .ok l => .ok (.mk 3 0 k 0 l, 1)) else .error 9)
def bang : ByteArray := ⟨#[33]⟩
def dash : ByteArray := ⟨#[45]⟩
def unaryF (op : ByteArray) (r : Except Int (List CVal × List Int)) : Except Int (CVal × Int) :=
  match valsF r [if op = bang then 2 else 1] with
  | .error e => .error e
  | .ok l => if op = bang then .ok (.mk 5 14 0 0 l, 2) else if op = dash then .ok (.mk 5 15 0 0 l, 1) else .error 9
def inK (o : Int) (ks : List Int) : Int := if o = 12 ∨ o = 13 then 2 else if (o = 6 ∨ o = 7) ∧ ks.head? = some 2 then 2 else 1
def outK (o : Int) : Int := if o = 12 ∨ o = 13 ∨ o = 6 ∨ o = 7 ∨ o = 8 ∨ o = 9 ∨ o = 10 ∨ o = 11 then 2 else 1
def binaryF (kind : Int) (op : ByteArray) (r : Except Int (List CVal × List Int)) : Except Int (CVal × Int) := match r with
  | .error e => .error e
  | .ok (l, ks) => if kind = 7 ∧ signF op ≠ 0 ∧ ks = [inK (signF op) ks, inK (signF op) ks] then .ok (.mk 6 (signF op) 0 0 l, outK (signF op)) else .error 9
mutual
def expF (vs : List CVar) (sc : List Int) : CExp → Except Int (CVal × Int)
  | .mk kind num name field op kids =>
    if kind = 1 then .ok (.mk 1 0 0 num [], 1)
    else if kind = 2 then .ok (.mk 1 0 0 (if num = 0 then 0 else 1) [], 2)
    else if kind = 3 ∨ kind = 4 ∨ kind = 5 then placeF vs sc kind name field (expsF vs sc kids)
    else if kind = 6 then unaryF op (expsF vs sc kids)
    else binaryF kind op (expsF vs sc kids)
def expsF (vs : List CVar) (sc : List Int) : List CExp → Except Int (List CVal × List Int)
  | [] => .ok ([], [])
  | x :: r => match expF vs sc x with
    | .error e => .error e
    | .ok (v, k) => match expsF vs sc r with
      | .error e => .error e
      | .ok (l, ks) => .ok (v :: l, k :: ks)
end

/-! ### The small methods -/
theorem idx_lt {α : Type} (p : α → Bool) : ∀ (xs : List α) (k : Nat), 0 ≤ idxF p xs k → ∃ i x, idxF p xs k = ((k + i : Nat) : Int) ∧ xs[i]? = some x ∧ p x = true
  | [], k, h => by simp [idxF] at h
  | x :: r, k, h => by
    rw [idxF] at h ⊢
    cases hp : p x with
    | true => exact ⟨0, x, by simp, rfl, hp⟩
    | false =>
      rw [hp] at h
      obtain ⟨i, y, h1, h2, h3⟩ := idx_lt p r (k + 1) (by simpa using h)
      exact ⟨i + 1, y, by simp [h1]; omega, by simpa using h2, h3⟩

theorem number1_c (v : CVar) (b : Nat) (nm : ByteArray) :
    AC Try.prog 101 [v.av, ptr b] [.ref b 9 [sv nm]] (RetIs (bv (decide (v.name = nm))) [.ref b 9 [sv nm]]) := by
  refine ac_intro Try.func101 rfl rfl fun I w => ?_
  simp only [argEnv]
  refine x_seq ?_
  refine x_region ?_
  refine xl_box rfl (by rfl) rfl (fun b2 => ?_)
  refine xl_pv (pv_assign rfl) rfl ?_
  refine xl_nil ?_
  refine xq_norm (xe_code ?_)
  refine x_seq ?_
  refine x_region ?_
  refine xl_pv (pv_field_a rfl) rfl ?_
  refine xl_pv (pv_load1 rfl .here rfl) rfl ?_
  refine xl_pv (pv_load1 rfl (.there .here) rfl) rfl ?_
  refine xl_pv (pv_str_eq rfl rfl) rfl ?_
  refine xl_pv (pv_assign rfl) rfl ?_
  refine xl_nil ?_
  refine xq_norm (xe_code ?_)
  refine x_ret ?_
  refine xq_drop .here ?_
  refine xq_done (.inr rfl) _ (res1 rfl rfl) ?_
  exact ⟨rfl, rfl⟩
theorem number_c (c : Nat) (ss fs bo mn po fi sc : AV) (vv : Value) (vs : List CVar) (nm : ByteArray) (hlen : vs.length ≤ 2 ^ 40) :
    AC Try.prog 93 [ptr c, sv nm] [.ref c 110 [ss, fs, bo, mn, po, fi, .val vv, sc], .vec vv 82 6 (vs.map CVar.av)] (RetIs (iv (numF vs nm)) [.ref c 110 [ss, fs, bo, mn, po, fi, .val vv, sc], .vec vv 82 6 (vs.map CVar.av)]) := by
  refine ac_intro Try.func93 rfl rfl fun I w => ?_
  simp only [argEnv]
  refine x_seq ?_
  refine x_region ?_
  refine xl_box rfl (by rfl) rfl (fun b3 => ?_)
  refine xl_pv (pv_assign rfl) rfl ?_
  refine xl_nil ?_
  refine xq_norm (xe_code ?_)
  refine x_seq ?_
  refine x_region ?_
  refine xl_pv (pv_move rfl) rfl ?_
  refine xl_pv (pv_nil rfl) rfl ?_
  refine xl_pv (pv_field_a rfl) rfl ?_
  refine xl_pv (pv_load1 rfl (.there .here) rfl) rfl ?_
  refine xl_pv (pv_clo (.cons rfl .nil)) rfl ?_
  refine xl_go (ixVar vv vs (fun v => decide (v.name = nm)) _ b3 9 [sv nm] (fun v _ => number1_c v b3 nm) hlen) rfl (.cons rfl (Wk.refl _) (.cons rfl (Wk.refl _) .nil)) (.x (.k (.x .d))) rfl ?_
  refine xl_pv (pv_assign rfl) rfl ?_
  refine xl_nil ?_
  refine xq_norm (xe_code ?_)
  refine x_ret ?_
  refine xq_drop .here ?_
  refine xq_done (.inr rfl) _ (res1 rfl rfl) ?_
  exact ⟨rfl, rfl⟩
theorem function1_c (v : CDecl) (b : Nat) (nm : ByteArray) :
    AC Try.prog 67 [v.av, ptr b] [.ref b 9 [sv nm]] (RetIs (bv (decide (v.name = nm))) [.ref b 9 [sv nm]]) := by
  refine ac_intro Try.func67 rfl rfl fun I w => ?_
  simp only [argEnv]
  refine x_seq ?_
  refine x_region ?_
  refine xl_box rfl (by rfl) rfl (fun b2 => ?_)
  refine xl_pv (pv_assign rfl) rfl ?_
  refine xl_nil ?_
  refine xq_norm (xe_code ?_)
  refine x_seq ?_
  refine x_region ?_
  refine xl_pv (pv_field_a rfl) rfl ?_
  refine xl_pv (pv_load1 rfl .here rfl) rfl ?_
  refine xl_pv (pv_load1 rfl (.there .here) rfl) rfl ?_
  refine xl_pv (pv_str_eq rfl rfl) rfl ?_
  refine xl_pv (pv_assign rfl) rfl ?_
  refine xl_nil ?_
  refine xq_norm (xe_code ?_)
  refine x_ret ?_
  refine xq_drop .here ?_
  refine xq_done (.inr rfl) _ (res1 rfl rfl) ?_
  exact ⟨rfl, rfl⟩
theorem function_c (P : CProg) (c : Nat) (bo mn po fi vo sc : AV) (nm : ByteArray) (hlen : P.funcs.length ≤ 2 ^ 40) :
    AC Try.prog 53 [ptr c, sv nm] [.ref c 110 [.list 2 (P.structs.map CStruct.av), .list 7 (P.funcs.map CDecl.av), bo, mn, po, fi, vo, sc]] (RetIs (iv (funF P nm)) [.ref c 110 [.list 2 (P.structs.map CStruct.av), .list 7 (P.funcs.map CDecl.av), bo, mn, po, fi, vo, sc]]) := by
  refine ac_intro Try.func53 rfl rfl fun I w => ?_
  simp only [argEnv]
  refine x_seq ?_
  refine x_region ?_
  refine xl_box rfl (by rfl) rfl (fun b3 => ?_)
  refine xl_pv (pv_assign rfl) rfl ?_
  refine xl_nil ?_
  refine xq_norm (xe_code ?_)
  refine x_seq ?_
  refine x_region ?_
  refine xl_pv (pv_move rfl) rfl ?_
  refine xl_pv (pv_nil rfl) rfl ?_
  refine xl_pv (pv_field_a rfl) rfl ?_
  refine xl_pv (pv_field_a rfl) rfl ?_
  refine xl_pv (pv_load1 rfl (.there .here) rfl) rfl ?_
  refine xl_pv (pv_clo (.cons rfl .nil)) rfl ?_
  refine xl_go (ixDecl P.funcs (fun d => decide (d.name = nm)) _ b3 9 [sv nm] (fun v _ => function1_c v b3 nm) hlen) rfl (.cons rfl (Wk.refl _) (.cons rfl (Wk.refl _) .nil)) (.x .d) rfl ?_
  refine xl_pv (pv_assign rfl) rfl ?_
  refine xl_nil ?_
  refine xq_norm (xe_code ?_)
  refine x_ret ?_
  refine xq_drop .here ?_
  refine xq_done (.inr rfl) _ (res1 rfl rfl) ?_
  exact ⟨rfl, rfl⟩
theorem structure1_c (v : CStruct) (b : Nat) (nm : ByteArray) :
    AC Try.prog 85 [v.av, ptr b] [.ref b 9 [sv nm]] (RetIs (bv (decide (v.name = nm))) [.ref b 9 [sv nm]]) := by
  refine ac_intro Try.func85 rfl rfl fun I w => ?_
  simp only [argEnv]
  refine x_seq ?_
  refine x_region ?_
  refine xl_box rfl (by rfl) rfl (fun b2 => ?_)
  refine xl_pv (pv_assign rfl) rfl ?_
  refine xl_nil ?_
  refine xq_norm (xe_code ?_)
  refine x_seq ?_
  refine x_region ?_
  refine xl_pv (pv_field_a rfl) rfl ?_
  refine xl_pv (pv_load1 rfl .here rfl) rfl ?_
  refine xl_pv (pv_load1 rfl (.there .here) rfl) rfl ?_
  refine xl_pv (pv_str_eq rfl rfl) rfl ?_
  refine xl_pv (pv_assign rfl) rfl ?_
  refine xl_nil ?_
  refine xq_norm (xe_code ?_)
  refine x_ret ?_
  refine xq_drop .here ?_
  refine xq_done (.inr rfl) _ (res1 rfl rfl) ?_
  exact ⟨rfl, rfl⟩
theorem structure_c (P : CProg) (c : Nat) (bo mn po fi vo sc : AV) (nm : ByteArray) (hlen : P.structs.length ≤ 2 ^ 40) :
    AC Try.prog 78 [ptr c, sv nm] [.ref c 110 [.list 2 (P.structs.map CStruct.av), .list 7 (P.funcs.map CDecl.av), bo, mn, po, fi, vo, sc]] (RetIs (.tuple [strs ((strL P nm).getD []), bv (decide (0 ≤ strF P nm))]) [.ref c 110 [.list 2 (P.structs.map CStruct.av), .list 7 (P.funcs.map CDecl.av), bo, mn, po, fi, vo, sc]]) := by
  refine ac_intro Try.func78 rfl rfl fun I w => ?_
  simp only [argEnv]
  refine x_seq ?_
  refine x_region ?_
  refine xl_box rfl (by rfl) rfl (fun b3 => ?_)
  refine xl_pv (pv_assign rfl) rfl ?_
  refine xl_pv (pv_assign rfl) rfl ?_
  refine xl_nil ?_
  refine xq_norm (xe_code ?_)
  refine x_seq ?_
  refine x_region ?_
  refine xl_pv (pv_move rfl) rfl ?_
  refine xl_pv (pv_nil rfl) rfl ?_
  refine xl_pv (pv_field_a rfl) rfl ?_
  refine xl_pv (pv_field_a rfl) rfl ?_
  refine xl_pv (pv_load1 rfl (.there .here) rfl) rfl ?_
  refine xl_pv (pv_clo (.cons rfl .nil)) rfl ?_
  refine xl_go (ixStruct P.structs (fun d => decide (d.name = nm)) _ b3 9 [sv nm] (fun v _ => structure1_c v b3 nm) hlen) rfl (.cons rfl (Wk.refl _) (.cons rfl (Wk.refl _) .nil)) (.x .d) rfl ?_
  refine xl_pv (pv_assign rfl) rfl ?_
  refine xl_nil ?_
  refine xq_norm (xe_code ?_)
  refine x_seq ?_
  refine x_seq ?_
  refine x_region ?_
  refine xl_pv (pv_move rfl) rfl ?_
  refine xl_pv (pv_bin rfl rfl rfl) rfl ?_
  refine xl_nil ?_
  refine xq_norm (xe_code ?_)
  refine x_condT rfl (fun h => ?_) (fun h => ?_)
  · skip
    have h1 : strF P nm < 0 := by simpa [strF] using h
    refine x_seq ?_
    refine x_region ?_
    refine xl_pv (pv_assign rfl) rfl ?_
    refine xl_pv (pv_assign rfl) rfl ?_
    refine xl_nil ?_
    refine xq_norm (xe_code ?_)
    refine x_ret ?_
    refine xq_ret ?_
    refine xq_sub (.cons_wk (i := 4) (x := strs []) rfl (Wk.nil 1) (Sub.refl _)) ?_
    refine xq_drop .here ?_
    refine xq_done (.inr rfl) _ (res2 rfl rfl rfl) ?_
    exact ⟨by simp [strL, h1], rfl⟩
  · skip
    have h1 : 0 ≤ strF P nm := by simpa [strF] using h
    obtain ⟨i, z, hi, hz, _⟩ := idx_lt _ _ _ h1
    have hz' : P.structs[(strF P nm).toNat]? = some z := by rw [strF, hi]; simpa using hz
    refine x_skip ?_
    refine xq_norm (xe_code ?_)
    refine x_seq ?_
    refine x_region ?_
    refine xl_pv (pv_move rfl) rfl ?_
    refine xl_pv (pv_nil rfl) rfl ?_
    refine xl_pv (pv_field_a rfl) rfl ?_
    refine xl_pv (pv_field_a rfl) rfl ?_
    refine xl_pv (pv_load1 rfl (.there .here) rfl) rfl ?_
    refine xl_pv (pv_move rfl) rfl ?_
    refine xl_pv (pv_at rfl rfl (h1) ((get_map hz'))) rfl ?_
    refine xl_pv (pv_field_i rfl) rfl ?_
    refine xl_pv (pv_load1_i rfl rfl) rfl ?_
    refine xl_pv (pv_assign rfl) rfl ?_
    refine xl_pv (pv_assign rfl) rfl ?_
    refine xl_nil ?_
    refine xq_norm (xe_code ?_)
    refine x_ret ?_
    refine xq_drop .here ?_
    refine xq_done (.inr rfl) _ (res2 rfl rfl rfl) ?_
    exact ⟨by simp [strL, h1, hz', Int.not_lt.2 h1], rfl⟩
theorem known_c (P : CProg) (c : Nat) (bo mn po fi vo sc : AV) (t : CTy) (hlen : P.structs.length ≤ 2 ^ 40) :
    AC Try.prog 63 [ptr c, t.av] [.ref c 110 [.list 2 (P.structs.map CStruct.av), .list 7 (P.funcs.map CDecl.av), bo, mn, po, fi, vo, sc]] (RetIs (bv (knownB P t)) [.ref c 110 [.list 2 (P.structs.map CStruct.av), .list 7 (P.funcs.map CDecl.av), bo, mn, po, fi, vo, sc]]) := by
  refine ac_intro Try.func63 rfl rfl fun I w => ?_
  simp only [argEnv]
  refine x_seq ?_
  refine x_region ?_
  refine xl_box rfl (by rfl) rfl (fun b3 => ?_)
  refine xl_pv (pv_assign rfl) rfl ?_
  refine xl_nil ?_
  refine xq_norm (xe_code ?_)
  refine x_seq ?_
  refine x_region ?_
  refine xl_pv (pv_move rfl) rfl ?_
  refine xl_pv (pv_field_a rfl) rfl ?_
  refine xl_pv (pv_load1 rfl .here rfl) rfl ?_
  refine xl_go (structure_c P c bo mn po fi vo sc t.name hlen) rfl (.cons rfl (Wk.refl _) (.cons rfl (Wk.refl _) .nil)) (.k (.x .d)) rfl ?_
  refine xl_pv (pv_move rfl) rfl ?_
  refine xl_pv (pv_extract rfl rfl) rfl ?_
  refine xl_pv (pv_extract rfl rfl) rfl ?_
  refine xl_pv (pv_assign rfl) rfl ?_
  refine xl_pv (pv_assign rfl) rfl ?_
  refine xl_nil ?_
  refine xq_norm (xe_code ?_)
  refine x_seq ?_
  refine x_region ?_
  refine xl_pv (pv_field_a rfl) rfl ?_
  refine xl_pv (pv_load1 rfl .here rfl) rfl ?_
  refine xl_pv (pv_bin rfl rfl rfl) rfl ?_
  refine xl_pv (pv_move rfl) rfl ?_
  refine xl_guard rfl rfl (fun h => ?_) (fun h => ?_)
  · skip
    refine xl_take rfl rfl rfl ?_
    refine xl_pv (pv_move rfl) rfl ?_
    refine xl_pv (pv_pick_f rfl rfl) rfl ?_
    refine xl_pv (pv_assign rfl) rfl ?_
    refine xl_nil ?_
    refine xq_norm (xe_code ?_)
    refine x_ret ?_
    refine xq_drop .here ?_
    refine xq_done (.inr rfl) _ (res1 rfl rfl) ?_
    simp at h; exact ⟨by simp [knownB, h], rfl⟩
  · skip
    refine xl_skip rfl rfl rfl rfl ?_
    refine xl_pv (pv_pick_t rfl rfl) rfl ?_
    refine xl_pv (pv_assign rfl) rfl ?_
    refine xl_nil ?_
    refine xq_norm (xe_code ?_)
    refine x_ret ?_
    refine xq_drop .here ?_
    refine xq_done (.inr rfl) _ (res1 rfl rfl) ?_
    simp at h; exact ⟨by simp [knownB, h], rfl⟩
theorem find_ok (c : Nat) (ss fs bo mn po fi : AV) (vv vc : Value) (vs : List CVar) (sc : List Int) (nm : ByteArray) (hlen : vs.length ≤ 2 ^ 40) (hsc : sc.length ≤ 2 ^ 40) {k : Int} (hf : findF vs sc nm = .ok k) :
    AC Try.prog 95 [ptr c, sv nm] [.ref c 110 [ss, fs, bo, mn, po, fi, .val vv, .val vc], .vec vv 82 6 (vs.map CVar.av), .vec vc 3 1 (sc.map iv)] (RetIs (iv k) [.ref c 110 [ss, fs, bo, mn, po, fi, .val vv, .val vc], .vec vv 82 6 (vs.map CVar.av), .vec vc 3 1 (sc.map iv)]) := by
  refine ac_intro Try.func95 rfl rfl fun I w => ?_
  simp only [argEnv]
  have hk : 0 ≤ numF vs nm ∧ numF vs nm ∈ sc ∧ numF vs nm = k := by
    unfold findF at hf
    split at hf
    · rename_i h; cases hf; exact ⟨h.1, h.2, rfl⟩
    · cases hf
  obtain ⟨hk1, hk2, rfl⟩ := hk
  refine x_seq ?_
  refine x_region ?_
  refine xl_pv (pv_assign rfl) rfl ?_
  refine xl_nil ?_
  refine xq_norm (xe_code ?_)
  refine x_seq ?_
  refine x_region ?_
  refine xl_pv (pv_move rfl) rfl ?_
  refine xl_pv (pv_move rfl) rfl ?_
  refine xl_go (number_c c ss fs bo mn po fi (.val vc) vv vs nm hlen) rfl (.cons rfl (Wk.refl _) (.cons rfl (Wk.refl _) .nil)) (.x (.x .d)) rfl ?_
  refine xl_pv (pv_assign rfl) rfl ?_
  refine xl_nil ?_
  refine xq_norm (xe_code ?_)
  refine x_seq ?_
  refine x_region ?_
  refine xl_pv (pv_move rfl) rfl ?_
  refine xl_pv (pv_bin rfl rfl rfl) rfl ?_
  refine xl_pv (pv_move rfl) rfl ?_
  refine xl_guard rfl rfl (fun h => ?_) (fun h => ?_)
  · skip
    refine xl_take rfl rfl rfl ?_
    refine xl_pv (pv_move rfl) rfl ?_
    refine xl_take rfl rfl rfl ?_
    refine xl_pv (pv_nil rfl) rfl ?_
    refine xl_take rfl rfl rfl ?_
    refine xl_pv (pv_field_a rfl) rfl ?_
    refine xl_take rfl rfl rfl ?_
    refine xl_pv (pv_load1 rfl .here rfl) rfl ?_
    refine xl_take rfl rfl rfl ?_
    refine xl_pv (pv_move rfl) rfl ?_
    refine xl_take rfl rfl rfl ?_
    refine xl_go (hasInt vc sc (numF vs nm) hsc) rfl (.cons rfl (Wk.refl _) (.cons rfl (Wk.refl _) .nil)) (.k (.k (.x .d))) rfl ?_
    have e : decide (numF vs nm ∈ sc) = true := decide_eq_true hk2
    rw [e]
    refine xl_pv (pv_pick_t rfl rfl) rfl ?_
    refine xl_go (fail_t 8) rfl (.cons rfl (Wk.refl _) (.cons rfl (Wk.refl _) .nil)) .d rfl ?_
    refine xl_nil ?_
    refine xq_norm (xe_code ?_)
    refine x_seq ?_
    refine x_region ?_
    refine xl_pv (pv_move rfl) rfl ?_
    refine xl_pv (pv_assign rfl) rfl ?_
    refine xl_nil ?_
    refine xq_norm (xe_code ?_)
    refine x_ret ?_
    refine xq_done (.inr rfl) _ (res1 rfl rfl) ?_
    exact ⟨rfl, rfl⟩
  · skip
    simp at h; omega
theorem find_no (c : Nat) (ss fs bo mn po fi : AV) (vv vc : Value) (vs : List CVar) (sc : List Int) (nm : ByteArray) (hlen : vs.length ≤ 2 ^ 40) (hsc : sc.length ≤ 2 ^ 40) {e : Int} (hf : findF vs sc nm = .error e) :
    AC Try.prog 95 [ptr c, sv nm] [.ref c 110 [ss, fs, bo, mn, po, fi, .val vv, .val vc], .vec vv 82 6 (vs.map CVar.av), .vec vc 3 1 (sc.map iv)] (DieIs (.iface 134 (.int .i64 e)) [.ref c 110 [ss, fs, bo, mn, po, fi, .val vv, .val vc], .vec vv 82 6 (vs.map CVar.av), .vec vc 3 1 (sc.map iv)]) := by
  refine ac_intro Try.func95 rfl rfl fun I w => ?_
  simp only [argEnv]
  have hk : ¬ (0 ≤ numF vs nm ∧ numF vs nm ∈ sc) ∧ e = 8 := by
    unfold findF at hf
    split at hf
    · cases hf
    · rename_i h; cases hf; exact ⟨h, rfl⟩
  obtain ⟨hk1, rfl⟩ := hk
  refine x_seq ?_
  refine x_region ?_
  refine xl_pv (pv_assign rfl) rfl ?_
  refine xl_nil ?_
  refine xq_norm (xe_code ?_)
  refine x_seq ?_
  refine x_region ?_
  refine xl_pv (pv_move rfl) rfl ?_
  refine xl_pv (pv_move rfl) rfl ?_
  refine xl_go (number_c c ss fs bo mn po fi (.val vc) vv vs nm hlen) rfl (.cons rfl (Wk.refl _) (.cons rfl (Wk.refl _) .nil)) (.x (.x .d)) rfl ?_
  refine xl_pv (pv_assign rfl) rfl ?_
  refine xl_nil ?_
  refine xq_norm (xe_code ?_)
  refine x_seq ?_
  refine x_region ?_
  refine xl_pv (pv_move rfl) rfl ?_
  refine xl_pv (pv_bin rfl rfl rfl) rfl ?_
  refine xl_pv (pv_move rfl) rfl ?_
  refine xl_guard rfl rfl (fun h => ?_) (fun h => ?_)
  · skip
    refine xl_take rfl rfl rfl ?_
    refine xl_pv (pv_move rfl) rfl ?_
    refine xl_take rfl rfl rfl ?_
    refine xl_pv (pv_nil rfl) rfl ?_
    refine xl_take rfl rfl rfl ?_
    refine xl_pv (pv_field_a rfl) rfl ?_
    refine xl_take rfl rfl rfl ?_
    refine xl_pv (pv_load1 rfl .here rfl) rfl ?_
    refine xl_take rfl rfl rfl ?_
    refine xl_pv (pv_move rfl) rfl ?_
    refine xl_take rfl rfl rfl ?_
    refine xl_go (hasInt vc sc (numF vs nm) hsc) rfl (.cons rfl (Wk.refl _) (.cons rfl (Wk.refl _) .nil)) (.k (.k (.x .d))) rfl ?_
    have e : decide (numF vs nm ∈ sc) = false := decide_eq_false (fun hm => hk1 ⟨by simpa using h, hm⟩)
    rw [e]
    refine xl_pv (pv_pick_t rfl rfl) rfl ?_
    refine xl_dies (fail_f 8) rfl (.cons rfl (Wk.refl _) (.cons rfl (Wk.refl _) .nil)) .d rfl ?_
    refine xq_panic ?_
    refine xq_died ?_
    exact ⟨rfl, rfl⟩
  · skip
    refine xl_skip rfl rfl rfl rfl ?_
    refine xl_skip rfl rfl rfl rfl ?_
    refine xl_skip rfl rfl rfl rfl ?_
    refine xl_skip rfl rfl rfl rfl ?_
    refine xl_skip rfl rfl rfl rfl ?_
    refine xl_skip rfl rfl rfl rfl ?_
    refine xl_pv (pv_pick_f rfl rfl) rfl ?_
    refine xl_dies (fail_f 8) rfl (.cons rfl (Wk.refl _) (.cons rfl (Wk.refl _) .nil)) .d rfl ?_
    refine xq_panic ?_
    refine xq_died ?_
    exact ⟨rfl, rfl⟩
end Go.Proofs.Ytmallgapchjhnaa
