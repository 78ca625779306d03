/- The checker's expressions: its methods say what the plain functions say. No condition: plain theorems. -/
import Derived.Test.YtmallgapchjhnaaK2
set_option linter.unusedVariables false
set_option linter.unusedSimpArgs false
namespace Go.Proofs.Ytmallgapchjhnaa
set_option maxRecDepth 100000
open Go Go.Ax
attribute [local irreducible] X XL XE XQ PV

/-- A call that returns or dies of an error, with memory s. -/
def OutF (r : Except Int AV) (s : List Ck) : AE → List Ck → Prop := fun e σ => (match r with
  | .ok x => e = .ret x
  | .error n => e = .panic (.iface 134 (.int .i64 n))) ∧ σ = s
theorem AC_ok {P : Program} {f : FuncId} {args : List AV} {σ s : List Ck} {r : Except Int AV} {x : AV} (h : AC P f args σ (OutF r s)) (hr : r = .ok x) : AC P f args σ (RetIs x s) := h.mono fun e σ' ⟨h1, h2⟩ => by
  subst hr
  exact ⟨h1, h2⟩
theorem AC_err {P : Program} {f : FuncId} {args : List AV} {σ s : List Ck} {r : Except Int AV} {n : Int} (h : AC P f args σ (OutF r s)) (hr : r = .error n) : AC P f args σ (DieIs (.iface 134 (.int .i64 n)) s) := h.mono fun e σ' ⟨h1, h2⟩ => by
  subst hr
  exact ⟨h1, h2⟩
theorem AC_of {P : Program} {f : FuncId} {args : List AV} {σ s : List Ck} {r : Except Int AV} (h1 : ∀ x, r = .ok x → AC P f args σ (RetIs x s)) (h2 : ∀ n, r = .error n → AC P f args σ (DieIs (.iface 134 (.int .i64 n)) s)) : AC P f args σ (OutF r s) := by
  cases r with
  | ok x => exact (h1 x rfl).mono fun e σ' h => h
  | error n => exact (h2 n rfl).mono fun e σ' h => h

theorem fits_c (c : Nat) (ss fs bo mn po fi sc : AV) (vv : Value) (vs : List CVar) (k kd : Int) (v : CVar) (hk0 : 0 ≤ k) (hv : vs[k.toNat]? = some v) :
    AC Try.prog 96 [ptr c, iv k, kv kd] [.ref c 110 [ss, fs, bo, mn, po, fi, .val vv, sc], .vec vv 82 6 (vs.map CVar.av)] (OutF (if v.ty.kind = kd then .ok (.tuple []) else .error 9) [.ref c 110 [ss, fs, bo, mn, po, fi, .val vv, sc], .vec vv 82 6 (vs.map CVar.av)]) := by
  have hlt := (List.getElem?_eq_some_iff.1 hv).1
  refine ac_intro Try.func96 rfl rfl fun I w => ?_
  simp only [argEnv]
  refine x_slc (.there .here) (fun hs => ?_)
  obtain ⟨gvv, cvv, rfl⟩ := hs.full (by simp; omega)
  refine x_region ?_
  refine xl_pv (pv_move rfl) rfl ?_
  refine xl_pv (pv_nil rfl) rfl ?_
  refine xl_pv (pv_field_a rfl) rfl ?_
  refine xl_pv (pv_load1 rfl .here rfl) rfl ?_
  refine xl_pv (pv_move rfl) rfl ?_
  refine xl_pv (pv_at_o rfl rfl (hk0) (by first | omega | (simp; omega))) rfl ?_
  rcases hc : decide (v.ty.kind = kd) with _ | _
  · skip
    refine xl_pv (pv_field_a rfl) rfl ?_
    refine xl_pv (pv_field_a rfl) rfl ?_
    refine xl_pv (pv_load1_o (off := 1) (.there .here) rfl (get_map hv) rfl) rfl ?_
    refine xl_pv (pv_move rfl) rfl ?_
    refine xl_pv (pv_bin rfl rfl rfl) rfl ?_
    refine xl_dies (fail_f 9) rfl (.cons rfl (Wk.of_eq (by first | rfl | rw [hc])) (.cons rfl (Wk.refl _) .nil)) .d rfl ?_
    refine xq_died ?_
    simp at hc; exact ⟨by simp [hc], rfl⟩
  · skip
    refine xl_pv (pv_field_a rfl) rfl ?_
    refine xl_pv (pv_field_a rfl) rfl ?_
    refine xl_pv (pv_load1_o (off := 1) (.there .here) rfl (get_map hv) rfl) rfl ?_
    refine xl_pv (pv_move rfl) rfl ?_
    refine xl_pv (pv_bin rfl rfl rfl) rfl ?_
    refine xl_go (fail_t 9) rfl (.cons rfl (Wk.of_eq (by first | rfl | rw [hc])) (.cons rfl (Wk.refl _) .nil)) .d rfl ?_
    refine xl_nil ?_
    refine xq_done (.inl rfl) _ (res0 rfl) ?_
    simp at hc; exact ⟨by simp [hc], rfl⟩
theorem field_c (c : Nat) (ss fs bo mn po fi sc : AV) (vv : Value) (vs : List CVar) (k : Int) (nm : ByteArray) (v : CVar) (hk0 : 0 ≤ k) (hv : vs[k.toNat]? = some v) (hlen : v.fields.length ≤ 2 ^ 40) :
    AC Try.prog 97 [ptr c, iv k, sv nm] [.ref c 110 [ss, fs, bo, mn, po, fi, .val vv, sc], .vec vv 82 6 (vs.map CVar.av)] (OutF (if 0 ≤ fldF v.fields nm then .ok (iv (fldF v.fields nm)) else .error 8) [.ref c 110 [ss, fs, bo, mn, po, fi, .val vv, sc], .vec vv 82 6 (vs.map CVar.av)]) := by
  have hlt := (List.getElem?_eq_some_iff.1 hv).1
  refine ac_intro Try.func97 rfl rfl fun I w => ?_
  simp only [argEnv]
  refine x_slc (.there .here) (fun hs => ?_)
  obtain ⟨gvv, cvv, rfl⟩ := hs.full (by simp; omega)
  refine x_seq ?_
  refine x_region ?_
  refine xl_pv (pv_assign rfl) rfl ?_
  refine xl_nil ?_
  refine xq_norm (xe_code ?_)
  refine x_seq ?_
  refine x_region ?_
  refine xl_pv (pv_move rfl) rfl ?_
  refine xl_pv (pv_nil rfl) rfl ?_
  refine xl_pv (pv_field_a rfl) rfl ?_
  refine xl_pv (pv_load1 rfl .here rfl) rfl ?_
  refine xl_pv (pv_move rfl) rfl ?_
  refine xl_pv (pv_at_o rfl rfl (hk0) (by first | omega | (simp; omega))) rfl ?_
  refine xl_pv (pv_field_a rfl) rfl ?_
  refine xl_pv (pv_load1_o (off := 5) (.there .here) rfl (get_map hv) rfl) rfl ?_
  refine xl_pv (pv_move rfl) rfl ?_
  refine xl_go (ixStr v.fields nm hlen) rfl (.cons rfl (Wk.refl _) (.cons rfl (Wk.refl _) .nil)) .d rfl ?_
  rcases hc : decide (fldF v.fields nm ≥ 0) with _ | _
  · skip
    refine xl_pv (pv_assign rfl) rfl ?_
    refine xl_nil ?_
    refine xq_norm (xe_code ?_)
    refine x_seq ?_
    refine x_region ?_
    refine xl_pv (pv_move rfl) rfl ?_
    refine xl_pv (pv_bin rfl rfl rfl) rfl ?_
    refine xl_dies (fail_f 8) rfl (.cons rfl (Wk.of_eq (by unfold fldF at hc; rw [hc])) (.cons rfl (Wk.refl _) .nil)) .d rfl ?_
    refine xq_panic ?_
    refine xq_died ?_
    simp at hc; exact ⟨by simp only [if_neg (Int.not_le.2 hc)], rfl⟩
  · skip
    refine xl_pv (pv_assign rfl) rfl ?_
    refine xl_nil ?_
    refine xq_norm (xe_code ?_)
    refine x_seq ?_
    refine x_region ?_
    refine xl_pv (pv_move rfl) rfl ?_
    refine xl_pv (pv_bin rfl rfl rfl) rfl ?_
    refine xl_go (fail_t 8) rfl (.cons rfl (Wk.of_eq (by unfold fldF at hc; rw [hc])) (.cons rfl (Wk.refl _) .nil)) .d rfl ?_
    refine xl_nil ?_
    refine xq_norm (xe_code ?_)
    refine x_seq ?_
    refine x_region ?_
    refine xl_pv (pv_move rfl) rfl ?_
    refine xl_pv (pv_assign rfl) rfl ?_
    refine xl_nil ?_
    refine xq_norm (xe_code ?_)
    refine x_ret ?_
    refine xq_done (.inr rfl) _ (res1 rfl rfl) ?_
    simp at hc; exact ⟨by simp only [if_pos hc]; rfl, rfl⟩
def trimF (s t : ByteArray) : ByteArray := if t.size ≤ s.size ∧ s.extract (s.size - t.size) s.size = t then s.extract 0 (s.size - t.size) else s
theorem hasSuffix_c (s t : ByteArray) (hs : s.size ≤ 2 ^ 40) :
    AC Try.prog 110 [sv s, sv t] [] (RetIs (bv (decide (t.size ≤ s.size) && decide (s.extract (s.size - t.size) s.size = t))) []) := by
  refine ac_intro Try.func110 rfl rfl fun I w => ?_
  simp only [argEnv]
  refine x_seq ?_
  refine x_region ?_
  refine xl_pv (pv_assign rfl) rfl ?_
  refine xl_nil ?_
  refine xq_norm (xe_code ?_)
  refine x_seq ?_
  refine x_region ?_
  refine xl_pv (pv_move rfl) rfl ?_
  refine xl_pv (pv_len_s rfl) rfl ?_
  refine xl_pv (pv_move rfl) rfl ?_
  refine xl_pv (pv_len_s rfl) rfl ?_
  refine xl_pv (pv_bin rfl rfl rfl) rfl ?_
  refine xl_pv (pv_move rfl) rfl ?_
  refine xl_guard rfl rfl (fun h => ?_) (fun h => ?_)
  · skip
    have h1 : t.size ≤ s.size := by simpa using h
    refine xl_take rfl rfl rfl ?_
    refine xl_pv (pv_move rfl) rfl ?_
    refine xl_take rfl rfl rfl ?_
    refine xl_pv (pv_move rfl) rfl ?_
    refine xl_take rfl rfl rfl ?_
    refine xl_pv (pv_len_s rfl) rfl ?_
    refine xl_take rfl rfl rfl ?_
    refine xl_pv (pv_move rfl) rfl ?_
    refine xl_take rfl rfl rfl ?_
    refine xl_pv (pv_len_s rfl) rfl ?_
    refine xl_take rfl rfl rfl ?_
    refine xl_pv (pv_sub rfl rfl (by omega) (by omega)) rfl ?_
    refine xl_take rfl rfl rfl ?_
    refine xl_pv (pv_cut_sl rfl rfl (by omega) (by omega)) rfl ?_
    refine xl_take rfl rfl rfl ?_
    refine xl_pv (pv_move rfl) rfl ?_
    refine xl_take rfl rfl rfl ?_
    refine xl_pv (pv_str_eq rfl rfl) rfl ?_
    refine xl_pv (pv_pick_t rfl rfl) rfl ?_
    refine xl_pv (pv_assign rfl) rfl ?_
    refine xl_nil ?_
    refine xq_norm (xe_code ?_)
    refine x_ret ?_
    refine xq_done (.inr rfl) _ (res1 rfl rfl) ?_
    exact ⟨by simp [h1, show ((s.size : Int) - t.size).toNat = s.size - t.size by omega], rfl⟩
  · skip
    have h1 : ¬ t.size ≤ s.size := by simpa using h
    refine xl_skip rfl rfl rfl rfl ?_
    refine xl_skip rfl rfl rfl rfl ?_
    refine xl_skip rfl rfl rfl rfl ?_
    refine xl_skip rfl rfl rfl rfl ?_
    refine xl_skip rfl rfl rfl rfl ?_
    refine xl_skip rfl rfl rfl rfl ?_
    refine xl_skip rfl rfl rfl rfl ?_
    refine xl_skip rfl rfl rfl rfl ?_
    refine xl_skip rfl rfl rfl rfl ?_
    refine xl_pv (pv_pick_f rfl rfl) rfl ?_
    refine xl_pv (pv_assign rfl) rfl ?_
    refine xl_nil ?_
    refine xq_norm (xe_code ?_)
    refine x_ret ?_
    refine xq_done (.inr rfl) _ (res1 rfl rfl) ?_
    exact ⟨by simp [h1], rfl⟩
theorem trimSuffix0_c (s t : ByteArray) (hs : s.size ≤ 2 ^ 40) :
    AC Try.prog 109 [sv s, sv t] [] (RetIs (sv (trimF s t)) []) := by
  refine ac_intro Try.func109 rfl rfl fun I w => ?_
  simp only [argEnv]
  refine x_seq ?_
  refine x_region ?_
  refine xl_pv (pv_assign rfl) rfl ?_
  refine xl_nil ?_
  refine xq_norm (xe_code ?_)
  refine x_seq ?_
  refine x_seq ?_
  refine x_region ?_
  refine xl_pv (pv_move rfl) rfl ?_
  refine xl_pv (pv_move rfl) rfl ?_
  refine xl_go (hasSuffix_c s t hs) rfl (.cons rfl (Wk.refl _) (.cons rfl (Wk.refl _) .nil)) .d rfl ?_
  refine xl_nil ?_
  refine xq_norm (xe_code ?_)
  refine x_condT rfl (fun h => ?_) (fun h => ?_)
  · skip
    simp only [Bool.and_eq_true, decide_eq_true_eq] at h
    refine x_seq ?_
    refine x_region ?_
    refine xl_pv (pv_move rfl) rfl ?_
    refine xl_pv (pv_move rfl) rfl ?_
    refine xl_pv (pv_len_s rfl) rfl ?_
    refine xl_pv (pv_move rfl) rfl ?_
    refine xl_pv (pv_len_s rfl) rfl ?_
    refine xl_pv (pv_sub rfl rfl (by omega) (by omega)) rfl ?_
    refine xl_pv (pv_cut_sh rfl rfl (by omega) (by omega)) rfl ?_
    refine xl_pv (pv_assign rfl) rfl ?_
    refine xl_nil ?_
    refine xq_norm (xe_code ?_)
    refine x_ret ?_
    refine xq_ret ?_
    refine xq_done (.inr rfl) _ (res1 rfl rfl) ?_
    exact ⟨by rw [trimF, if_pos h, show ((s.size : Int) - t.size).toNat = s.size - t.size by omega], rfl⟩
  · skip
    refine x_skip ?_
    refine xq_norm (xe_code ?_)
    refine x_seq ?_
    refine x_region ?_
    refine xl_pv (pv_move rfl) rfl ?_
    refine xl_pv (pv_assign rfl) rfl ?_
    refine xl_nil ?_
    refine xq_norm (xe_code ?_)
    refine x_ret ?_
    refine xq_done (.inr rfl) _ (res1 rfl rfl) ?_
    exact ⟨by rw [trimF, if_neg (by simpa using h)], rfl⟩
theorem trimSuffix_c (s t : ByteArray) (hs : s.size ≤ 2 ^ 40) :
    AC Try.prog 108 [sv s, sv t] [] (RetIs (sv (trimF s t)) []) := by
  refine ac_intro Try.func108 rfl rfl fun I w => ?_
  simp only [argEnv]
  refine x_seq ?_
  refine x_region ?_
  refine xl_pv (pv_assign rfl) rfl ?_
  refine xl_nil ?_
  refine xq_norm (xe_code ?_)
  refine x_seq ?_
  refine x_region ?_
  refine xl_pv (pv_move rfl) rfl ?_
  refine xl_pv (pv_move rfl) rfl ?_
  refine xl_go (trimSuffix0_c s t hs) rfl (.cons rfl (Wk.refl _) (.cons rfl (Wk.refl _) .nil)) .d rfl ?_
  refine xl_pv (pv_assign rfl) rfl ?_
  refine xl_nil ?_
  refine xq_norm (xe_code ?_)
  refine x_ret ?_
  refine xq_done (.inr rfl) _ (res1 rfl rfl) ?_
  exact ⟨rfl, rfl⟩
def sg : ByteArray := ⟨#[43, 32, 45, 32, 42, 32, 47, 32, 37, 32, 61, 61, 33, 61, 60, 32, 60, 61, 62, 32, 62, 61, 38, 38, 124, 124]⟩
theorem sg_get : ∀ i : Fin 13, signs[i.val]? = some (trimF (sg.extract (2 * i.val) (2 * i.val + 2)) ⟨#[32]⟩) := by decide
theorem sg_num : ∀ i : Fin 13, IntKind.u8.wrap (1 + IntKind.u8.wrap (IntKind.i64.wrap (((2 * i.val : Nat) : Int).tdiv 2))) = (i.val : Int) + 1 := by decide
theorem sign_c (s : ByteArray) : AC Try.prog 107 [sv s] [] (RetIs (kv (signF s)) []) := by
  refine ac_intro Try.func107 rfl rfl fun I w => ?_
  simp only [argEnv]
  refine x_seq ?_
  refine x_region ?_
  refine xl_pv (pv_assign rfl) rfl ?_
  refine xl_nil ?_
  refine xq_norm (xe_code ?_)
  refine x_seq ?_
  refine x_seq ?_
  refine x_region ?_
  refine xl_pv (pv_assign rfl) rfl ?_
  refine xl_nil ?_
  refine xq_norm (xe_code ?_)
  refine x_block ?_
  -- slots turned in the loop and not told: [2]
  refine x_loopS (S := Nat) (fun i => i ≤ 13 ∧ idxF (fun x => decide (s = x)) signs 0 = idxF (fun x => decide (s = x)) (signs.drop i) i) (fun i => 13 - i) (fun i => [(3, iv (2 * i : Nat))]) (fun i => _) (0) (by simp) (.cons rfl (.cons (i := 2) rfl (.cons (i := 0) rfl (.nil _)))) (rfl) ?_
  rintro i ⟨hi, hx⟩
  simp only [List.cons_append, List.nil_append]
  refine x_seq ?_
  refine x_seq ?_
  refine x_region ?_
  refine xl_pv (pv_move rfl) rfl ?_
  refine xl_pv (pv_bin rfl rfl rfl) rfl ?_
  refine xl_nil ?_
  refine xq_norm (xe_code ?_)
  refine x_condT rfl (fun h => ?_) (fun h => ?_)
  · skip
    have hlt : i < 13 := by simp at h; omega
    have hz := sg_get ⟨i, hlt⟩
    have hd := get_drop hz
    refine x_skip ?_
    refine xq_norm (xe_code ?_)
    refine x_seq ?_
    refine x_block ?_
    refine x_seq ?_
    refine x_region ?_
    refine xl_pv (pv_move rfl) rfl ?_
    refine xl_pv (pv_move rfl) rfl ?_
    refine xl_pv (pv_move rfl) rfl ?_
    refine xl_pv (pv_add rfl rfl (by omega) (by omega)) rfl ?_
    refine xl_pv (pv_cut_s rfl rfl rfl (by omega) (by omega) (by show ((2 * i : Nat) : Int) + 2 ≤ ((26 : Nat) : Int); omega)) rfl ?_
    refine xl_go (trimSuffix_c (sg.extract (2 * i) (2 * i + 2)) ⟨#[32]⟩ (by have : sg.size = 26 := rfl; simp [this]; omega)) rfl (.cons rfl (Wk.refl _) (.cons rfl (Wk.refl _) .nil)) .d rfl ?_
    refine xl_pv (pv_str_eq rfl rfl) rfl ?_
    refine xl_nil ?_
    refine xq_norm (xe_code ?_)
    refine x_condT rfl (fun hp => ?_) (fun hp => ?_)
    · skip
      refine x_seq ?_
      refine x_region ?_
      refine xl_pv (pv_move rfl) rfl ?_
      refine xl_pv (pv_quo rfl rfl (by omega)) rfl ?_
      refine xl_pv (pv_conv rfl) rfl ?_
      refine xl_pv (pv_bin rfl rfl rfl) rfl ?_
      refine xl_pv (pv_assign rfl) rfl ?_
      refine xl_nil ?_
      refine xq_norm (xe_code ?_)
      refine x_ret ?_
      refine xq_bret ?_
      refine xq_ret ?_
      refine xq_ret ?_
      refine xq_bret ?_
      refine xq_ret ?_
      refine xq_done (.inr rfl) _ (res1 rfl rfl) ?_
      exact ⟨by rw [signF, hx, hd, idxF, hp]; exact congrArg (fun n => AE.ret (kv n)) (sg_num ⟨i, hlt⟩), rfl⟩
    · skip
      refine x_skip ?_
      refine xq_bnorm ?_
      refine xq_norm (xe_code ?_)
      refine x_region ?_
      refine xl_pv (pv_move rfl) rfl ?_
      refine xl_pv (pv_add rfl rfl (by omega) (by omega)) rfl ?_
      refine xl_pv (pv_assign rfl) rfl ?_
      refine xl_nil ?_
      refine xe_loopS (i + 1) (⟨hlt, by rw [hx, hd, idxF, hp]; rfl⟩) (by first | omega | (simp at *; omega)) (.cons rfl (.nil _)) (.n rfl (.o rfl (.o rfl (.o rfl (.o rfl (.o rfl (.o rfl (.o rfl (.o rfl (.o rfl (.o rfl (.o rfl (.o rfl (.o rfl (.n rfl .b))))))))))))))) (rfl)
  · skip
    refine x_exit ?_
    refine xq_exit ?_
    refine xq_exit ?_
    refine xq_hit ?_
    refine xq_norm (xe_code ?_)
    refine x_seq ?_
    refine x_region ?_
    refine xl_pv (pv_assign rfl) rfl ?_
    refine xl_nil ?_
    refine xq_norm (xe_code ?_)
    refine x_ret ?_
    refine xq_done (.inr rfl) _ (res1 rfl rfl) ?_
    exact ⟨by rw [signF, hx, List.drop_of_length_le (by simp at h; simp [signs]; omega)]; rfl, rfl⟩
end Go.Proofs.Ytmallgapchjhnaa
