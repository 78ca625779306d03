/- The checker's small functions: what each computes. No condition: plain theorems. -/
import Derived.Test.YtmallgapchjhnaaK0
set_option linter.unusedVariables false
set_option linter.unusedSimpArgs false
namespace Go.Proofs.Ytmallgapchjhnaa
set_option maxRecDepth 100000
open Go Go.Ax
attribute [local irreducible] X XL XE XQ PV

theorem idx_ge {α : Type} (p : α → Bool) : ∀ (xs : List α) (k : Nat), decide (idxF p xs k ≥ 0) = xs.any p
  | [], k => rfl
  | x :: r, k => by
    rw [idxF, List.any_cons]
    cases h : p x with
    | true => simp
    | false => simp [idx_ge p r (k + 1)]
theorem idx_mem {α : Type} [DecidableEq α] (s : α) (xs : List α) (k : Nat) : decide (idxF (fun x => decide (s = x)) xs k ≥ 0) = decide (s ∈ xs) := by
  rw [idx_ge, Bool.eq_iff_iff]
  simp [List.any_eq_true]
theorem flat_map1 {α : Type} (f : α → AV) (hf : ∀ x, (f x).cs = [f x]) (xs : List α) : flat (xs.map f) = xs.map f := by
  induction xs with
  | nil => rfl
  | cons x r ih => rw [List.map_cons, flat_cons, hf, ih]; rfl
theorem ones_iv (xs : List Int) : (flat (xs.map iv)).all oneB = true := by
  rw [flat_map1 iv (fun _ => rfl)]
  simp [oneB, Value.oneCell']
theorem ones_sv (xs : List ByteArray) : (flat (xs.map sv)).all oneB = true := by
  rw [flat_map1 sv (fun _ => rfl)]
  simp [oneB, Value.oneCell']
theorem scalar_c (t : CTy) :
    AC Try.prog 62 [t.av] [] (RetIs (bv (decide (t.kind = 1) || decide (t.kind = 2))) []) := by
  refine ac_intro Try.func62 rfl rfl fun I w => ?_
  simp only [argEnv]
  refine x_seq ?_
  refine x_region ?_
  refine xl_box rfl (by rfl) rfl (fun b1 => ?_)
  refine xl_pv (pv_assign rfl) rfl ?_
  refine xl_nil ?_
  refine xq_norm (xe_code ?_)
  refine x_seq ?_
  refine x_region ?_
  refine xl_pv (pv_field_a rfl) rfl ?_
  refine xl_pv (pv_load1 rfl .here rfl) rfl ?_
  refine xl_pv (pv_bin rfl rfl rfl) rfl ?_
  refine xl_pv (pv_move rfl) rfl ?_
  refine xl_guard rfl rfl (fun h => ?_) (fun h => ?_)
  · skip
    refine xl_take rfl rfl rfl ?_
    refine xl_pv (pv_field_a rfl) rfl ?_
    refine xl_take rfl rfl rfl ?_
    refine xl_pv (pv_load1 rfl .here rfl) rfl ?_
    refine xl_take rfl rfl rfl ?_
    refine xl_pv (pv_bin rfl rfl rfl) rfl ?_
    refine xl_pv (pv_pick_f rfl rfl) rfl ?_
    refine xl_pv (pv_assign rfl) rfl ?_
    refine xl_nil ?_
    refine xq_norm (xe_code ?_)
    refine x_ret ?_
    refine xq_drop .here ?_
    refine xq_done (.inr rfl) _ (res1 rfl rfl) ?_
    simp at h; exact ⟨by simp [h], rfl⟩
  · skip
    refine xl_skip rfl rfl rfl rfl ?_
    refine xl_skip rfl rfl rfl rfl ?_
    refine xl_skip rfl rfl rfl rfl ?_
    refine xl_pv (pv_pick_t rfl rfl) rfl ?_
    refine xl_pv (pv_assign rfl) rfl ?_
    refine xl_nil ?_
    refine xq_norm (xe_code ?_)
    refine x_ret ?_
    refine xq_drop .here ?_
    refine xq_done (.inr rfl) _ (res1 rfl rfl) ?_
    simp at h; exact ⟨by simp [h], rfl⟩

theorem fail_t (e : Int) : AC Try.prog 54 [bv true, iv e] [] (RetIs (.tuple []) []) := by
  refine ac_intro Try.func54 rfl rfl fun I w => ?_
  simp only [argEnv]
  refine x_seq ?_
  refine x_region ?_
  refine xl_pv (pv_move rfl) rfl ?_
  refine xl_pv (pv_not rfl) rfl ?_
  refine xl_nil ?_
  refine xq_norm (xe_code ?_)
  refine x_cond rfl (fun h => nomatch h) (fun _ => ?_)
  refine x_skip ?_
  refine xq_done (.inl rfl) _ (res0 rfl) ?_
  exact ⟨rfl, rfl⟩
theorem fail_f (e : Int) : AC Try.prog 54 [bv false, iv e] [] (DieIs (.iface 134 (.int .i64 e)) []) := by
  refine ac_intro Try.func54 rfl rfl fun I w => ?_
  simp only [argEnv]
  refine x_seq ?_
  refine x_region ?_
  refine xl_pv (pv_move rfl) rfl ?_
  refine xl_pv (pv_not rfl) rfl ?_
  refine xl_nil ?_
  refine xq_norm (xe_code ?_)
  refine x_cond rfl (fun _ => ?_) (fun h => nomatch h)
  refine x_region ?_
  refine xl_pv (pv_move rfl) rfl ?_
  refine xl_pv (pv_iface rfl) rfl ?_
  refine xl_panic rfl ?_
  refine xq_died ?_
  exact ⟨rfl, rfl⟩
/-- The loop of slices.IndexFunc over a row of the call's own. -/
theorem ixVar (vv : Value) (vs : List CVar) (p : CVar → Bool) (f : FuncId) (b T : Nat) (cells : List AV) [Fn1 Try.prog f] (hcl : ∀ v ∈ vs, AC Try.prog f [v.av, ptr b] [.ref b T cells] (RetIs (bv (p v)) [.ref b T cells])) (hlen : vs.length ≤ 2 ^ 40) :
    AC Try.prog 100 [.val vv, .val (.func (.func f) #[] #[.pointer (some ⟨b, 0, none⟩)])] [.ref b T cells, .vec vv 82 6 (vs.map CVar.av)] (RetIs (iv (idxF p vs 0)) [.ref b T cells, .vec vv 82 6 (vs.map CVar.av)]) := by
  refine ac_intro Try.func100 rfl rfl fun I w => ?_
  simp only [argEnv]
  refine x_seq ?_
  refine x_region ?_
  refine xl_pv (pv_assign rfl) rfl ?_
  refine xl_nil ?_
  refine xq_norm (xe_code ?_)
  refine x_seq ?_
  refine x_seq ?_
  refine x_region ?_
  refine xl_pv (pv_move rfl) rfl ?_
  refine xl_pv (pv_len_o (.there .here) rfl) rfl ?_
  refine xl_pv (pv_move rfl) rfl ?_
  refine xl_nil ?_
  refine xq_norm (xe_code ?_)
  refine x_block ?_
  -- slots turned in the loop and not told: [4]
  refine x_loopS (S := Nat) (fun i => i ≤ vs.length ∧ idxF p vs 0 = idxF p (vs.drop i) i) (fun i => vs.length - i) (fun i => [(8, iv i)]) (fun i => _) (0) (by simp) (.cons rfl (.cons (i := 7) rfl (.cons (i := 4) rfl (.cons (i := 0) rfl (.cons (i := 1) rfl (.nil _)))))) (rfl) ?_
  rintro i ⟨hi, hx⟩
  simp only [List.cons_append, List.nil_append]
  refine x_seq ?_
  refine x_region ?_
  refine xl_pv (pv_bin rfl rfl rfl) rfl ?_
  refine xl_nil ?_
  refine xq_norm (xe_code ?_)
  refine x_seq ?_
  refine x_condT rfl (fun h => ?_) (fun h => ?_)
  · skip
    have hlt : i < vs.length := by simpa using h
    obtain ⟨z, hz⟩ := get_lt hlt
    have hd := get_drop hz
    refine x_slc (.there .here) (fun hs => ?_)
    obtain ⟨gvv, cvv, rfl⟩ := hs.full (by simp; omega)
    refine x_skip ?_
    refine xq_norm (xe_code ?_)
    refine x_seq ?_
    refine x_block ?_
    refine x_seq ?_
    refine x_region ?_
    refine xl_pv (pv_move rfl) rfl ?_
    refine xl_pv (pv_assign rfl) rfl ?_
    refine xl_nil ?_
    refine xq_norm (xe_code ?_)
    refine x_seq ?_
    refine x_region ?_
    refine xl_pv (pv_move rfl) rfl ?_
    refine xl_pv (pv_move rfl) rfl ?_
    refine xl_pv (pv_move rfl) rfl ?_
    refine xl_pv (pv_at_o rfl rfl (by omega) (by first | omega | (simp; omega))) rfl ?_
    refine xl_pv (pv_loadN_o (off := 0) (.there .here) rfl (get_map hz) rfl) rfl ?_
    refine xl_clogo (hcl z (List.mem_of_getElem? hz)) rfl (.cons rfl (Wk.refl _) .nil) (.x .d) rfl ?_
    refine xl_nil ?_
    refine xq_norm (xe_code ?_)
    refine x_condT rfl (fun hp => ?_) (fun hp => ?_)
    · skip
      refine x_seq ?_
      refine x_region ?_
      refine xl_pv (pv_move rfl) rfl ?_
      refine xl_pv (pv_assign rfl) rfl ?_
      refine xl_nil ?_
      refine xq_norm (xe_code ?_)
      refine x_ret ?_
      refine xq_bret ?_
      refine xq_ret ?_
      refine xq_ret ?_
      refine xq_bret ?_
      refine xq_ret ?_
      refine xq_done (.inr rfl) _ (res1 rfl rfl) ?_
      exact ⟨by rw [hx, hd, idxF, hp]; rfl, rfl⟩
    · skip
      refine x_skip ?_
      refine xq_bnorm ?_
      refine xq_norm (xe_code ?_)
      refine x_region ?_
      refine xl_pv (pv_add rfl rfl (by omega) (by omega)) rfl ?_
      refine xl_pv (pv_move rfl) rfl ?_
      refine xl_nil ?_
      refine xe_loopS (i + 1) (⟨hlt, by rw [hx, hd, idxF, hp]; rfl⟩) (by first | omega | (simp at *; omega)) (.cons rfl (.nil _)) (.n rfl (.o rfl (.o rfl (.o rfl (.o rfl (.o rfl (.o rfl (.o rfl (.o rfl (.o rfl (.o rfl (.o rfl (.o rfl (.n rfl .b)))))))))))))) (rfl)
  · skip
    refine x_exit ?_
    refine xq_exit ?_
    refine xq_exit ?_
    refine xq_hit ?_
    refine xq_norm (xe_code ?_)
    refine x_seq ?_
    refine x_region ?_
    refine xl_pv (pv_assign rfl) rfl ?_
    refine xl_nil ?_
    refine xq_norm (xe_code ?_)
    refine x_ret ?_
    refine xq_done (.inr rfl) _ (res1 rfl rfl) ?_
    exact ⟨by rw [hx, List.drop_of_length_le (by simpa using h)]; rfl, rfl⟩

theorem ixStruct (xs : List CStruct) (p : CStruct → Bool) (f : FuncId) (b T : Nat) (cells : List AV) [Fn1 Try.prog f] (hcl : ∀ v ∈ xs, AC Try.prog f [v.av, ptr b] [.ref b T cells] (RetIs (bv (p v)) [.ref b T cells])) (hlen : xs.length ≤ 2 ^ 40) :
    AC Try.prog 59 [.list 2 (xs.map CStruct.av), .val (.func (.func f) #[] #[.pointer (some ⟨b, 0, none⟩)])] [.ref b T cells] (RetIs (iv (idxF p xs 0)) [.ref b T cells]) := by
  refine ac_intro Try.func59 rfl rfl fun I w => ?_
  simp only [argEnv]
  refine x_seq ?_
  refine x_region ?_
  refine xl_pv (pv_assign rfl) rfl ?_
  refine xl_nil ?_
  refine xq_norm (xe_code ?_)
  refine x_seq ?_
  refine x_seq ?_
  refine x_region ?_
  refine xl_pv (pv_move rfl) rfl ?_
  refine xl_pv (pv_len rfl) rfl ?_
  refine xl_pv (pv_move rfl) rfl ?_
  refine xl_nil ?_
  refine xq_norm (xe_code ?_)
  refine x_block ?_
  -- slots turned in the loop and not told: [4]
  refine x_loopS (S := Nat) (fun i => i ≤ xs.length ∧ idxF p xs 0 = idxF p (xs.drop i) i) (fun i => xs.length - i) (fun i => [(8, iv i)]) (fun i => _) (0) (by simp) (.cons rfl (.cons (i := 7) rfl (.cons (i := 4) rfl (.cons (i := 0) rfl (.cons (i := 1) rfl (.nil _)))))) (rfl) ?_
  rintro i ⟨hi, hx⟩
  simp only [List.cons_append, List.nil_append]
  refine x_seq ?_
  refine x_region ?_
  refine xl_pv (pv_bin rfl rfl rfl) rfl ?_
  refine xl_nil ?_
  refine xq_norm (xe_code ?_)
  refine x_seq ?_
  refine x_condT rfl (fun h => ?_) (fun h => ?_)
  · skip
    have hlt : i < xs.length := by simpa using h
    obtain ⟨z, hz⟩ := get_lt hlt
    have hd := get_drop hz
    refine x_skip ?_
    refine xq_norm (xe_code ?_)
    refine x_seq ?_
    refine x_block ?_
    refine x_seq ?_
    refine x_region ?_
    refine xl_pv (pv_move rfl) rfl ?_
    refine xl_pv (pv_assign rfl) rfl ?_
    refine xl_nil ?_
    refine xq_norm (xe_code ?_)
    refine x_seq ?_
    refine x_region ?_
    refine xl_pv (pv_move rfl) rfl ?_
    refine xl_pv (pv_move rfl) rfl ?_
    refine xl_pv (pv_move rfl) rfl ?_
    refine xl_pv (pv_at rfl rfl (by omega) ((get_map hz))) rfl ?_
    refine xl_pv (pv_loadN_i rfl rfl) rfl ?_
    refine xl_clogo (hcl z (List.mem_of_getElem? hz)) rfl (.cons rfl (Wk.refl _) .nil) (.x .d) rfl ?_
    refine xl_nil ?_
    refine xq_norm (xe_code ?_)
    refine x_condT rfl (fun hp => ?_) (fun hp => ?_)
    · skip
      refine x_seq ?_
      refine x_region ?_
      refine xl_pv (pv_move rfl) rfl ?_
      refine xl_pv (pv_assign rfl) rfl ?_
      refine xl_nil ?_
      refine xq_norm (xe_code ?_)
      refine x_ret ?_
      refine xq_bret ?_
      refine xq_ret ?_
      refine xq_ret ?_
      refine xq_bret ?_
      refine xq_ret ?_
      refine xq_done (.inr rfl) _ (res1 rfl rfl) ?_
      exact ⟨by rw [hx, hd, idxF, hp]; rfl, rfl⟩
    · skip
      refine x_skip ?_
      refine xq_bnorm ?_
      refine xq_norm (xe_code ?_)
      refine x_region ?_
      refine xl_pv (pv_add rfl rfl (by omega) (by omega)) rfl ?_
      refine xl_pv (pv_move rfl) rfl ?_
      refine xl_nil ?_
      refine xe_loopS (i + 1) (⟨hlt, by rw [hx, hd, idxF, hp]; rfl⟩) (by first | omega | (simp at *; omega)) (.cons rfl (.nil _)) (.n rfl (.o rfl (.o rfl (.o rfl (.o rfl (.o rfl (.o rfl (.o rfl (.o rfl (.o rfl (.o rfl (.o rfl (.o rfl (.n rfl .b)))))))))))))) (rfl)
  · skip
    refine x_exit ?_
    refine xq_exit ?_
    refine xq_exit ?_
    refine xq_hit ?_
    refine xq_norm (xe_code ?_)
    refine x_seq ?_
    refine x_region ?_
    refine xl_pv (pv_assign rfl) rfl ?_
    refine xl_nil ?_
    refine xq_norm (xe_code ?_)
    refine x_ret ?_
    refine xq_done (.inr rfl) _ (res1 rfl rfl) ?_
    exact ⟨by rw [hx, List.drop_of_length_le (by simpa using h)]; rfl, rfl⟩

theorem ixDecl (xs : List CDecl) (p : CDecl → Bool) (f : FuncId) (b T : Nat) (cells : List AV) [Fn1 Try.prog f] (hcl : ∀ v ∈ xs, AC Try.prog f [v.av, ptr b] [.ref b T cells] (RetIs (bv (p v)) [.ref b T cells])) (hlen : xs.length ≤ 2 ^ 40) :
    AC Try.prog 66 [.list 7 (xs.map CDecl.av), .val (.func (.func f) #[] #[.pointer (some ⟨b, 0, none⟩)])] [.ref b T cells] (RetIs (iv (idxF p xs 0)) [.ref b T cells]) := by
  refine ac_intro Try.func66 rfl rfl fun I w => ?_
  simp only [argEnv]
  refine x_seq ?_
  refine x_region ?_
  refine xl_pv (pv_assign rfl) rfl ?_
  refine xl_nil ?_
  refine xq_norm (xe_code ?_)
  refine x_seq ?_
  refine x_seq ?_
  refine x_region ?_
  refine xl_pv (pv_move rfl) rfl ?_
  refine xl_pv (pv_len rfl) rfl ?_
  refine xl_pv (pv_move rfl) rfl ?_
  refine xl_nil ?_
  refine xq_norm (xe_code ?_)
  refine x_block ?_
  -- slots turned in the loop and not told: [4]
  refine x_loopS (S := Nat) (fun i => i ≤ xs.length ∧ idxF p xs 0 = idxF p (xs.drop i) i) (fun i => xs.length - i) (fun i => [(8, iv i)]) (fun i => _) (0) (by simp) (.cons rfl (.cons (i := 7) rfl (.cons (i := 4) rfl (.cons (i := 0) rfl (.cons (i := 1) rfl (.nil _)))))) (rfl) ?_
  rintro i ⟨hi, hx⟩
  simp only [List.cons_append, List.nil_append]
  refine x_seq ?_
  refine x_region ?_
  refine xl_pv (pv_bin rfl rfl rfl) rfl ?_
  refine xl_nil ?_
  refine xq_norm (xe_code ?_)
  refine x_seq ?_
  refine x_condT rfl (fun h => ?_) (fun h => ?_)
  · skip
    have hlt : i < xs.length := by simpa using h
    obtain ⟨z, hz⟩ := get_lt hlt
    have hd := get_drop hz
    refine x_skip ?_
    refine xq_norm (xe_code ?_)
    refine x_seq ?_
    refine x_block ?_
    refine x_seq ?_
    refine x_region ?_
    refine xl_pv (pv_move rfl) rfl ?_
    refine xl_pv (pv_assign rfl) rfl ?_
    refine xl_nil ?_
    refine xq_norm (xe_code ?_)
    refine x_seq ?_
    refine x_region ?_
    refine xl_pv (pv_move rfl) rfl ?_
    refine xl_pv (pv_move rfl) rfl ?_
    refine xl_pv (pv_move rfl) rfl ?_
    refine xl_pv (pv_at rfl rfl (by omega) ((get_map hz))) rfl ?_
    refine xl_pv (pv_loadN_i rfl rfl) rfl ?_
    refine xl_clogo (hcl z (List.mem_of_getElem? hz)) rfl (.cons rfl (Wk.refl _) .nil) (.x .d) rfl ?_
    refine xl_nil ?_
    refine xq_norm (xe_code ?_)
    refine x_condT rfl (fun hp => ?_) (fun hp => ?_)
    · skip
      refine x_seq ?_
      refine x_region ?_
      refine xl_pv (pv_move rfl) rfl ?_
      refine xl_pv (pv_assign rfl) rfl ?_
      refine xl_nil ?_
      refine xq_norm (xe_code ?_)
      refine x_ret ?_
      refine xq_bret ?_
      refine xq_ret ?_
      refine xq_ret ?_
      refine xq_bret ?_
      refine xq_ret ?_
      refine xq_done (.inr rfl) _ (res1 rfl rfl) ?_
      exact ⟨by rw [hx, hd, idxF, hp]; rfl, rfl⟩
    · skip
      refine x_skip ?_
      refine xq_bnorm ?_
      refine xq_norm (xe_code ?_)
      refine x_region ?_
      refine xl_pv (pv_add rfl rfl (by omega) (by omega)) rfl ?_
      refine xl_pv (pv_move rfl) rfl ?_
      refine xl_nil ?_
      refine xe_loopS (i + 1) (⟨hlt, by rw [hx, hd, idxF, hp]; rfl⟩) (by first | omega | (simp at *; omega)) (.cons rfl (.nil _)) (.n rfl (.o rfl (.o rfl (.o rfl (.o rfl (.o rfl (.o rfl (.o rfl (.o rfl (.o rfl (.o rfl (.o rfl (.o rfl (.n rfl .b)))))))))))))) (rfl)
  · skip
    refine x_exit ?_
    refine xq_exit ?_
    refine xq_exit ?_
    refine xq_hit ?_
    refine xq_norm (xe_code ?_)
    refine x_seq ?_
    refine x_region ?_
    refine xl_pv (pv_assign rfl) rfl ?_
    refine xl_nil ?_
    refine xq_norm (xe_code ?_)
    refine x_ret ?_
    refine xq_done (.inr rfl) _ (res1 rfl rfl) ?_
    exact ⟨by rw [hx, List.drop_of_length_le (by simpa using h)]; rfl, rfl⟩

/-- slices.Index of texts. -/
theorem ixStr (xs : List ByteArray) (s : ByteArray) (hlen : xs.length ≤ 2 ^ 40) :
    AC Try.prog 84 [strs xs, sv s] [] (RetIs (iv (idxF (fun x => decide (s = x)) xs 0)) []) := by
  refine ac_intro Try.func84 rfl rfl fun I w => ?_
  simp only [argEnv]
  refine x_seq ?_
  refine x_region ?_
  refine xl_pv (pv_assign rfl) rfl ?_
  refine xl_nil ?_
  refine xq_norm (xe_code ?_)
  refine x_seq ?_
  refine x_seq ?_
  refine x_region ?_
  refine xl_pv (pv_move rfl) rfl ?_
  refine xl_pv (pv_len rfl) rfl ?_
  refine xl_pv (pv_move rfl) rfl ?_
  refine xl_nil ?_
  refine xq_norm (xe_code ?_)
  refine x_block ?_
  -- slots turned in the loop and not told: [4]
  refine x_loopS (S := Nat) (fun i => i ≤ xs.length ∧ idxF (fun x => decide (s = x)) xs 0 = idxF (fun x => decide (s = x)) (xs.drop i) i) (fun i => xs.length - i) (fun i => [(8, iv i)]) (fun i => _) (0) (by simp) (.cons rfl (.cons (i := 7) rfl (.cons (i := 4) rfl (.cons (i := 0) rfl (.cons (i := 1) rfl (.nil _)))))) (rfl) ?_
  rintro i ⟨hi, hx⟩
  simp only [List.cons_append, List.nil_append]
  refine x_seq ?_
  refine x_region ?_
  refine xl_pv (pv_bin rfl rfl rfl) rfl ?_
  refine xl_nil ?_
  refine xq_norm (xe_code ?_)
  refine x_seq ?_
  refine x_condT rfl (fun h => ?_) (fun h => ?_)
  · skip
    have hlt : i < xs.length := by simpa using h
    obtain ⟨z, hz⟩ := get_lt hlt
    have hd := get_drop hz
    refine x_skip ?_
    refine xq_norm (xe_code ?_)
    refine x_seq ?_
    refine x_block ?_
    refine x_seq ?_
    refine x_region ?_
    refine xl_pv (pv_move rfl) rfl ?_
    refine xl_pv (pv_assign rfl) rfl ?_
    refine xl_nil ?_
    refine xq_norm (xe_code ?_)
    refine x_seq ?_
    refine x_region ?_
    refine xl_pv (pv_move rfl) rfl ?_
    refine xl_pv (pv_move rfl) rfl ?_
    refine xl_pv (pv_move rfl) rfl ?_
    refine xl_pv (pv_at rfl rfl (by omega) ((get_map hz))) rfl ?_
    refine xl_pv (pv_load1_i rfl rfl) rfl ?_
    refine xl_pv (pv_str_eq rfl rfl) rfl ?_
    refine xl_nil ?_
    refine xq_norm (xe_code ?_)
    refine x_condT rfl (fun hp => ?_) (fun hp => ?_)
    · skip
      refine x_seq ?_
      refine x_region ?_
      refine xl_pv (pv_move rfl) rfl ?_
      refine xl_pv (pv_assign rfl) rfl ?_
      refine xl_nil ?_
      refine xq_norm (xe_code ?_)
      refine x_ret ?_
      refine xq_bret ?_
      refine xq_ret ?_
      refine xq_ret ?_
      refine xq_bret ?_
      refine xq_ret ?_
      refine xq_done (.inr rfl) _ (res1 rfl rfl) ?_
      exact ⟨by rw [hx, hd, idxF, hp]; rfl, rfl⟩
    · skip
      refine x_skip ?_
      refine xq_bnorm ?_
      refine xq_norm (xe_code ?_)
      refine x_region ?_
      refine xl_pv (pv_add rfl rfl (by omega) (by omega)) rfl ?_
      refine xl_pv (pv_move rfl) rfl ?_
      refine xl_nil ?_
      refine xe_loopS (i + 1) (⟨hlt, by rw [hx, hd, idxF, hp]; rfl⟩) (by first | omega | (simp at *; omega)) (.cons rfl (.nil _)) (.n rfl (.o rfl (.o rfl (.o rfl (.o rfl (.o rfl (.o rfl (.o rfl (.o rfl (.o rfl (.o rfl (.o rfl (.o rfl (.n rfl .b)))))))))))))) (rfl)
  · skip
    refine x_exit ?_
    refine xq_exit ?_
    refine xq_exit ?_
    refine xq_hit ?_
    refine xq_norm (xe_code ?_)
    refine x_seq ?_
    refine x_region ?_
    refine xl_pv (pv_assign rfl) rfl ?_
    refine xl_nil ?_
    refine xq_norm (xe_code ?_)
    refine x_ret ?_
    refine xq_done (.inr rfl) _ (res1 rfl rfl) ?_
    exact ⟨by rw [hx, List.drop_of_length_le (by simpa using h)]; rfl, rfl⟩
theorem hasStr (xs : List ByteArray) (s : ByteArray) (hlen : xs.length ≤ 2 ^ 40) :
    AC Try.prog 77 [strs xs, sv s] [] (RetIs (bv (xs.any fun x => decide (s = x))) []) := by
  refine ac_intro Try.func77 rfl rfl fun I w => ?_
  simp only [argEnv]
  refine x_seq ?_
  refine x_region ?_
  refine xl_pv (pv_assign rfl) rfl ?_
  refine xl_nil ?_
  refine xq_norm (xe_code ?_)
  refine x_seq ?_
  refine x_region ?_
  refine xl_pv (pv_move rfl) rfl ?_
  refine xl_pv (pv_move rfl) rfl ?_
  refine xl_go (ixStr xs s hlen) rfl (.cons rfl (Wk.refl _) (.cons rfl (Wk.refl _) .nil)) .d rfl ?_
  refine xl_pv (pv_bin rfl rfl rfl) rfl ?_
  refine xl_pv (pv_assign rfl) rfl ?_
  refine xl_nil ?_
  refine xq_norm (xe_code ?_)
  refine x_ret ?_
  refine xq_done (.inr rfl) _ (res1 rfl rfl) ?_
  exact ⟨by rw [idx_ge], rfl⟩
theorem ixInt (vv : Value) (xs : List Int) (s : Int) (hlen : xs.length ≤ 2 ^ 40) :
    AC Try.prog 106 [.val vv, iv s] [.vec vv 3 1 (xs.map iv)] (RetIs (iv (idxF (fun x => decide (s = x)) xs 0)) [.vec vv 3 1 (xs.map iv)]) := by
  refine ac_intro Try.func106 rfl rfl fun I w => ?_
  simp only [argEnv]
  refine x_seq ?_
  refine x_region ?_
  refine xl_pv (pv_assign rfl) rfl ?_
  refine xl_nil ?_
  refine xq_norm (xe_code ?_)
  refine x_seq ?_
  refine x_seq ?_
  refine x_region ?_
  refine xl_pv (pv_move rfl) rfl ?_
  refine xl_pv (pv_len_o .here rfl) rfl ?_
  refine xl_pv (pv_move rfl) rfl ?_
  refine xl_nil ?_
  refine xq_norm (xe_code ?_)
  refine x_block ?_
  -- slots turned in the loop and not told: [4]
  refine x_loopS (S := Nat) (fun i => i ≤ xs.length ∧ idxF (fun x => decide (s = x)) xs 0 = idxF (fun x => decide (s = x)) (xs.drop i) i) (fun i => xs.length - i) (fun i => [(8, iv i)]) (fun i => _) (0) (by simp) (.cons rfl (.cons (i := 7) rfl (.cons (i := 4) rfl (.cons (i := 0) rfl (.cons (i := 1) rfl (.nil _)))))) (rfl) ?_
  rintro i ⟨hi, hx⟩
  simp only [List.cons_append, List.nil_append]
  refine x_seq ?_
  refine x_region ?_
  refine xl_pv (pv_bin rfl rfl rfl) rfl ?_
  refine xl_nil ?_
  refine xq_norm (xe_code ?_)
  refine x_seq ?_
  refine x_condT rfl (fun h => ?_) (fun h => ?_)
  · skip
    have hlt : i < xs.length := by simpa using h
    obtain ⟨z, hz⟩ := get_lt hlt
    have hd := get_drop hz
    refine x_slc .here (fun hs => ?_)
    obtain ⟨gvv, cvv, rfl⟩ := hs.full (by simp; omega)
    refine x_skip ?_
    refine xq_norm (xe_code ?_)
    refine x_seq ?_
    refine x_block ?_
    refine x_seq ?_
    refine x_region ?_
    refine xl_pv (pv_move rfl) rfl ?_
    refine xl_pv (pv_assign rfl) rfl ?_
    refine xl_nil ?_
    refine xq_norm (xe_code ?_)
    refine x_seq ?_
    refine x_region ?_
    refine xl_pv (pv_move rfl) rfl ?_
    refine xl_pv (pv_move rfl) rfl ?_
    refine xl_pv (pv_move rfl) rfl ?_
    refine xl_pv (pv_at_o rfl rfl (by omega) (by first | omega | (simp; omega))) rfl ?_
    refine xl_pv (pv_load1_o (off := 0) .here rfl (get_map hz) rfl) rfl ?_
    refine xl_pv (pv_bin rfl rfl rfl) rfl ?_
    refine xl_nil ?_
    refine xq_norm (xe_code ?_)
    refine x_condT rfl (fun hp => ?_) (fun hp => ?_)
    · skip
      refine x_seq ?_
      refine x_region ?_
      refine xl_pv (pv_move rfl) rfl ?_
      refine xl_pv (pv_assign rfl) rfl ?_
      refine xl_nil ?_
      refine xq_norm (xe_code ?_)
      refine x_ret ?_
      refine xq_bret ?_
      refine xq_ret ?_
      refine xq_ret ?_
      refine xq_bret ?_
      refine xq_ret ?_
      refine xq_done (.inr rfl) _ (res1 rfl rfl) ?_
      exact ⟨by rw [hx, hd, idxF, hp]; rfl, rfl⟩
    · skip
      refine x_skip ?_
      refine xq_bnorm ?_
      refine xq_norm (xe_code ?_)
      refine x_region ?_
      refine xl_pv (pv_add rfl rfl (by omega) (by omega)) rfl ?_
      refine xl_pv (pv_move rfl) rfl ?_
      refine xl_nil ?_
      refine xe_loopS (i + 1) (⟨hlt, by rw [hx, hd, idxF, hp]; rfl⟩) (by first | omega | (simp at *; omega)) (.cons rfl (.nil _)) (.n rfl (.o rfl (.o rfl (.o rfl (.o rfl (.o rfl (.o rfl (.o rfl (.o rfl (.o rfl (.o rfl (.o rfl (.o rfl (.n rfl .b)))))))))))))) (rfl)
  · skip
    refine x_exit ?_
    refine xq_exit ?_
    refine xq_exit ?_
    refine xq_hit ?_
    refine xq_norm (xe_code ?_)
    refine x_seq ?_
    refine x_region ?_
    refine xl_pv (pv_assign rfl) rfl ?_
    refine xl_nil ?_
    refine xq_norm (xe_code ?_)
    refine x_ret ?_
    refine xq_done (.inr rfl) _ (res1 rfl rfl) ?_
    exact ⟨by rw [hx, List.drop_of_length_le (by simpa using h)]; rfl, rfl⟩
theorem hasInt (vv : Value) (xs : List Int) (s : Int) (hlen : xs.length ≤ 2 ^ 40) :
    AC Try.prog 102 [.val vv, iv s] [.vec vv 3 1 (xs.map iv)] (RetIs (bv (decide (s ∈ xs))) [.vec vv 3 1 (xs.map iv)]) := by
  refine ac_intro Try.func102 rfl rfl fun I w => ?_
  simp only [argEnv]
  refine x_seq ?_
  refine x_region ?_
  refine xl_pv (pv_assign rfl) rfl ?_
  refine xl_nil ?_
  refine xq_norm (xe_code ?_)
  refine x_seq ?_
  refine x_region ?_
  refine xl_pv (pv_move rfl) rfl ?_
  refine xl_pv (pv_move rfl) rfl ?_
  refine xl_go (ixInt vv xs s hlen) rfl (.cons rfl (Wk.refl _) (.cons rfl (Wk.refl _) .nil)) (.x .d) rfl ?_
  refine xl_pv (pv_bin rfl rfl rfl) rfl ?_
  refine xl_pv (pv_assign rfl) rfl ?_
  refine xl_nil ?_
  refine xq_norm (xe_code ?_)
  refine x_ret ?_
  refine xq_done (.inr rfl) _ (res1 rfl rfl) ?_
  exact ⟨by rw [idx_mem], rfl⟩
theorem cloneInt (vv : Value) (xs : List Int) (hlen : xs.length ≤ 2 ^ 40) :
    AC Try.prog 86 [.val vv] [.vec vv 3 1 (xs.map iv)] (RetIs (.list 1 (xs.map iv)) [.vec vv 3 1 (xs.map iv)]) := by
  refine ac_intro Try.func86 rfl rfl fun I w => ?_
  simp only [argEnv]
  refine x_seq ?_
  refine x_region ?_
  refine xl_pv (pv_assign rfl) rfl ?_
  refine xl_nil ?_
  refine xq_norm (xe_code ?_)
  refine x_seq ?_
  refine x_seq ?_
  refine x_region ?_
  refine xl_pv (pv_move rfl) rfl ?_
  refine xl_nilo .here rfl rfl (fun q4 hq4 => ?_)
  refine xl_nil ?_
  refine xq_norm (xe_code ?_)
  refine x_condT rfl (fun h => ?_) (fun h => ?_)
  · skip
    have hq := (hq4 h).2
    refine x_seq ?_
    refine x_region ?_
    refine xl_pv (pv_assign rfl) rfl ?_
    refine xl_nil ?_
    refine xq_norm (xe_code ?_)
    refine x_ret ?_
    refine xq_ret ?_
    refine xq_sub (.cons_wk (i := 2) (x := .list 1 (xs.map iv)) rfl (by rw [hq]; exact Wk.nil 1) (Sub.refl _)) ?_
    refine xq_done (.inr rfl) _ (res1 rfl rfl) ?_
    exact ⟨rfl, rfl⟩
  · skip
    refine x_skip ?_
    refine xq_norm (xe_code ?_)
    refine x_seq ?_
    refine x_region ?_
    refine xl_litv .nil rfl (by first | (simp [AV.cs]; done) | exact lits (by rfl) | (intro x hx; cases hx with | head => rfl | tail _ h => cases h)) (by first | rfl | (simp [flat, AV.cs, oneB, *]; done) | (simp [flat, AV.cs, oneB, *]; repeat' constructor)) (by decide) rfl (fun v5 hv5 => ?_)
    refine xl_pv (pv_move rfl) rfl ?_
    refine xl_growo .h (.there .here) rfl rfl (ones_iv xs) (by simp; omega) rfl (fun v5_1 hv5_1 => ?_)
    refine xl_pv (pv_assign rfl) rfl ?_
    refine xl_nil ?_
    refine xq_pub' 2 .here rfl ?_
    refine xq_norm (xe_code ?_)
    refine x_ret ?_
    refine xq_done (.inr rfl) _ (res1 rfl rfl) ?_
    exact ⟨rfl, rfl⟩
theorem cloneStr (xs : List ByteArray) (hlen : xs.length ≤ 2 ^ 40) :
    AC Try.prog 94 [strs xs] [] (RetIs (strs xs) []) := by
  refine ac_intro Try.func94 rfl rfl fun I w => ?_
  simp only [argEnv]
  refine x_seq ?_
  refine x_region ?_
  refine xl_pv (pv_assign rfl) rfl ?_
  refine xl_nil ?_
  refine xq_norm (xe_code ?_)
  refine x_seq ?_
  refine x_seq ?_
  refine x_region ?_
  refine xl_pv (pv_move rfl) rfl ?_
  refine xl_nilq rfl rfl (fun q4 hq4 => ?_)
  refine xl_nil ?_
  refine xq_norm (xe_code ?_)
  refine x_condT rfl (fun h => ?_) (fun h => ?_)
  · skip
    have hq := hq4 h
    refine x_seq ?_
    refine x_region ?_
    refine xl_pv (pv_assign rfl) rfl ?_
    refine xl_nil ?_
    refine xq_norm (xe_code ?_)
    refine x_ret ?_
    refine xq_ret ?_
    refine xq_sub (.cons_wk (i := 2) (x := strs xs) rfl (by unfold strs; rw [hq]; exact Wk.nil 1) (Sub.refl _)) ?_
    refine xq_done (.inr rfl) _ (res1 rfl rfl) ?_
    exact ⟨rfl, rfl⟩
  · skip
    refine x_skip ?_
    refine xq_norm (xe_code ?_)
    refine x_seq ?_
    refine x_region ?_
    refine xl_litv .nil rfl (by first | (simp [AV.cs]; done) | exact lits (by rfl) | (intro x hx; cases hx with | head => rfl | tail _ h => cases h)) (by first | rfl | (simp [flat, AV.cs, oneB, *]; done) | (simp [flat, AV.cs, oneB, *]; repeat' constructor)) (by decide) rfl (fun v5 hv5 => ?_)
    refine xl_pv (pv_move rfl) rfl ?_
    refine xl_grow .h rfl rfl (ones_sv xs) (by simp; omega) rfl (fun v5_1 hv5_1 => ?_)
    refine xl_pv (pv_assign rfl) rfl ?_
    refine xl_nil ?_
    refine xq_pub' 2 .here rfl ?_
    refine xq_norm (xe_code ?_)
    refine x_ret ?_
    refine xq_done (.inr rfl) _ (res1 rfl rfl) ?_
    exact ⟨rfl, rfl⟩
theorem eqU8 (xs ys : List Int) (hlen : xs.length ≤ 2 ^ 40) :
    AC Try.prog 99 [.list 1 (xs.map kv), .list 1 (ys.map kv)] [] (RetIs (bv (decide (xs = ys))) []) := by
  refine ac_intro Try.func99 rfl rfl fun I w => ?_
  simp only [argEnv]
  refine x_seq ?_
  refine x_region ?_
  refine xl_pv (pv_assign rfl) rfl ?_
  refine xl_nil ?_
  refine xq_norm (xe_code ?_)
  refine x_seq ?_
  refine x_seq ?_
  refine x_region ?_
  refine xl_pv (pv_move rfl) rfl ?_
  refine xl_pv (pv_len rfl) rfl ?_
  refine xl_pv (pv_move rfl) rfl ?_
  refine xl_pv (pv_len rfl) rfl ?_
  refine xl_pv (pv_bin rfl rfl rfl) rfl ?_
  refine xl_nil ?_
  refine xq_norm (xe_code ?_)
  refine x_condT rfl (fun h => ?_) (fun h => ?_)
  · skip
    refine x_seq ?_
    refine x_region ?_
    refine xl_pv (pv_assign rfl) rfl ?_
    refine xl_nil ?_
    refine xq_norm (xe_code ?_)
    refine x_ret ?_
    refine xq_ret ?_
    refine xq_done (.inr rfl) _ (res1 rfl rfl) ?_
    simp at h; exact ⟨by rw [decide_eq_false (fun e => h (by rw [e]))], rfl⟩
  · skip
    have hl : xs.length = ys.length := by simp at h; omega
    refine x_skip ?_
    refine xq_norm (xe_code ?_)
    refine x_seq ?_
    refine x_seq ?_
    refine x_region ?_
    refine xl_pv (pv_move rfl) rfl ?_
    refine xl_pv (pv_len rfl) rfl ?_
    refine xl_pv (pv_move rfl) rfl ?_
    refine xl_nil ?_
    refine xq_norm (xe_code ?_)
    refine x_block ?_
    -- slots turned in the loop and not told: [4]
    refine x_loopS (S := Nat) (fun i => i ≤ xs.length ∧ decide (xs = ys) = decide (xs.drop i = ys.drop i)) (fun i => xs.length - i) (fun i => [(13, iv i)]) (fun i => _) (0) (by simp) (.cons rfl (.cons (i := 12) rfl (.cons (i := 4) rfl (.cons (i := 0) rfl (.cons (i := 1) rfl (.nil _)))))) (rfl) ?_
    rintro i ⟨hi, hx⟩
    simp only [List.cons_append, List.nil_append]
    refine x_seq ?_
    refine x_region ?_
    refine xl_pv (pv_bin rfl rfl rfl) rfl ?_
    refine xl_nil ?_
    refine xq_norm (xe_code ?_)
    refine x_seq ?_
    refine x_condT rfl (fun h2 => ?_) (fun h2 => ?_)
    · skip
      have hlt : i < xs.length := by simpa using h2
      obtain ⟨z, hz⟩ := get_lt hlt
      obtain ⟨z2, hz2⟩ := get_lt (hl ▸ hlt)
      have hd := get_drop hz
      have hd2 := get_drop hz2
      refine x_skip ?_
      refine xq_norm (xe_code ?_)
      refine x_seq ?_
      refine x_block ?_
      refine x_seq ?_
      refine x_region ?_
      refine xl_pv (pv_move rfl) rfl ?_
      refine xl_pv (pv_assign rfl) rfl ?_
      refine xl_nil ?_
      refine xq_norm (xe_code ?_)
      refine x_seq ?_
      refine x_draw rfl ?_
      refine xd_v 0 rfl rfl rfl (gv_v (pv_move rfl) rfl) ?_
      refine xd_v 1 rfl rfl rfl (gv_v (pv_move rfl) rfl) ?_
      refine xd_v 2 rfl rfl rfl (gv_v (pv_at rfl rfl (by omega) ((get_map hz))) rfl) ?_
      refine xd_v 3 rfl rfl rfl (gv_v (pv_load1_i rfl rfl) rfl) ?_
      refine xd_v 4 rfl rfl rfl (gv_v (pv_move rfl) rfl) ?_
      refine xd_v 5 rfl rfl rfl (gv_v (pv_move rfl) rfl) ?_
      refine xd_v 6 rfl rfl rfl (gv_v (pv_at rfl rfl (by omega) ((get_map hz2))) rfl) ?_
      refine xd_v 7 rfl rfl rfl (gv_v (pv_load1_i rfl rfl) rfl) ?_
      refine xd_v 8 rfl rfl rfl (gv_v (pv_bin rfl rfl rfl) rfl) ?_
      refine xd_end rfl rfl rfl rfl ?_
      refine xq_sub (.cons (i := 24) rfl (.cons (i := 23) rfl (.cons (i := 22) rfl (.cons (i := 21) rfl (.cons (i := 20) rfl (.cons (i := 19) rfl (.cons (i := 18) rfl (.cons (i := 17) rfl (.cons (i := 16) rfl (.cons (i := 5) rfl (.cons (i := 15) rfl (.cons (i := 14) rfl (.cons (i := 13) rfl (.cons (i := 12) rfl (.cons (i := 4) rfl (.cons (i := 0) rfl (.cons (i := 1) rfl (.nil _)))))))))))))))))) ?_
      refine xq_norm (xe_code ?_)
      refine x_condT rfl (fun hp => ?_) (fun hp => ?_)
      · skip
        refine x_seq ?_
        refine x_region ?_
        refine xl_pv (pv_assign rfl) rfl ?_
        refine xl_nil ?_
        refine xq_norm (xe_code ?_)
        refine x_ret ?_
        refine xq_bret ?_
        refine xq_ret ?_
        refine xq_ret ?_
        refine xq_bret ?_
        refine xq_ret ?_
        refine xq_done (.inr rfl) _ (res1 rfl rfl) ?_
        simp at hp; exact ⟨by rw [hx, hd, hd2]; simp [hp], rfl⟩
      · skip
        refine x_skip ?_
        refine xq_bnorm ?_
        refine xq_norm (xe_code ?_)
        refine x_region ?_
        refine xl_pv (pv_add rfl rfl (by omega) (by omega)) rfl ?_
        refine xl_pv (pv_move rfl) rfl ?_
        refine xl_nil ?_
        refine xe_loopF (i + 1) (⟨hlt, by simp at hp; rw [hx, hd, hd2]; simp [hp]⟩) (by first | omega | (simp at *; omega)) (.cons rfl (.cons rfl (.cons rfl (.cons rfl (.cons rfl (.nil _)))))) (rfl)
    · skip
      refine x_exit ?_
      refine xq_exit ?_
      refine xq_exit ?_
      refine xq_hit ?_
      refine xq_norm (xe_code ?_)
      refine x_seq ?_
      refine x_region ?_
      refine xl_pv (pv_assign rfl) rfl ?_
      refine xl_nil ?_
      refine xq_norm (xe_code ?_)
      refine x_ret ?_
      refine xq_done (.inr rfl) _ (res1 rfl rfl) ?_
      have h3 : xs.length ≤ i := by simpa using h2
      exact ⟨by rw [hx, List.drop_of_length_le h3, List.drop_of_length_le (hl ▸ h3)]; rfl, rfl⟩
end Go.Proofs.Ytmallgapchjhnaa
