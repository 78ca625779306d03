/- Which functions a list calls; what stands ahead is checked alike whatever stands behind. No condition: plain theorems. -/
import Derived.Test.YtmallgapchjhnaaK31
import Derived.Test.YtmallgapchjhnaaK29
set_option linter.unusedVariables false
set_option linter.unusedSimpArgs false
namespace Go.Proofs.Ytmallgapchjhnaa
set_option maxRecDepth 100000
open Go Go.Ax
mutual
def callsS (f : ByteArray) : CStmt → Bool
  | .mk _ _ _ _ call _ _ body els => decide (call = f) || callsL f body || callsL f els
def callsL (f : ByteArray) : List CStmt → Bool
  | [] => false
  | s :: r => callsS f s || callsL f r
end
section
attribute [local irreducible] X XL XE XQ PV
theorem calls_n (f : ByteArray) (n : Nat) : ∀ (l : List CStmt), SizeOf.sizeOf l < n → AC Try.prog 16 [.list 11 (l.map CStmt.av), sv f] [] (RetIs (bv (callsL f l)) []) := by
  induction n with
  | zero => exact fun l h => absurd h (by omega)
  | succ n ih =>
    intro l hn
    refine ac_intro Try.func16 rfl rfl fun I w => ?_
    simp only [argEnv]
    refine x_llen 0 rfl (fun hl => ?_)
    simp only [List.length_map] at hl
    refine x_seq ?_
    refine x_region ?_
    refine xl_pv (pv_assign rfl) rfl ?_
    refine xl_nil ?_
    refine xq_norm (xe_code ?_)
    refine x_seq ?_
    refine x_seq ?_
    refine x_region ?_
    refine xl_pv (pv_assign rfl) rfl ?_
    refine xl_nil ?_
    refine xq_norm (xe_code ?_)
    refine x_block ?_
    -- slots turned in the loop and not told: [4]
    refine x_loopS (S := Nat) (fun i => i ≤ l.length ∧ callsL f l = callsL f (l.drop i)) (fun i => l.length - i) (fun i => [(5, iv i)]) (fun i => _) (0) (by simp) (.cons rfl (.cons (i := 4) rfl (.cons (i := 0) rfl (.cons (i := 1) rfl (.nil _))))) (rfl) ?_
    rintro i ⟨hi, hx⟩
    simp only [List.cons_append, List.nil_append]
    refine x_seq ?_
    refine x_seq ?_
    refine x_region ?_
    refine xl_pv (pv_move rfl) rfl ?_
    refine xl_pv (pv_move rfl) rfl ?_
    refine xl_pv (pv_len rfl) rfl ?_
    refine xl_pv (pv_bin rfl rfl rfl) rfl ?_
    refine xl_nil ?_
    refine xq_norm (xe_code ?_)
    refine x_condT rfl (fun h => ?_) (fun h => ?_)
    · skip
      have hlt : i < l.length := by simpa using h
      obtain ⟨⟨z1, z2, z3, z4, z5, ⟨t1, t2, t3⟩, z6, z7, z8⟩, hz⟩ := get_lt hlt
      have hsz := List.sizeOf_lt_of_mem (List.mem_of_getElem? hz)
      have hd := get_drop hz
      refine x_skip ?_
      refine xq_norm (xe_code ?_)
      refine x_seq ?_
      refine x_block ?_
      refine x_seq ?_
      refine x_region ?_
      refine xl_pv (pv_move rfl) rfl ?_
      refine xl_pv (pv_move rfl) rfl ?_
      refine xl_pv (pv_at rfl rfl (by omega) ((get_map hz))) rfl ?_
      refine xl_pv (pv_field_i rfl) rfl ?_
      refine xl_pv (pv_load1_i rfl rfl) rfl ?_
      refine xl_pv (pv_move rfl) rfl ?_
      refine xl_pv (pv_str_eq rfl rfl) rfl ?_
      refine xl_pv (pv_move rfl) rfl ?_
      refine xl_guard rfl rfl (fun g1 => ?_) (fun g1 => ?_)
      · skip
        refine xl_take rfl rfl rfl ?_
        refine xl_pv (pv_move rfl) rfl ?_
        refine xl_take rfl rfl rfl ?_
        refine xl_pv (pv_move rfl) rfl ?_
        refine xl_take rfl rfl rfl ?_
        refine xl_pv (pv_at rfl rfl (by omega) ((get_map hz))) rfl ?_
        refine xl_take rfl rfl rfl ?_
        refine xl_pv (pv_field_i rfl) rfl ?_
        refine xl_take rfl rfl rfl ?_
        refine xl_pv (pv_load1_i rfl rfl) rfl ?_
        refine xl_take rfl rfl rfl ?_
        refine xl_pv (pv_move rfl) rfl ?_
        refine xl_take rfl rfl rfl ?_
        refine xl_go (ih z7 (by simp only [CStmt.mk.sizeOf_spec] at hsz; omega)) rfl (.cons rfl (Wk.of_eq (by rw [CStmt.avs_eq])) (.cons rfl (Wk.refl _) .nil)) .d rfl ?_
        refine xl_pv (pv_pick_f rfl rfl) rfl ?_
        refine xl_pv (pv_move rfl) rfl ?_
        refine xl_guard rfl rfl (fun g2 => ?_) (fun g2 => ?_)
        · skip
          refine xl_take rfl rfl rfl ?_
          refine xl_pv (pv_move rfl) rfl ?_
          refine xl_take rfl rfl rfl ?_
          refine xl_pv (pv_move rfl) rfl ?_
          refine xl_take rfl rfl rfl ?_
          refine xl_pv (pv_at rfl rfl (by omega) ((get_map hz))) rfl ?_
          refine xl_take rfl rfl rfl ?_
          refine xl_pv (pv_field_i rfl) rfl ?_
          refine xl_take rfl rfl rfl ?_
          refine xl_pv (pv_load1_i rfl rfl) rfl ?_
          refine xl_take rfl rfl rfl ?_
          refine xl_pv (pv_move rfl) rfl ?_
          refine xl_take rfl rfl rfl ?_
          refine xl_go (ih z8 (by simp only [CStmt.mk.sizeOf_spec] at hsz; omega)) rfl (.cons rfl (Wk.of_eq (by rw [CStmt.avs_eq])) (.cons rfl (Wk.refl _) .nil)) .d rfl ?_
          refine xl_pv (pv_pick_f rfl rfl) rfl ?_
          refine xl_nil ?_
          refine xq_norm (xe_code ?_)
          refine x_condT rfl (fun g3 => ?_) (fun g3 => ?_)
          · skip
            refine x_seq ?_
            refine x_region ?_
            refine xl_pv (pv_assign rfl) rfl ?_
            refine xl_nil ?_
            refine xq_norm (xe_code ?_)
            refine x_ret ?_
            refine xq_bret ?_
            refine xq_ret ?_
            refine xq_ret ?_
            refine xq_bret ?_
            refine xq_ret ?_
            refine xq_done (.inr rfl) _ (res1 rfl rfl) ?_
            exact ⟨by rw [hx, hd, callsL, callsS, g3]; simp, rfl⟩
          · skip
            refine x_skip ?_
            refine xq_bnorm ?_
            refine xq_norm (xe_code ?_)
            refine x_region ?_
            refine xl_pv (pv_move rfl) rfl ?_
            refine xl_pv (pv_add rfl rfl (by first | omega | (simp only [List.length_map]; omega) | (simp; omega)) (by first | omega | (simp only [List.length_map]; omega) | (simp; omega))) rfl ?_
            refine xl_pv (pv_assign rfl) rfl ?_
            refine xl_nil ?_
            refine xe_loopS (i + 1) (⟨hlt, by rw [hx, hd, callsL, callsS, g2, g3]; simp at g1; simp [g1]⟩) (by first | omega | (simp at *; omega)) (.cons rfl (.nil _)) (.n rfl (.o rfl (.o rfl (.o rfl (.o rfl (.o rfl (.o rfl (.o rfl (.o rfl (.o rfl (.o rfl (.o rfl (.o rfl (.o rfl (.o rfl (.o rfl (.o rfl (.o rfl (.o rfl (.o rfl (.o rfl (.o rfl (.o rfl (.o rfl (.o rfl (.o rfl (.o rfl (.o rfl (.o rfl (.o rfl (.o rfl (.o rfl (.o rfl (.o rfl (.o rfl (.o rfl (.n rfl .b))))))))))))))))))))))))))))))))))))) (rfl)
        · skip
          refine xl_skip rfl rfl rfl rfl ?_
          refine xl_skip rfl rfl rfl rfl ?_
          refine xl_skip rfl rfl rfl rfl ?_
          refine xl_skip rfl rfl rfl rfl ?_
          refine xl_skip rfl rfl rfl rfl ?_
          refine xl_skip rfl rfl rfl rfl ?_
          refine xl_skip rfl rfl rfl rfl ?_
          refine xl_pv (pv_pick_t rfl rfl) rfl ?_
          refine xl_nil ?_
          refine xq_norm (xe_code ?_)
          refine x_cond rfl (fun _ => ?_) (fun h => nomatch h)
          refine x_seq ?_
          refine x_region ?_
          refine xl_pv (pv_assign rfl) rfl ?_
          refine xl_nil ?_
          refine xq_norm (xe_code ?_)
          refine x_ret ?_
          refine xq_bret ?_
          refine xq_ret ?_
          refine xq_ret ?_
          refine xq_bret ?_
          refine xq_ret ?_
          refine xq_done (.inr rfl) _ (res1 rfl rfl) ?_
          exact ⟨by rw [hx, hd, callsL, callsS, g2]; simp, rfl⟩
      · skip
        refine xl_skip rfl rfl rfl rfl ?_
        refine xl_skip rfl rfl rfl rfl ?_
        refine xl_skip rfl rfl rfl rfl ?_
        refine xl_skip rfl rfl rfl rfl ?_
        refine xl_skip rfl rfl rfl rfl ?_
        refine xl_skip rfl rfl rfl rfl ?_
        refine xl_skip rfl rfl rfl rfl ?_
        refine xl_pv (pv_pick_t rfl rfl) rfl ?_
        refine xl_pv (pv_move rfl) rfl ?_
        refine xl_skip rfl rfl rfl rfl ?_
        refine xl_skip rfl rfl rfl rfl ?_
        refine xl_skip rfl rfl rfl rfl ?_
        refine xl_skip rfl rfl rfl rfl ?_
        refine xl_skip rfl rfl rfl rfl ?_
        refine xl_skip rfl rfl rfl rfl ?_
        refine xl_skip rfl rfl rfl rfl ?_
        refine xl_pv (pv_pick_t rfl rfl) rfl ?_
        refine xl_nil ?_
        refine xq_norm (xe_code ?_)
        refine x_cond rfl (fun _ => ?_) (fun h => nomatch h)
        refine x_seq ?_
        refine x_region ?_
        refine xl_pv (pv_assign rfl) rfl ?_
        refine xl_nil ?_
        refine xq_norm (xe_code ?_)
        refine x_ret ?_
        refine xq_bret ?_
        refine xq_ret ?_
        refine xq_ret ?_
        refine xq_bret ?_
        refine xq_ret ?_
        refine xq_done (.inr rfl) _ (res1 rfl rfl) ?_
        exact ⟨by rw [hx, hd, callsL, callsS]; simp at g1; simp [g1], rfl⟩
    · skip
      refine x_exit ?_
      refine xq_exit ?_
      refine xq_exit ?_
      refine xq_hit ?_
      refine xq_norm (xe_code ?_)
      refine x_seq ?_
      refine x_region ?_
      refine xl_pv (pv_assign rfl) rfl ?_
      refine xl_nil ?_
      refine xq_norm (xe_code ?_)
      refine x_ret ?_
      refine xq_done (.inr rfl) _ (res1 rfl rfl) ?_
      exact ⟨by rw [hx, List.drop_of_length_le (by simpa using h)]; rfl, rfl⟩
end
theorem calls_c (f : ByteArray) (l : List CStmt) : AC Try.prog 16 [.list 11 (l.map CStmt.av), sv f] [] (RetIs (bv (callsL f l)) []) := calls_n f _ l (Nat.lt_succ_self _)
end Go.Proofs.Ytmallgapchjhnaa
