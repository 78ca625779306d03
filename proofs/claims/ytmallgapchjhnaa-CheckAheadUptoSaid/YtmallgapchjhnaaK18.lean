/- check.Program: it says what the plain function says. No condition: plain theorems. -/
import Derived.Test.YtmallgapchjhnaaK17
set_option linter.unusedVariables false
set_option linter.unusedSimpArgs false
namespace Go.Proofs.Ytmallgapchjhnaa
set_option maxRecDepth 100000
open Go Go.Ax
attribute [local irreducible] X XL XE XQ PV

theorem program1_c (b : CBody) : AC Try.prog 36 [b.av] [] (RetIs (bv (decide (b.vars.length > 64))) []) := by
  refine ac_intro Try.func36 rfl rfl fun I w => ?_
  simp only [argEnv]
  refine x_seq ?_
  refine x_region ?_
  refine xl_box rfl (by rfl) rfl (fun b1 => ?_)
  refine xl_pv (pv_assign rfl) rfl ?_
  refine xl_nil ?_
  refine xq_norm (xe_code ?_)
  refine x_seq ?_
  refine x_region ?_
  refine xl_pv (pv_field_a rfl) rfl ?_
  refine xl_pv (pv_load1 rfl .here rfl) rfl ?_
  refine xl_pv (pv_len rfl) rfl ?_
  refine xl_pv (pv_bin rfl rfl rfl) rfl ?_
  refine xl_pv (pv_assign rfl) rfl ?_
  refine xl_nil ?_
  refine xq_norm (xe_code ?_)
  refine x_ret ?_
  refine xq_drop .here ?_
  refine xq_done (.inr rfl) _ (res1 rfl rfl) ?_
  exact ⟨by simp [Int.ofNat_lt.symm], rfl⟩
theorem ixBody (xs : List CBody) (p : CBody → Bool) (f : FuncId) [Fn1 Try.prog f] (hcl : ∀ v ∈ xs, AC Try.prog f [v.av] [] (RetIs (bv (p v)) [])) (hlen : xs.length ≤ 2 ^ 40) :
    AC Try.prog 55 [.list 5 (xs.map CBody.av), .val (.func (.func f) #[] #[])] [] (RetIs (iv (idxF p xs 0)) []) := by
  refine ac_intro Try.func55 rfl rfl fun I w => ?_
  simp only [argEnv]
  refine x_seq ?_
  refine x_region ?_
  refine xl_pv (pv_assign rfl) rfl ?_
  refine xl_nil ?_
  refine xq_norm (xe_code ?_)
  refine x_seq ?_
  refine x_seq ?_
  refine x_region ?_
  refine xl_pv (pv_move rfl) rfl ?_
  refine xl_pv (pv_len rfl) rfl ?_
  refine xl_pv (pv_move rfl) rfl ?_
  refine xl_nil ?_
  refine xq_norm (xe_code ?_)
  refine x_block ?_
  -- slots turned in the loop and not told: [4]
  refine x_loopS (S := Nat) (fun i => i ≤ xs.length ∧ idxF p xs 0 = idxF p (xs.drop i) i) (fun i => xs.length - i) (fun i => [(8, iv i)]) (fun i => _) (0) (by simp) (.cons rfl (.cons (i := 7) rfl (.cons (i := 4) rfl (.cons (i := 0) rfl (.cons (i := 1) rfl (.nil _)))))) (rfl) ?_
  rintro i ⟨hi, hx⟩
  simp only [List.cons_append, List.nil_append]
  refine x_seq ?_
  refine x_region ?_
  refine xl_pv (pv_bin rfl rfl rfl) rfl ?_
  refine xl_nil ?_
  refine xq_norm (xe_code ?_)
  refine x_seq ?_
  refine x_condT rfl (fun h => ?_) (fun h => ?_)
  · skip
    have hlt : i < xs.length := by simpa using h
    obtain ⟨z, hz⟩ := get_lt hlt
    have hd := get_drop hz
    refine x_skip ?_
    refine xq_norm (xe_code ?_)
    refine x_seq ?_
    refine x_block ?_
    refine x_seq ?_
    refine x_region ?_
    refine xl_pv (pv_move rfl) rfl ?_
    refine xl_pv (pv_assign rfl) rfl ?_
    refine xl_nil ?_
    refine xq_norm (xe_code ?_)
    refine x_seq ?_
    refine x_region ?_
    refine xl_pv (pv_move rfl) rfl ?_
    refine xl_pv (pv_move rfl) rfl ?_
    refine xl_pv (pv_move rfl) rfl ?_
    refine xl_pv (pv_at rfl rfl (by omega) ((get_map hz))) rfl ?_
    refine xl_pv (pv_loadN_i rfl rfl) rfl ?_
    refine xl_go (hcl z (List.mem_of_getElem? hz)) rfl (.cons rfl (Wk.refl _) .nil) .d rfl ?_
    refine xl_nil ?_
    refine xq_norm (xe_code ?_)
    refine x_condT rfl (fun hp => ?_) (fun hp => ?_)
    · skip
      refine x_seq ?_
      refine x_region ?_
      refine xl_pv (pv_move rfl) rfl ?_
      refine xl_pv (pv_assign rfl) rfl ?_
      refine xl_nil ?_
      refine xq_norm (xe_code ?_)
      refine x_ret ?_
      refine xq_bret ?_
      refine xq_ret ?_
      refine xq_ret ?_
      refine xq_bret ?_
      refine xq_ret ?_
      refine xq_done (.inr rfl) _ (res1 rfl rfl) ?_
      exact ⟨by rw [hx, hd, idxF, hp]; rfl, rfl⟩
    · skip
      refine x_skip ?_
      refine xq_bnorm ?_
      refine xq_norm (xe_code ?_)
      refine x_region ?_
      refine xl_pv (pv_add rfl rfl (by omega) (by omega)) rfl ?_
      refine xl_pv (pv_move rfl) rfl ?_
      refine xl_nil ?_
      refine xe_loopS (i + 1) (⟨hlt, by rw [hx, hd, idxF, hp]; rfl⟩) (by first | omega | (simp at *; omega)) (.cons rfl (.nil _)) (.n rfl (.o rfl (.o rfl (.o rfl (.o rfl (.o rfl (.o rfl (.o rfl (.o rfl (.o rfl (.o rfl (.o rfl (.o rfl (.n rfl .b)))))))))))))) (rfl)
  · skip
    refine x_exit ?_
    refine xq_exit ?_
    refine xq_exit ?_
    refine xq_hit ?_
    refine xq_norm (xe_code ?_)
    refine x_seq ?_
    refine x_region ?_
    refine xl_pv (pv_assign rfl) rfl ?_
    refine xl_nil ?_
    refine xq_norm (xe_code ?_)
    refine x_ret ?_
    refine xq_done (.inr rfl) _ (res1 rfl rfl) ?_
    exact ⟨by rw [hx, List.drop_of_length_le (by simpa using h)]; rfl, rfl⟩
theorem anyBody (xs : List CBody) (p : CBody → Bool) (f : FuncId) [Fn1 Try.prog f] (hcl : ∀ v ∈ xs, AC Try.prog f [v.av] [] (RetIs (bv (p v)) [])) (hlen : xs.length ≤ 2 ^ 40) :
    AC Try.prog 35 [.list 5 (xs.map CBody.av), .val (.func (.func f) #[] #[])] [] (RetIs (bv (xs.any p)) []) := by
  refine ac_intro Try.func35 rfl rfl fun I w => ?_
  simp only [argEnv]
  refine x_seq ?_
  refine x_region ?_
  refine xl_pv (pv_assign rfl) rfl ?_
  refine xl_nil ?_
  refine xq_norm (xe_code ?_)
  refine x_seq ?_
  refine x_region ?_
  refine xl_pv (pv_move rfl) rfl ?_
  refine xl_pv (pv_move rfl) rfl ?_
  refine xl_go (ixBody xs p f hcl hlen) rfl (.cons rfl (Wk.refl _) (.cons rfl (Wk.refl _) .nil)) .d rfl ?_
  refine xl_pv (pv_bin rfl rfl rfl) rfl ?_
  refine xl_pv (pv_assign rfl) rfl ?_
  refine xl_nil ?_
  refine xq_norm (xe_code ?_)
  refine x_ret ?_
  refine xq_done (.inr rfl) _ (res1 rfl rfl) ?_
  exact ⟨by rw [idx_ge], rfl⟩
def WTree.av (t : WTree) : AV := .agg [.list 5 (t.bodies.map CBody.av), iv t.main, .list 3 (t.points.map CPoint.av)]
def noTree : WTree := ⟨[], 0, []⟩
/-- check.Program. -/
def programF (P : CProg) : WTree × Int × Int := match wholeF P with
  | .error (n, e) => (noTree, n, e)
  | .ok t => if (t.bodies.any fun b => decide (b.vars.length > 64)) = true ∨ P.funcs.length > 64 ∨ t.points.length > 1000 then (noTree, 0, 11) else (t, 0, 0)
theorem whole_ok {P : CProg} {t : WTree} {c : Nat} {args : List AV} {σ : List Ck} {f : FuncId} (h : AC Try.prog f args σ (OutW P c)) (hW : wholeF P = .ok t) : AC Try.prog f args σ (RetE (T := W6) (fun _ => .tuple [iv (P.structs.length + P.funcs.length : Nat), iv 0]) (fun q => memB c P (iv t.main) q.fi q.vo q.so q.vb q.vp t.bodies t.points)) := by
  rw [OutW, hW] at h
  exact h
theorem whole_err {P : CProg} {n e : Int} {c : Nat} {args : List AV} {σ : List Ck} {f : FuncId} (h : AC Try.prog f args σ (OutW P c)) (hW : wholeF P = .error (n, e)) : AC Try.prog f args σ (RetIs (.tuple [iv n, iv e]) []) := by
  rw [OutW, hW] at h
  exact h
theorem fnsF_len {P : CProg} : ∀ {l : List CDecl} {i : Nat} {bs : List CBody} {ps : List CPoint} {x : List CBody × List CPoint}, fnsF P l i bs ps = .ok x → x.1.length = bs.length + l.length
  | [], _, _, _, _, h => by rw [fnsF] at h; injection h with h; subst h; simp
  | d :: r, i, bs, ps, x, h => by
    rw [fnsF] at h
    split at h
    · cases h
    · have := fnsF_len h
      simp at this
      simp
      omega
theorem whole_len {P : CProg} {t : WTree} (h : wholeF P = .ok t) : t.bodies.length = P.funcs.length := by
  unfold wholeF at h
  split at h
  · cases h
  split at h
  · cases h
  rename_i hf
  split at h
  · cases h
  split at h
  · cases h
  split at h
  · injection h with h
    subst h
    simpa using fnsF_len hf
  · cases h
theorem program_c (P : CProg) (hP : POk P) (hsz : dszs P.funcs ≤ 2 ^ 39) :
    AC Try.prog 17 [.agg P.cs] [] (RetIs (.tuple [(programF P).1.av, iv (programF P).2.1, iv (programF P).2.2]) []) := by
  have hw := whole_c P hP hsz
  have hfn := hP.fn
  refine ac_intro Try.func17 rfl rfl fun I w => ?_
  simp only [argEnv]
  rcases hW : wholeF P with ⟨n, e⟩ | t
  · skip
    refine x_seq ?_
    refine x_region ?_
    refine xl_box rfl (by rfl) rfl (fun b1 => ?_)
    refine xl_alloc rfl (fun b2 => ?_)
    refine xl_pv (pv_assign rfl) rfl ?_
    refine xl_pv (pv_assign rfl) rfl ?_
    refine xl_nil ?_
    refine xq_norm (xe_code ?_)
    refine x_seq ?_
    refine x_region ?_
    refine xl_pv (pv_loadN rfl (.there .here) rfl) rfl ?_
    refine xl_pv (pv_build (by exact (.cons rfl rfl rfl (by first | rfl | (simp [AV.cs, oneB, *]; done) | (simp [AV.cs, oneB, *]; repeat' constructor)) (.c (.c .z)) .nil))) rfl ?_
    refine xl_box rfl (by rfl) rfl (fun b11 => ?_)
    refine xl_pv (pv_assign rfl) rfl ?_
    refine xl_nil ?_
    refine xq_norm (xe_code ?_)
    refine x_seq ?_
    refine x_seq ?_
    refine x_region ?_
    refine xl_pv (pv_move rfl) rfl ?_
    refine xl_ret (whole_err (hw b11) hW) rfl (.cons rfl (Wk.refl _) .nil) (.cons .here .nil) .n rfl ?_
    refine xl_pv (pv_move rfl) rfl ?_
    refine xl_pv (pv_extract rfl rfl) rfl ?_
    refine xl_pv (pv_extract rfl rfl) rfl ?_
    refine xl_pv (pv_assign rfl) rfl ?_
    refine xl_pv (pv_assign rfl) rfl ?_
    refine xl_nil ?_
    refine xq_norm (xe_code ?_)
    refine x_seq ?_
    refine x_region ?_
    refine xl_pv (pv_move rfl) rfl ?_
    refine xl_pv (pv_bin rfl rfl rfl) rfl ?_
    refine xl_nil ?_
    refine xq_norm (xe_code ?_)
    refine x_condT rfl (fun h1 => ?_) (fun h1 => ?_)
    · skip
      refine x_seq ?_
      refine x_region ?_
      refine xl_pv (pv_build (by exact .nil)) rfl ?_
      refine xl_pv (pv_move rfl) rfl ?_
      refine xl_pv (pv_move rfl) rfl ?_
      refine xl_put .h rfl rfl (by first | rfl | (simp [AV.cs, oneB, *]; done) | (simp [AV.cs, oneB, *]; repeat' constructor)) rfl (.c (.c (.c .z))) ?_
      refine xl_pv (pv_assign rfl) rfl ?_
      refine xl_pv (pv_assign rfl) rfl ?_
      refine xl_nil ?_
      refine xq_norm (xe_code ?_)
      refine x_ret ?_
      refine xq_ret ?_
      refine xq_doneW (.inr rfl) (.tuple [noTree.av, iv n, iv e]) (resCTT rfl (cr_N rfl .here rfl) rfl rfl) (drop_one .here (drop_one .here drop_nil)) (by repeat (first | exact Wk.refl _ | exact Wk.nil _ | exact All2.nil | refine Wk.tuple ?_ | refine Wk.agg ?_ | refine All2.cons ?_ ?_)) ?_
      exact ⟨by rw [programF, hW], rfl⟩
    · skip
      exact absurd (by simpa using h1) (wholeF_bad hW)
  · skip
    refine x_seq ?_
    refine x_region ?_
    refine xl_box rfl (by rfl) rfl (fun b1 => ?_)
    refine xl_alloc rfl (fun b2 => ?_)
    refine xl_pv (pv_assign rfl) rfl ?_
    refine xl_pv (pv_assign rfl) rfl ?_
    refine xl_nil ?_
    refine xq_norm (xe_code ?_)
    refine x_seq ?_
    refine x_region ?_
    refine xl_pv (pv_loadN rfl (.there .here) rfl) rfl ?_
    refine xl_pv (pv_build (by exact (.cons rfl rfl rfl (by first | rfl | (simp [AV.cs, oneB, *]; done) | (simp [AV.cs, oneB, *]; repeat' constructor)) (.c (.c .z)) .nil))) rfl ?_
    refine xl_box rfl (by rfl) rfl (fun b11 => ?_)
    refine xl_pv (pv_assign rfl) rfl ?_
    refine xl_nil ?_
    refine xq_norm (xe_code ?_)
    refine x_seq ?_
    refine x_seq ?_
    refine x_region ?_
    refine xl_pv (pv_move rfl) rfl ?_
    refine xl_retE (whole_ok (hw b11) hW) rfl (.cons rfl (Wk.refl _) .nil) (.cons .here .nil) (fun _ => (.c (.c (.c .n)))) rfl (fun q => ?_)
    refine xl_pv (pv_move rfl) rfl ?_
    refine xl_pv (pv_extract rfl rfl) rfl ?_
    refine xl_pv (pv_extract rfl rfl) rfl ?_
    refine xl_pv (pv_assign rfl) rfl ?_
    refine xl_pv (pv_assign rfl) rfl ?_
    refine xl_nil ?_
    refine xq_norm (xe_code ?_)
    refine x_seq ?_
    refine x_region ?_
    refine xl_pv (pv_move rfl) rfl ?_
    refine xl_pv (pv_bin rfl rfl rfl) rfl ?_
    refine xl_nil ?_
    refine xq_norm (xe_code ?_)
    refine x_condT rfl (fun h1 => ?_) (fun h1 => ?_)
    · skip
      simp at h1
    · skip
      refine x_pubc 2 (.there .here) .h rfl (.s (.s (.c .z))) ?_
      refine x_pubc 4 (.there .here) .h rfl (.s (.s (.s (.s (.c .z))))) ?_
      refine x_skip ?_
      refine xq_norm (xe_code ?_)
      refine x_seq ?_
      refine x_region ?_
      refine xl_pv (pv_move rfl) rfl ?_
      refine xl_pv (pv_nil rfl) rfl ?_
      refine xl_pv (pv_field_a rfl) rfl ?_
      refine xl_pv (pv_field_a rfl) rfl ?_
      refine xl_pv (pv_load1 rfl .here rfl) rfl ?_
      refine xl_go (anyBody t.bodies (fun b => decide (b.vars.length > 64)) _ (fun b _ => program1_c b) (by have := whole_len hW; omega)) rfl (.cons rfl (Wk.refl _) (.cons rfl (Wk.refl _) .nil)) .d rfl ?_
      refine xl_pv (pv_assign rfl) rfl ?_
      refine xl_nil ?_
      refine xq_norm (xe_code ?_)
      refine x_seq ?_
      refine x_seq ?_
      refine x_region ?_
      refine xl_pv (pv_move rfl) rfl ?_
      refine xl_pv (pv_move rfl) rfl ?_
      refine xl_guard rfl rfl (fun hA => ?_) (fun hA => ?_)
      · skip
        refine xl_take rfl rfl rfl ?_
        refine xl_pv (pv_field_a rfl) rfl ?_
        refine xl_take rfl rfl rfl ?_
        refine xl_pv (pv_load1 rfl (.there (.there .here)) rfl) rfl ?_
        refine xl_take rfl rfl rfl ?_
        refine xl_pv (pv_len rfl) rfl ?_
        refine xl_take rfl rfl rfl ?_
        refine xl_pv (pv_bin rfl rfl rfl) rfl ?_
        refine xl_pv (pv_pick_f rfl rfl) rfl ?_
        refine xl_pv (pv_move rfl) rfl ?_
        refine xl_guard rfl rfl (fun hB => ?_) (fun hB => ?_)
        · skip
          refine xl_take rfl rfl rfl ?_
          refine xl_pv (pv_move rfl) rfl ?_
          refine xl_take rfl rfl rfl ?_
          refine xl_pv (pv_nil rfl) rfl ?_
          refine xl_take rfl rfl rfl ?_
          refine xl_pv (pv_field_a rfl) rfl ?_
          refine xl_take rfl rfl rfl ?_
          refine xl_pv (pv_field_a rfl) rfl ?_
          refine xl_take rfl rfl rfl ?_
          refine xl_pv (pv_load1 rfl .here rfl) rfl ?_
          refine xl_take rfl rfl rfl ?_
          refine xl_pv (pv_len rfl) rfl ?_
          refine xl_take rfl rfl rfl ?_
          refine xl_pv (pv_bin rfl rfl rfl) rfl ?_
          refine xl_pv (pv_pick_f rfl rfl) rfl ?_
          refine xl_nil ?_
          refine xq_norm (xe_code ?_)
          refine x_condT rfl (fun h2 => ?_) (fun h2 => ?_)
          · skip
            have hp : programF P = (noTree, 0, 11) := by simp at h2; simp only [programF, hW]; rw [if_pos (.inr (.inr (by omega)))]
            refine x_seq ?_
            refine x_region ?_
            refine xl_pv (pv_build (by exact .nil)) rfl ?_
            refine xl_put (.t .h) rfl rfl (by first | rfl | (simp [AV.cs, oneB, *]; done) | (simp [AV.cs, oneB, *]; repeat' constructor)) rfl (.c (.c (.c .z))) ?_
            refine xl_pv (pv_assign rfl) rfl ?_
            refine xl_pv (pv_assign rfl) rfl ?_
            refine xl_nil ?_
            refine xq_norm (xe_code ?_)
            refine x_ret ?_
            refine xq_ret ?_
            refine xq_doneW (.inr rfl) (.tuple [noTree.av, iv 0, iv 11]) (resCTT rfl (cr_N rfl (.there .here) rfl) rfl rfl) (drop_one .here (drop_one .here (drop_one .here drop_nil))) (by repeat (first | exact Wk.refl _ | exact Wk.nil _ | exact All2.nil | refine Wk.tuple ?_ | refine Wk.agg ?_ | refine All2.cons ?_ ?_)) ?_
            exact ⟨by rw [hp], rfl⟩
          · skip
            have hp : programF P = (t, 0, 0) := by simp only [programF, hW]; rw [if_neg (by rw [hA]; simp at hB h2; simp; omega)]
            refine x_skip ?_
            refine xq_norm (xe_code ?_)
            refine x_seq ?_
            refine x_region ?_
            refine xl_pv (pv_move rfl) rfl ?_
            refine xl_pv (pv_nil rfl) rfl ?_
            refine xl_pv (pv_field_a rfl) rfl ?_
            refine xl_pv (pv_loadN rfl .here rfl) rfl ?_
            refine xl_put (.t .h) rfl rfl (by first | rfl | (simp [AV.cs, oneB, *]; done) | (simp [AV.cs, oneB, *]; repeat' constructor)) rfl (.c (.c (.c .z))) ?_
            refine xl_pv (pv_assign rfl) rfl ?_
            refine xl_pv (pv_assign rfl) rfl ?_
            refine xl_nil ?_
            refine xq_norm (xe_code ?_)
            refine x_ret ?_
            refine xq_doneW (.inr rfl) (.tuple [t.av, iv 0, iv 0]) (resCTT rfl (cr_N rfl (.there .here) rfl) rfl rfl) (drop_one .here (drop_one .here (drop_one .here drop_nil))) (by repeat (first | exact Wk.refl _ | exact Wk.nil _ | exact All2.nil | refine Wk.tuple ?_ | refine Wk.agg ?_ | refine All2.cons ?_ ?_)) ?_
            exact ⟨by rw [hp], rfl⟩
        · skip
          have hp : programF P = (noTree, 0, 11) := by simp at hB; simp only [programF, hW]; rw [if_pos (.inr (.inl (by omega)))]
          refine xl_skip rfl rfl rfl rfl ?_
          refine xl_skip rfl rfl rfl rfl ?_
          refine xl_skip rfl rfl rfl rfl ?_
          refine xl_skip rfl rfl rfl rfl ?_
          refine xl_skip rfl rfl rfl rfl ?_
          refine xl_skip rfl rfl rfl rfl ?_
          refine xl_skip rfl rfl rfl rfl ?_
          refine xl_pv (pv_pick_t rfl rfl) rfl ?_
          refine xl_nil ?_
          refine xq_norm (xe_code ?_)
          refine x_cond rfl (fun _ => ?_) (fun h => nomatch h)
          refine x_seq ?_
          refine x_region ?_
          refine xl_pv (pv_build (by exact .nil)) rfl ?_
          refine xl_put (.t .h) rfl rfl (by first | rfl | (simp [AV.cs, oneB, *]; done) | (simp [AV.cs, oneB, *]; repeat' constructor)) rfl (.c (.c (.c .z))) ?_
          refine xl_pv (pv_assign rfl) rfl ?_
          refine xl_pv (pv_assign rfl) rfl ?_
          refine xl_nil ?_
          refine xq_norm (xe_code ?_)
          refine x_ret ?_
          refine xq_ret ?_
          refine xq_doneW (.inr rfl) (.tuple [noTree.av, iv 0, iv 11]) (resCTT rfl (cr_N rfl (.there .here) rfl) rfl rfl) (drop_one .here (drop_one .here (drop_one .here drop_nil))) (by repeat (first | exact Wk.refl _ | exact Wk.nil _ | exact All2.nil | refine Wk.tuple ?_ | refine Wk.agg ?_ | refine All2.cons ?_ ?_)) ?_
          exact ⟨by rw [hp], rfl⟩
      · skip
        have hp : programF P = (noTree, 0, 11) := by simp only [programF, hW]; rw [if_pos (.inl hA)]
        refine xl_skip rfl rfl rfl rfl ?_
        refine xl_skip rfl rfl rfl rfl ?_
        refine xl_skip rfl rfl rfl rfl ?_
        refine xl_skip rfl rfl rfl rfl ?_
        refine xl_pv (pv_pick_t rfl rfl) rfl ?_
        refine xl_pv (pv_move rfl) rfl ?_
        refine xl_skip rfl rfl rfl rfl ?_
        refine xl_skip rfl rfl rfl rfl ?_
        refine xl_skip rfl rfl rfl rfl ?_
        refine xl_skip rfl rfl rfl rfl ?_
        refine xl_skip rfl rfl rfl rfl ?_
        refine xl_skip rfl rfl rfl rfl ?_
        refine xl_skip rfl rfl rfl rfl ?_
        refine xl_pv (pv_pick_t rfl rfl) rfl ?_
        refine xl_nil ?_
        refine xq_norm (xe_code ?_)
        refine x_cond rfl (fun _ => ?_) (fun h => nomatch h)
        refine x_seq ?_
        refine x_region ?_
        refine xl_pv (pv_build (by exact .nil)) rfl ?_
        refine xl_put (.t .h) rfl rfl (by first | rfl | (simp [AV.cs, oneB, *]; done) | (simp [AV.cs, oneB, *]; repeat' constructor)) rfl (.c (.c (.c .z))) ?_
        refine xl_pv (pv_assign rfl) rfl ?_
        refine xl_pv (pv_assign rfl) rfl ?_
        refine xl_nil ?_
        refine xq_norm (xe_code ?_)
        refine x_ret ?_
        refine xq_ret ?_
        refine xq_doneW (.inr rfl) (.tuple [noTree.av, iv 0, iv 11]) (resCTT rfl (cr_N rfl (.there .here) rfl) rfl rfl) (drop_one .here (drop_one .here (drop_one .here drop_nil))) (by repeat (first | exact Wk.refl _ | exact Wk.nil _ | exact All2.nil | refine Wk.tuple ?_ | refine Wk.agg ?_ | refine All2.cons ?_ ?_)) ?_
        exact ⟨by rw [hp], rfl⟩
end Go.Proofs.Ytmallgapchjhnaa
