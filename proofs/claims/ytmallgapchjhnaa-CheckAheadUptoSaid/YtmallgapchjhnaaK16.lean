/- The checker's whole. No condition: plain theorems. -/
import Derived.Test.YtmallgapchjhnaaK15
set_option linter.unusedVariables false
set_option linter.unusedSimpArgs false
namespace Go.Proofs.Ytmallgapchjhnaa
set_option maxRecDepth 100000
open Go Go.Ax
attribute [local irreducible] X XL XE XQ PV

def stsF (P : CProg) : List CStruct → Nat → Except (Int × Int) Unit
  | [], _ => .ok ()
  | s :: r, i => match structF P i s with
    | .error e => .error ((i : Int), e)
    | .ok _ => stsF P r (i + 1)
def fnsF (P : CProg) : List CDecl → Nat → List CBody → List CPoint → Except (Int × Int) (List CBody × List CPoint)
  | [], _, bs, ps => .ok (bs, ps)
  | d :: r, i, bs, ps => match bodyF P i d ps with
    | .error e => .error ((P.structs.length + i : Nat), e)
    | .ok (b, ps') => fnsF P r (i + 1) (bs ++ [b]) ps'
def mainB : ByteArray := ⟨#[109, 97, 105, 110]⟩
structure WTree where
  bodies : List CBody
  main : Int
  points : List CPoint
def wholeF (P : CProg) : Except (Int × Int) WTree := match stsF P P.structs 0 with
  | .error x => .error x
  | .ok _ => match fnsF P P.funcs 0 [] [] with
    | .error x => .error x
    | .ok (bs, ps) => if funF P mainB < 0 then .error ((P.structs.length + P.funcs.length : Nat), 8) else match P.funcs[(funF P mainB).toNat]? with
      | none => .error (0, 9)
      | some d => if d.params.length = 0 ∧ d.result.kind = 0 then .ok ⟨bs, funF P mainB, ps⟩ else .error ((P.structs.length + P.funcs.length : Nat), 8)
def dsz (d : CDecl) : Nat := d.params.length + CStmt.szs d.body
def dszs : List CDecl → Nat
  | [] => 0
  | d :: r => dsz d + dszs r
theorem dszs_drop {l : List CDecl} {i : Nat} {z : CDecl} (h : l[i]? = some z) : dszs (l.drop i) = dsz z + dszs (l.drop (i + 1)) := by rw [get_drop h, dszs]
theorem bodyF_on {P : CProg} (hP : POk P) {i : Nat} {d : CDecl} {ps ps' : List CPoint} {b : CBody} {n : Nat} (h : bodyF P i d ps = .ok (b, ps')) (hn : ps.length + (dsz d + n) ≤ 2 ^ 39) : ps'.length + n ≤ 2 ^ 39 := by
  unfold bodyF at h
  split at h
  · cases h
  split at h
  · cases h
  split at h
  · cases h
  split at h
  · cases h
  split at h
  · cases h
  rename_i acts st hL
  split at h
  · cases h
  injection h with h
  injection h with _ h
  subst h
  unfold listF at hL
  split at hL
  · cases hL
  rename_i acs st' hG
  injection hL with _ hL
  subst hL
  have := (goF_on P i hP.fs _ _ hG).b n ⟨by unfold dsz at hn; simp; omega, by unfold dsz at hn; simp; omega, by unfold dsz at hn; simp [scopeN]; omega, by intro x hx; obtain ⟨y, _, rfl⟩ := List.mem_map.1 hx; simp [varOf]⟩
  exact this.p
structure WSt where
  i : Nat
  vb : Value
  vp : Value
  fi : AV
  vo : AV
  so : AV
  bs : List CBody
  ps : List CPoint
structure W6 where
  vb : Value
  vp : Value
  fi : AV
  vo : AV
  so : AV
def OutW (P : CProg) (c : Nat) : AE → List Ck → Prop := match wholeF P with
  | .ok t => RetE (T := W6) (fun _ => .tuple [iv (P.structs.length + P.funcs.length : Nat), iv 0]) (fun q => memB c P (iv t.main) q.fi q.vo q.so q.vb q.vp t.bodies t.points)
  | .error (n, e) => RetIs (.tuple [iv n, iv e]) []
theorem whole_c (P : CProg) (hP : POk P) (hsz : dszs P.funcs ≤ 2 ^ 39) (c : Nat) :
    AC Try.prog 34 [ptr c] [.ref c 110 [.list 2 (P.structs.map CStruct.av), .list 7 (P.funcs.map CDecl.av), .val (.slice none 0 0), iv 0, .val (.slice none 0 0), iv 0, .val (.slice none 0 0), .val (.slice none 0 0)]] (OutW P c) := by
  have hst := hP.st
  have hfn := hP.fn
  refine ac_introD Try.func34 rfl rfl fun I w => ?_
  simp only [argEnv]
  refine x_vnilAt 59 5 (.t .h) ?_
  refine x_vnilAt 87 3 (.t (.t .h)) ?_
  refine x_seq ?_
  refine x_region ?_
  refine xl_pv (pv_assign rfl) rfl ?_
  refine xl_alloc rfl (fun b3 => ?_)
  refine xl_nil ?_
  refine xq_norm (xe_code ?_)
  refine x_seq ?_
  refine x_region ?_
  refine xl_pv (pv_clo (.cons rfl .nil)) rfl ?_
  refine xl_defer rfl .nil ?_
  refine xl_nil ?_
  refine xq_norm (xe_code ?_)
  refine x_seq ?_
  refine x_seq ?_
  refine x_region ?_
  refine xl_pv (pv_move rfl) rfl ?_
  refine xl_pv (pv_nil rfl) rfl ?_
  refine xl_pv (pv_field_a rfl) rfl ?_
  refine xl_pv (pv_field_a rfl) rfl ?_
  refine xl_pv (pv_load1 rfl (.there .here) rfl) rfl ?_
  refine xl_pv (pv_len rfl) rfl ?_
  refine xl_pv (pv_move rfl) rfl ?_
  refine xl_nil ?_
  refine xq_norm (xe_code ?_)
  refine x_block ?_
  refine x_loopS (S := Nat) (fun i => i ≤ P.structs.length ∧ stsF P P.structs 0 = stsF P (P.structs.drop i) i) (fun i => P.structs.length - i) (fun i => [(14, iv i), (2, iv i)]) (fun i => _) (0) (by simp) (.cons rfl (.cons rfl (.cons (i := 13) rfl (.cons (i := 3) rfl (.cons (i := 0) rfl (.nil _)))))) (rfl) ?_
  rintro i ⟨hi, hx⟩
  simp only [List.cons_append, List.nil_append]
  refine x_seq ?_
  refine x_region ?_
  refine xl_pv (pv_bin rfl rfl rfl) rfl ?_
  refine xl_nil ?_
  refine xq_norm (xe_code ?_)
  refine x_seq ?_
  refine x_condT rfl (fun h => ?_) (fun h => ?_)
  · skip
    have hlt : i < P.structs.length := by simpa using h
    obtain ⟨z, hz⟩ := get_lt hlt
    have hd := get_drop hz
    rcases hF : structF P i z with e | u
    · skip
      have hW : wholeF P = .error ((i : Int), e) := by rw [wholeF, hx, hd, stsF, hF]
      refine x_skip ?_
      refine xq_norm (xe_code ?_)
      refine x_seq ?_
      refine x_block ?_
      refine x_seq ?_
      refine x_region ?_
      refine xl_pv (pv_move rfl) rfl ?_
      refine xl_pv (pv_assign rfl) rfl ?_
      refine xl_nil ?_
      refine xq_norm (xe_code ?_)
      refine x_seq ?_
      refine x_region ?_
      refine xl_pv (pv_move rfl) rfl ?_
      refine xl_pv (pv_move rfl) rfl ?_
      refine xl_dies (AC_err (structs_c P hP i z hz c _ _ _ _ _ _ _) (by rw [hF]; rfl)) rfl (.cons rfl (Wk.refl _) (.cons rfl (Wk.refl _) .nil)) (.k (.x .d)) rfl ?_
      refine xq_panic ?_
      refine xq_bpanic ?_
      refine xq_panic ?_
      refine xq_panic ?_
      refine xq_bpanic ?_
      refine xq_panic ?_
      refine xv_panic ?_
      refine xv_recover (nv := .int .i64 e) (fun w u hc => whole1_panic b3 35 e w u hc) .here ?_
      refine xv_done _ (resTC rfl rfl (cr_1 rfl .here rfl)) (drop_one .here (drop_one .here (drop_one .here (drop_one .here drop_nil)))) (Wk.refl _) ?_
      rw [OutW, hW]; exact ⟨rfl, rfl⟩
    · skip
      refine x_skip ?_
      refine xq_norm (xe_code ?_)
      refine x_seq ?_
      refine x_block ?_
      refine x_seq ?_
      refine x_region ?_
      refine xl_pv (pv_move rfl) rfl ?_
      refine xl_pv (pv_assign rfl) rfl ?_
      refine xl_nil ?_
      refine xq_norm (xe_code ?_)
      refine x_seq ?_
      refine x_region ?_
      refine xl_pv (pv_move rfl) rfl ?_
      refine xl_pv (pv_move rfl) rfl ?_
      refine xl_go (AC_ok (structs_c P hP i z hz c _ _ _ _ _ _ _) (by rw [hF]; rfl)) rfl (.cons rfl (Wk.refl _) (.cons rfl (Wk.refl _) .nil)) (.k (.x .d)) rfl ?_
      refine xl_nil ?_
      refine xq_norm (xe_code ?_)
      refine x_region ?_
      refine xl_pv (pv_move rfl) rfl ?_
      refine xl_pv (pv_add rfl rfl (by omega) (by omega)) rfl ?_
      refine xl_pv (pv_assign rfl) rfl ?_
      refine xl_nil ?_
      refine xq_bnorm ?_
      refine xq_norm (xe_code ?_)
      refine x_region ?_
      refine xl_pv (pv_add rfl rfl (by omega) (by omega)) rfl ?_
      refine xl_pv (pv_move rfl) rfl ?_
      refine xl_nil ?_
      refine xe_loopS (i + 1) (⟨hlt, by rw [hx, hd, stsF, hF]⟩) (by first | omega | (simp at *; omega)) (.cons rfl (.cons rfl (.nil _))) (.n rfl (.o rfl (.n rfl (.o rfl (.o rfl (.o rfl (.o rfl (.o rfl (.o rfl (.o rfl (.o rfl (.o rfl (.n rfl (.n rfl .b)))))))))))))) (rfl)
  · skip
    have hle : P.structs.length ≤ i := by simpa using h
    have he : i = P.structs.length := Nat.le_antisymm hi hle
    subst he
    have hst0 : stsF P P.structs 0 = .ok () := by rw [hx, List.drop_length]; rfl
    clear hx
    refine x_exit ?_
    refine xq_exit ?_
    refine xq_exit ?_
    refine xq_hit ?_
    refine xq_norm (xe_code ?_)
    refine x_seq ?_
    refine x_seq ?_
    refine x_region ?_
    refine xl_pv (pv_move rfl) rfl ?_
    refine xl_pv (pv_nil rfl) rfl ?_
    refine xl_pv (pv_field_a rfl) rfl ?_
    refine xl_pv (pv_field_a rfl) rfl ?_
    refine xl_pv (pv_load1 rfl (.there .here) rfl) rfl ?_
    refine xl_pv (pv_len rfl) rfl ?_
    refine xl_pv (pv_move rfl) rfl ?_
    refine xl_nil ?_
    refine xq_norm (xe_code ?_)
    refine x_block ?_
    refine x_loopS (S := WSt) (fun q => q.i ≤ P.funcs.length ∧ fnsF P P.funcs 0 [] [] = fnsF P (P.funcs.drop q.i) q.i q.bs q.ps ∧ q.bs.length = q.i ∧ q.ps.length + dszs (P.funcs.drop q.i) ≤ 2 ^ 39) (fun q => P.funcs.length - q.i) (fun q => [(29, iv q.i), (2, iv (P.structs.length + q.i : Nat))]) (fun q => .ref b3 35 [iv 0] :: .ref c 110 [.list 2 (P.structs.map CStruct.av), .list 7 (P.funcs.map CDecl.av), .val q.vb, iv 0, .val q.vp, q.fi, q.vo, q.so] :: .vec q.vb 59 5 (q.bs.map CBody.av) :: .vec q.vp 87 3 (q.ps.map CPoint.av) :: []) (⟨0, .slice none 0 0, .slice none 0 0, iv 0, .val (.slice none 0 0), .val (.slice none 0 0), [], []⟩) (⟨Nat.zero_le _, rfl, rfl, by simpa using hsz⟩) (.cons rfl (.cons rfl (.cons (i := 28) rfl (.cons (i := 3) rfl (.cons (i := 0) rfl (.nil _)))))) (rfl) ?_
    rintro ⟨i, vb, vp, fi, vo, so, bs, ps⟩ ⟨hi, hx, hb, hps⟩
    simp only [List.cons_append, List.nil_append]
    dsimp only at hi hx hb hps
    refine x_seq ?_
    refine x_region ?_
    refine xl_pv (pv_bin rfl rfl rfl) rfl ?_
    refine xl_nil ?_
    refine xq_norm (xe_code ?_)
    refine x_seq ?_
    refine x_condT rfl (fun h2 => ?_) (fun h2 => ?_)
    · skip
      have hlt : i < P.funcs.length := by simpa using h2
      obtain ⟨z, hz⟩ := get_lt hlt
      have hd := get_drop hz
      have hds := dszs_drop hz
      rcases hF : bodyF P i z ps with e | ⟨b, ps'⟩
      · skip
        have hW : wholeF P = .error ((P.structs.length + i : Nat), e) := by simp only [wholeF, hst0]; rw [hx, hd, fnsF, hF]
        refine x_skip ?_
        refine xq_norm (xe_code ?_)
        refine x_seq ?_
        refine x_block ?_
        refine x_seq ?_
        refine x_region ?_
        refine xl_pv (pv_move rfl) rfl ?_
        refine xl_pv (pv_assign rfl) rfl ?_
        refine xl_nil ?_
        refine xq_norm (xe_code ?_)
        refine x_seq ?_
        refine x_region ?_
        refine xl_pv (pv_move rfl) rfl ?_
        refine xl_pv (pv_move rfl) rfl ?_
        refine xl_die (body_err P hP i z hz c _ _ _ _ vb vp bs ps (by omega) (by unfold dsz at hds; omega) hF) rfl (.cons rfl (Wk.refl _) (.cons rfl (Wk.refl _) .nil)) (.cons (.there .here) (.cons (.there .here) (.cons (.there .here) .nil))) .n rfl ?_
        refine xq_panic ?_
        refine xq_bpanic ?_
        refine xq_panic ?_
        refine xq_panic ?_
        refine xq_bpanic ?_
        refine xq_panic ?_
        refine xv_panic ?_
        refine xv_recover (nv := .int .i64 e) (fun w u hc => whole1_panic b3 35 e w u hc) .here ?_
        refine xv_done _ (resTC rfl rfl (cr_1 rfl .here rfl)) (drop_one .here drop_nil) (Wk.refl _) ?_
        rw [OutW, hW]; exact ⟨rfl, rfl⟩
      · skip
        refine x_skip ?_
        refine xq_norm (xe_code ?_)
        refine x_seq ?_
        refine x_block ?_
        refine x_seq ?_
        refine x_region ?_
        refine xl_pv (pv_move rfl) rfl ?_
        refine xl_pv (pv_assign rfl) rfl ?_
        refine xl_nil ?_
        refine xq_norm (xe_code ?_)
        refine x_seq ?_
        refine x_region ?_
        refine xl_pv (pv_move rfl) rfl ?_
        refine xl_pv (pv_move rfl) rfl ?_
        refine xl_goE (body_ok P hP i z hz c _ _ _ _ vb vp bs ps (by omega) (by unfold dsz at hds; omega) hF) rfl (.cons rfl (Wk.refl _) (.cons rfl (Wk.refl _) .nil)) (.k (.x (.x (.x .d)))) rfl (fun q => ?_)
        refine xl_nil ?_
        refine xq_norm (xe_code ?_)
        refine x_region ?_
        refine xl_pv (pv_move rfl) rfl ?_
        refine xl_pv (pv_add rfl rfl (by omega) (by omega)) rfl ?_
        refine xl_pv (pv_assign rfl) rfl ?_
        refine xl_nil ?_
        refine xq_bnorm ?_
        refine xq_norm (xe_code ?_)
        refine x_region ?_
        refine xl_pv (pv_add rfl rfl (by omega) (by omega)) rfl ?_
        refine xl_pv (pv_move rfl) rfl ?_
        refine xl_nil ?_
        refine xe_loopS (⟨i + 1, q.b, q.p, iv i, q.v, q.s, bs ++ [b], ps'⟩) (⟨hlt, by rw [hx, hd, fnsF, hF], by simp [hb], (bodyF_on hP hF (n := dszs (P.funcs.drop (i + 1))) (by omega))⟩) (by first | omega | (simp at *; omega)) (.cons rfl (.cons rfl (.nil _))) (.n rfl (.o rfl (.n rfl (.o rfl (.o rfl (.o rfl (.o rfl (.o rfl (.o rfl (.o rfl (.o rfl (.o rfl (.n rfl (.n rfl .b)))))))))))))) (rfl)
    · skip
      have hle : P.funcs.length ≤ i := by simpa using h2
      have he : i = P.funcs.length := Nat.le_antisymm hi hle
      subst he
      have hf0 : fnsF P P.funcs 0 [] [] = .ok (bs, ps) := by rw [hx, List.drop_length]; rfl
      refine x_exit ?_
      refine xq_exit ?_
      refine xq_exit ?_
      refine xq_hit ?_
      refine xq_norm (xe_code ?_)
      refine x_seq ?_
      refine x_region ?_
      refine xl_pv (pv_move rfl) rfl ?_
      refine xl_pv (pv_move rfl) rfl ?_
      refine xl_go (function_c P c _ _ _ _ _ _ mainB (by omega)) rfl (.cons rfl (Wk.refl _) (.cons rfl (Wk.refl _) .nil)) (.k (.x .d)) rfl ?_
      rcases Decidable.em (funF P mainB < 0) with hm | hm
      · skip
        have hW : wholeF P = .error ((P.structs.length + P.funcs.length : Nat), 8) := by simp only [wholeF, hst0, hf0]; rw [if_pos hm]
        refine xl_pv (pv_nil rfl) rfl ?_
        refine xl_pv (pv_field_a rfl) rfl ?_
        refine xl_pv (pv_field_a rfl) rfl ?_
        refine xl_put (.t .h) rfl rfl (by first | rfl | (simp [AV.cs, oneB, *]; done) | (simp [AV.cs, oneB, *]; repeat' constructor)) rfl (.s (.s (.s (.c .z)))) ?_
        refine xl_nil ?_
        refine xq_norm (xe_code ?_)
        refine x_seq ?_
        refine x_region ?_
        refine xl_pv (pv_move rfl) rfl ?_
        refine xl_pv (pv_nil rfl) rfl ?_
        refine xl_pv (pv_field_a rfl) rfl ?_
        refine xl_pv (pv_field_a rfl) rfl ?_
        refine xl_pv (pv_load1 rfl (.there .here) rfl) rfl ?_
        refine xl_pv (pv_bin rfl rfl rfl) rfl ?_
        refine xl_dies (fail_f 8) rfl (.cons rfl (Wk.of_eq (by rw [decide_eq_false (Int.not_le.2 hm)])) (.cons rfl (Wk.refl _) .nil)) .d rfl ?_
        refine xq_panic ?_
        refine xv_panic ?_
        refine xv_recover (nv := .int .i64 8) (fun w u hc => whole1_panic b3 35 8 w u hc) .here ?_
        refine xv_done _ (resTC rfl rfl (cr_1 rfl .here rfl)) (drop_one .here (drop_one .here (drop_one .here (drop_one .here drop_nil)))) (Wk.refl _) ?_
        rw [OutW, hW]; exact ⟨rfl, rfl⟩
      · skip
        obtain ⟨j, d, hj, hd, _⟩ := idx_lt _ _ _ (Int.not_lt.1 hm)
        have hd' : P.funcs[(funF P mainB).toNat]? = some d := by rw [funF, hj]; simpa using hd
        refine xl_pv (pv_nil rfl) rfl ?_
        refine xl_pv (pv_field_a rfl) rfl ?_
        refine xl_pv (pv_field_a rfl) rfl ?_
        refine xl_put (.t .h) rfl rfl (by first | rfl | (simp [AV.cs, oneB, *]; done) | (simp [AV.cs, oneB, *]; repeat' constructor)) rfl (.s (.s (.s (.c .z)))) ?_
        refine xl_nil ?_
        refine xq_norm (xe_code ?_)
        refine x_seq ?_
        refine x_region ?_
        refine xl_pv (pv_move rfl) rfl ?_
        refine xl_pv (pv_nil rfl) rfl ?_
        refine xl_pv (pv_field_a rfl) rfl ?_
        refine xl_pv (pv_field_a rfl) rfl ?_
        refine xl_pv (pv_load1 rfl (.there .here) rfl) rfl ?_
        refine xl_pv (pv_bin rfl rfl rfl) rfl ?_
        refine xl_go (fail_t 8) rfl (.cons rfl (Wk.of_eq (by rw [decide_eq_true (Int.not_lt.1 hm)])) (.cons rfl (Wk.refl _) .nil)) .d rfl ?_
        refine xl_nil ?_
        refine xq_norm (xe_code ?_)
        refine x_seq ?_
        refine x_draw rfl ?_
        refine xd_v 0 rfl rfl rfl (gv_v (pv_move rfl) rfl) ?_
        refine xd_v 1 rfl rfl rfl (gv_v (pv_nil rfl) rfl) ?_
        refine xd_v 2 rfl rfl rfl (gv_v (pv_field_a rfl) rfl) ?_
        refine xd_v 3 rfl rfl rfl (gv_v (pv_field_a rfl) rfl) ?_
        refine xd_v 4 rfl rfl rfl (gv_v (pv_load1 rfl (.there .here) rfl) rfl) ?_
        refine xd_v 5 rfl rfl rfl (gv_v (pv_move rfl) rfl) ?_
        refine xd_v 6 rfl rfl rfl (gv_v (pv_nil rfl) rfl) ?_
        refine xd_v 7 rfl rfl rfl (gv_v (pv_field_a rfl) rfl) ?_
        refine xd_v 8 rfl rfl rfl (gv_v (pv_field_a rfl) rfl) ?_
        refine xd_v 9 rfl rfl rfl (gv_v (pv_load1 rfl (.there .here) rfl) rfl) ?_
        refine xd_v 10 rfl rfl rfl (gv_v (pv_at rfl rfl (Int.not_lt.1 hm) ((get_map hd'))) rfl) ?_
        refine xd_v 11 rfl rfl rfl (gv_v (pv_loadN_i rfl rfl) rfl) ?_
        refine xd_e rfl 12 rfl rfl rfl (by rintro _ ⟨⟩ <;> exact Nat.le_of_ble_eq_true rfl) rfl ev_alloc ?_
        rintro _ _ ⟨b6, rfl, rfl⟩
        refine ⟨?_, ?_⟩
        · skip
          intro m hm o' y ho hy
          have hm' : m ∈ [11, 10, 9, 8, 7, 6, 5, 4, 3, 2, 1, 0] := hm
          clear hm
          rcases List.mem_cons.1 hm' with rfl | hm'
          · cases ho; cases hy
            exact gv_v (pv_loadN_i rfl rfl) rfl
          rcases List.mem_cons.1 hm' with rfl | hm'
          · cases ho; cases hy
            exact gv_v (pv_at rfl rfl (Int.not_lt.1 hm) ((get_map hd'))) rfl
          rcases List.mem_cons.1 hm' with rfl | hm'
          · cases ho; cases hy
            exact gv_v (pv_load1 rfl (.there (.there .here)) rfl) rfl
          rcases List.mem_cons.1 hm' with rfl | hm'
          · cases ho; cases hy
            exact gv_v (pv_field_a rfl) rfl
          rcases List.mem_cons.1 hm' with rfl | hm'
          · cases ho; cases hy
            exact gv_v (pv_field_a rfl) rfl
          rcases List.mem_cons.1 hm' with rfl | hm'
          · cases ho; cases hy
            exact gv_v (pv_nil rfl) rfl
          rcases List.mem_cons.1 hm' with rfl | hm'
          · cases ho; cases hy
            exact gv_v (pv_move rfl) rfl
          rcases List.mem_cons.1 hm' with rfl | hm'
          · cases ho; cases hy
            exact gv_v (pv_load1 rfl (.there (.there .here)) rfl) rfl
          rcases List.mem_cons.1 hm' with rfl | hm'
          · cases ho; cases hy
            exact gv_v (pv_field_a rfl) rfl
          rcases List.mem_cons.1 hm' with rfl | hm'
          · cases ho; cases hy
            exact gv_v (pv_field_a rfl) rfl
          rcases List.mem_cons.1 hm' with rfl | hm'
          · cases ho; cases hy
            exact gv_v (pv_nil rfl) rfl
          rcases List.mem_cons.1 hm' with rfl | hm'
          · cases ho; cases hy
            exact gv_v (pv_move rfl) rfl
          cases hm'
        refine xd_e rfl 13 rfl rfl rfl (by rintro _ ⟨⟩ <;> exact Nat.le_of_ble_eq_true rfl) rfl (ev_put .h rfl rfl (by first | rfl | (simp [AV.cs, oneB, *]; done) | (simp [AV.cs, oneB, *]; repeat' constructor)) rfl (.c (.c (.c (.c (.c (.c (.c .z)))))))) ?_
        rintro _ _ ⟨rfl, rfl⟩
        refine ⟨?_, ?_⟩
        · skip
          intro m hm; cases hm
        refine xd_end rfl rfl rfl rfl ?_
        refine xq_sub (.cons (i := 6) rfl (.cons (i := 2) rfl (.cons (i := 3) rfl (.nil _)))) ?_
        refine xq_norm (xe_code ?_)
        refine x_seq ?_
        refine x_region ?_
        refine xl_pv (pv_field_a rfl) rfl ?_
        refine xl_pv (pv_load1 rfl .here rfl) rfl ?_
        refine xl_pv (pv_len rfl) rfl ?_
        refine xl_pv (pv_bin rfl rfl rfl) rfl ?_
        refine xl_pv (pv_move rfl) rfl ?_
        refine xl_guard rfl rfl (fun g1 => ?_) (fun g1 => ?_)
        · skip
          rcases g2 : decide (d.result.kind = 0) with _ | _
          · skip
            have hW : wholeF P = .error ((P.structs.length + P.funcs.length : Nat), 8) := by simp only [wholeF, hst0, hf0]; rw [if_neg hm, hd']; simp at g2; simp [g2]
            refine xl_take rfl rfl rfl ?_
            refine xl_pv (pv_field_a rfl) rfl ?_
            refine xl_take rfl rfl rfl ?_
            refine xl_pv (pv_field_a rfl) rfl ?_
            refine xl_take rfl rfl rfl ?_
            refine xl_pv (pv_load1 rfl .here rfl) rfl ?_
            refine xl_take rfl rfl rfl ?_
            refine xl_pv (pv_bin rfl rfl rfl) rfl ?_
            refine xl_pv (pv_pick_t rfl rfl) rfl ?_
            refine xl_dies (fail_f 8) rfl (.cons rfl (Wk.of_eq (by first | rfl | exact congrArg bv g2)) (.cons rfl (Wk.refl _) .nil)) .d rfl ?_
            refine xq_panic ?_
            refine xv_panic ?_
            refine xv_recover (nv := .int .i64 8) (fun w u hc => whole1_panic b3 35 8 w u hc) (.there .here) ?_
            refine xv_done _ (resTC rfl rfl (cr_1 rfl .here rfl)) (drop_one .here (drop_one .here (drop_one .here (drop_one .here (drop_one .here drop_nil))))) (Wk.refl _) ?_
            rw [OutW, hW]; exact ⟨rfl, rfl⟩
          · skip
            have hW : wholeF P = .ok ⟨bs, funF P mainB, ps⟩ := by simp only [wholeF, hst0, hf0]; rw [if_neg hm, hd']; simp at g1 g2; simp [g1, g2]
            refine xl_take rfl rfl rfl ?_
            refine xl_pv (pv_field_a rfl) rfl ?_
            refine xl_take rfl rfl rfl ?_
            refine xl_pv (pv_field_a rfl) rfl ?_
            refine xl_take rfl rfl rfl ?_
            refine xl_pv (pv_load1 rfl .here rfl) rfl ?_
            refine xl_take rfl rfl rfl ?_
            refine xl_pv (pv_bin rfl rfl rfl) rfl ?_
            refine xl_pv (pv_pick_t rfl rfl) rfl ?_
            refine xl_go (fail_t 8) rfl (.cons rfl (Wk.of_eq (by first | rfl | exact congrArg bv g2)) (.cons rfl (Wk.refl _) .nil)) .d rfl ?_
            refine xl_nil ?_
            refine xq_norm (xe_code ?_)
            refine x_seq ?_
            refine x_region ?_
            refine xl_pv (pv_move rfl) rfl ?_
            refine xl_pv (pv_assign rfl) rfl ?_
            refine xl_put (.t .h) rfl rfl (by first | rfl | (simp [AV.cs, oneB, *]; done) | (simp [AV.cs, oneB, *]; repeat' constructor)) rfl (.c .z) ?_
            refine xl_nil ?_
            refine xq_norm (xe_code ?_)
            refine x_ret ?_
            refine xv_ret (.inr rfl) ?_
            refine xv_idle (fun w => whole1_idle _ w) ?_
            refine xv_done _ (resTC rfl rfl (cr_1 rfl (.there .here) rfl)) (drop_one .here (drop_one .here drop_nil)) (Wk.refl _) ?_
            rw [OutW, hW]; exact ⟨⟨vb, vp, fi, vo, so⟩, rfl, rfl⟩
        · skip
          have hW : wholeF P = .error ((P.structs.length + P.funcs.length : Nat), 8) := by simp only [wholeF, hst0, hf0]; rw [if_neg hm, hd']; simp at g1; simp [g1]
          refine xl_skip rfl rfl rfl rfl ?_
          refine xl_skip rfl rfl rfl rfl ?_
          refine xl_skip rfl rfl rfl rfl ?_
          refine xl_skip rfl rfl rfl rfl ?_
          refine xl_pv (pv_pick_f rfl rfl) rfl ?_
          refine xl_dies (fail_f 8) rfl (.cons rfl (Wk.refl _) (.cons rfl (Wk.refl _) .nil)) .d rfl ?_
          refine xq_panic ?_
          refine xv_panic ?_
          refine xv_recover (nv := .int .i64 8) (fun w u hc => whole1_panic b3 35 8 w u hc) (.there .here) ?_
          refine xv_done _ (resTC rfl rfl (cr_1 rfl .here rfl)) (drop_one .here (drop_one .here (drop_one .here (drop_one .here (drop_one .here drop_nil))))) (Wk.refl _) ?_
          rw [OutW, hW]; exact ⟨rfl, rfl⟩
end Go.Proofs.Ytmallgapchjhnaa
