/- CheckFlow: the walks. Conditions: none but that its second argument is a byte. -/
import Derived.Test.YtmallgapchjhnaaK25
set_option linter.unusedVariables false
set_option linter.unusedSimpArgs false
namespace Go.Proofs.Ytmallgapchjhnaa
set_option maxRecDepth 100000
open Go Go.Ax
attribute [local irreducible] X XL XE XQ PV

theorem tower_c (ways : List Bool) (hw : ways.length ≤ 64) (b1 b2 : Nat) : ∀ (d k : Nat) (al : Bool), d ≤ 4 → k + 2 ^ d ≤ 1000 →
    AC Try.prog 20 [.list 1 (ways.map bv), iv d, ptr b1, ptr b2] [.ref b2 4 [bv al], .ref b1 3 [iv k]] (RetIs (.list 11 ((towF ways d k).map CStmt.av)) [.ref b2 4 [bv (al && towA ways d k)], .ref b1 3 [iv (k + 2 ^ d : Nat)]])
  | 0, k, al, hd, hk => by
    refine ac_intro Try.func20 rfl rfl fun I w => ?_
    simp only [argEnv]
    refine x_seq ?_
    refine x_region ?_
    refine xl_pv (pv_assign rfl) rfl ?_
    refine xl_nil ?_
    refine xq_norm (xe_code ?_)
    refine x_seq ?_
    refine x_seq ?_
    refine x_region ?_
    refine xl_pv (pv_move rfl) rfl ?_
    refine xl_pv (pv_bin rfl rfl (v := .bool true) (by rfl)) rfl ?_
    refine xl_nil ?_
    refine xq_norm (xe_code ?_)
    refine x_cond rfl (fun _ => ?_) (fun h => nomatch h)
    refine x_seq ?_
    refine x_region ?_
    refine xl_pv (pv_move rfl) rfl ?_
    refine xl_pv (pv_nil rfl) rfl ?_
    refine xl_pv (pv_load1 rfl (.there .here) rfl) rfl ?_
    refine xl_pv (pv_assign rfl) rfl ?_
    refine xl_nil ?_
    refine xq_norm (xe_code ?_)
    refine x_seq ?_
    refine x_region ?_
    refine xl_pv (pv_move rfl) rfl ?_
    refine xl_pv (pv_move rfl) rfl ?_
    refine xl_pv (pv_add rfl rfl (by omega) (by omega)) rfl ?_
    refine xl_pv (pv_nil rfl) rfl ?_
    refine xl_put (.t .h) rfl rfl (by first | rfl | (simp [AV.cs, oneB, *]; done) | (simp [AV.cs, oneB, *]; repeat' constructor)) rfl (.c .z) ?_
    refine xl_nil ?_
    refine xq_norm (xe_code ?_)
    refine x_seq ?_
    refine x_seq ?_
    refine x_region ?_
    refine xl_pv (pv_move rfl) rfl ?_
    refine xl_pv (pv_move rfl) rfl ?_
    refine xl_pv (pv_len rfl) rfl ?_
    refine xl_pv (pv_bin rfl rfl rfl) rfl ?_
    refine xl_pv (pv_move rfl) rfl ?_
    refine xl_guard rfl rfl (fun h1 => ?_) (fun h1 => ?_)
    · skip
      have hlt : k < ways.length := by simpa using h1
      obtain ⟨z, hz⟩ := get_lt hlt
      have hwb : wayB ways k = z := by rw [wayB, hz]; rfl
      refine xl_take rfl rfl rfl ?_
      refine xl_pv (pv_move rfl) rfl ?_
      refine xl_take rfl rfl rfl ?_
      refine xl_pv (pv_move rfl) rfl ?_
      refine xl_take rfl rfl rfl ?_
      refine xl_pv (pv_at rfl rfl (by omega) (get_map hz)) rfl ?_
      refine xl_take rfl rfl rfl ?_
      refine xl_pv (pv_load1_i rfl rfl) rfl ?_
      refine xl_pv (pv_pick_t rfl rfl) rfl ?_
      refine xl_nil ?_
      refine xq_norm (xe_code ?_)
      refine x_condT rfl (fun h2 => ?_) (fun h2 => ?_)
      · skip
        refine x_seq ?_
        refine x_region ?_
        refine xl_go (num_c 1) rfl (.cons rfl (Wk.refl _) .nil) .d rfl ?_
        refine xl_lit (.cons rfl .nil) rfl (by first | (simp [AV.cs]; done) | exact lits (by rfl) | (intro x hx; cases hx with | head => rfl | tail _ h => cases h)) (by rfl) (by decide) rfl ?_
        refine xl_pv (pv_wk ((CStmt.mk 10 0 e0 e0 e0 ty0 [one1] [] []).av) (pv_build (by exact (.cons rfl rfl rfl (by first | rfl | (simp [AV.cs, oneB, *]; done) | (simp [AV.cs, oneB, *]; repeat' constructor)) (.c .z) (.cons rfl rfl rfl (by first | rfl | (simp [AV.cs, oneB, *]; done) | (simp [AV.cs, oneB, *]; repeat' constructor)) (.s (.s (.s (.s (.s (.s (.s (.s (.c .z))))))))) .nil)))) (by repeat (first | exact Wk.refl _ | exact Wk.nil _ | exact All2.nil | refine Wk.tuple ?_ | refine Wk.agg ?_ | refine All2.cons ?_ ?_))) rfl ?_
        refine xl_lit (.cons rfl .nil) rfl (by first | (simp [AV.cs]; done) | exact lits (by rfl) | (intro x hx; cases hx with | head => rfl | tail _ h => cases h)) (by rfl) (by decide) rfl ?_
        refine xl_pv (pv_assign rfl) rfl ?_
        refine xl_nil ?_
        refine xq_norm (xe_code ?_)
        refine x_ret ?_
        refine xq_ret ?_
        refine xq_ret ?_
        refine xq_done (.inr rfl) _ (res1 rfl rfl) ?_
        exact ⟨by rw [towF, hwb, h2]; rfl, by rw [towA, hwb, h2]; simp⟩
      · skip
        refine x_skip ?_
        refine xq_norm (xe_code ?_)
        refine x_seq ?_
        refine x_region ?_
        refine xl_pv (pv_move rfl) rfl ?_
        refine xl_pv (pv_nil rfl) rfl ?_
        refine xl_put .h rfl rfl (by first | rfl | (simp [AV.cs, oneB, *]; done) | (simp [AV.cs, oneB, *]; repeat' constructor)) rfl (.c .z) ?_
        refine xl_nil ?_
        refine xq_norm (xe_code ?_)
        refine x_seq ?_
        refine x_region ?_
        refine xl_go (num_c 1) rfl (.cons rfl (Wk.refl _) .nil) .d rfl ?_
        refine xl_lit (.cons rfl .nil) rfl (by first | (simp [AV.cs]; done) | exact lits (by rfl) | (intro x hx; cases hx with | head => rfl | tail _ h => cases h)) (by rfl) (by decide) rfl ?_
        refine xl_pv (pv_wk ((CStmt.mk 8 0 e0 e0 e0 ty0 [one1] [] []).av) (pv_build (by exact (.cons rfl rfl rfl (by first | rfl | (simp [AV.cs, oneB, *]; done) | (simp [AV.cs, oneB, *]; repeat' constructor)) (.c .z) (.cons rfl rfl rfl (by first | rfl | (simp [AV.cs, oneB, *]; done) | (simp [AV.cs, oneB, *]; repeat' constructor)) (.s (.s (.s (.s (.s (.s (.s (.s (.c .z))))))))) .nil)))) (by repeat (first | exact Wk.refl _ | exact Wk.nil _ | exact All2.nil | refine Wk.tuple ?_ | refine Wk.agg ?_ | refine All2.cons ?_ ?_))) rfl ?_
        refine xl_lit (.cons rfl .nil) rfl (by first | (simp [AV.cs]; done) | exact lits (by rfl) | (intro x hx; cases hx with | head => rfl | tail _ h => cases h)) (by rfl) (by decide) rfl ?_
        refine xl_pv (pv_assign rfl) rfl ?_
        refine xl_nil ?_
        refine xq_norm (xe_code ?_)
        refine x_ret ?_
        refine xq_ret ?_
        refine xq_done (.inr rfl) _ (res1 rfl rfl) ?_
        exact ⟨by rw [towF, hwb, h2]; rfl, by rw [towA, hwb, h2]; simp⟩
    · skip
      have hwb : wayB ways k = false := by rw [wayB, List.getElem?_eq_none (by simpa using h1)]; rfl
      refine xl_skip rfl rfl rfl rfl ?_
      refine xl_skip rfl rfl rfl rfl ?_
      refine xl_skip rfl rfl rfl rfl ?_
      refine xl_skip rfl rfl rfl rfl ?_
      refine xl_pv (pv_pick_f rfl rfl) rfl ?_
      refine xl_nil ?_
      refine xq_norm (xe_code ?_)
      refine x_cond rfl (fun h => nomatch h) (fun _ => ?_)
      refine x_skip ?_
      refine xq_norm (xe_code ?_)
      refine x_seq ?_
      refine x_region ?_
      refine xl_pv (pv_move rfl) rfl ?_
      refine xl_pv (pv_nil rfl) rfl ?_
      refine xl_put .h rfl rfl (by first | rfl | (simp [AV.cs, oneB, *]; done) | (simp [AV.cs, oneB, *]; repeat' constructor)) rfl (.c .z) ?_
      refine xl_nil ?_
      refine xq_norm (xe_code ?_)
      refine x_seq ?_
      refine x_region ?_
      refine xl_go (num_c 1) rfl (.cons rfl (Wk.refl _) .nil) .d rfl ?_
      refine xl_lit (.cons rfl .nil) rfl (by first | (simp [AV.cs]; done) | exact lits (by rfl) | (intro x hx; cases hx with | head => rfl | tail _ h => cases h)) (by rfl) (by decide) rfl ?_
      refine xl_pv (pv_wk ((CStmt.mk 8 0 e0 e0 e0 ty0 [one1] [] []).av) (pv_build (by exact (.cons rfl rfl rfl (by first | rfl | (simp [AV.cs, oneB, *]; done) | (simp [AV.cs, oneB, *]; repeat' constructor)) (.c .z) (.cons rfl rfl rfl (by first | rfl | (simp [AV.cs, oneB, *]; done) | (simp [AV.cs, oneB, *]; repeat' constructor)) (.s (.s (.s (.s (.s (.s (.s (.s (.c .z))))))))) .nil)))) (by repeat (first | exact Wk.refl _ | exact Wk.nil _ | exact All2.nil | refine Wk.tuple ?_ | refine Wk.agg ?_ | refine All2.cons ?_ ?_))) rfl ?_
      refine xl_lit (.cons rfl .nil) rfl (by first | (simp [AV.cs]; done) | exact lits (by rfl) | (intro x hx; cases hx with | head => rfl | tail _ h => cases h)) (by rfl) (by decide) rfl ?_
      refine xl_pv (pv_assign rfl) rfl ?_
      refine xl_nil ?_
      refine xq_norm (xe_code ?_)
      refine x_ret ?_
      refine xq_ret ?_
      refine xq_done (.inr rfl) _ (res1 rfl rfl) ?_
      exact ⟨by rw [towF, hwb]; rfl, by rw [towA, hwb]; simp⟩
  | d + 1, k, al, hd, hk => by
    have hp : 2 ^ d ≤ 2 ^ 4 := Nat.pow_le_pow_right (by omega) (by omega)
    refine ac_intro Try.func20 rfl rfl fun I w => ?_
    simp only [argEnv]
    refine x_seq ?_
    refine x_region ?_
    refine xl_pv (pv_assign rfl) rfl ?_
    refine xl_nil ?_
    refine xq_norm (xe_code ?_)
    refine x_seq ?_
    refine x_seq ?_
    refine x_region ?_
    refine xl_pv (pv_move rfl) rfl ?_
    refine xl_pv (pv_bin rfl rfl (v := .bool false) (by simp [intBin]; omega)) rfl ?_
    refine xl_nil ?_
    refine xq_norm (xe_code ?_)
    refine x_cond rfl (fun h => nomatch h) (fun _ => ?_)
    refine x_skip ?_
    refine xq_norm (xe_code ?_)
    refine x_seq ?_
    refine x_region ?_
    refine xl_pv (pv_wk (yes1.av) (pv_build (by exact (.cons rfl rfl rfl (by first | rfl | (simp [AV.cs, oneB, *]; done) | (simp [AV.cs, oneB, *]; repeat' constructor)) (.c .z) (.cons rfl rfl rfl (by first | rfl | (simp [AV.cs, oneB, *]; done) | (simp [AV.cs, oneB, *]; repeat' constructor)) (.s (.c .z)) .nil)))) (by repeat (first | exact Wk.refl _ | exact Wk.nil _ | exact All2.nil | refine Wk.tuple ?_ | refine Wk.agg ?_ | refine All2.cons ?_ ?_))) rfl ?_
    refine xl_lit (.cons rfl .nil) rfl (by first | (simp [AV.cs]; done) | exact lits (by rfl) | (intro x hx; cases hx with | head => rfl | tail _ h => cases h)) (by rfl) (by decide) rfl ?_
    refine xl_pv (pv_move rfl) rfl ?_
    refine xl_pv (pv_move rfl) rfl ?_
    refine xl_pv (pv_sub rfl rfl (by omega) (by omega)) rfl ?_
    refine xl_pv (pv_move rfl) rfl ?_
    refine xl_pv (pv_move rfl) rfl ?_
    refine xl_go (tower_c ways hw b1 b2 d k al (by omega) (by rw [Nat.pow_succ] at hk; omega)) rfl (.cons rfl (Wk.refl _) (.cons rfl (Wk.of_eq (by simp)) (.cons rfl (Wk.refl _) (.cons rfl (Wk.refl _) .nil)))) (.x (.x .d)) rfl ?_
    refine xl_pv (pv_move rfl) rfl ?_
    refine xl_pv (pv_move rfl) rfl ?_
    refine xl_pv (pv_sub rfl rfl (by omega) (by omega)) rfl ?_
    refine xl_pv (pv_move rfl) rfl ?_
    refine xl_pv (pv_move rfl) rfl ?_
    refine xl_go (tower_c ways hw b1 b2 d (k + 2 ^ d) (al && towA ways d k) (by omega) (by rw [Nat.pow_succ] at hk; omega)) rfl (.cons rfl (Wk.refl _) (.cons rfl (Wk.of_eq (by simp)) (.cons rfl (Wk.refl _) (.cons rfl (Wk.refl _) .nil)))) (.x (.x .d)) rfl ?_
    refine xl_pv (pv_wk (.agg [kv 6, iv 0, sv e0, sv e0, sv e0, kv 0, iv 0, sv e0, .list 6 [yes1.av], .list 11 ((towF ways d k).map CStmt.av), .list 11 ((towF ways d (k + 2 ^ d)).map CStmt.av)]) (pv_build (by exact (.cons rfl rfl rfl (by first | rfl | (simp [AV.cs, oneB, *]; done) | (simp [AV.cs, oneB, *]; repeat' constructor)) (.c .z) (.cons rfl rfl rfl (by first | rfl | (simp [AV.cs, oneB, *]; done) | (simp [AV.cs, oneB, *]; repeat' constructor)) (.s (.s (.s (.s (.s (.s (.s (.s (.c .z))))))))) (.cons rfl rfl rfl (by first | rfl | (simp [AV.cs, oneB, *]; done) | (simp [AV.cs, oneB, *]; repeat' constructor)) (.s (.s (.s (.s (.s (.s (.s (.s (.s (.c .z)))))))))) (.cons rfl rfl rfl (by first | rfl | (simp [AV.cs, oneB, *]; done) | (simp [AV.cs, oneB, *]; repeat' constructor)) (.s (.s (.s (.s (.s (.s (.s (.s (.s (.s (.c .z))))))))))) .nil)))))) (by repeat (first | exact Wk.refl _ | exact Wk.nil _ | exact All2.nil | refine Wk.tuple ?_ | refine Wk.agg ?_ | refine All2.cons ?_ ?_))) rfl ?_
    refine xl_lit (.cons rfl .nil) rfl (by first | (simp [AV.cs]; done) | exact lits (by rfl) | (intro x hx; cases hx with | head => rfl | tail _ h => cases h)) (by rfl) (by decide) rfl ?_
    refine xl_pv (pv_assign rfl) rfl ?_
    refine xl_nil ?_
    refine xq_norm (xe_code ?_)
    refine x_ret ?_
    refine xq_done (.inr rfl) _ (res1 rfl rfl) ?_
    exact ⟨by rw [towF, List.map_cons, CStmt.av_eq]; rfl, by rw [towA, Nat.pow_succ, Bool.and_assoc, show k + 2 ^ d * 2 = k + 2 ^ d + 2 ^ d by omega]⟩
theorem flow_sz (ways : List Bool) (d : Nat) (hd : d ≤ 4) : dszs (pFlow ways d).funcs ≤ 2 ^ 39 := by
  have h1 := tow_sz ways d 0
  have h2 : 2 ^ d ≤ 2 ^ 4 := Nat.pow_le_pow_right (by omega) hd
  have h3 := fix_sz
  have h4 : dszs (pFlow ways d).funcs = CStmt.szs (pVar 1 :: pFor :: []) + CStmt.szs (towF ways d 0) := by simp [pFlow, dszs, dsz]
  rw [h4, szs_two]
  simp [CStmt.szs]
  omega
theorem flow_pok (ways : List Bool) (d : Nat) : POk (pFlow ways d) := ⟨by simp [pFlow], by simp [pFlow], by simp [pFlow], by simp [pFlow]⟩
theorem flow_ok (ways : List Bool) (d : Nat) (hd : d ≤ 4) (h : towA ways d 0 = true) : FineC (pFlow ways d) := fine_of (flow_pok _ _) (flow_sz _ _ hd) ((flow_says ways d hd).1 h)
theorem flow_bad (ways : List Bool) (d : Nat) (hd : d ≤ 4) (h : towA ways d 0 = false) : AC Try.prog 17 [.agg (pFlow ways d).cs] [] (RetIs (.tuple [noTree.av, iv 1, iv 10]) []) := by
  have := program_c (pFlow ways d) (flow_pok _ _) (flow_sz _ _ hd)
  rw [(flow_says ways d hd).2 h] at this
  exact this
theorem flow_c (ways : List Bool) (a1 : Int) (h0 : 0 ≤ a1) (h1 : a1 < 256) : AC Try.prog 5 [.list 1 (ways.map bv), kv a1] [] (RetIs (bv true) []) := by
  obtain ⟨d, hd⟩ : ∃ d : Nat, (d : Int) = a1.tmod 5 := ⟨(a1.tmod 5).toNat, Int.toNat_of_nonneg (Int.tmod_nonneg _ h0)⟩
  have hd4 : d ≤ 4 := by
    have := Int.tmod_lt_of_pos a1 (b := 5) (by omega)
    omega
  have hp : 2 ^ d ≤ 2 ^ 4 := Nat.pow_le_pow_right (by omega) hd4
  have hwr : IntKind.i64.wrap a1 = a1 := wrap64 (by omega) (by omega)
  refine ac_intro Try.func5 rfl rfl fun I w => ?_
  simp only [argEnv]
  refine x_seq ?_
  refine x_region ?_
  refine xl_pv (pv_assign rfl) rfl ?_
  refine xl_nil ?_
  refine xq_norm (xe_code ?_)
  refine x_seq ?_
  refine x_seq ?_
  refine x_region ?_
  refine xl_pv (pv_move rfl) rfl ?_
  refine xl_pv (pv_len rfl) rfl ?_
  refine xl_pv (pv_bin rfl rfl rfl) rfl ?_
  refine xl_nil ?_
  refine xq_norm (xe_code ?_)
  refine x_condT rfl (fun hL => ?_) (fun hL => ?_)
  · skip
    refine x_seq ?_
    refine x_region ?_
    refine xl_go (works_c) rfl .nil .d rfl ?_
    refine xl_pv (pv_assign rfl) rfl ?_
    refine xl_nil ?_
    refine xq_norm (xe_code ?_)
    refine x_ret ?_
    refine xq_ret ?_
    refine xq_done (.inr rfl) _ (res1 rfl rfl) ?_
    exact ⟨rfl, rfl⟩
  · skip
    refine x_skip ?_
    refine xq_norm (xe_code ?_)
    refine x_seq ?_
    refine x_region ?_
    refine xl_pv (pv_move rfl) rfl ?_
    refine xl_pv (pv_conv rfl) rfl ?_
    refine xl_pv (pv_rem rfl rfl (by omega)) rfl ?_
    refine xl_pv (pv_assign rfl) rfl ?_
    refine xl_nil ?_
    refine xq_norm (xe_code ?_)
    refine x_seq ?_
    refine x_region ?_
    refine xl_alloc rfl (fun b6 => ?_)
    refine xl_put .h rfl rfl (by first | rfl | (simp [AV.cs, oneB, *]; done) | (simp [AV.cs, oneB, *]; repeat' constructor)) rfl (.c .z) ?_
    refine xl_nil ?_
    refine xq_norm (xe_code ?_)
    refine x_seq ?_
    refine x_region ?_
    refine xl_alloc rfl (fun b7 => ?_)
    refine xl_put .h rfl rfl (by first | rfl | (simp [AV.cs, oneB, *]; done) | (simp [AV.cs, oneB, *]; repeat' constructor)) rfl (.c .z) ?_
    refine xl_nil ?_
    refine xq_norm (xe_code ?_)
    refine x_seq ?_
    refine x_region ?_
    refine xl_pv (pv_move rfl) rfl ?_
    refine xl_pv (pv_move rfl) rfl ?_
    refine xl_go (tower_c ways (by simp at hL; omega) b6 b7 d 0 true hd4 (by omega)) rfl (.cons rfl (Wk.refl _) (.cons rfl (Wk.of_eq (by rw [hwr, hd])) (.cons rfl (Wk.refl _) (.cons rfl (Wk.refl _) .nil)))) (.x (.x .d)) rfl ?_
    refine xl_pv (pv_assign rfl) rfl ?_
    refine xl_nil ?_
    refine xq_norm (xe_code ?_)
    refine x_seq ?_
    refine x_region ?_
    refine xl_retE (plain_c 1) rfl (.cons rfl (Wk.refl _) .nil) .nil (fun _ => (.c (.c (.c .n)))) rfl (fun ⟨vf, vl, vk, hvf, hvl, hvk⟩ => ?_)
    dsimp only [memP]
    refine xl_slc .here (fun hs => ?_)
    obtain ⟨gvf, cvf, rfl⟩ := hs.full (by simp)
    refine xl_slc (.there .here) (fun hs => ?_)
    obtain ⟨gvl, cvl, rfl⟩ := hs.full (by simp)
    refine xl_pube ([(pVar 1).av, pFor.av]) 19 (.there (.there .here)) (.t .h) rfl (.s (.s (.s (.s (.s (.s (.s (.s (.s (.s (.s (.s (.s (.s (.s (.s (.s (.s (.s (.c .z)))))))))))))))))))) rfl (lits (by rfl)) ?_
    refine xl_pube ([(CDecl.mk mainB 1 [] ty0 [pVar 1, pFor]).av]) 6 (.there .here) .h rfl (.s (.s (.s (.s (.s (.s (.c .z))))))) rfl (lits (by rfl)) ?_
    refine xl_alloc rfl (fun b9 => ?_)
    refine xl_put .h rfl rfl (by first | rfl | (simp [AV.cs, oneB, *]; done) | (simp [AV.cs, oneB, *]; repeat' constructor)) rfl (.c (.c .z)) ?_
    refine xl_nil ?_
    refine xq_norm (xe_code ?_)
    refine x_seq ?_
    refine x_region ?_
    refine xl_pv (pv_field_a rfl) rfl ?_
    refine xl_pv (pv_load1 rfl .here rfl) rfl ?_
    refine xl_pv (pv_build (by exact (.cons rfl rfl rfl (by first | rfl | (simp [AV.cs, oneB, *]; done) | (simp [AV.cs, oneB, *]; repeat' constructor)) (.c .z) .nil))) rfl ?_
    refine xl_pv (pv_move rfl) rfl ?_
    refine xl_pv (pv_wk ((CDecl.mk fB 9 [] tyI (towF ways d 0)).av) (pv_build (by exact (.cons rfl rfl rfl (by first | rfl | (simp [AV.cs, oneB, *]; done) | (simp [AV.cs, oneB, *]; repeat' constructor)) (.c .z) (.cons rfl rfl rfl (by first | rfl | (simp [AV.cs, oneB, *]; done) | (simp [AV.cs, oneB, *]; repeat' constructor)) (.s (.c .z)) (.cons rfl rfl rfl (by first | rfl | (simp [AV.cs, oneB, *]; done) | (simp [AV.cs, oneB, *]; repeat' constructor)) (.s (.s (.s (.c (.c (.c .z)))))) (.cons rfl rfl rfl (by first | rfl | (simp [AV.cs, oneB, *]; done) | (simp [AV.cs, oneB, *]; repeat' constructor)) (.s (.s (.s (.s (.s (.s (.c .z))))))) .nil)))))) (by repeat (first | exact Wk.refl _ | exact Wk.nil _ | exact All2.nil | refine Wk.tuple ?_ | refine Wk.agg ?_ | refine All2.cons ?_ ?_))) rfl ?_
    refine xl_lit (.cons rfl .nil) rfl (by first | (simp [AV.cs]; done) | exact lits (by rfl) | (intro x hx; cases hx with | head => rfl | tail _ h => cases h)) (by rfl) (by decide) rfl ?_
    refine xl_grow (.t .h) rfl rfl (by rfl) (by simp) rfl (fun vf_1 hvf_1 => ?_)
    refine xl_pv (pv_field_a rfl) rfl ?_
    refine xl_put .h rfl rfl (by simp [AV.cs, oneB, hvf_1]) rfl (.s (.c .z)) ?_
    refine xl_nil ?_
    refine xq_norm (xe_code ?_)
    refine x_pubc 1 (.there .here) .h rfl (.s (.c .z)) ?_
    rcases hA : towA ways d 0 with _ | _
    · skip
      refine x_seq ?_
      refine x_region ?_
      refine xl_pv (pv_loadN rfl .here rfl) rfl ?_
      refine xl_go (flow_bad ways d hd4 hA) rfl (.cons rfl (Wk.refl _) .nil) .d rfl ?_
      refine xl_pv (pv_move rfl) rfl ?_
      refine xl_pv (pv_extract rfl rfl) rfl ?_
      refine xl_pv (pv_extract rfl rfl) rfl ?_
      refine xl_pv (pv_extract rfl rfl) rfl ?_
      refine xl_alloc rfl (fun b10 => ?_)
      refine xl_put .h rfl rfl (by first | rfl | (simp [AV.cs, oneB, *]; done) | (simp [AV.cs, oneB, *]; repeat' constructor)) rfl (.c (.c (.c .z))) ?_
      refine xl_pv (pv_assign rfl) rfl ?_
      refine xl_pv (pv_assign rfl) rfl ?_
      refine xl_nil ?_
      refine xq_norm (xe_code ?_)
      refine x_seq ?_
      refine x_seq ?_
      refine x_region ?_
      refine xl_pv (pv_load1 rfl (.there (.there .here)) rfl) rfl ?_
      refine xl_nil ?_
      refine xq_norm (xe_code ?_)
      refine x_cond rfl (fun h => nomatch h) (fun _ => ?_)
      refine x_skip ?_
      refine xq_norm (xe_code ?_)
      refine x_seq ?_
      refine x_region ?_
      refine xl_pv (pv_move rfl) rfl ?_
      refine xl_pv (pv_bin rfl rfl (v := .bool true) (by rfl)) rfl ?_
      refine xl_pv (pv_move rfl) rfl ?_
      refine xl_take rfl rfl rfl ?_
      refine xl_pv (pv_move rfl) rfl ?_
      refine xl_take rfl rfl rfl ?_
      refine xl_pv (pv_bin rfl rfl (v := .bool true) (by rfl)) rfl ?_
      refine xl_pv (pv_pick_t rfl rfl) rfl ?_
      refine xl_pv (pv_move rfl) rfl ?_
      refine xl_take rfl rfl rfl ?_
      refine xl_go (works_c) rfl .nil .d rfl ?_
      refine xl_pv (pv_pick_t rfl rfl) rfl ?_
      refine xl_pv (pv_assign rfl) rfl ?_
      refine xl_nil ?_
      refine xq_norm (xe_code ?_)
      refine x_ret ?_
      refine xq_drop .here ?_
      refine xq_drop .here ?_
      refine xq_drop .here ?_
      refine xq_drop .here ?_
      refine xq_done (.inr rfl) _ (res1 rfl rfl) ?_
      exact ⟨rfl, rfl⟩
    · skip
      obtain ⟨t, k, hfin⟩ := flow_ok ways d hd4 hA
      refine x_seq ?_
      refine x_region ?_
      refine xl_pv (pv_loadN rfl .here rfl) rfl ?_
      refine xl_go (hfin) rfl (.cons rfl (Wk.refl _) .nil) .d rfl ?_
      refine xl_pv (pv_move rfl) rfl ?_
      refine xl_pv (pv_extract rfl rfl) rfl ?_
      refine xl_pv (pv_extract rfl rfl) rfl ?_
      refine xl_pv (pv_extract rfl rfl) rfl ?_
      refine xl_alloc rfl (fun b10 => ?_)
      refine xl_put .h rfl rfl (by first | rfl | (simp [AV.cs, oneB, *]; done) | (simp [AV.cs, oneB, *]; repeat' constructor)) rfl (.c (.c (.c .z))) ?_
      refine xl_pv (pv_assign rfl) rfl ?_
      refine xl_pv (pv_assign rfl) rfl ?_
      refine xl_nil ?_
      refine xq_norm (xe_code ?_)
      refine x_seq ?_
      refine x_seq ?_
      refine x_region ?_
      refine xl_pv (pv_load1 rfl (.there (.there .here)) rfl) rfl ?_
      refine xl_nil ?_
      refine xq_norm (xe_code ?_)
      refine x_cond rfl (fun _ => ?_) (fun h => nomatch h)
      refine x_seq ?_
      refine x_region ?_
      refine xl_pv (pv_move rfl) rfl ?_
      refine xl_pv (pv_bin rfl rfl (v := .bool true) (by rfl)) rfl ?_
      refine xl_pv (pv_move rfl) rfl ?_
      refine xl_take rfl rfl rfl ?_
      refine xl_go (works_c) rfl .nil .d rfl ?_
      refine xl_pv (pv_pick_t rfl rfl) rfl ?_
      refine xl_pv (pv_assign rfl) rfl ?_
      refine xl_nil ?_
      refine xq_norm (xe_code ?_)
      refine x_ret ?_
      refine xq_ret ?_
      refine xq_drop .here ?_
      refine xq_drop .here ?_
      refine xq_drop .here ?_
      refine xq_drop .here ?_
      refine xq_done (.inr rfl) _ (res1 rfl rfl) ?_
      exact ⟨rfl, rfl⟩
end Go.Proofs.Ytmallgapchjhnaa
