/- The checker's statements, all of them; returns, twice, structs. No condition: plain theorems. -/
import Derived.Test.YtmallgapchjhnaaK11
set_option linter.unusedVariables false
set_option linter.unusedSimpArgs false
namespace Go.Proofs.Ytmallgapchjhnaa
set_option maxRecDepth 100000
open Go Go.Ax
attribute [local irreducible] X XL XE XQ PV

theorem stmt_n (P : CProg) (fn : Int) (hP : POk P) (hf0 : 0 ≤ fn) {d : CDecl} (hfd : P.funcs[fn.toNat]? = some d) : ∀ (n : Nat) (s : CStmt), s.sz ≤ n → StmtC P fn s
  | 0, s, h => by cases s; rw [CStmt.sz] at h; omega
  | n + 1, s, h => by
    obtain ⟨s1, s2, s3, s4, s5, s6, s7, s8, s9⟩ := s
    rw [CStmt.sz] at h
    refine stmt_of P fn hP hf0 hfd _ (list_of P fn s8 hP.fs (fun x hx => ?_)) (list_of P fn s9 hP.fs (fun x hx => ?_))
    · have := CStmt.szs_mem hx
      exact stmt_n P fn hP hf0 hfd n x (by omega)
    · have := CStmt.szs_mem hx
      exact stmt_n P fn hP hf0 hfd n x (by omega)
theorem list_c (P : CProg) (fn : Int) (hP : POk P) (hf0 : 0 ≤ fn) {d : CDecl} (hfd : P.funcs[fn.toNat]? = some d) (l : List CStmt) : ListC P fn l :=
  list_of P fn l hP.fs (fun s _ => stmt_n P fn hP hf0 hfd _ s (Nat.le_refl _))

mutual
def retS : CStmt → Bool
  | .mk kind _ _ _ _ _ _ body els => decide (kind = 10) || (decide (kind = 6) && retL body && retL els)
def retL : List CStmt → Bool
  | [] => false
  | [s] => retS s
  | _ :: t :: r => retL (t :: r)
end
theorem retL_last : ∀ (l : List CStmt) (s : CStmt), l.getLast? = some s → retL l = retS s
  | [], s, h => by simp at h
  | [x], s, h => by
    have : x = s := by simpa using h
    rw [retL, this]
  | x :: t :: r, s, h => by
    rw [retL]
    exact retL_last (t :: r) s (by simpa [List.getLast?_cons_cons] using h)
theorem returns_n : ∀ (n : Nat) (l : List CStmt), CStmt.szs l ≤ n → n ≤ 2 ^ 40 → AC Try.prog 65 [.list 11 (l.map CStmt.av)] [] (RetIs (bv (retL l)) [])
  | n, l, hn, hn2 => by
    have hlen := CStmt.szs_len l
    refine ac_intro Try.func65 rfl rfl fun I w => ?_
    simp only [argEnv]
    by_cases hl : l = []
    · subst hl
      refine x_seq ?_
      refine x_region ?_
      refine xl_pv (pv_assign rfl) rfl ?_
      refine xl_nil ?_
      refine xq_norm (xe_code ?_)
      refine x_seq ?_
      refine x_seq ?_
      refine x_region ?_
      refine xl_pv (pv_move rfl) rfl ?_
      refine xl_pv (pv_len rfl) rfl ?_
      refine xl_pv (pv_bin rfl rfl rfl) rfl ?_
      refine xl_nil ?_
      refine xq_norm (xe_code ?_)
      refine x_condT rfl (fun h => ?_) (fun h => ?_)
      · skip
        refine x_seq ?_
        refine x_region ?_
        refine xl_pv (pv_assign rfl) rfl ?_
        refine xl_nil ?_
        refine xq_norm (xe_code ?_)
        refine x_ret ?_
        refine xq_ret ?_
        refine xq_done (.inr rfl) _ (res1 rfl rfl) ?_
        exact ⟨rfl, rfl⟩
      · skip
        simp at h
    · have hpos : 0 < l.length := List.length_pos_iff.2 hl
      obtain ⟨z, hz⟩ := get_lt (xs := l) (i := l.length - 1) (by omega)
      have hr := retL_last l z (by rw [List.getLast?_eq_getElem?]; exact hz)
      have hzm := List.mem_of_getElem? hz
      have hzs := CStmt.szs_mem hzm
      obtain ⟨s1, s2, s3, s4, s5, ⟨t1, t2, t3⟩, s7, s8, s9⟩ := z
      rw [CStmt.sz] at hzs
      rw [retS] at hr
      cases n with
      | zero => omega
      | succ n =>
        have hml : (l.map CStmt.av).length = l.length := by simp
        have ih8 := returns_n n s8 (by omega) (by omega)
        have ih9 := returns_n n s9 (by omega) (by omega)
        refine x_seq ?_
        refine x_region ?_
        refine xl_pv (pv_assign rfl) rfl ?_
        refine xl_nil ?_
        refine xq_norm (xe_code ?_)
        refine x_seq ?_
        refine x_seq ?_
        refine x_region ?_
        refine xl_pv (pv_move rfl) rfl ?_
        refine xl_pv (pv_len rfl) rfl ?_
        refine xl_pv (pv_bin rfl rfl rfl) rfl ?_
        refine xl_nil ?_
        refine xq_norm (xe_code ?_)
        refine x_condT rfl (fun h => ?_) (fun h => ?_)
        · skip
          exact absurd (List.length_eq_zero_iff.1 (by simpa using h)) hl
        · skip
          refine x_skip ?_
          refine xq_norm (xe_code ?_)
          refine x_seq ?_
          refine x_region ?_
          refine xl_pv (pv_move rfl) rfl ?_
          refine xl_pv (pv_move rfl) rfl ?_
          refine xl_pv (pv_len rfl) rfl ?_
          refine xl_pv (pv_sub rfl rfl (by omega) (by omega)) rfl ?_
          refine xl_pv (pv_at rfl rfl (by omega) ((get_map (i := (((l.map CStmt.av).length : Int) - 1).toNat) (by rw [show (((l.map CStmt.av).length : Int) - 1).toNat = l.length - 1 by omega]; exact hz)))) rfl ?_
          refine xl_pv (pv_loadN_i rfl rfl) rfl ?_
          refine xl_alloc rfl (fun b3 => ?_)
          refine xl_put .h rfl rfl (by first | rfl | (simp [AV.cs, oneB, *]; done) | (simp [AV.cs, oneB, *]; repeat' constructor)) rfl (.c (.c (.c (.c (.c (.c (.c (.c (.c (.c (.c .z))))))))))) ?_
          refine xl_nil ?_
          refine xq_norm (xe_code ?_)
          refine x_seq ?_
          refine x_region ?_
          refine xl_pv (pv_field_a rfl) rfl ?_
          refine xl_pv (pv_load1 rfl .here rfl) rfl ?_
          refine xl_pv (pv_bin rfl rfl rfl) rfl ?_
          refine xl_pv (pv_move rfl) rfl ?_
          refine xl_guard rfl rfl (fun h1 => ?_) (fun h1 => ?_)
          · skip
            refine xl_take rfl rfl rfl ?_
            refine xl_pv (pv_field_a rfl) rfl ?_
            refine xl_take rfl rfl rfl ?_
            refine xl_pv (pv_load1 rfl .here rfl) rfl ?_
            refine xl_take rfl rfl rfl ?_
            refine xl_pv (pv_bin rfl rfl rfl) rfl ?_
            refine xl_take rfl rfl rfl ?_
            refine xl_pv (pv_move rfl) rfl ?_
            refine xl_guard rfl rfl (fun h2 => ?_) (fun h2 => ?_)
            · skip
              refine xl_take rfl rfl rfl ?_
              refine xl_pv (pv_field_a rfl) rfl ?_
              refine xl_take rfl rfl rfl ?_
              refine xl_pv (pv_load1 rfl .here rfl) rfl ?_
              refine xl_take rfl rfl rfl ?_
              refine xl_go (ih8) rfl (.cons rfl (Wk.of_eq (by rw [← CStmt.avs_eq])) .nil) .d rfl ?_
              refine xl_take rfl rfl rfl ?_
              refine xl_pv (pv_pick_t rfl rfl) rfl ?_
              refine xl_take rfl rfl rfl ?_
              refine xl_pv (pv_move rfl) rfl ?_
              refine xl_guard rfl rfl (fun h3 => ?_) (fun h3 => ?_)
              · skip
                refine xl_take rfl rfl rfl ?_
                refine xl_pv (pv_field_a rfl) rfl ?_
                refine xl_take rfl rfl rfl ?_
                refine xl_pv (pv_load1 rfl .here rfl) rfl ?_
                refine xl_take rfl rfl rfl ?_
                refine xl_go (ih9) rfl (.cons rfl (Wk.of_eq (by rw [← CStmt.avs_eq])) .nil) .d rfl ?_
                refine xl_take rfl rfl rfl ?_
                refine xl_pv (pv_pick_t rfl rfl) rfl ?_
                refine xl_pv (pv_pick_f rfl rfl) rfl ?_
                refine xl_pv (pv_assign rfl) rfl ?_
                refine xl_nil ?_
                refine xq_norm (xe_code ?_)
                refine x_ret ?_
                refine xq_drop .here ?_
                refine xq_done (.inr rfl) _ (res1 rfl rfl) ?_
                exact ⟨by rw [hr]; simp at h1 h2; simp [h1, h2, h3], rfl⟩
              · skip
                refine xl_skip rfl rfl rfl rfl ?_
                refine xl_skip rfl rfl rfl rfl ?_
                refine xl_skip rfl rfl rfl rfl ?_
                refine xl_take rfl rfl rfl ?_
                refine xl_pv (pv_pick_f rfl rfl) rfl ?_
                refine xl_pv (pv_pick_f rfl rfl) rfl ?_
                refine xl_pv (pv_assign rfl) rfl ?_
                refine xl_nil ?_
                refine xq_norm (xe_code ?_)
                refine x_ret ?_
                refine xq_drop .here ?_
                refine xq_done (.inr rfl) _ (res1 rfl rfl) ?_
                exact ⟨by rw [hr]; simp at h1 h2; simp [h1, h2, h3], rfl⟩
            · skip
              refine xl_skip rfl rfl rfl rfl ?_
              refine xl_skip rfl rfl rfl rfl ?_
              refine xl_skip rfl rfl rfl rfl ?_
              refine xl_take rfl rfl rfl ?_
              refine xl_pv (pv_pick_f rfl rfl) rfl ?_
              refine xl_take rfl rfl rfl ?_
              refine xl_pv (pv_move rfl) rfl ?_
              refine xl_skip rfl rfl rfl rfl ?_
              refine xl_skip rfl rfl rfl rfl ?_
              refine xl_skip rfl rfl rfl rfl ?_
              refine xl_take rfl rfl rfl ?_
              refine xl_pv (pv_pick_f rfl rfl) rfl ?_
              refine xl_pv (pv_pick_f rfl rfl) rfl ?_
              refine xl_pv (pv_assign rfl) rfl ?_
              refine xl_nil ?_
              refine xq_norm (xe_code ?_)
              refine x_ret ?_
              refine xq_drop .here ?_
              refine xq_done (.inr rfl) _ (res1 rfl rfl) ?_
              exact ⟨by rw [hr]; simp at h1 h2; simp [h1, h2], rfl⟩
          · skip
            refine xl_skip rfl rfl rfl rfl ?_
            refine xl_skip rfl rfl rfl rfl ?_
            refine xl_skip rfl rfl rfl rfl ?_
            refine xl_skip rfl rfl rfl rfl ?_
            refine xl_skipu rfl rfl rfl ?_
            refine xl_skipu rfl rfl rfl ?_
            refine xl_skipu rfl rfl rfl ?_
            refine xl_skip rfl rfl rfl rfl ?_
            refine xl_skip rfl rfl rfl rfl ?_
            refine xl_skipu rfl rfl rfl ?_
            refine xl_skipu rfl rfl rfl ?_
            refine xl_skipu rfl rfl rfl ?_
            refine xl_skip rfl rfl rfl rfl ?_
            refine xl_pv (pv_pick_t rfl rfl) rfl ?_
            refine xl_pv (pv_assign rfl) rfl ?_
            refine xl_nil ?_
            refine xq_norm (xe_code ?_)
            refine x_ret ?_
            refine xq_drop .here ?_
            refine xq_done (.inr rfl) _ (res1 rfl rfl) ?_
            exact ⟨by rw [hr]; simp at h1; simp [h1], rfl⟩
theorem returns_c (l : List CStmt) (h : CStmt.szs l ≤ 2 ^ 40) : AC Try.prog 65 [.list 11 (l.map CStmt.av)] [] (RetIs (bv (retL l)) []) := returns_n _ l (Nat.le_refl _) h

def twG (pre : List ByteArray) : List ByteArray → Bool
  | [] => false
  | s :: r => bif pre.any (fun x => decide (s = x)) then true else twG (pre ++ [s]) r
def twB (l : List ByteArray) : Bool := twG [] l
theorem twice_c (l : List ByteArray) (hlen : l.length ≤ 2 ^ 40) : AC Try.prog 61 [strs l] [] (RetIs (bv (twB l)) []) := by
  refine ac_intro Try.func61 rfl rfl fun I w => ?_
  simp only [argEnv]
  refine x_seq ?_
  refine x_region ?_
  refine xl_pv (pv_assign rfl) rfl ?_
  refine xl_nil ?_
  refine xq_norm (xe_code ?_)
  refine x_seq ?_
  refine x_seq ?_
  refine x_region ?_
  refine xl_pv (pv_move rfl) rfl ?_
  refine xl_pv (pv_len rfl) rfl ?_
  refine xl_pv (pv_move rfl) rfl ?_
  refine xl_nil ?_
  refine xq_norm (xe_code ?_)
  refine x_block ?_
  -- slots turned in the loop and not told: [2]
  refine x_loopS (S := Nat) (fun i => i ≤ l.length ∧ twB l = twG (l.take i) (l.drop i)) (fun i => l.length - i) (fun i => [(7, iv i)]) (fun i => _) (0) (by simp [twB]) (.cons rfl (.cons (i := 6) rfl (.cons (i := 5) rfl (.cons (i := 2) rfl (.cons (i := 0) rfl (.nil _)))))) (rfl) ?_
  rintro i ⟨hi, hx⟩
  simp only [List.cons_append, List.nil_append]
  refine x_seq ?_
  refine x_region ?_
  refine xl_pv (pv_bin rfl rfl rfl) rfl ?_
  refine xl_nil ?_
  refine xq_norm (xe_code ?_)
  refine x_seq ?_
  refine x_condT rfl (fun h => ?_) (fun h => ?_)
  · skip
    have hlt : i < l.length := by simpa using h
    obtain ⟨z, hz⟩ := get_lt hlt
    have hd := get_drop hz
    refine x_skip ?_
    refine xq_norm (xe_code ?_)
    refine x_seq ?_
    refine x_block ?_
    refine x_seq ?_
    refine x_region ?_
    refine xl_pv (pv_move rfl) rfl ?_
    refine xl_pv (pv_at rfl rfl (by omega) ((get_map hz))) rfl ?_
    refine xl_pv (pv_load1_i rfl rfl) rfl ?_
    refine xl_pv (pv_assign rfl) rfl ?_
    refine xl_pv (pv_assign rfl) rfl ?_
    refine xl_nil ?_
    refine xq_norm (xe_code ?_)
    refine x_seq ?_
    refine x_region ?_
    refine xl_pv (pv_move rfl) rfl ?_
    refine xl_pv (pv_move rfl) rfl ?_
    refine xl_pv (pv_cut_h rfl rfl (by omega) (by simp; omega)) rfl ?_
    refine xl_pv (pv_move rfl) rfl ?_
    refine xl_go (hasStr (l.take i) z (by simp; omega)) rfl (.cons rfl (Wk.of_eq (by simp [strs])) (.cons rfl (Wk.refl _) .nil)) .d rfl ?_
    refine xl_nil ?_
    refine xq_norm (xe_code ?_)
    refine x_condT rfl (fun hp => ?_) (fun hp => ?_)
    · skip
      refine x_seq ?_
      refine x_region ?_
      refine xl_pv (pv_assign rfl) rfl ?_
      refine xl_nil ?_
      refine xq_norm (xe_code ?_)
      refine x_ret ?_
      refine xq_bret ?_
      refine xq_ret ?_
      refine xq_ret ?_
      refine xq_bret ?_
      refine xq_ret ?_
      refine xq_done (.inr rfl) _ (res1 rfl rfl) ?_
      exact ⟨by rw [hx, hd, twG, hp]; rfl, rfl⟩
    · skip
      refine x_skip ?_
      refine xq_bnorm ?_
      refine xq_norm (xe_code ?_)
      refine x_region ?_
      refine xl_pv (pv_add rfl rfl (by omega) (by omega)) rfl ?_
      refine xl_pv (pv_move rfl) rfl ?_
      refine xl_nil ?_
      refine xe_loopS (i + 1) (⟨hlt, by rw [hx, hd, twG, hp, List.take_add_one, hz]; rfl⟩) (by first | omega | (simp at *; omega)) (.cons rfl (.nil _)) (.n rfl (.o rfl (.o rfl (.o rfl (.o rfl (.o rfl (.o rfl (.o rfl (.o rfl (.o rfl (.o rfl (.o rfl (.o rfl (.o rfl (.o rfl (.n rfl .b)))))))))))))))) (rfl)
  · skip
    refine x_exit ?_
    refine xq_exit ?_
    refine xq_exit ?_
    refine xq_hit ?_
    refine xq_norm (xe_code ?_)
    refine x_seq ?_
    refine x_region ?_
    refine xl_pv (pv_assign rfl) rfl ?_
    refine xl_nil ?_
    refine xq_norm (xe_code ?_)
    refine x_ret ?_
    refine xq_done (.inr rfl) _ (res1 rfl rfl) ?_
    exact ⟨by rw [hx, List.drop_of_length_le (by simpa using h)]; rfl, rfl⟩

theorem structs1_c (v s : CStruct) (b : Nat) :
    AC Try.prog 60 [v.av, ptr b] [.ref b 106 s.av.cs] (RetIs (bv (decide (v.name = s.name))) [.ref b 106 s.av.cs]) := by
  refine ac_intro Try.func60 rfl rfl fun I w => ?_
  simp only [argEnv]
  refine x_seq ?_
  refine x_region ?_
  refine xl_box rfl (by rfl) rfl (fun b2 => ?_)
  refine xl_pv (pv_assign rfl) rfl ?_
  refine xl_nil ?_
  refine xq_norm (xe_code ?_)
  refine x_seq ?_
  refine x_region ?_
  refine xl_pv (pv_field_a rfl) rfl ?_
  refine xl_pv (pv_load1 rfl .here rfl) rfl ?_
  refine xl_pv (pv_field_a rfl) rfl ?_
  refine xl_pv (pv_load1 rfl (.there .here) rfl) rfl ?_
  refine xl_pv (pv_str_eq rfl rfl) rfl ?_
  refine xl_pv (pv_assign rfl) rfl ?_
  refine xl_nil ?_
  refine xq_norm (xe_code ?_)
  refine x_ret ?_
  refine xq_drop .here ?_
  refine xq_done (.inr rfl) _ (res1 rfl rfl) ?_
  exact ⟨rfl, rfl⟩
def structF (P : CProg) (i : Nat) (s : CStruct) : Except Int Unit :=
  if strF P s.name = i ∧ twB s.fields = false then (if 1 ≤ s.fields.length ∧ s.fields.length ≤ 8 then .ok () else .error 9) else .error 8
theorem structs_c (P : CProg) (hP : POk P) (i : Nat) (s : CStruct) (hs : P.structs[i]? = some s) (c : Nat) (fs bo mn po fi vo sc : AV) :
    AC Try.prog 51 [ptr c, iv i] [.ref c 110 [.list 2 (P.structs.map CStruct.av), fs, bo, mn, po, fi, vo, sc]] (OutF ((structF P i s).map fun _ => .tuple []) [.ref c 110 [.list 2 (P.structs.map CStruct.av), fs, bo, mn, po, fi, vo, sc]]) := by
  have hst := hP.st
  have hfl := hP.fs s (List.mem_of_getElem? hs)
  refine ac_intro Try.func51 rfl rfl fun I w => ?_
  simp only [argEnv]
  refine x_seq ?_
  refine x_region ?_
  refine xl_pv (pv_move rfl) rfl ?_
  refine xl_pv (pv_nil rfl) rfl ?_
  refine xl_pv (pv_field_a rfl) rfl ?_
  refine xl_pv (pv_field_a rfl) rfl ?_
  refine xl_pv (pv_load1 rfl .here rfl) rfl ?_
  refine xl_pv (pv_move rfl) rfl ?_
  refine xl_pv (pv_at rfl rfl (by omega) ((get_map hs))) rfl ?_
  refine xl_pv (pv_loadN_i rfl rfl) rfl ?_
  refine xl_alloc rfl (fun b4 => ?_)
  refine xl_put .h rfl rfl (by first | rfl | (simp [AV.cs, oneB, *]; done) | (simp [AV.cs, oneB, *]; repeat' constructor)) rfl (.c (.c .z)) ?_
  refine xl_nil ?_
  refine xq_norm (xe_code ?_)
  refine x_seq ?_
  refine x_region ?_
  refine xl_pv (pv_move rfl) rfl ?_
  refine xl_pv (pv_nil rfl) rfl ?_
  refine xl_pv (pv_field_a rfl) rfl ?_
  refine xl_pv (pv_field_a rfl) rfl ?_
  refine xl_pv (pv_load1 rfl (.there .here) rfl) rfl ?_
  refine xl_pv (pv_clo (.cons rfl .nil)) rfl ?_
  refine xl_go (ixStruct P.structs (fun d => decide (d.name = s.name)) _ b4 106 s.av.cs (fun v _ => structs1_c v s b4) (by omega)) rfl (.cons rfl (Wk.refl _) (.cons rfl (Wk.refl _) .nil)) (.x .d) rfl ?_
  refine xl_pv (pv_assign rfl) rfl ?_
  refine xl_nil ?_
  refine xq_norm (xe_code ?_)
  refine x_seq ?_
  refine x_region ?_
  refine xl_pv (pv_move rfl) rfl ?_
  refine xl_pv (pv_move rfl) rfl ?_
  refine xl_pv (pv_bin rfl rfl rfl) rfl ?_
  refine xl_pv (pv_move rfl) rfl ?_
  refine xl_guard rfl rfl (fun h1 => ?_) (fun h1 => ?_)
  · skip
    have e1 : strF P s.name = i := of_decide_eq_true h1
    refine xl_take rfl rfl rfl ?_
    refine xl_pv (pv_field_a rfl) rfl ?_
    refine xl_take rfl rfl rfl ?_
    refine xl_pv (pv_load1 rfl .here rfl) rfl ?_
    refine xl_take rfl rfl rfl ?_
    refine xl_go (twice_c s.fields hfl) rfl (.cons rfl (Wk.refl _) .nil) .d rfl ?_
    rcases h2 : twB s.fields with _ | _
    · skip
      refine xl_take rfl rfl rfl ?_
      refine xl_pv (pv_not rfl) rfl ?_
      refine xl_pv (pv_pick_t rfl rfl) rfl ?_
      refine xl_go (fail_t 8) rfl (.cons rfl (Wk.of_eq (by first | rfl | rw [h2]; rfl)) (.cons rfl (Wk.refl _) .nil)) .d rfl ?_
      refine xl_nil ?_
      refine xq_norm (xe_code ?_)
      refine x_region ?_
      refine xl_pv (pv_field_a rfl) rfl ?_
      refine xl_pv (pv_load1 rfl .here rfl) rfl ?_
      refine xl_pv (pv_len rfl) rfl ?_
      refine xl_pv (pv_bin rfl rfl rfl) rfl ?_
      refine xl_pv (pv_move rfl) rfl ?_
      refine xl_guard rfl rfl (fun h3 => ?_) (fun h3 => ?_)
      · skip
        rcases h4 : decide ((s.fields.length : Int) ≤ 8) with _ | _
        · skip
          refine xl_take rfl rfl rfl ?_
          refine xl_pv (pv_field_a rfl) rfl ?_
          refine xl_take rfl rfl rfl ?_
          refine xl_pv (pv_load1 rfl .here rfl) rfl ?_
          refine xl_take rfl rfl rfl ?_
          refine xl_pv (pv_len rfl) rfl ?_
          refine xl_take rfl rfl rfl ?_
          refine xl_pv (pv_bin rfl rfl rfl) rfl ?_
          refine xl_pv (pv_pick_t rfl rfl) rfl ?_
          refine xl_dies (fail_f 9) rfl (.cons rfl (Wk.of_eq (by simp at h4; simp; omega)) (.cons rfl (Wk.refl _) .nil)) .d rfl ?_
          refine xq_drop .here ?_
          refine xq_died ?_
          simp at h3 h4; exact ⟨by rw [structF, if_pos ⟨e1, h2⟩, if_neg (by omega)]; rfl, rfl⟩
        · skip
          refine xl_take rfl rfl rfl ?_
          refine xl_pv (pv_field_a rfl) rfl ?_
          refine xl_take rfl rfl rfl ?_
          refine xl_pv (pv_load1 rfl .here rfl) rfl ?_
          refine xl_take rfl rfl rfl ?_
          refine xl_pv (pv_len rfl) rfl ?_
          refine xl_take rfl rfl rfl ?_
          refine xl_pv (pv_bin rfl rfl rfl) rfl ?_
          refine xl_pv (pv_pick_t rfl rfl) rfl ?_
          refine xl_go (fail_t 9) rfl (.cons rfl (Wk.of_eq (by simp at h4; simp; omega)) (.cons rfl (Wk.refl _) .nil)) .d rfl ?_
          refine xl_nil ?_
          refine xq_drop .here ?_
          refine xq_done (.inl rfl) _ (res0 rfl) ?_
          simp at h3 h4; exact ⟨by rw [structF, if_pos ⟨e1, h2⟩, if_pos (by omega)]; rfl, rfl⟩
      · skip
        refine xl_skip rfl rfl rfl rfl ?_
        refine xl_skip rfl rfl rfl rfl ?_
        refine xl_skip rfl rfl rfl rfl ?_
        refine xl_skip rfl rfl rfl rfl ?_
        refine xl_pv (pv_pick_f rfl rfl) rfl ?_
        refine xl_dies (fail_f 9) rfl (.cons rfl (Wk.refl _) (.cons rfl (Wk.refl _) .nil)) .d rfl ?_
        refine xq_drop .here ?_
        refine xq_died ?_
        simp at h3; exact ⟨by rw [structF, if_pos ⟨e1, h2⟩, if_neg (by omega)]; rfl, rfl⟩
    · skip
      refine xl_take rfl rfl rfl ?_
      refine xl_pv (pv_not rfl) rfl ?_
      refine xl_pv (pv_pick_t rfl rfl) rfl ?_
      refine xl_dies (fail_f 8) rfl (.cons rfl (Wk.of_eq (by first | rfl | rw [h2]; rfl)) (.cons rfl (Wk.refl _) .nil)) .d rfl ?_
      refine xq_panic ?_
      refine xq_drop .here ?_
      refine xq_died ?_
      exact ⟨by rw [structF, if_neg (by simp [h2])]; rfl, rfl⟩
  · skip
    have e1 : ¬ strF P s.name = i := of_decide_eq_false h1
    refine xl_skip rfl rfl rfl rfl ?_
    refine xl_skip rfl rfl rfl rfl ?_
    refine xl_skip rfl rfl rfl rfl ?_
    refine xl_skip rfl rfl rfl rfl ?_
    refine xl_pv (pv_pick_f rfl rfl) rfl ?_
    refine xl_dies (fail_f 8) rfl (.cons rfl (Wk.refl _) (.cons rfl (Wk.refl _) .nil)) .d rfl ?_
    refine xq_panic ?_
    refine xq_drop .here ?_
    refine xq_died ?_
    exact ⟨by rw [structF, if_neg (by simp [e1])]; rfl, rfl⟩
end Go.Proofs.Ytmallgapchjhnaa
