/- Programs with all variables' names turned. Conditions: names up to 2^40 letters, the program's size. -/
import Derived.Test.YtmallgapchjhnaaK27
import Derived.Test.YtmallgapchjhnaaAx16
set_option linter.unusedVariables false
set_option linter.unusedSimpArgs false
namespace Go.Proofs.Ytmallgapchjhnaa
set_option maxRecDepth 100000
open Go Go.Ax
attribute [local irreducible] X XL XE XQ PV

def qB : ByteArray := ⟨#[95, 113]⟩
def calledB (s : ByteArray) : ByteArray := if s = ⟨#[]⟩ then s else s ++ qB
mutual
def CExp.turn : CExp → CExp
  | .mk k n a f o kids => .mk k n (calledB a) f o (CExp.turns kids)
def CExp.turns : List CExp → List CExp
  | [] => []
  | x :: r => x.turn :: CExp.turns r
end
mutual
def CStmt.turn : CStmt → CStmt
  | .mk kind line name field call ty kids body els => .mk kind line (calledB name) field call ty (CExp.turns kids) (CStmt.turns body) (CStmt.turns els)
def CStmt.turns : List CStmt → List CStmt
  | [] => []
  | x :: r => x.turn :: CStmt.turns r
end
theorem CExp.turns_eq (l : List CExp) : CExp.turns l = l.map CExp.turn := by
  induction l with
  | nil => rfl
  | cons x r ih => simp [CExp.turns, ih]
theorem CStmt.turns_eq (l : List CStmt) : CStmt.turns l = l.map CStmt.turn := by
  induction l with
  | nil => rfl
  | cons x r ih => simp [CStmt.turns, ih]
inductive OkE (M : Nat) : CExp → Prop
  | mk {k n : Int} {a f o : ByteArray} {kids : List CExp} : a.size ≤ M → (∀ x ∈ kids, OkE M x) → OkE M (.mk k n a f o kids)
inductive OkS (M : Nat) : CStmt → Prop
  | mk {kind line : Int} {name field call : ByteArray} {ty : CTy} {kids : List CExp} {body els : List CStmt} : name.size ≤ M → (∀ x ∈ kids, OkE M x) → (∀ x ∈ body, OkS M x) → (∀ x ∈ els, OkS M x) → OkS M (.mk kind line name field call ty kids body els)
theorem called_c (s : ByteArray) (h : s.size ≤ 2 ^ 40) : AC Try.prog 23 [sv s] [] (RetIs (sv (calledB s)) []) := by
  refine ac_intro Try.func23 rfl rfl fun I w => ?_
  simp only [argEnv]
  refine x_seq ?_
  refine x_region ?_
  refine xl_pv (pv_assign rfl) rfl ?_
  refine xl_nil ?_
  refine xq_norm (xe_code ?_)
  refine x_seq ?_
  refine x_seq ?_
  refine x_region ?_
  refine xl_pv (pv_move rfl) rfl ?_
  refine xl_pv (pv_str_eq rfl rfl) rfl ?_
  refine xl_nil ?_
  refine xq_norm (xe_code ?_)
  refine x_condT rfl (fun h1 => ?_) (fun h1 => ?_)
  · skip
    refine x_seq ?_
    refine x_region ?_
    refine xl_pv (pv_move rfl) rfl ?_
    refine xl_pv (pv_assign rfl) rfl ?_
    refine xl_nil ?_
    refine xq_norm (xe_code ?_)
    refine x_ret ?_
    refine xq_ret ?_
    refine xq_done (.inr rfl) _ (res1 rfl rfl) ?_
    exact ⟨by rw [calledB, if_pos (by simpa using h1)], rfl⟩
  · skip
    refine x_skip ?_
    refine xq_norm (xe_code ?_)
    refine x_seq ?_
    refine x_region ?_
    refine xl_pv (pv_move rfl) rfl ?_
    refine xl_pv (pv_str_add rfl rfl (by show s.size + 2 ≤ _; omega)) rfl ?_
    refine xl_pv (pv_assign rfl) rfl ?_
    refine xl_nil ?_
    refine xq_norm (xe_code ?_)
    refine x_ret ?_
    refine xq_done (.inr rfl) _ (res1 rfl rfl) ?_
    exact ⟨by rw [calledB, if_neg (by simpa using h1)]; rfl, rfl⟩
theorem take_turn {α β : Type} {f : α → β} {l : List α} {i : Nat} {z : α} (h : l[i]? = some z) : (l.take (i + 1)).map f = (l.take i).map f ++ [f z] := by
  rw [List.take_add_one, h]
  simp
theorem turnE_c : ∀ (l : List CExp), (∀ x ∈ l, OkE (2 ^ 40) x) → CExp.szs l ≤ 2 ^ 38 → AC Try.prog 41 [.list 6 (l.map CExp.av)] [] (RetIs (.list 6 ((CExp.turns l).map CExp.av)) [])
  | l, hok, hb => by
    have hlen := CExp.szs_len l
    refine ac_intro Try.func41 rfl rfl fun I w => ?_
    simp only [argEnv]
    refine x_seq ?_
    refine x_region ?_
    refine xl_pv (pv_assign rfl) rfl ?_
    refine xl_nil ?_
    refine xq_norm (xe_code ?_)
    refine x_seq ?_
    refine x_region ?_
    refine xl_pv (pv_assign rfl) rfl ?_
    refine xl_vnil 71 6 ?_
    refine xl_nil ?_
    refine xq_norm (xe_code ?_)
    refine x_seq ?_
    refine x_seq ?_
    refine x_region ?_
    refine xl_pv (pv_assign rfl) rfl ?_
    refine xl_nil ?_
    refine xq_norm (xe_code ?_)
    refine x_block ?_
    refine x_loopS (S := Nat × Value) (fun q => q.1 ≤ l.length) (fun q => l.length - q.1) (fun q => [(4, iv q.1), (3, .val q.2)]) (fun q => [.vec q.2 71 6 (((l.take q.1).map CExp.turn).map CExp.av)]) ((0, .slice none 0 0)) (by simp) (.cons rfl (.cons rfl (.cons (i := 2) rfl (.cons (i := 0) rfl (.nil _))))) (rfl) ?_
    rintro ⟨i, v⟩ hi
    simp only [List.cons_append, List.nil_append]
    dsimp only at hi
    refine x_seq ?_
    refine x_seq ?_
    refine x_region ?_
    refine xl_pv (pv_move rfl) rfl ?_
    refine xl_pv (pv_move rfl) rfl ?_
    refine xl_pv (pv_len rfl) rfl ?_
    refine xl_pv (pv_bin rfl rfl rfl) rfl ?_
    refine xl_nil ?_
    refine xq_norm (xe_code ?_)
    refine x_condT rfl (fun h => ?_) (fun h => ?_)
    · skip
      have hlt : i < l.length := by simpa using h
      obtain ⟨z, hz⟩ := get_lt hlt
      have hzm := List.mem_of_getElem? hz
      have hsz := CExp.szs_mem hzm
      have hzo := hok z hzm
      cases hzo with
        | @mk z1 z2 z3 z4 z5 z6 hn hkids => ?_
      have hzs : (CExp.mk z1 z2 z3 z4 z5 z6).sz = 1 + CExp.szs z6 := by rw [CExp.sz]
      refine x_skip ?_
      refine xq_norm (xe_code ?_)
      refine x_seq ?_
      refine x_block ?_
      refine x_seq ?_
      refine x_region ?_
      refine xl_pv (pv_move rfl) rfl ?_
      refine xl_pv (pv_move rfl) rfl ?_
      refine xl_pv (pv_at rfl rfl (by omega) ((get_map hz))) rfl ?_
      refine xl_pv (pv_loadN_i rfl rfl) rfl ?_
      refine xl_alloc rfl (fun b5 => ?_)
      refine xl_put .h rfl rfl (by first | rfl | (simp [AV.cs, oneB, *]; done) | (simp [AV.cs, oneB, *]; repeat' constructor)) rfl (.c (.c (.c (.c (.c (.c .z)))))) ?_
      refine xl_nil ?_
      refine xq_norm (xe_code ?_)
      refine x_seq ?_
      refine x_region ?_
      refine xl_pv (pv_field_a rfl) rfl ?_
      refine xl_pv (pv_load1 rfl .here rfl) rfl ?_
      refine xl_go (called_c z3 hn) rfl (.cons rfl (Wk.refl _) .nil) .d rfl ?_
      refine xl_pv (pv_field_a rfl) rfl ?_
      refine xl_put .h rfl rfl (by first | rfl | (simp [AV.cs, oneB, *]; done) | (simp [AV.cs, oneB, *]; repeat' constructor)) rfl (.s (.s (.c .z))) ?_
      refine xl_nil ?_
      refine xq_norm (xe_code ?_)
      refine x_seq ?_
      refine x_region ?_
      refine xl_pv (pv_field_a rfl) rfl ?_
      refine xl_pv (pv_load1 rfl .here rfl) rfl ?_
      refine xl_go (turnE_c z6 hkids (by omega)) rfl (.cons rfl (Wk.of_eq (by rw [CExp.avs_eq])) .nil) .d rfl ?_
      refine xl_pv (pv_field_a rfl) rfl ?_
      refine xl_put .h rfl rfl (by first | rfl | (simp [AV.cs, oneB, *]; done) | (simp [AV.cs, oneB, *]; repeat' constructor)) rfl (.s (.s (.s (.s (.s (.c .z)))))) ?_
      refine xl_nil ?_
      refine xq_norm (xe_code ?_)
      refine x_region ?_
      refine xl_pv (pv_move rfl) rfl ?_
      refine xl_pv (pv_loadN rfl .here rfl) rfl ?_
      refine xl_lit (.cons rfl .nil) rfl (by first | (simp [AV.cs]; done) | exact lits (by rfl) | (intro x hx; cases hx with | head => rfl | tail _ h => cases h)) (by rfl) (by decide) rfl ?_
      refine xl_grow (.t .h) rfl rfl (by rfl) (by simp; omega) rfl (fun v3_1 hv3_1 => ?_)
      refine xl_pv (pv_assign rfl) rfl ?_
      refine xl_nil ?_
      refine xq_bnorm ?_
      refine xq_norm (xe_code ?_)
      refine x_region ?_
      refine xl_pv (pv_move rfl) rfl ?_
      refine xl_pv (pv_add rfl rfl (by first | omega | (simp only [List.length_map]; omega) | (simp; omega)) (by first | omega | (simp only [List.length_map]; omega) | (simp; omega))) rfl ?_
      refine xl_pv (pv_assign rfl) rfl ?_
      refine xl_nil ?_
      refine xq_drop .here ?_
      refine xe_loopS ((i + 1, v3_1)) (hlt) (by first | omega | (simp at *; omega)) (.cons rfl (.cons rfl (.nil _))) (.n rfl (.o rfl (.o rfl (.n rfl (.o rfl (.o rfl (.o rfl (.o rfl (.o rfl (.o rfl (.o rfl (.o rfl (.o rfl (.o rfl (.o rfl (.o rfl (.o rfl (.o rfl (.o rfl (.o rfl (.o rfl (.o rfl (.o rfl (.o rfl (.o rfl (.o rfl (.n rfl (.n rfl .b)))))))))))))))))))))))))))) (by rw [take_turn hz]; simp [CExp.turn, CExp.av, CExp.avs_eq])
    · skip
      refine x_exit ?_
      refine xq_exit ?_
      refine xq_exit ?_
      refine xq_hit ?_
      refine xq_norm (xe_code ?_)
      refine x_seq ?_
      refine x_region ?_
      refine xl_pv (pv_move rfl) rfl ?_
      refine xl_pv (pv_assign rfl) rfl ?_
      refine xl_nil ?_
      refine xq_norm (xe_code ?_)
      refine x_ret ?_
      refine xq_pub' 2 .here rfl ?_
      refine xq_done (.inr rfl) _ (res1 rfl rfl) ?_
      exact ⟨by rw [CExp.turns_eq, List.take_of_length_le (by simpa using h)], rfl⟩
termination_by l => CExp.szs l
decreasing_by all_goals (simp_wf; omega)
theorem turnS_c : ∀ (l : List CStmt), (∀ x ∈ l, OkS (2 ^ 40) x) → CStmt.szs l ≤ 2 ^ 38 → AC Try.prog 22 [.list 11 (l.map CStmt.av)] [] (RetIs (.list 11 ((CStmt.turns l).map CStmt.av)) [])
  | l, hok, hb => by
    have hlen := CStmt.szs_len l
    refine ac_intro Try.func22 rfl rfl fun I w => ?_
    simp only [argEnv]
    refine x_seq ?_
    refine x_region ?_
    refine xl_pv (pv_assign rfl) rfl ?_
    refine xl_nil ?_
    refine xq_norm (xe_code ?_)
    refine x_seq ?_
    refine x_region ?_
    refine xl_pv (pv_assign rfl) rfl ?_
    refine xl_vnil 73 11 ?_
    refine xl_nil ?_
    refine xq_norm (xe_code ?_)
    refine x_seq ?_
    refine x_seq ?_
    refine x_region ?_
    refine xl_pv (pv_assign rfl) rfl ?_
    refine xl_nil ?_
    refine xq_norm (xe_code ?_)
    refine x_block ?_
    refine x_loopS (S := Nat × Value) (fun q => q.1 ≤ l.length) (fun q => l.length - q.1) (fun q => [(4, iv q.1), (3, .val q.2)]) (fun q => [.vec q.2 73 11 (((l.take q.1).map CStmt.turn).map CStmt.av)]) ((0, .slice none 0 0)) (by simp) (.cons rfl (.cons rfl (.cons (i := 2) rfl (.cons (i := 0) rfl (.nil _))))) (rfl) ?_
    rintro ⟨i, v⟩ hi
    simp only [List.cons_append, List.nil_append]
    dsimp only at hi
    refine x_seq ?_
    refine x_seq ?_
    refine x_region ?_
    refine xl_pv (pv_move rfl) rfl ?_
    refine xl_pv (pv_move rfl) rfl ?_
    refine xl_pv (pv_len rfl) rfl ?_
    refine xl_pv (pv_bin rfl rfl rfl) rfl ?_
    refine xl_nil ?_
    refine xq_norm (xe_code ?_)
    refine x_condT rfl (fun h => ?_) (fun h => ?_)
    · skip
      have hlt : i < l.length := by simpa using h
      obtain ⟨z, hz⟩ := get_lt hlt
      have hzm := List.mem_of_getElem? hz
      have hsz := CStmt.szs_mem hzm
      have hzo := hok z hzm
      cases hzo with
        | @mk z1 z2 z3 z4 z5 ty z6 z7 z8 hn hkids hbody hels => ?_
      obtain ⟨t1, t2, t3⟩ := ty
      have hzs : (CStmt.mk z1 z2 z3 z4 z5 ⟨t1, t2, t3⟩ z6 z7 z8).sz = 1 + CExp.szs z6 + CStmt.szs z7 + CStmt.szs z8 := by rw [CStmt.sz]
      refine x_skip ?_
      refine xq_norm (xe_code ?_)
      refine x_seq ?_
      refine x_block ?_
      refine x_seq ?_
      refine x_region ?_
      refine xl_pv (pv_move rfl) rfl ?_
      refine xl_pv (pv_move rfl) rfl ?_
      refine xl_pv (pv_at rfl rfl (by omega) ((get_map hz))) rfl ?_
      refine xl_pv (pv_loadN_i rfl rfl) rfl ?_
      refine xl_alloc rfl (fun b5 => ?_)
      refine xl_put .h rfl rfl (by first | rfl | (simp [AV.cs, oneB, *]; done) | (simp [AV.cs, oneB, *]; repeat' constructor)) rfl (.c (.c (.c (.c (.c (.c (.c (.c (.c (.c (.c .z))))))))))) ?_
      refine xl_nil ?_
      refine xq_norm (xe_code ?_)
      refine x_seq ?_
      refine x_region ?_
      refine xl_pv (pv_field_a rfl) rfl ?_
      refine xl_pv (pv_load1 rfl .here rfl) rfl ?_
      refine xl_go (called_c z3 hn) rfl (.cons rfl (Wk.refl _) .nil) .d rfl ?_
      refine xl_pv (pv_field_a rfl) rfl ?_
      refine xl_put .h rfl rfl (by first | rfl | (simp [AV.cs, oneB, *]; done) | (simp [AV.cs, oneB, *]; repeat' constructor)) rfl (.s (.s (.c .z))) ?_
      refine xl_nil ?_
      refine xq_norm (xe_code ?_)
      refine x_seq ?_
      refine x_region ?_
      refine xl_pv (pv_field_a rfl) rfl ?_
      refine xl_pv (pv_load1 rfl .here rfl) rfl ?_
      refine xl_go (turnE_c z6 hkids (by omega)) rfl (.cons rfl (Wk.refl _) .nil) .d rfl ?_
      refine xl_pv (pv_field_a rfl) rfl ?_
      refine xl_put .h rfl rfl (by first | rfl | (simp [AV.cs, oneB, *]; done) | (simp [AV.cs, oneB, *]; repeat' constructor)) rfl (.s (.s (.s (.s (.s (.s (.s (.s (.c .z))))))))) ?_
      refine xl_nil ?_
      refine xq_norm (xe_code ?_)
      refine x_seq ?_
      refine x_region ?_
      refine xl_pv (pv_field_a rfl) rfl ?_
      refine xl_pv (pv_load1 rfl .here rfl) rfl ?_
      refine xl_go (turnS_c z7 hbody (by omega)) rfl (.cons rfl (Wk.of_eq (by rw [CStmt.avs_eq])) .nil) .d rfl ?_
      refine xl_pv (pv_field_a rfl) rfl ?_
      refine xl_put .h rfl rfl (by first | rfl | (simp [AV.cs, oneB, *]; done) | (simp [AV.cs, oneB, *]; repeat' constructor)) rfl (.s (.s (.s (.s (.s (.s (.s (.s (.s (.c .z)))))))))) ?_
      refine xl_nil ?_
      refine xq_norm (xe_code ?_)
      refine x_seq ?_
      refine x_region ?_
      refine xl_pv (pv_field_a rfl) rfl ?_
      refine xl_pv (pv_load1 rfl .here rfl) rfl ?_
      refine xl_go (turnS_c z8 hels (by omega)) rfl (.cons rfl (Wk.of_eq (by rw [CStmt.avs_eq])) .nil) .d rfl ?_
      refine xl_pv (pv_field_a rfl) rfl ?_
      refine xl_put .h rfl rfl (by first | rfl | (simp [AV.cs, oneB, *]; done) | (simp [AV.cs, oneB, *]; repeat' constructor)) rfl (.s (.s (.s (.s (.s (.s (.s (.s (.s (.s (.c .z))))))))))) ?_
      refine xl_nil ?_
      refine xq_norm (xe_code ?_)
      refine x_region ?_
      refine xl_pv (pv_move rfl) rfl ?_
      refine xl_pv (pv_loadN rfl .here rfl) rfl ?_
      refine xl_lit (.cons rfl .nil) rfl (by first | (simp [AV.cs]; done) | exact lits (by rfl) | (intro x hx; cases hx with | head => rfl | tail _ h => cases h)) (by rfl) (by decide) rfl ?_
      refine xl_grow (.t .h) rfl rfl (by rfl) (by simp; omega) rfl (fun v3_1 hv3_1 => ?_)
      refine xl_pv (pv_assign rfl) rfl ?_
      refine xl_nil ?_
      refine xq_bnorm ?_
      refine xq_norm (xe_code ?_)
      refine x_region ?_
      refine xl_pv (pv_move rfl) rfl ?_
      refine xl_pv (pv_add rfl rfl (by first | omega | (simp only [List.length_map]; omega) | (simp; omega)) (by first | omega | (simp only [List.length_map]; omega) | (simp; omega))) rfl ?_
      refine xl_pv (pv_assign rfl) rfl ?_
      refine xl_nil ?_
      refine xq_drop .here ?_
      refine xe_loopS ((i + 1, v3_1)) (hlt) (by first | omega | (simp at *; omega)) (.cons rfl (.cons rfl (.nil _))) (.n rfl (.o rfl (.o rfl (.n rfl (.o rfl (.o rfl (.o rfl (.o rfl (.o rfl (.o rfl (.o rfl (.o rfl (.o rfl (.o rfl (.o rfl (.o rfl (.o rfl (.o rfl (.o rfl (.o rfl (.o rfl (.o rfl (.o rfl (.o rfl (.o rfl (.o rfl (.o rfl (.o rfl (.o rfl (.o rfl (.o rfl (.o rfl (.o rfl (.o rfl (.n rfl (.n rfl .b)))))))))))))))))))))))))))))))))))) (by rw [take_turn hz]; simp [CStmt.turn, CStmt.av, CStmt.avs_eq])
    · skip
      refine x_exit ?_
      refine xq_exit ?_
      refine xq_exit ?_
      refine xq_hit ?_
      refine xq_norm (xe_code ?_)
      refine x_seq ?_
      refine x_region ?_
      refine xl_pv (pv_move rfl) rfl ?_
      refine xl_pv (pv_assign rfl) rfl ?_
      refine xl_nil ?_
      refine xq_norm (xe_code ?_)
      refine x_ret ?_
      refine xq_pub' 2 .here rfl ?_
      refine xq_done (.inr rfl) _ (res1 rfl rfl) ?_
      exact ⟨by rw [CStmt.turns_eq, List.take_of_length_le (by simpa using h)], rfl⟩
termination_by l => CStmt.szs l
decreasing_by all_goals (simp_wf; omega)
end Go.Proofs.Ytmallgapchjhnaa
