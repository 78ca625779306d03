/- The checker's expressions: its methods say what the plain functions say. No condition: plain theorems. -/
import Derived.Test.YtmallgapchjhnaaK3
set_option linter.unusedVariables false
set_option linter.unusedSimpArgs false
namespace Go.Proofs.Ytmallgapchjhnaa
set_option maxRecDepth 100000
open Go Go.Ax
attribute [local irreducible] X XL XE XQ PV

mutual
def CExp.sz : CExp → Nat
  | .mk _ _ _ _ _ kids => 1 + CExp.szs kids
def CExp.szs : List CExp → Nat
  | [] => 0
  | x :: r => x.sz + CExp.szs r
end
theorem CExp.sz_eq (x : CExp) : x.sz = 1 + CExp.szs x.kids := by cases x; rfl
theorem CExp.szs_len : ∀ l : List CExp, l.length ≤ CExp.szs l
  | [] => Nat.le_refl _
  | x :: r => by
    have := CExp.szs_len r
    rw [CExp.szs, CExp.sz_eq, List.length_cons]
    omega
theorem CExp.szs_mem : ∀ {l : List CExp} {x : CExp}, x ∈ l → x.sz ≤ CExp.szs l
  | y :: r, x, h => by
    rw [CExp.szs]
    rcases List.mem_cons.1 h with rfl | h
    · omega
    · have := CExp.szs_mem h
      omega
theorem CVal.av_cs (v : CVal) : v.av.cs.length = 5 := by cases v; rfl
theorem CVal.av_ones (v : CVal) : v.av.cs.all oneB = true := by cases v; rfl
theorem flat_ones {α : Type} {f : α → AV} (hf : ∀ x, (f x).cs.all oneB = true) (xs : List α) : (flat (xs.map f)).all oneB = true := by
  induction xs with
  | nil => rfl
  | cons x r ih => rw [List.map_cons, flat_cons, List.all_append, hf, ih]; rfl

def pairAV (p : CVal × Int) : AV := .tuple [p.1.av, kv p.2]
def listAV (l : List CVal) : AV := .list 5 (l.map CVal.av)
abbrev memE (c : Nat) (ss fs bo mn po fi : AV) (vv vc : Value) (vs : List CVar) (sc : List Int) : List Ck := [.ref c 110 [ss, fs, bo, mn, po, fi, .val vv, .val vc], .vec vv 82 6 (vs.map CVar.av), .vec vc 3 1 (sc.map iv)]
def ExpC (vs : List CVar) (sc : List Int) (x : CExp) : Prop := ∀ (c : Nat) (ss fs bo mn po fi : AV) (vv vc : Value),
  AC Try.prog 98 [ptr c, x.av] (memE c ss fs bo mn po fi vv vc vs sc) (OutF ((expF vs sc x).map pairAV) (memE c ss fs bo mn po fi vv vc vs sc))
def ValsC (vs : List CVar) (sc : List Int) (l : List CExp) : Prop := ∀ (want : List Int) (c : Nat) (ss fs bo mn po fi : AV) (vv vc : Value),
  AC Try.prog 90 [ptr c, .list 6 (l.map CExp.av), .list 1 (want.map kv)] (memE c ss fs bo mn po fi vv vc vs sc) (OutF ((valsF (expsF vs sc l) want).map listAV) (memE c ss fs bo mn po fi vv vc vs sc))

/-- A round adds one. -/
def addR (la : List CVal) (ka : List Int) (r : Except Int (List CVal × List Int)) : Except Int (List CVal × List Int) := r.map fun p => (la ++ p.1, ka ++ p.2)
theorem addR_nil (r : Except Int (List CVal × List Int)) : addR [] [] r = r := by cases r <;> rfl
theorem addR_ok {vs : List CVar} {sc : List Int} {x : CExp} {r : List CExp} {v : CVal} {k : Int} (h : expF vs sc x = .ok (v, k)) (la : List CVal) (ka : List Int) : addR la ka (expsF vs sc (x :: r)) = addR (la ++ [v]) (ka ++ [k]) (expsF vs sc r) := by
  rw [expsF, h]
  cases expsF vs sc r <;> simp [addR, Except.map]
theorem addR_err {vs : List CVar} {sc : List Int} {x : CExp} {r : List CExp} {e : Int} (h : expF vs sc x = .error e) (la : List CVal) (ka : List Int) : addR la ka (expsF vs sc (x :: r)) = .error e := by
  rw [expsF, h]
  rfl

theorem find_get {vs : List CVar} {sc : List Int} {nm : ByteArray} {k : Int} (h : findF vs sc nm = .ok k) : 0 ≤ k ∧ ∃ v, vs[k.toNat]? = some v := by
  unfold findF at h
  split at h
  · rename_i h1
    cases h
    obtain ⟨i, x, h2, h3, _⟩ := idx_lt _ _ _ h1.1
    refine ⟨h1.1, x, ?_⟩
    rw [numF, h2]
    simpa using h3
  · cases h
theorem vals_of (vs : List CVar) (sc : List Int) (l : List CExp) (hlen : l.length ≤ 2 ^ 40) (hx : ∀ x ∈ l, ExpC vs sc x) : ValsC vs sc l := by
  intro want c ss fs bo mn po fi vv vc
  refine ac_intro Try.func90 rfl rfl fun I w => ?_
  simp only [argEnv, memE]
  refine x_seq ?_
  refine x_region ?_
  refine xl_pv (pv_assign rfl) rfl ?_
  refine xl_nil ?_
  refine xq_norm (xe_code ?_)
  refine x_seq ?_
  refine x_region ?_
  refine xl_pv (pv_assign rfl) rfl ?_
  refine xl_vnil 140 5 ?_
  refine xl_nil ?_
  refine xq_norm (xe_code ?_)
  refine x_seq ?_
  refine x_region ?_
  refine xl_pv (pv_assign rfl) rfl ?_
  refine xl_vnil 5 1 ?_
  refine xl_nil ?_
  refine xq_norm (xe_code ?_)
  refine x_seq ?_
  refine x_seq ?_
  refine x_region ?_
  refine xl_pv (pv_move rfl) rfl ?_
  refine xl_pv (pv_len rfl) rfl ?_
  refine xl_pv (pv_move rfl) rfl ?_
  refine xl_nil ?_
  refine xq_norm (xe_code ?_)
  refine x_block ?_
  refine x_loopS (S := Nat × Value × Value × List CVal × List Int) (fun q => q.1 ≤ l.length ∧ expsF vs sc l = addR q.2.2.2.1 q.2.2.2.2 (expsF vs sc (l.drop q.1)) ∧ q.2.2.2.1.length = q.1 ∧ q.2.2.2.2.length = q.1) (fun q => l.length - q.1) (fun q => [(15, iv q.1), (7, .val q.2.1), (8, .val q.2.2.1)]) (fun q => [.vec q.2.2.1 5 1 (q.2.2.2.2.map kv), .vec q.2.1 140 5 (q.2.2.2.1.map CVal.av), .ref c 110 [ss, fs, bo, mn, po, fi, .val vv, .val vc], .vec vv 82 6 (vs.map CVar.av), .vec vc 3 1 (sc.map iv)]) ((0, .slice none 0 0, .slice none 0 0, [], [])) (⟨Nat.zero_le _, (addR_nil _).symm, rfl, rfl⟩) (.cons rfl (.cons rfl (.cons rfl (.cons (i := 14) rfl (.cons (i := 13) rfl (.cons (i := 6) rfl (.cons (i := 0) rfl (.cons (i := 2) rfl (.nil _))))))))) (rfl) ?_
  rintro ⟨i, va, vk, la, ka⟩ ⟨hi, hr, hla, hka⟩
  simp only [List.cons_append, List.nil_append]
  dsimp only at hi hr hla hka
  refine x_seq ?_
  refine x_region ?_
  refine xl_pv (pv_bin rfl rfl rfl) rfl ?_
  refine xl_nil ?_
  refine xq_norm (xe_code ?_)
  refine x_seq ?_
  refine x_condT rfl (fun h => ?_) (fun h => ?_)
  · skip
    have hlt : i < l.length := by simpa using h
    obtain ⟨z, hz⟩ := get_lt hlt
    have hd := get_drop hz
    obtain ⟨z1, z2, z3, z4, z5, z6⟩ := z
    refine x_skip ?_
    refine xq_norm (xe_code ?_)
    refine x_seq ?_
    refine x_block ?_
    refine x_seq ?_
    refine x_region ?_
    refine xl_pv (pv_at rfl rfl (by omega) ((get_map hz))) rfl ?_
    rcases hE : expF vs sc (.mk z1 z2 z3 z4 z5 z6) with e | ⟨⟨v1, v2, v3, v4, v5⟩, k⟩
    · skip
      refine xl_pv (pv_loadN_i rfl rfl) rfl ?_
      refine xl_alloc rfl (fun b10 => ?_)
      refine xl_put .h rfl rfl (by first | rfl | (simp [AV.cs, oneB, *]; done) | (simp [AV.cs, oneB, *]; repeat' constructor)) rfl (.c (.c (.c (.c (.c (.c .z)))))) ?_
      refine xl_nil ?_
      refine xq_norm (xe_code ?_)
      refine x_seq ?_
      refine x_region ?_
      refine xl_pv (pv_move rfl) rfl ?_
      refine xl_pv (pv_loadN rfl .here rfl) rfl ?_
      refine xl_dies (AC_err (hx _ (List.mem_of_getElem? hz) c ss fs bo mn po fi vv vc) (by rw [hE]; rfl)) rfl (.cons rfl (Wk.refl _) (.cons rfl (Wk.refl _) .nil)) (.k (.k (.k (.x (.x (.x .d)))))) rfl ?_
      refine xq_panic ?_
      refine xq_bpanic ?_
      refine xq_panic ?_
      refine xq_panic ?_
      refine xq_bpanic ?_
      refine xq_panic ?_
      refine xq_drop .here ?_
      refine xq_drop .here ?_
      refine xq_drop .here ?_
      refine xq_died ?_
      exact ⟨by rw [hr, hd, addR_err hE]; rfl, rfl⟩
    · skip
      refine xl_pv (pv_loadN_i rfl rfl) rfl ?_
      refine xl_alloc rfl (fun b10 => ?_)
      refine xl_put .h rfl rfl (by first | rfl | (simp [AV.cs, oneB, *]; done) | (simp [AV.cs, oneB, *]; repeat' constructor)) rfl (.c (.c (.c (.c (.c (.c .z)))))) ?_
      refine xl_nil ?_
      refine xq_norm (xe_code ?_)
      refine x_seq ?_
      refine x_region ?_
      refine xl_pv (pv_move rfl) rfl ?_
      refine xl_pv (pv_loadN rfl .here rfl) rfl ?_
      refine xl_go (AC_ok (hx _ (List.mem_of_getElem? hz) c ss fs bo mn po fi vv vc) (by rw [hE]; rfl)) rfl (.cons rfl (Wk.refl _) (.cons rfl (Wk.refl _) .nil)) (.k (.k (.k (.x (.x (.x .d)))))) rfl ?_
      refine xl_pv (pv_move rfl) rfl ?_
      refine xl_pv (pv_extract rfl rfl) rfl ?_
      refine xl_pv (pv_extract rfl rfl) rfl ?_
      refine xl_alloc rfl (fun b11 => ?_)
      refine xl_put .h rfl rfl (by first | rfl | (simp [AV.cs, oneB, *]; done) | (simp [AV.cs, oneB, *]; repeat' constructor)) rfl (.c (.c (.c (.c (.c .z))))) ?_
      refine xl_pv (pv_assign rfl) rfl ?_
      refine xl_nil ?_
      refine xq_norm (xe_code ?_)
      refine x_region ?_
      refine xl_pv (pv_move rfl) rfl ?_
      refine xl_pv (pv_loadN rfl .here rfl) rfl ?_
      refine xl_lit (.cons rfl .nil) rfl (by first | (simp [AV.cs]; done) | exact lits (by rfl) | (intro x hx; cases hx with | head => rfl | tail _ h => cases h)) (by rfl) (by decide) rfl ?_
      refine xl_grow (.t (.t (.t .h))) rfl rfl (by rfl) (by simp; omega) rfl (fun va_1 hva_1 => ?_)
      refine xl_pv (pv_move rfl) rfl ?_
      refine xl_pv (pv_move rfl) rfl ?_
      refine xl_lit (.cons rfl .nil) rfl (by first | (simp [AV.cs]; done) | exact lits (by rfl) | (intro x hx; cases hx with | head => rfl | tail _ h => cases h)) (by rfl) (by decide) rfl ?_
      refine xl_grow (.t (.t .h)) rfl rfl (by rfl) (by simp; omega) rfl (fun vk_2 hvk_2 => ?_)
      refine xl_pv (pv_assign rfl) rfl ?_
      refine xl_pv (pv_assign rfl) rfl ?_
      refine xl_nil ?_
      refine xq_bnorm ?_
      refine xq_norm (xe_code ?_)
      refine x_region ?_
      refine xl_pv (pv_add rfl rfl (by omega) (by omega)) rfl ?_
      refine xl_pv (pv_move rfl) rfl ?_
      refine xl_nil ?_
      refine xq_drop .here ?_
      refine xq_drop .here ?_
      refine xe_loopS ((i + 1, va_1, vk_2, la ++ [.mk v1 v2 v3 v4 v5], ka ++ [k])) (⟨hlt, by rw [hr, hd, addR_ok hE], by simp [hla], by simp [hka]⟩) (by first | omega | (simp at *; omega)) (.cons rfl (.cons rfl (.cons rfl (.nil _)))) (.n rfl (.o rfl (.n rfl (.n rfl (.o rfl (.o rfl (.o rfl (.o rfl (.o rfl (.o rfl (.o rfl (.o rfl (.o rfl (.o rfl (.o rfl (.o rfl (.o rfl (.o rfl (.o rfl (.o rfl (.o rfl (.o rfl (.o rfl (.o rfl (.o rfl (.n rfl (.n rfl (.n rfl .b)))))))))))))))))))))))))))) (by simp [CVal.av])
  · skip
    have hle : l.length ≤ i := by simpa using h
    have hr2 : expsF vs sc l = .ok (la, ka) := by rw [hr, List.drop_of_length_le hle]; simp [expsF, addR, Except.map]
    have hka2 : ka.length ≤ 2 ^ 40 := by omega
    refine x_exit ?_
    refine xq_exit ?_
    refine xq_exit ?_
    refine xq_hit ?_
    refine xq_norm (xe_code ?_)
    refine x_seq ?_
    refine x_region ?_
    refine xl_pv (pv_move rfl) rfl ?_
    refine xl_pub 34 .here rfl ?_
    refine xl_pv (pv_move rfl) rfl ?_
    refine xl_go (eqU8 ka want hka2) rfl (.cons rfl (Wk.refl _) (.cons rfl (Wk.refl _) .nil)) .d rfl ?_
    rcases hc : decide (ka = want) with _ | _
    · skip
      refine xl_dies (fail_f 9) rfl (.cons rfl (Wk.of_eq (by first | rfl | rw [hc])) (.cons rfl (Wk.refl _) .nil)) .d rfl ?_
      refine xq_panic ?_
      refine xq_drop .here ?_
      refine xq_died ?_
      exact ⟨by rw [hr2, valsF, if_neg (by simpa using hc)]; rfl, rfl⟩
    · skip
      refine xl_go (fail_t 9) rfl (.cons rfl (Wk.of_eq (by first | rfl | rw [hc])) (.cons rfl (Wk.refl _) .nil)) .d rfl ?_
      refine xl_nil ?_
      refine xq_norm (xe_code ?_)
      refine x_seq ?_
      refine x_region ?_
      refine xl_pv (pv_move rfl) rfl ?_
      refine xl_pv (pv_assign rfl) rfl ?_
      refine xl_nil ?_
      refine xq_norm (xe_code ?_)
      refine x_ret ?_
      refine xq_pub' 6 .here rfl ?_
      refine xq_done (.inr rfl) _ (res1 rfl rfl) ?_
      exact ⟨by rw [hr2, valsF, if_pos (by simpa using hc)]; rfl, rfl⟩

theorem place_of (vs : List CVar) (sc : List Int) (x : CExp) (hvs : vs.length ≤ 2 ^ 40) (hsc : sc.length ≤ 2 ^ 40) (hfl : ∀ v ∈ vs, v.fields.length ≤ 2 ^ 40) (hx : ValsC vs sc x.kids) (c : Nat) (ss fs bo mn po fi : AV) (vv vc : Value) :
    AC Try.prog 103 [ptr c, x.av] (memE c ss fs bo mn po fi vv vc vs sc) (OutF ((placeF vs sc x.kind x.name x.field (expsF vs sc x.kids)).map pairAV) (memE c ss fs bo mn po fi vv vc vs sc)) := by
  obtain ⟨x1, x2, x3, x4, x5, x6⟩ := x
  simp only [CExp.kind, CExp.name, CExp.field, CExp.kids] at *
  refine ac_intro Try.func103 rfl rfl fun I w => ?_
  simp only [argEnv, memE]
  rcases hF : findF vs sc x3 with e | k
  · skip
    refine x_seq ?_
    refine x_region ?_
    refine xl_box rfl (by rfl) rfl (fun b3 => ?_)
    refine xl_alloc rfl (fun b4 => ?_)
    refine xl_pv (pv_assign rfl) rfl ?_
    refine xl_nil ?_
    refine xq_norm (xe_code ?_)
    refine x_seq ?_
    refine x_region ?_
    refine xl_pv (pv_move rfl) rfl ?_
    refine xl_pv (pv_field_a rfl) rfl ?_
    refine xl_pv (pv_load1 rfl (.there .here) rfl) rfl ?_
    refine xl_dies (find_no c ss fs bo mn po fi vv vc vs sc x3 hvs hsc hF) rfl (.cons rfl (Wk.refl _) (.cons rfl (Wk.refl _) .nil)) (.k (.k (.x (.x (.x .d))))) rfl ?_
    refine xq_panic ?_
    refine xq_drop .here ?_
    refine xq_drop .here ?_
    refine xq_died ?_
    exact ⟨by rw [placeF, hF]; rfl, rfl⟩
  · skip
    obtain ⟨hk0, v, hv⟩ := find_get hF
    have hvm := List.mem_of_getElem? hv
    have hlt := (List.getElem?_eq_some_iff.1 hv).1
    refine x_seq ?_
    refine x_region ?_
    refine xl_box rfl (by rfl) rfl (fun b3 => ?_)
    refine xl_alloc rfl (fun b4 => ?_)
    refine xl_pv (pv_assign rfl) rfl ?_
    refine xl_nil ?_
    refine xq_norm (xe_code ?_)
    refine x_seq ?_
    refine x_region ?_
    refine xl_pv (pv_move rfl) rfl ?_
    refine xl_pv (pv_field_a rfl) rfl ?_
    refine xl_pv (pv_load1 rfl (.there .here) rfl) rfl ?_
    refine xl_go (find_ok c ss fs bo mn po fi vv vc vs sc x3 hvs hsc hF) rfl (.cons rfl (Wk.refl _) (.cons rfl (Wk.refl _) .nil)) (.k (.k (.x (.x (.x .d))))) rfl ?_
    refine xl_pv (pv_assign rfl) rfl ?_
    refine xl_nil ?_
    refine xq_norm (xe_code ?_)
    refine x_seq ?_
    refine x_seq ?_
    refine x_region ?_
    refine xl_pv (pv_field_a rfl) rfl ?_
    refine xl_pv (pv_load1 rfl (.there .here) rfl) rfl ?_
    refine xl_nil ?_
    refine xq_norm (xe_code ?_)
    refine x_block ?_
    refine x_seq ?_
    refine x_region ?_
    refine xl_pv (pv_bin rfl rfl rfl) rfl ?_
    refine xl_pv (pv_assign rfl) rfl ?_
    refine xl_nil ?_
    refine xq_norm (xe_code ?_)
    refine x_condT rfl (fun h1 => ?_) (fun h1 => ?_)
    · skip
      have e1 : x1 = 3 := by simpa using h1
      refine x_slc (.there (.there (.there .here))) (fun hs => ?_)
      obtain ⟨gvv, cvv, rfl⟩ := hs.full (by simp; omega)
      refine x_seq ?_
      refine x_region ?_
      refine xl_pv (pv_move rfl) rfl ?_
      refine xl_pv (pv_nil rfl) rfl ?_
      refine xl_pv (pv_field_a rfl) rfl ?_
      refine xl_pv (pv_load1 rfl (.there (.there .here)) rfl) rfl ?_
      refine xl_pv (pv_move rfl) rfl ?_
      refine xl_pv (pv_at_o rfl rfl (hk0) (by first | omega | (simp; omega))) rfl ?_
      refine xl_pv (pv_field_a rfl) rfl ?_
      refine xl_pv (pv_loadN_o (off := 1) (.there (.there (.there .here))) rfl (get_map hv) rfl) rfl ?_
      refine xl_go (scalar_c v.ty) rfl (.cons rfl (Wk.refl _) .nil) .d rfl ?_
      rcases hS : scB v.ty with _ | _
      · skip
        refine xl_dies (fail_f 9) rfl (.cons rfl (Wk.of_eq (by unfold scB at hS; first | rfl | rw [hS])) (.cons rfl (Wk.refl _) .nil)) .d rfl ?_
        refine xq_panic ?_
        refine xq_bpanic ?_
        refine xq_panic ?_
        refine xq_drop .here ?_
        refine xq_drop .here ?_
        refine xq_died ?_
        exact ⟨by simp [placeF, hF, hv, e1, hS, Except.map], rfl⟩
      · skip
        refine xl_go (fail_t 9) rfl (.cons rfl (Wk.of_eq (by unfold scB at hS; first | rfl | rw [hS])) (.cons rfl (Wk.refl _) .nil)) .d rfl ?_
        refine xl_nil ?_
        refine xq_norm (xe_code ?_)
        refine x_seq ?_
        refine x_draw rfl ?_
        refine xd_v 0 rfl rfl rfl (gv_v (pv_move rfl) rfl) ?_
        refine xd_v 1 rfl rfl rfl (gv_v (pv_build (by exact (.cons rfl rfl rfl (by first | rfl | (simp [AV.cs, oneB, *]; done) | (simp [AV.cs, oneB, *]; repeat' constructor)) (.c .z) (.cons rfl rfl rfl (by first | rfl | (simp [AV.cs, oneB, *]; done) | (simp [AV.cs, oneB, *]; repeat' constructor)) (.s (.s (.c .z))) .nil)))) rfl) ?_
        refine xd_v 2 rfl rfl rfl (gv_v (pv_move rfl) rfl) ?_
        refine xd_v 3 rfl rfl rfl (gv_v (pv_nil rfl) rfl) ?_
        refine xd_v 4 rfl rfl rfl (gv_v (pv_field_a rfl) rfl) ?_
        refine xd_v 5 rfl rfl rfl (gv_v (pv_load1 rfl (.there (.there .here)) rfl) rfl) ?_
        refine xd_v 6 rfl rfl rfl (gv_v (pv_move rfl) rfl) ?_
        refine xd_v 7 rfl rfl rfl (gv_v (pv_at_o rfl rfl (hk0) (by first | omega | (simp; omega))) rfl) ?_
        refine xd_v 8 rfl rfl rfl (gv_v (pv_field_a rfl) rfl) ?_
        refine xd_v 9 rfl rfl rfl (gv_v (pv_field_a rfl) rfl) ?_
        refine xd_v 10 rfl rfl rfl (gv_v (pv_load1_o (off := 1) (.there (.there (.there .here))) rfl (get_map hv) rfl) rfl) ?_
        refine xd_e rfl 11 rfl rfl rfl (by rintro _ ⟨⟩ <;> exact Nat.le_of_ble_eq_true rfl) rfl (ev_put .h rfl rfl (by first | rfl | (simp [AV.cs, oneB, *]; done) | (simp [AV.cs, oneB, *]; repeat' constructor)) rfl (.c (.c (.c (.c (.c .z)))))) ?_
        rintro _ _ ⟨rfl, rfl⟩
        refine ⟨?_, ?_⟩
        · skip
          intro m hm o' y ho hy
          have hm' : m ∈ [10, 9, 8, 7, 6, 5, 4, 3, 2] := hm
          clear hm
          rcases List.mem_cons.1 hm' with rfl | hm'
          · cases ho; cases hy
            exact gv_v (pv_load1_o (off := 1) (.there (.there (.there .here))) rfl (get_map hv) rfl) rfl
          rcases List.mem_cons.1 hm' with rfl | hm'
          · cases ho; cases hy
            exact gv_v (pv_field_a rfl) rfl
          rcases List.mem_cons.1 hm' with rfl | hm'
          · cases ho; cases hy
            exact gv_v (pv_field_a rfl) rfl
          rcases List.mem_cons.1 hm' with rfl | hm'
          · cases ho; cases hy
            exact gv_v (pv_at_o rfl rfl (hk0) (by first | omega | (simp; omega))) rfl
          rcases List.mem_cons.1 hm' with rfl | hm'
          · cases ho; cases hy
            exact gv_v (pv_move rfl) rfl
          rcases List.mem_cons.1 hm' with rfl | hm'
          · cases ho; cases hy
            exact gv_v (pv_load1 rfl (.there (.there .here)) rfl) rfl
          rcases List.mem_cons.1 hm' with rfl | hm'
          · cases ho; cases hy
            exact gv_v (pv_field_a rfl) rfl
          rcases List.mem_cons.1 hm' with rfl | hm'
          · cases ho; cases hy
            exact gv_v (pv_nil rfl) rfl
          rcases List.mem_cons.1 hm' with rfl | hm'
          · cases ho; cases hy
            exact gv_v (pv_move rfl) rfl
          cases hm'
        refine xd_v 12 rfl rfl rfl (gv_v (pv_assign rfl) rfl) ?_
        refine xd_end rfl rfl rfl rfl ?_
        refine xq_sub (.cons (i := 5) rfl (.cons (i := 6) rfl (.cons (i := 4) rfl (.cons (i := 3) rfl (.cons (i := 0) rfl (.nil _)))))) ?_
        refine xq_norm (xe_code ?_)
        refine x_ret ?_
        refine xq_bret ?_
        refine xq_ret ?_
        refine xq_doneW (.inr rfl) (pairAV (.mk 2 0 k 0 [], v.ty.kind)) (resCT rfl (cr_N rfl .here rfl) rfl) (drop_one .here (drop_one .here drop_nil)) (by repeat (first | exact Wk.refl _ | exact Wk.nil _ | exact All2.nil | refine Wk.tuple ?_ | refine Wk.agg ?_ | refine All2.cons ?_ ?_)) ?_
        exact ⟨by simp [placeF, hF, hv, e1, hS, Except.map], rfl⟩
    · skip
      have e1 : ¬ x1 = 3 := by simpa using h1
      refine x_seq ?_
      refine x_region ?_
      refine xl_pv (pv_bin rfl rfl rfl) rfl ?_
      refine xl_pv (pv_assign rfl) rfl ?_
      refine xl_nil ?_
      refine xq_norm (xe_code ?_)
      refine x_condT rfl (fun h2 => ?_) (fun h2 => ?_)
      · skip
        have e2 : x1 = 5 := by simpa using h2
        rcases hT : decide (v.ty.kind = 4) with _ | _
        · skip
          have hT' : ¬ v.ty.kind = 4 := by simpa using hT
          refine x_seq ?_
          refine x_region ?_
          refine xl_pv (pv_move rfl) rfl ?_
          refine xl_pv (pv_move rfl) rfl ?_
          refine xl_dies (AC_err (fits_c c ss fs bo mn po fi (.val vc) vv vs k 4 v hk0 hv) (by rw [if_neg hT'])) rfl (.cons rfl (Wk.refl _) (.cons rfl (Wk.refl _) (.cons rfl (Wk.refl _) .nil))) (.k (.k (.x (.x .d)))) rfl ?_
          refine xq_panic ?_
          refine xq_bpanic ?_
          refine xq_panic ?_
          refine xq_drop .here ?_
          refine xq_drop .here ?_
          refine xq_died ?_
          exact ⟨by simp [placeF, hF, hv, e2, hT', Except.map], rfl⟩
        · skip
          have hT' : v.ty.kind = 4 := by simpa using hT
          refine x_seq ?_
          refine x_region ?_
          refine xl_pv (pv_move rfl) rfl ?_
          refine xl_pv (pv_move rfl) rfl ?_
          refine xl_go (AC_ok (fits_c c ss fs bo mn po fi (.val vc) vv vs k 4 v hk0 hv) (by rw [if_pos hT'])) rfl (.cons rfl (Wk.refl _) (.cons rfl (Wk.refl _) (.cons rfl (Wk.refl _) .nil))) (.k (.k (.x (.x .d)))) rfl ?_
          refine xl_nil ?_
          refine xq_norm (xe_code ?_)
          rcases hL : decide (0 ≤ fldF v.fields x4) with _ | _
          · skip
            have hL' : ¬ 0 ≤ fldF v.fields x4 := by simpa using hL
            refine x_seq ?_
            refine x_region ?_
            refine xl_pv (pv_move rfl) rfl ?_
            refine xl_pv (pv_move rfl) rfl ?_
            refine xl_pv (pv_move rfl) rfl ?_
            refine xl_pv (pv_field_a rfl) rfl ?_
            refine xl_pv (pv_load1 rfl (.there .here) rfl) rfl ?_
            refine xl_dies (AC_err (field_c c ss fs bo mn po fi (.val vc) vv vs k x4 v hk0 hv (hfl v hvm)) (by rw [if_neg hL'])) rfl (.cons rfl (Wk.refl _) (.cons rfl (Wk.refl _) (.cons rfl (Wk.refl _) .nil))) (.k (.k (.x (.x .d)))) rfl ?_
            refine xq_panic ?_
            refine xq_bpanic ?_
            refine xq_panic ?_
            refine xq_drop .here ?_
            refine xq_drop .here ?_
            refine xq_died ?_
            exact ⟨by simp [placeF, hF, hv, e2, hT', hL', Except.map], rfl⟩
          · skip
            have hL' : 0 ≤ fldF v.fields x4 := by simpa using hL
            refine x_seq ?_
            refine x_region ?_
            refine xl_pv (pv_move rfl) rfl ?_
            refine xl_pv (pv_move rfl) rfl ?_
            refine xl_pv (pv_move rfl) rfl ?_
            refine xl_pv (pv_field_a rfl) rfl ?_
            refine xl_pv (pv_load1 rfl (.there .here) rfl) rfl ?_
            refine xl_go (AC_ok (field_c c ss fs bo mn po fi (.val vc) vv vs k x4 v hk0 hv (hfl v hvm)) (by rw [if_pos hL'])) rfl (.cons rfl (Wk.refl _) (.cons rfl (Wk.refl _) (.cons rfl (Wk.refl _) .nil))) (.k (.k (.x (.x .d)))) rfl ?_
            refine xl_pv (pv_build (by exact (.cons rfl rfl rfl (by first | rfl | (simp [AV.cs, oneB, *]; done) | (simp [AV.cs, oneB, *]; repeat' constructor)) (.c .z) (.cons rfl rfl rfl (by first | rfl | (simp [AV.cs, oneB, *]; done) | (simp [AV.cs, oneB, *]; repeat' constructor)) (.s (.s (.c .z))) (.cons rfl rfl rfl (by first | rfl | (simp [AV.cs, oneB, *]; done) | (simp [AV.cs, oneB, *]; repeat' constructor)) (.s (.s (.s (.c .z)))) .nil))))) rfl ?_
            refine xl_put .h rfl rfl (by first | rfl | (simp [AV.cs, oneB, *]; done) | (simp [AV.cs, oneB, *]; repeat' constructor)) rfl (.c (.c (.c (.c (.c .z))))) ?_
            refine xl_pv (pv_assign rfl) rfl ?_
            refine xl_nil ?_
            refine xq_norm (xe_code ?_)
            refine x_ret ?_
            refine xq_bret ?_
            refine xq_ret ?_
            refine xq_doneW (.inr rfl) (pairAV (.mk 4 0 k (fldF v.fields x4) [], 1)) (resCT rfl (cr_N rfl .here rfl) rfl) (drop_one .here (drop_one .here drop_nil)) (by repeat (first | exact Wk.refl _ | exact Wk.nil _ | exact All2.nil | refine Wk.tuple ?_ | refine Wk.agg ?_ | refine All2.cons ?_ ?_)) ?_
            exact ⟨by simp [placeF, hF, hv, e2, hT', hL', Except.map], rfl⟩
      · skip
        have e2 : ¬ x1 = 5 := by simpa using h2
        rcases hT : decide (v.ty.kind = 3) with _ | _
        · skip
          have hT' : ¬ v.ty.kind = 3 := by simpa using hT
          refine x_skip ?_
          refine xq_bnorm ?_
          refine xq_norm (xe_code ?_)
          refine x_seq ?_
          refine x_region ?_
          refine xl_pv (pv_move rfl) rfl ?_
          refine xl_pv (pv_move rfl) rfl ?_
          refine xl_dies (AC_err (fits_c c ss fs bo mn po fi (.val vc) vv vs k 3 v hk0 hv) (by rw [if_neg hT'])) rfl (.cons rfl (Wk.refl _) (.cons rfl (Wk.refl _) (.cons rfl (Wk.refl _) .nil))) (.k (.k (.x (.x .d)))) rfl ?_
          refine xq_panic ?_
          refine xq_drop .here ?_
          refine xq_drop .here ?_
          refine xq_died ?_
          exact ⟨by simp [placeF, hF, hv, e1, e2, hT', Except.map], rfl⟩
        · skip
          have hT' : v.ty.kind = 3 := by simpa using hT
          refine x_skip ?_
          refine xq_bnorm ?_
          refine xq_norm (xe_code ?_)
          refine x_seq ?_
          refine x_region ?_
          refine xl_pv (pv_move rfl) rfl ?_
          refine xl_pv (pv_move rfl) rfl ?_
          refine xl_go (AC_ok (fits_c c ss fs bo mn po fi (.val vc) vv vs k 3 v hk0 hv) (by rw [if_pos hT'])) rfl (.cons rfl (Wk.refl _) (.cons rfl (Wk.refl _) (.cons rfl (Wk.refl _) .nil))) (.k (.k (.x (.x .d)))) rfl ?_
          refine xl_nil ?_
          refine xq_norm (xe_code ?_)
          rcases hV : valsF (expsF vs sc x6) [1] with e | l
          · skip
            refine x_seq ?_
            refine x_region ?_
            refine xl_pv (pv_move rfl) rfl ?_
            refine xl_pv (pv_move rfl) rfl ?_
            refine xl_pv (pv_field_a rfl) rfl ?_
            refine xl_pv (pv_load1 rfl (.there .here) rfl) rfl ?_
            refine xl_lit (.cons rfl .nil) rfl (by first | (simp [AV.cs]; done) | exact lits (by rfl) | (intro x hx; cases hx with | head => rfl | tail _ h => cases h)) (by rfl) (by decide) rfl ?_
            refine xl_dies (AC_err (hx [1] c ss fs bo mn po fi vv vc) (by rw [hV]; rfl)) rfl (.cons rfl (Wk.refl _) (.cons rfl (Wk.of_eq (by rw [← CExp.avs_eq])) (.cons rfl (Wk.refl _) .nil))) (.k (.k (.x (.x (.x .d))))) rfl ?_
            refine xq_panic ?_
            refine xq_drop .here ?_
            refine xq_drop .here ?_
            refine xq_died ?_
            exact ⟨by simp [placeF, hF, hv, e1, e2, hT', hV, Except.map], rfl⟩
          · skip
            refine x_seq ?_
            refine x_region ?_
            refine xl_pv (pv_move rfl) rfl ?_
            refine xl_pv (pv_move rfl) rfl ?_
            refine xl_pv (pv_field_a rfl) rfl ?_
            refine xl_pv (pv_load1 rfl (.there .here) rfl) rfl ?_
            refine xl_lit (.cons rfl .nil) rfl (by first | (simp [AV.cs]; done) | exact lits (by rfl) | (intro x hx; cases hx with | head => rfl | tail _ h => cases h)) (by rfl) (by decide) rfl ?_
            refine xl_go (AC_ok (hx [1] c ss fs bo mn po fi vv vc) (by rw [hV]; rfl)) rfl (.cons rfl (Wk.refl _) (.cons rfl (Wk.of_eq (by rw [← CExp.avs_eq])) (.cons rfl (Wk.refl _) .nil))) (.k (.k (.x (.x (.x .d))))) rfl ?_
            refine xl_pv (pv_build (by exact (.cons rfl rfl rfl (by first | rfl | (simp [AV.cs, oneB, *]; done) | (simp [AV.cs, oneB, *]; repeat' constructor)) (.c .z) (.cons rfl rfl rfl (by first | rfl | (simp [AV.cs, oneB, *]; done) | (simp [AV.cs, oneB, *]; repeat' constructor)) (.s (.s (.c .z))) (.cons rfl rfl rfl (by first | rfl | (simp [AV.cs, oneB, *]; done) | (simp [AV.cs, oneB, *]; repeat' constructor)) (.s (.s (.s (.s (.c .z))))) .nil))))) rfl ?_
            refine xl_put .h rfl rfl (by first | rfl | (simp [AV.cs, oneB, *]; done) | (simp [AV.cs, oneB, *]; repeat' constructor)) rfl (.c (.c (.c (.c (.c .z))))) ?_
            refine xl_pv (pv_assign rfl) rfl ?_
            refine xl_nil ?_
            refine xq_norm (xe_code ?_)
            refine x_ret ?_
            refine xq_doneW (.inr rfl) (pairAV (.mk 3 0 k 0 l, 1)) (resCT rfl (cr_N rfl .here rfl) rfl) (drop_one .here (drop_one .here drop_nil)) (Wk.of_eq (by simp [pairAV, CVal.av, CVal.avs_eq, listAV])) ?_
            exact ⟨by simp [placeF, hF, hv, e1, e2, hT', hV, Except.map], rfl⟩
end Go.Proofs.Ytmallgapchjhnaa
