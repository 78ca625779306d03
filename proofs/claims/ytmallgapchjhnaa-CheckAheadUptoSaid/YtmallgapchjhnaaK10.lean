/- The checker's lists of statements: its methods say what the plain functions say. No condition: plain theorems. -/
import Derived.Test.YtmallgapchjhnaaK9
set_option linter.unusedVariables false
set_option linter.unusedSimpArgs false
namespace Go.Proofs.Ytmallgapchjhnaa
set_option maxRecDepth 100000
open Go Go.Ax
attribute [local irreducible] X XL XE XQ PV

theorem list1_c (c b n : Nat) (ss fs bo mn po fi vo : AV) (vc : Value) (sc : List Int) (hn : n ≤ sc.length) :
    AW Try.prog 79 [iv n, ptr b] [.ref b 108 [ptr c], .ref c 110 [ss, fs, bo, mn, po, fi, vo, .val vc], .vec vc 3 1 (sc.map iv)] (RetE (T := Value) (fun _ => .tuple []) (fun q => [.ref b 108 [ptr c], .ref c 110 [ss, fs, bo, mn, po, fi, vo, .val q], .vec q 3 1 ((sc.take n).map iv)])) := by
  refine aw_intro Try.func79 rfl rfl fun I w => ?_
  simp only [argEnv]
  refine x_slc (.there (.there .here)) fun hs => ?_
  generalize hm : (sc.map iv).length = m at hs
  cases hs with
  | nil =>
    have h0 : sc = [] := List.eq_nil_of_length_eq_zero (by simpa using hm)
    subst h0
    have hn0 : n = 0 := by simpa using hn
    subst hn0
    refine x_draw rfl ?_
    refine xd_v 0 rfl rfl rfl (gv_v (pv_load1 rfl .here rfl) rfl) ?_
    refine xd_v 1 rfl rfl rfl (gv_v (pv_load1 rfl .here rfl) rfl) ?_
    refine xd_v 2 rfl rfl rfl (gv_v (pv_nil rfl) rfl) ?_
    refine xd_v 3 rfl rfl rfl (gv_v (pv_field_a rfl) rfl) ?_
    refine xd_v 4 rfl rfl rfl (gv_v (pv_load1 rfl (.there .here) rfl) rfl) ?_
    refine xd_v 5 rfl rfl rfl (gv_v (pv_move rfl) rfl) ?_
    refine xd_v 6 rfl rfl rfl (gv_v (pv_cutn rfl rfl) rfl) ?_
    refine xd_v 7 rfl rfl rfl (gv_v (pv_nil rfl) rfl) ?_
    refine xd_v 8 rfl rfl rfl (gv_v (pv_field_a rfl) rfl) ?_
    refine xd_e rfl 9 rfl rfl rfl (by rintro _ ⟨⟩ <;> exact Nat.le_of_ble_eq_true rfl) rfl (ev_put (.t .h) rfl rfl (by first | rfl | (simp [AV.cs, oneB, *]; done) | (simp [AV.cs, oneB, *]; repeat' constructor)) rfl (.s (.s (.s (.s (.s (.s (.s (.c .z))))))))) ?_
    rintro _ _ ⟨rfl, rfl⟩
    refine ⟨?_, ?_⟩
    · skip
      intro m hm o' y ho hy
      have hm' : m ∈ [7] := hm
      clear hm
      rcases List.mem_cons.1 hm' with rfl | hm'
      · cases ho; cases hy
        exact gv_v (pv_nil rfl) rfl
      cases hm'
    refine xd_end rfl rfl rfl rfl ?_
    refine xq_sub (.nil _) ?_
    refine xq_done (.inl rfl) _ (res0 rfl) ?_
    exact ⟨_, rfl, rfl⟩
  | mk g _ cc h1 h2 =>
    subst hm
    refine x_draw rfl ?_
    refine xd_v 0 rfl rfl rfl (gv_v (pv_load1 rfl .here rfl) rfl) ?_
    refine xd_v 1 rfl rfl rfl (gv_v (pv_load1 rfl .here rfl) rfl) ?_
    refine xd_v 2 rfl rfl rfl (gv_v (pv_nil rfl) rfl) ?_
    refine xd_v 3 rfl rfl rfl (gv_v (pv_field_a rfl) rfl) ?_
    refine xd_v 4 rfl rfl rfl (gv_v (pv_load1 rfl (.there .here) rfl) rfl) ?_
    refine xd_v 5 rfl rfl rfl (gv_v (pv_move rfl) rfl) ?_
    refine xd_e rfl 6 rfl rfl rfl (by rintro _ ⟨⟩ <;> exact Nat.le_of_ble_eq_true rfl) rfl (ev_cuto (.t (.t .h)) rfl rfl (by omega) (by simp; omega)) ?_
    rintro _ _ ⟨rfl, rfl⟩
    refine ⟨?_, ?_⟩
    · skip
      intro m hm o' y ho hy
      have hm' : m ∈ [3, 2, 1, 0] := hm
      clear hm
      rcases List.mem_cons.1 hm' with rfl | hm'
      · cases ho; cases hy
        exact gv_v (pv_field_a rfl) rfl
      rcases List.mem_cons.1 hm' with rfl | hm'
      · cases ho; cases hy
        exact gv_v (pv_nil rfl) rfl
      rcases List.mem_cons.1 hm' with rfl | hm'
      · cases ho; cases hy
        exact gv_v (pv_load1 rfl .here rfl) rfl
      rcases List.mem_cons.1 hm' with rfl | hm'
      · cases ho; cases hy
        exact gv_v (pv_load1 rfl .here rfl) rfl
      cases hm'
    refine xd_v 7 rfl rfl rfl (gv_v (pv_nil rfl) rfl) ?_
    refine xd_v 8 rfl rfl rfl (gv_v (pv_field_a rfl) rfl) ?_
    refine xd_e rfl 9 rfl rfl rfl (by rintro _ ⟨⟩ <;> exact Nat.le_of_ble_eq_true rfl) rfl (ev_put (.t .h) rfl rfl (by first | rfl | (simp [AV.cs, oneB, *]; done) | (simp [AV.cs, oneB, *]; repeat' constructor)) rfl (.s (.s (.s (.s (.s (.s (.s (.c .z))))))))) ?_
    rintro _ _ ⟨rfl, rfl⟩
    refine ⟨?_, ?_⟩
    · skip
      intro m hm o' y ho hy
      have hm' : m ∈ [7] := hm
      clear hm
      rcases List.mem_cons.1 hm' with rfl | hm'
      · cases ho; cases hy
        exact gv_v (pv_nil rfl) rfl
      cases hm'
    refine xd_end rfl rfl rfl rfl ?_
    refine xq_sub (.nil _) ?_
    refine xq_done (.inl rfl) _ (res0 rfl) ?_
    exact ⟨.slice (some ⟨g, 0, none⟩) n cc, rfl, by simp⟩

theorem szs_split {l : List CStmt} {i : Nat} {z : CStmt} (h : l[i]? = some z) : CStmt.szs l = CStmt.szs (l.take i) + z.sz + CStmt.szs (l.drop (i + 1)) := by
  induction l generalizing i with
  | nil => simp at h
  | cons x r ih =>
    cases i with
    | zero =>
      have : x = z := by simpa using h
      subst this
      simp [CStmt.szs]
    | succ i =>
      have := ih (i := i) (by simpa using h)
      simp only [List.take_succ_cons, List.drop_succ_cons, CStmt.szs]
      omega
theorem szs_take {l : List CStmt} {i : Nat} {z : CStmt} (h : l[i]? = some z) : CStmt.szs (l.take (i + 1)) = CStmt.szs (l.take i) + z.sz := by
  induction l generalizing i with
  | nil => simp at h
  | cons x r ih =>
    cases i with
    | zero =>
      have : x = z := by simpa using h
      subst this
      simp [CStmt.szs]
    | succ i =>
      have := ih (i := i) (by simpa using h)
      simp only [List.take_succ_cons, CStmt.szs]
      omega
/-- The memory of the checker's call. -/
abbrev memL (c : Nat) (P : CProg) (bo mn : AV) (fn : Int) (vp vv vc : Value) (ps : List CPoint) (vs : List CVar) (sc : List Int) : List Ck := [.ref c 110 [.list 2 (P.structs.map CStruct.av), .list 7 (P.funcs.map CDecl.av), bo, mn, .val vp, iv fn, .val vv, .val vc], .vec vp 87 3 (ps.map CPoint.av), .vec vv 82 6 (vs.map CVar.av), .vec vc 3 1 (sc.map iv)]
structure V3 where
  p : Value
  v : Value
  s : Value
structure V5 where
  p : Value
  v : Value
  s : Value
  ps : List CPoint
  vs : List CVar
/-- How a statement or a list ends. -/
def OutS {α : Type} (c : Nat) (P : CProg) (bo mn : AV) (fn : Int) (r : SR α) (f : α → AV) (sc0 : List Int) : AE → List Ck → Prop := match r with
  | .ok a st => RetE (T := V3) (fun _ => f a) (fun q => memL c P bo mn fn q.p q.v q.s st.points st.vars st.scope)
  | .err e => DieE (T := V5) (.iface 134 (.int .i64 e)) (fun q => memL c P bo mn fn q.p q.v q.s q.ps q.vs sc0)
theorem OutS_ok {α : Type} {c : Nat} {P : CProg} {bo mn : AV} {fn : Int} {r : SR α} {f : α → AV} {sc0 : List Int} {Pr : Program} {g : FuncId} {args : List AV} {σ : List Ck} {a : α} {st : CSt} (h : AC Pr g args σ (OutS c P bo mn fn r f sc0)) (hr : r = .ok a st) : AC Pr g args σ (RetE (T := V3) (fun _ => f a) (fun q => memL c P bo mn fn q.p q.v q.s st.points st.vars st.scope)) := by
  subst hr
  exact h
theorem OutS_err {α : Type} {c : Nat} {P : CProg} {bo mn : AV} {fn : Int} {r : SR α} {f : α → AV} {sc0 : List Int} {Pr : Program} {g : FuncId} {args : List AV} {σ : List Ck} {e : Int} (h : AC Pr g args σ (OutS c P bo mn fn r f sc0)) (hr : r = .err e) : AC Pr g args σ (DieE (T := V5) (.iface 134 (.int .i64 e)) (fun q => memL c P bo mn fn q.p q.v q.s q.ps q.vs sc0)) := by
  subst hr
  exact h
def StmtC (P : CProg) (fn : Int) (s : CStmt) : Prop := ∀ (c : Nat) (bo mn : AV) (vp vv vc : Value) (st : CSt), Bd st s.sz →
  AC Try.prog 80 [ptr c, s.av] (memL c P bo mn fn vp vv vc st.points st.vars st.scope) (OutS c P bo mn fn (stmtF P fn s st) CAct.av st.scope)
def actsAV (l : List CAct) : AV := .list 8 (l.map CAct.av)
def ListC (P : CProg) (fn : Int) (l : List CStmt) : Prop := ∀ (c : Nat) (bo mn : AV) (vp vv vc : Value) (st : CSt), Bd st (CStmt.szs l) →
  AC Try.prog 64 [ptr c, .list 11 (l.map CStmt.av)] (memL c P bo mn fn vp vv vc st.points st.vars st.scope) (OutS c P bo mn fn (listF P fn l st) actsAV st.scope)
structure LSt where
  i : Nat
  va : Value
  vp : Value
  vv : Value
  vc : Value
  acc : List CAct
  st : CSt
theorem CAct.av_ones (v : CAct) : v.av.cs.all oneB = true := by cases v; rfl
theorem CAct.av_cs (v : CAct) : v.av.cs.length = 8 := by cases v; rfl
theorem list_of (P : CProg) (fn : Int) (l : List CStmt) (hfs : ∀ s ∈ P.structs, s.fields.length ≤ 2 ^ 40) (hx : ∀ s ∈ l, StmtC P fn s) : ListC P fn l := by
  intro c bo mn vp vv vc st hb
  refine ac_introD Try.func64 rfl rfl fun I w => ?_
  simp only [argEnv]
  have hlen := CStmt.szs_len l
  have hbp := hb.p
  refine x_seq ?_
  refine x_region ?_
  refine xl_box rfl (by rfl) rfl (fun b2 => ?_)
  refine xl_pv (pv_assign rfl) rfl ?_
  refine xl_nil ?_
  refine xq_norm (xe_code ?_)
  refine x_seq ?_
  refine x_region ?_
  refine xl_pv (pv_clo (.cons rfl .nil)) rfl ?_
  refine xl_pv (pv_load1 rfl .here rfl) rfl ?_
  refine xl_pv (pv_nil rfl) rfl ?_
  refine xl_pv (pv_field_a rfl) rfl ?_
  refine xl_pv (pv_load1 rfl (.there .here) rfl) rfl ?_
  refine xl_pv (pv_len_o (.there (.there (.there (.there .here)))) rfl) rfl ?_
  refine xl_defer rfl (.cons rfl .nil) ?_
  refine xl_nil ?_
  refine xq_norm (xe_code ?_)
  refine x_seq ?_
  refine x_region ?_
  refine xl_pv (pv_assign rfl) rfl ?_
  refine xl_vnil 115 8 ?_
  refine xl_nil ?_
  refine xq_norm (xe_code ?_)
  refine x_seq ?_
  refine x_seq ?_
  refine x_region ?_
  refine xl_pv (pv_move rfl) rfl ?_
  refine xl_pv (pv_len rfl) rfl ?_
  refine xl_pv (pv_move rfl) rfl ?_
  refine xl_nil ?_
  refine xq_norm (xe_code ?_)
  refine x_block ?_
  refine x_loopS (S := LSt) (fun q => q.i ≤ l.length ∧ goF P fn l st = bindG q.acc (goF P fn (l.drop q.i) q.st) ∧ Onw st q.st (CStmt.szs (l.take q.i)) ∧ q.acc.length = q.i) (fun q => l.length - q.i) (fun q => [(16, iv q.i), (5, .val q.va)]) (fun q => .vec q.va 115 8 (q.acc.map CAct.av) :: .ref b2 108 [ptr c] :: memL c P bo mn fn q.vp q.vv q.vc q.st.points q.st.vars q.st.scope) (⟨0, .slice none 0 0, vp, vv, vc, [], st⟩) (⟨Nat.zero_le _, (bindG_nil _).symm, Onw.refl st, rfl⟩) (.cons rfl (.cons rfl (.cons (i := 15) rfl (.cons (i := 14) rfl (.cons (i := 4) rfl (.cons (i := 2) rfl (.nil _))))))) (rfl) ?_
  rintro ⟨i, va, vp', vv', vc', acc, st'⟩ ⟨hi, hr, ho, hl⟩
  simp only [List.cons_append, List.nil_append]
  dsimp only at hi hr ho hl
  refine x_seq ?_
  refine x_region ?_
  refine xl_pv (pv_bin rfl rfl rfl) rfl ?_
  refine xl_nil ?_
  refine xq_norm (xe_code ?_)
  refine x_seq ?_
  refine x_condT rfl (fun h => ?_) (fun h => ?_)
  · skip
    have hlt : i < l.length := by simpa using h
    obtain ⟨z, hz⟩ := get_lt hlt
    have hd := get_drop hz
    have hzm := List.mem_of_getElem? hz
    have hsz := szs_split hz
    have hbz : Bd st' (z.sz + CStmt.szs (l.drop (i + 1))) := ho.b _ (hb.mono (by omega))
    have ht1 : CStmt.szs (l.take (i + 1)) = CStmt.szs (l.take i) + z.sz := szs_take hz
    obtain ⟨s1, s2, s3, s4, s5, ⟨t1, t2, t3⟩, s7, s8, s9⟩ := z
    refine x_skip ?_
    refine xq_norm (xe_code ?_)
    refine x_seq ?_
    refine x_block ?_
    refine x_seq ?_
    refine x_region ?_
    refine xl_pv (pv_at rfl rfl (by omega) ((get_map hz))) rfl ?_
    rcases hE : stmtF P fn (.mk s1 s2 s3 s4 s5 ⟨t1, t2, t3⟩ s7 s8 s9) st' with ⟨⟨a1, a2, a3, a4, a5, a6, a7, a8⟩, st2⟩ | e
    · skip
      refine xl_pv (pv_loadN_i rfl rfl) rfl ?_
      refine xl_alloc rfl (fun b7 => ?_)
      refine xl_put .h rfl rfl (by first | rfl | (simp [AV.cs, oneB, *]; done) | (simp [AV.cs, oneB, *]; repeat' constructor)) rfl (.c (.c (.c (.c (.c (.c (.c (.c (.c (.c (.c .z))))))))))) ?_
      refine xl_nil ?_
      refine xq_norm (xe_code ?_)
      refine x_region ?_
      refine xl_pv (pv_move rfl) rfl ?_
      refine xl_pv (pv_load1 rfl (.there (.there .here)) rfl) rfl ?_
      refine xl_pv (pv_loadN rfl .here rfl) rfl ?_
      refine xl_goE (OutS_ok (hx _ hzm c bo mn vp' vv' vc' st' (hbz.mono (by omega))) hE) rfl (.cons rfl (Wk.refl _) (.cons rfl (Wk.refl _) .nil)) (.k (.k (.k (.x (.x (.x (.x .d))))))) rfl (fun q => ?_)
      refine xl_lit (.cons rfl .nil) rfl (by first | (simp [AV.cs]; done) | exact lits (by rfl) | (intro x hx; cases hx with | head => rfl | tail _ h => cases h)) (by rfl) (by decide) rfl ?_
      refine xl_grow (.t .h) rfl rfl (by rfl) (by simp; omega) rfl (fun va_1 hva_1 => ?_)
      refine xl_pv (pv_assign rfl) rfl ?_
      refine xl_nil ?_
      refine xq_bnorm ?_
      refine xq_norm (xe_code ?_)
      refine x_region ?_
      refine xl_pv (pv_add rfl rfl (by omega) (by omega)) rfl ?_
      refine xl_pv (pv_move rfl) rfl ?_
      refine xl_nil ?_
      refine xq_drop .here ?_
      refine xe_loopS (⟨i + 1, va_1, q.p, q.v, q.s, acc ++ [.mk a1 a2 a3 a4 a5 a6 a7 a8], st2⟩) (⟨hlt, by rw [hr, hd, bindG_ok hE], by rw [ht1]; exact ho.trans (stmtF_on P fn hfs _ _ hE), by simp [hl]⟩) (by first | omega | (simp at *; omega)) (.cons rfl (.cons rfl (.nil _))) (.n rfl (.o rfl (.n rfl (.o rfl (.o rfl (.o rfl (.o rfl (.o rfl (.o rfl (.o rfl (.o rfl (.o rfl (.o rfl (.o rfl (.n rfl (.n rfl .b)))))))))))))))) (by simp [CAct.av])
    · skip
      refine xl_pv (pv_loadN_i rfl rfl) rfl ?_
      refine xl_alloc rfl (fun b7 => ?_)
      refine xl_put .h rfl rfl (by first | rfl | (simp [AV.cs, oneB, *]; done) | (simp [AV.cs, oneB, *]; repeat' constructor)) rfl (.c (.c (.c (.c (.c (.c (.c (.c (.c (.c (.c .z))))))))))) ?_
      refine xl_nil ?_
      refine xq_norm (xe_code ?_)
      refine x_region ?_
      refine xl_pv (pv_move rfl) rfl ?_
      refine xl_pv (pv_load1 rfl (.there (.there .here)) rfl) rfl ?_
      refine xl_pv (pv_loadN rfl .here rfl) rfl ?_
      refine xl_diesE (OutS_err (hx _ hzm c bo mn vp' vv' vc' st' (hbz.mono (by omega))) hE) rfl (.cons rfl (Wk.refl _) (.cons rfl (Wk.refl _) .nil)) (.k (.k (.k (.x (.x (.x (.x .d))))))) rfl (fun q => ?_)
      refine xq_bpanic ?_
      refine xq_panic ?_
      refine xq_panic ?_
      refine xq_bpanic ?_
      refine xq_panic ?_
      refine xv_panic ?_
      refine xv_defer nofun rfl (list1_c c b2 (st.scope.map iv).length _ _ bo mn (.val q.p) (iv fn) (.val q.v) q.s st'.scope (by obtain ⟨t, ht⟩ := ho.s; rw [ht]; simp)) (.k (.k (.x (.x (.k (.k (.x .d))))))) (fun q2 => ?_)
      refine xv_died (drop_one .here (drop_one .here (drop_one .here drop_nil))) ?_
      rw [listF, hr, hd, bindG_err hE]; obtain ⟨t, ht⟩ := ho.s; exact ⟨⟨q.p, q.v, q2, q.ps, q.vs⟩, rfl, by rw [ht]; simp⟩
  · skip
    have hle : l.length ≤ i := by simpa using h
    have hr2 : goF P fn l st = .ok acc st' := by rw [hr, List.drop_of_length_le hle]; simp [goF, bindG]
    refine x_exit ?_
    refine xq_exit ?_
    refine xq_exit ?_
    refine xq_hit ?_
    refine xq_norm (xe_code ?_)
    refine x_seq ?_
    refine x_region ?_
    refine xl_pv (pv_move rfl) rfl ?_
    refine xl_pv (pv_assign rfl) rfl ?_
    refine xl_nil ?_
    refine xq_norm (xe_code ?_)
    refine x_ret ?_
    refine xq_pub' 4 .here rfl ?_
    refine xv_ret (.inr rfl) ?_
    refine xv_defer nofun rfl (list1_c c b2 (st.scope.map iv).length _ _ bo mn (.val vp') (iv fn) (.val vv') vc' st'.scope (by obtain ⟨t, ht⟩ := ho.s; rw [ht]; simp)) (.x (.x (.k (.k (.x .d))))) (fun q2 => ?_)
    refine xv_done _ (res1 rfl rfl) (drop_one .here drop_nil) (Wk.refl _) ?_
    rw [listF, hr2]; exact ⟨⟨vp', vv', q2⟩, rfl, by simp [cut]⟩
end Go.Proofs.Ytmallgapchjhnaa
