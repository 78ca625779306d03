/- More rules: ways that meet again, strings cut, calls whose memory is known up to the places of its rows, rows cut. No condition: plain definitions and theorems. -/
import Derived.Test.YtmallgapchjhnaaAx9
import Derived.Laws.Slices
import Derived.Laws.Strings2
set_option linter.unusedVariables false
set_option linter.unusedSimpArgs false
namespace Go.Ax
open Go Go.RowKit

theorem Wk.of_eq {x y : AV} (h : y = x) : Wk y x := h ▸ Wk.refl _
section
variable {P : Program} {C : Cx} {Q : Exit → Act → World → Prop} {ops : Array Oper} {rest : List Oper} {env r : Env} {ds : List Deferred} {σ σr σ' : List Ck} {d : Nat} {ty : TypeId} {pos : String} {after : Array Edge} {op : Op}

theorem x_condT {i : Nat} {x y : Code} {t : Bool} (hc : lk env i = some (.val (.bool t))) (hx : t = true → X P C x Q ((i, .val (.bool true)) :: env) ds σ) (hy : t = false → X P C y Q ((i, .val (.bool false)) :: env) ds σ) : X P C (.cond (.tmp i) x y) Q env ds σ := by
  have hsub : ∀ t', t = t' → Sub ((i, .val (.bool t')) :: env) env := fun t' e => e ▸ Sub.cons hc (Sub.refl env)
  refine x_cond (t := t) hc (fun h => x_sub (hsub _ h) (hx h)) (fun h => x_sub (hsub _ h) (hy h))
/-- Where ways meet. -/
def Meet (C : Cx) (e : Env) (env : Env) (σ : List Ck) (ds : List Deferred) (a : Act) (w : World) : Prop := At C (e ++ env) ds σ a w
theorem x_join {x y : Code} (e : Env) (σ1 : List Ck) {cur : Env} (hb : Sub env cur) (h1 : X P C x (Exit.then (Meet C e env σ1 ds) Q) cur ds σ) (h2 : X P C y Q (e ++ env) ds σ1) : X P C (.seq x y) Q cur ds σ := by
  unfold X at *
  intro a w hA
  refine wp_seq (Code.wp_mono ?_ (h1 a w hA))
  intro ex a w hq
  cases ex with
  | normal => exact h2 a w hq
  | _ => exact hq
theorem x_join0 {x y : Code} (e : Env) {cur : Env} (hb : Sub env cur) (h1 : X P C x (Exit.then (Meet C e env σ ds) Q) cur ds σ) (h2 : X P C y Q (e ++ env) ds σ) : X P C (.seq x y) Q cur ds σ := x_join e σ hb h1 h2
theorem xq_meet {e : Env} {env' : Env} {σ1 : List Ck} (he : Sub e env') (hk : Kept e env env') (hm : σ1 = σ) : XQ C (Exit.then (Meet C e env σ1 ds) Q) .normal env' ds σ := by
  unfold XQ
  intro a w hA
  subst hm
  exact hA.sub (hk.sub he)

theorem xq_meetF {e : Env} {env' : Env} {σ1 : List Ck} (he : Sub (e ++ env) env') (hm : σ1 = σ) : XQ C (Exit.then (Meet C e env σ1 ds) Q) .normal env' ds σ := by
  unfold XQ
  intro a w hA
  subst hm
  exact hA.sub he
theorem xe_loopF {S : Type} {inv : S → Prop} {ms : S → Nat} {e : S → Env} {m : S → List Ck} {env' : Env} {k : Nat} (s : S) (hi : inv s) (hk : ms s < k) (he : Sub (e s ++ env) env') (hm : m s = σ) : XQ C (Exit.then (LoopS C inv ms e m env k ds) Q) .normal env' ds σ := by
  unfold XQ
  intro a w hA
  exact ⟨s, hi, hk, hm ▸ hA.sub he⟩

/-! Strings. -/
theorem pv_cut_s {t : TypeId} {x lo hi : Operand} {s : ByteArray} {k k' : IntKind} {l u : Int} [ht : TyU P t .string] (hx : evl env x = some (.val (.string s))) (hlo : evl env lo = some (.val (.int k l))) (hhi : evl env hi = some (.val (.int k' u))) (h0 : 0 ≤ l) (h1 : l ≤ u) (h2 : u ≤ s.size) :
    PV P C (.slice t x (some lo) (some hi) none) ty env σ (.val (.string (s.extract l.toNat u.toNat))) := by
  unfold PV
  intro _ _ _ _ I w a hg hf
  have hv := (hf.eval hx).val_inv
  have hl := (hf.eval hlo).val_inv
  have hu := (hf.eval hhi).val_inv
  exact ⟨_, by simp [execOp, hv, hl, hu, run_sliceAt_string (h := ht.h), run_slice_string (h := ht.h) (h0 := h0) (h1 := h1) (h2 := h2)], .val _⟩
theorem pv_cut_sh {t : TypeId} {x hi : Operand} {s : ByteArray} {k' : IntKind} {u : Int} [ht : TyU P t .string] (hx : evl env x = some (.val (.string s))) (hhi : evl env hi = some (.val (.int k' u))) (h1 : 0 ≤ u) (h2 : u ≤ s.size) :
    PV P C (.slice t x none (some hi) none) ty env σ (.val (.string (s.extract 0 u.toNat))) := by
  unfold PV
  intro _ _ _ _ I w a hg hf
  have hv := (hf.eval hx).val_inv
  have hu := (hf.eval hhi).val_inv
  exact ⟨_, by simp [execOp, hv, hu, run_sliceAt_string (h := ht.h), run_slice_string_h (ht := ht.h) (h0 := h1) (h2 := h2)], .val _⟩
theorem pv_cut_sl {t : TypeId} {x lo : Operand} {s : ByteArray} {k : IntKind} {l : Int} [ht : TyU P t .string] (hx : evl env x = some (.val (.string s))) (hlo : evl env lo = some (.val (.int k l))) (h0 : 0 ≤ l) (h1 : l ≤ s.size) :
    PV P C (.slice t x (some lo) none none) ty env σ (.val (.string (s.extract l.toNat s.size))) := by
  unfold PV
  intro _ _ _ _ I w a hg hf
  have hv := (hf.eval hx).val_inv
  have hl := (hf.eval hlo).val_inv
  exact ⟨_, by simp [execOp, hv, hl, run_sliceAt_string (h := ht.h), run_slice_string_l (ht := ht.h) (h0 := h0) (h1 := h1)], .val _⟩

/-! Calls whose memory is known up to some values. -/
def RetE {T : Type} (x : T → AV) (s : T → List Ck) : AE → List Ck → Prop := fun e σ => ∃ q, e = .ret (x q) ∧ σ = s q
def DieE {T : Type} (v : Value) (s : T → List Ck) : AE → List Ck → Prop := fun e σ => ∃ q, e = .panic v ∧ σ = s q
theorem split_self : ∀ (σf r : List Ck), Split (σf ++ r) σf r
  | [], r => .nil
  | c :: cs, r => .cons .here (split_self cs r)
/-- As Swp, of a family. -/
inductive SwpE {T : Type} : List Ck → List Ck → (T → List Ck) → (T → List Ck) → Prop
  | d {σ : List Ck} : SwpE σ [] (fun _ => []) (fun _ => σ)
  | k {c : Ck} {σ cs : List Ck} {ss G : T → List Ck} : SwpE σ cs ss G → SwpE (c :: σ) cs ss (fun q => c :: G q)
  | x {c : Ck} {s : T → Ck} {σ cs : List Ck} {ss G : T → List Ck} : SwpE σ cs ss G → SwpE (c :: σ) (c :: cs) (fun q => s q :: ss q) (fun q => s q :: G q)
theorem SwpE.perm {T : Type} {σ cs : List Ck} {ss G : T → List Ck} (h : SwpE σ cs ss G) : ∃ r, σ.Perm (cs ++ r) ∧ ∀ q, (G q).Perm (ss q ++ r) := by
  induction h with
  | d => exact ⟨_, .refl _, fun _ => .refl _⟩
  | k _ ih =>
    rename_i c σ cs ss G _
    obtain ⟨r, h1, h2⟩ := ih
    exact ⟨c :: r, (h1.cons _).trans List.perm_middle.symm, fun q => ((h2 q).cons _).trans List.perm_middle.symm⟩
  | x _ ih =>
    obtain ⟨r, h1, h2⟩ := ih
    exact ⟨r, h1.cons _, fun q => (h2 q).cons _⟩
theorem xl_goE {f : FuncId} {os : List Operand} {ts : Array TypeId} {args : List AV} {σf : List Ck} {T : Type} {s : T → List Ck} {x : T → AV} {cal : Operand} {G : T → List Ck} [hF : Fn1 P f] (hc : AC P f args σf (RetE x s)) (hcal : evl env cal = some (.val (.func (.func f) #[] #[]))) (hargs : Evs env os args) (hs : SwpE σ σf s G)
    (hd : Nat.ble (d + 1) C.n = true) (kr : ∀ q, XL P C ops Q rest ((d, x q) :: env) ds (G q)) :
    XL P C ops Q (⟨some d, .call { callee := .value cal, args := os.toArray, argTypes := ts }, ty, pos, after, none⟩ :: rest) env ds σ := by
  obtain ⟨r, p1, p2⟩ := hs.perm
  exact xl_perm p1 (xl_call hcal hargs (σf := σf) (σr := r) (split_self _ _) hc hd (fun y s' h => by
    obtain ⟨q, h, rfl⟩ := h
    cases h
    exact xl_perm (p2 q).symm (kr q)) (fun v s' h => by obtain ⟨q, h, _⟩ := h; cases h))
theorem xl_diesE {f : FuncId} {os : List Operand} {ts : Array TypeId} {args : List AV} {σf : List Ck} {T : Type} {s : T → List Ck} {v : Value} {cal : Operand} {G : T → List Ck} [hF : Fn1 P f] (hc : AC P f args σf (DieE v s)) (hcal : evl env cal = some (.val (.func (.func f) #[] #[]))) (hargs : Evs env os args) (hs : SwpE σ σf s G)
    (hd : Nat.ble (d + 1) C.n = true) (kp : ∀ q, XQ C Q (.panic [{ v, recovered := false }]) env ds (G q)) :
    XL P C ops Q (⟨some d, .call { callee := .value cal, args := os.toArray, argTypes := ts }, ty, pos, after, none⟩ :: rest) env ds σ := by
  obtain ⟨r, p1, p2⟩ := hs.perm
  exact xl_perm p1 (xl_call hcal hargs (σf := σf) (σr := r) (split_self _ _) hc hd (fun y s' h => by obtain ⟨q, h, _⟩ := h; cases h) (fun u s' h => by
    obtain ⟨q, h, rfl⟩ := h
    cases h
    exact xq_perm (p2 q).symm (kp q)))

/-! A row of the call's own, cut at its end. -/
theorem good_cut {I0 I : Nat → Nat → Prop} {w0 w : World} {T0 : Nat → Prop} {v v' : Value} {e : TypeId} {sz : Nat} {xs ys : List AV} (h : Good I0 w0 T0 I w (.vec v e sz xs :: σ)) (hb : v'.ownBlock = v.ownBlock) (hk : (Ck.vec v' e sz ys).holds I w) : Good I0 w0 T0 I w (.vec v' e sz ys :: σ) := by
  have hbl : (Ck.vec v' e sz ys).blk = (Ck.vec v e sz xs).blk := hb
  have hap := List.pairwise_cons.1 h.rel.ap
  refine { h with rel := ⟨?_, ?_, ?_, h.rel.ex⟩, ckNew := ?_ }
  · intro c hc
    rcases List.mem_cons.1 hc with rfl | hc
    · exact hk
    · exact h.rel.ck c (by simp [hc])
  · refine List.pairwise_cons.2 ⟨fun c hc b hb' => hap.1 c hc b (hbl ▸ hb'), hap.2⟩
  · intro c hc b hb' o
    rcases List.mem_cons.1 hc with rfl | hc
    · exact h.rel.off _ List.mem_cons_self b (hbl ▸ hb') o
    · exact h.rel.off c (by simp [hc]) b hb' o
  · intro c hc b hb'
    rcases List.mem_cons.1 hc with rfl | hc
    · exact h.ckNew _ List.mem_cons_self b (hbl ▸ hb')
    · exact h.ckNew c (by simp [hc]) b hb'
theorem vec_cut {I : Nat → Nat → Prop} {w : World} {g n c : Nat} {e : TypeId} {sz : Nat} {xs : List AV} (h : (Ck.vec (.slice (some ⟨g, 0, none⟩) n c) e sz xs).holds I w) (m : Nat) (hm : m ≤ xs.length) : (Ck.vec (.slice (some ⟨g, 0, none⟩) m c) e sz (xs.take m)).holds I w := by
  obtain ⟨hs, vs, ho, ha⟩ := h
  refine ⟨fun x hx => hs x (List.mem_of_mem_take hx), vs.take (m * sz), ?_, ?_⟩
  · have hl := ho.1
    rcases ho.2 with ⟨h0, _⟩ | ⟨g', cap, cur, h0, h1, h2, h3, h4, h5, h6⟩
    · cases h0
    · cases h0
      have hmin : min m xs.length = m := Nat.min_eq_left hm
      have hle : m * sz ≤ xs.length * sz := Nat.mul_le_mul_right _ hm
      refine ⟨by simp [hl, hmin, Nat.min_eq_left hle], .inr ⟨g, c, cur, by simp [hmin], h1, h2, by simp; omega, h4, h5, ?_⟩⟩
      rw [List.length_take, hmin, ← h6, List.take_take, Nat.min_eq_left hle]
  · rw [flat_take hs]
    exact ha.take _
end
end Go.Ax
