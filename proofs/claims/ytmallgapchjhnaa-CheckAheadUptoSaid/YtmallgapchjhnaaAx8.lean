/- More rules: memory that keeps its order, loops over a state, effects within statements whose order is open. No condition: plain definitions and theorems. -/
import Derived.Test.YtmallgapchjhnaaAx7
set_option linter.unusedVariables false
set_option linter.unusedSimpArgs false
namespace Go.Ax
open Go Go.RowKit

/-- In σ c is exchanged for c'. -/
inductive Rep : List Ck → Ck → Ck → List Ck → Prop
  | h {c c' : Ck} {r : List Ck} : Rep (c :: r) c c' (c' :: r)
  | t {c c' d : Ck} {r r' : List Ck} : Rep r c c' r' → Rep (d :: r) c c' (d :: r')
theorem Rep.perm {σ σ' : List Ck} {c c' : Ck} (h : Rep σ c c' σ') : ∃ r, σ.Perm (c :: r) ∧ σ'.Perm (c' :: r) := by
  induction h with
  | h => exact ⟨_, .refl _, .refl _⟩
  | t _ ih =>
    obtain ⟨r, h1, h2⟩ := ih
    exact ⟨_, (h1.cons _).trans (.swap _ _ _), (h2.cons _).trans (.swap _ _ _)⟩
/-- In σ the parts cs are exchanged for ss. -/
inductive Swp : List Ck → List Ck → List Ck → List Ck → Prop
  | d {σ : List Ck} : Swp σ [] [] σ
  | k {c : Ck} {σ cs ss σ' : List Ck} : Swp σ cs ss σ' → Swp (c :: σ) cs ss (c :: σ')
  | x {c s : Ck} {σ cs ss σ' : List Ck} : Swp σ cs ss σ' → Swp (c :: σ) (c :: cs) (s :: ss) (s :: σ')
theorem Swp.perm {σ cs ss σ' : List Ck} (h : Swp σ cs ss σ') : ∃ r, σ.Perm (cs ++ r) ∧ σ'.Perm (ss ++ r) := by
  induction h with
  | d => exact ⟨_, .refl _, .refl _⟩
  | k _ ih =>
    rename_i c σ cs ss σ' _
    obtain ⟨r, h1, h2⟩ := ih
    exact ⟨c :: r, (h1.cons _).trans List.perm_middle.symm, (h2.cons _).trans List.perm_middle.symm⟩
  | x _ ih =>
    obtain ⟨r, h1, h2⟩ := ih
    exact ⟨r, h1.cons _, h2.cons _⟩

section
variable {P : Program} {C : Cx} {Q : Exit → Act → World → Prop} {ops : Array Oper} {rest : List Oper} {env r : Env} {ds : List Deferred} {σ σr σ' : List Ck} {d : Nat} {ty : TypeId} {pos : String} {after : Array Edge} {op : Op}

theorem xl_sub (hs : Sub r env) (h : XL P C ops Q rest r ds σ) : XL P C ops Q rest env ds σ := .of fun a w k => h.to a w (k.sub hs)
theorem xq_sub {e : Exit} (hs : Sub r env) (h : XQ C Q e r ds σ) : XQ C Q e env ds σ := by
  unfold XQ at *
  exact fun a w k => h a w (k.sub hs)
theorem xl_perm (hp : σ.Perm σ') (h : XL P C ops Q rest env ds σ') : XL P C ops Q rest env ds σ := .of fun a w k => h.to a w (k.perm hp)
theorem xl_tail {c : Ck} (h : XL P C ops Q rest env ds σ) : XL P C ops Q rest env ds (c :: σ) := .of fun a w k => h.to a w k.tail
theorem xl_vnil (e : TypeId) (sz : Nat) (h : XL P C ops Q rest env ds (.vec (.slice none 0 0) e sz [] :: σ)) : XL P C ops Q rest env ds σ := .of fun a w k => h.to a w (k.vnil e sz)
theorem xl_pub {v : Value} {e : TypeId} {sz : Nat} {xs : List AV} (i : Nat) (hh : Has σ (.vec v e sz xs) σr) (hi : lk env i = some (.val v)) (h : XL P C ops Q rest ((i, .list sz xs) :: env) ds σr) : XL P C ops Q rest env ds σ :=
  .of fun a w k => h.to a w ((k.perm hh.perm).pub i hi)
theorem x_pub' {c : Code} {v : Value} {e : TypeId} {sz : Nat} {xs : List AV} (i : Nat) (hh : Has σ (.vec v e sz xs) σr) (hi : lk env i = some (.val v)) (h : X P C c Q ((i, .list sz xs) :: env) ds σr) : X P C c Q env ds σ := by
  unfold X at *
  exact fun a w k => h a w ((k.perm hh.perm).pub i hi)
theorem xq_pub' {ex : Exit} {v : Value} {e : TypeId} {sz : Nat} {xs : List AV} (i : Nat) (hh : Has σ (.vec v e sz xs) σr) (hi : lk env i = some (.val v)) (h : XQ C Q ex ((i, .list sz xs) :: env) ds σr) : XQ C Q ex env ds σ := by
  unfold XQ at *
  exact fun a w k => h a w ((k.perm hh.perm).pub i hi)
theorem xq_drop {ex : Exit} {c : Ck} (hh : Has σ c σr) (h : XQ C Q ex env ds σr) : XQ C Q ex env ds σ := by
  unfold XQ at *
  exact fun a w k => h a w (k.perm hh.perm).tail
theorem xl_drop {c : Ck} (hh : Has σ c σr) (h : XL P C ops Q rest env ds σr) : XL P C ops Q rest env ds σ := .of fun a w k => h.to a w (k.perm hh.perm).tail

/-! Stores and calls that keep the order of memory. -/
theorem xl_put {t : TypeId} {x y : Operand} {b o : Nat} {T : TypeId} {cells cells' : List AV} {z : AV} {k : Nat} [ht : TySz P t k] (hr : Rep σ (.ref b T cells) (.ref b T cells') σ') (hx : evl env x = some (.val (.pointer (some ⟨b, o, none⟩)))) (hy : evl env y = some z) (h1 : z.cs.all oneB = true) (hk : z.cs.length = k) (hu : SetAt cells o z.cs cells')
    (kk : XL P C ops Q rest env ds σ') : XL P C ops Q (⟨none, .store t x y, ty, pos, after, none⟩ :: rest) env ds σ := by
  obtain ⟨r, p1, p2⟩ := hr.perm
  exact xl_perm p1 (xl_set .here hx hy h1 hk hu (xl_perm p2.symm kk))
theorem xl_go {f : FuncId} {os : List Operand} {ts : Array TypeId} {args : List AV} {σf s : List Ck} {x : AV} {cal : Operand} [hF : Fn1 P f] (hc : AC P f args σf (RetIs x s)) (hcal : evl env cal = some (.val (.func (.func f) #[] #[]))) (hargs : Evs env os args) (hs : Swp σ σf s σ')
    (hd : Nat.ble (d + 1) C.n = true) (kr : XL P C ops Q rest ((d, x) :: env) ds σ') :
    XL P C ops Q (⟨some d, .call { callee := .value cal, args := os.toArray, argTypes := ts }, ty, pos, after, none⟩ :: rest) env ds σ := by
  obtain ⟨r, p1, p2⟩ := hs.perm
  refine xl_perm p1 (xl_call hcal hargs (σf := σf) (σr := r) ?_ hc hd (fun y s' h => ?_) (fun v s' h => by cases h.1))
  · clear p1 hc hs
    induction σf with
    | nil => exact .nil
    | cons c cs ih => exact .cons .here (by simpa using ih)
  · obtain ⟨h, rfl⟩ := h
    cases h
    exact xl_perm p2.symm kr
theorem xl_dies {f : FuncId} {os : List Operand} {ts : Array TypeId} {args : List AV} {σf s : List Ck} {v : Value} {cal : Operand} [hF : Fn1 P f] (hc : AC P f args σf (DieIs v s)) (hcal : evl env cal = some (.val (.func (.func f) #[] #[]))) (hargs : Evs env os args) (hs : Swp σ σf s σ')
    (hd : Nat.ble (d + 1) C.n = true) (kp : XQ C Q (.panic [{ v, recovered := false }]) env ds σ') :
    XL P C ops Q (⟨some d, .call { callee := .value cal, args := os.toArray, argTypes := ts }, ty, pos, after, none⟩ :: rest) env ds σ := by
  obtain ⟨r, p1, p2⟩ := hs.perm
  refine xl_perm p1 (xl_call hcal hargs (σf := σf) (σr := r) ?_ hc hd (fun y s' h => by cases h.1) (fun v s' h => ?_))
  · clear p1 hc hs
    induction σf with
    | nil => exact .nil
    | cons c cs ih => exact .cons .here (by simpa using ih)
  · obtain ⟨h, rfl⟩ := h
    cases h
    exact xq_perm p2.symm kp
theorem xl_clogo {f : FuncId} {os : List Operand} {ts : Array TypeId} {args : List AV} {cs : List Value} {σf s : List Ck} {x : AV} {cal : Operand} [hF : Fn1 P f] (hc : AC P f (args ++ cs.map .val) σf (RetIs x s)) (hcal : evl env cal = some (.val (.func (.func f) #[] cs.toArray))) (hargs : Evs env os args) (hs : Swp σ σf s σ')
    (hd : Nat.ble (d + 1) C.n = true) (kr : XL P C ops Q rest ((d, x) :: env) ds σ') :
    XL P C ops Q (⟨some d, .call { callee := .value cal, args := os.toArray, argTypes := ts }, ty, pos, after, none⟩ :: rest) env ds σ := by
  obtain ⟨r, p1, p2⟩ := hs.perm
  refine xl_perm p1 (xl_clo (σr := r) hc hcal hargs ?_ hd (fun y s' h => ?_) (fun v s' h => by cases h.1))
  · clear p1 hc hs
    induction σf with
    | nil => exact .nil
    | cons c cs ih => exact .cons .here (by simpa using ih)
  · obtain ⟨h, rfl⟩ := h
    cases h
    exact xl_perm p2.symm kr
inductive RepV : List Ck → Ck → (Value → Ck) → (Value → List Ck) → Prop
  | h {c : Ck} {F : Value → Ck} {r : List Ck} : RepV (c :: r) c F (fun v => F v :: r)
  | t {c d : Ck} {F : Value → Ck} {r : List Ck} {G : Value → List Ck} : RepV r c F G → RepV (d :: r) c F (fun v => d :: G v)
theorem RepV.rep {σ : List Ck} {c : Ck} {F : Value → Ck} {G : Value → List Ck} (h : RepV σ c F G) (v : Value) : Rep σ c (F v) (G v) := by
  induction h with
  | h => exact .h
  | t _ ih => exact .t ih
theorem RepV.perm {σ : List Ck} {c : Ck} {F : Value → Ck} {G : Value → List Ck} (h : RepV σ c F G) : ∃ r, σ.Perm (c :: r) ∧ ∀ v, (G v).Perm (F v :: r) := by
  induction h with
  | h => exact ⟨_, .refl _, fun _ => .refl _⟩
  | t _ ih =>
    obtain ⟨r, h1, h2⟩ := ih
    exact ⟨_, (h1.cons _).trans (.swap _ _ _), fun v => ((h2 v).cons _).trans (.swap _ _ _)⟩
theorem xl_grow {t e : TypeId} {sz bytes : Nat} {z v : Value} {x y : Operand} {xs ys : List AV} {G : Value → List Ck} [ht : TyU P t (.slice e)] [hz : TyEl P e sz bytes z] (hr : RepV σ (.vec v e sz xs) (fun v' => .vec v' e sz (xs ++ ys)) G) (hx : evl env x = some (.val v)) (hy : evl env y = some (.list sz ys)) (h1 : (flat ys).all oneB = true)
    (hl : (xs.length + ys.length) * bytes ≤ 140737488355328) (hd : Nat.ble (d + 1) C.n = true) (k : ∀ v', v'.oneCell' = true → XL P C ops Q rest ((d, .val v') :: env) ds (G v')) :
    XL P C ops Q (⟨some d, .call { callee := .builtin .append, args := #[x, y], argTypes := #[t, t] }, ty, pos, after, none⟩ :: rest) env ds σ := by
  obtain ⟨r, p1, p2⟩ := hr.perm
  exact xl_perm p1 (xl_app hx .here hy h1 hl hd (fun v' hv' => xl_perm (p2 v').symm (k v' hv')))

/-! Loops over a state. -/
def LoopS (C : Cx) {S : Type} (inv : S → Prop) (ms : S → Nat) (e : S → Env) (m : S → List Ck) (env : Env) (k : Nat) (ds : List Deferred) (a : Act) (w : World) : Prop := ∃ s, inv s ∧ ms s < k ∧ At C (e s ++ env) ds (m s) a w
theorem x_loopS {S : Type} {c : Code} (inv : S → Prop) (ms : S → Nat) (e : S → Env) (m : S → List Ck) (s0 : S) (h0 : inv s0) {cur : Env} (he : Sub (e s0 ++ env) cur) (hm : m s0 = σ)
    (round : ∀ s, inv s → X P C c (Exit.then (LoopS C inv ms e m env (ms s) ds) Q) (e s ++ env) ds (m s)) : X P C (.loop c) Q cur ds σ := by
  have hl : X P C (.loop c) Q cur ds σ := by
    refine x_loop (fun k env' σ' => ∃ s, inv s ∧ k = ms s ∧ env' = e s ++ env ∧ σ' = m s) (ms s0) (e s0 ++ env) σ ⟨s0, h0, rfl, rfl, hm.symm⟩ he (.refl _) ?_
    rintro k env' σ' ⟨s, hs, rfl, rfl, rfl⟩
    have := round s hs
    unfold X at this ⊢
    intro a w hA
    refine Code.wp_mono ?_ (this a w hA)
    intro ex a w hq
    cases ex with
    | normal =>
      obtain ⟨s', h1, h2, h3⟩ := hq
      exact ⟨ms s', e s' ++ env, m s', h2, ⟨s', h1, rfl, rfl, rfl⟩, h3⟩
    | _ => exact hq
  exact hl
/-- What lies ahead of the kept part was made within the round. -/
inductive Kept (e : Env) (env : Env) : Env → Prop
  | b : Kept e env env
  | o {d : Nat} {x : AV} {env' : Env} : (lk env d).isNone = true → Kept e env env' → Kept e env ((d, x) :: env')
  | n {d : Nat} {x : AV} {env' : Env} : (lk e d).isSome = true → Kept e env env' → Kept e env ((d, x) :: env')
theorem lk_append : ∀ (e env : Env) (i : Nat), lk (e ++ env) i = (lk e i).or (lk env i)
  | [], env, i => by simp [lk]
  | (j, x) :: e, env, i => by
    have h1 : lk ((j, x) :: (e ++ env)) i = bif Nat.beq i j then some x else lk (e ++ env) i := rfl
    have h2 : lk ((j, x) :: e) i = bif Nat.beq i j then some x else lk e i := rfl
    rw [List.cons_append, h1, h2, lk_append e env i]
    cases Nat.beq i j <;> simp
theorem Kept.get {e env env' : Env} (h : Kept e env env') {i : Nat} {x : AV} (hi : lk e i = none) (hx : lk env i = some x) : lk env' i = some x := by
  induction h with
  | b => exact hx
  | o hd _ ih =>
    rename_i d y env' _
    have hne : i ≠ d := fun e => by subst e; rw [hx] at hd; cases hd
    simpa [lk, nbeq hne] using ih
  | n hd _ ih =>
    rename_i d y env' _
    have hne : i ≠ d := fun e => by subst e; rw [hi] at hd; cases hd
    simpa [lk, nbeq hne] using ih
theorem Kept.sub {e env env' : Env} (h : Kept e env env') (he : Sub e env') : Sub (e ++ env) env' := fun i x hi => by
  rw [lk_append] at hi
  cases hx : lk e i with
  | none =>
    rw [hx] at hi
    exact ⟨x, h.get hx (by simpa using hi), Wk.refl x⟩
  | some y =>
    rw [hx] at hi
    have : y = x := by simpa using hi
    subst this
    exact he i y hx
theorem xe_loopS {S : Type} {inv : S → Prop} {ms : S → Nat} {e : S → Env} {m : S → List Ck} {env' : Env} {k : Nat} (s : S) (hi : inv s) (hk : ms s < k) (he : Sub (e s) env') (hkp : Kept (e s) env env') (hm : m s = σ) : XQ C (Exit.then (LoopS C inv ms e m env k ds) Q) .normal env' ds σ := by
  unfold XQ
  intro a w hA
  exact ⟨s, hi, hk, hm ▸ hA.sub (hkp.sub he)⟩
end
end Go.Ax
