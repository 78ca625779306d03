/- The frame told slot by slot, the rules for code, and what a call is said to do. No condition: plain definitions and theorems. -/
import Derived.Test.YtmallgapchjhnaaAx1
import Derived.Deep.LoopGhost
set_option linter.unusedVariables false
set_option linter.unusedSimpArgs false
namespace Go.Ax
open Go Go.RowKit

theorem nbeq {i j : Nat} (h : i ≠ j) : Nat.beq i j = false := Bool.eq_false_iff.2 (fun e => h (Nat.eq_of_beq_eq_true e))
abbrev Env := List (Nat × AV)
def lk : Env → Nat → Option AV
  | [], _ => none
  | (j, x) :: r, i => bif Nat.beq i j then some x else lk r i
def evl (env : Env) : Operand → Option AV
  | .tmp t => lk env t
  | .const v => some (.val v)
  | .global g => some (.val (.pointer (some ⟨g, 0, none⟩)))
  | .func f => some (.val (.func (.func f) #[] #[]))

structure Fits (I : Nat → Nat → Prop) (w : World) (n : Nat) (env : Env) (a : Act) : Prop where
  size : a.tmps.size = n
  get : ∀ i x, lk env i = some x → ∃ v, a.tmps[i]? = some v ∧ VR I w x v

section
variable {I I' : Nat → Nat → Prop} {w w' : World} {n : Nat} {env : Env} {a : Act}
theorem Fits.eval (h : Fits I w n env a) {o : Operand} {x : AV} (hx : evl env o = some x) : VR I w x (a.eval o) := by
  cases o with
  | tmp t =>
    obtain ⟨v, hv, hr⟩ := h.get t x hx
    have : a.eval (.tmp t) = v := by simp [Act.eval, hv]
    rw [this]
    exact hr
  | const v =>
    obtain rfl := Option.some.inj hx
    exact .val v
  | global g =>
    obtain rfl := Option.some.inj hx
    exact .val _
  | func f =>
    obtain rfl := Option.some.inj hx
    exact .val _
theorem Fits.per (h : Fits I w n env a) (hp : Per I w I' w') : Fits I' w' n env a := ⟨h.size, fun i x hi => by
  obtain ⟨v, hv, hr⟩ := h.get i x hi
  exact ⟨v, hv, hr.per hp⟩⟩
theorem Fits.put (h : Fits I w n env a) {d : Nat} (hd : d < n) {x : AV} {v : Value} (hr : VR I w x v) : Fits I w n ((d, x) :: env) (a.put (some d) v) := by
  refine ⟨by simp [Act.put, h.size], fun i y hi => ?_⟩
  by_cases e : i = d
  · subst e
    have : x = y := by simpa [lk] using hi
    subst this
    exact ⟨v, by simp [Act.put, h.size, hd], hr⟩
  · have hb : Nat.beq i d = false := nbeq e
    have : lk env i = some y := by simpa [lk, hb] using hi
    obtain ⟨u, hu, hr'⟩ := h.get i y this
    refine ⟨u, ?_, hr'⟩
    show (a.tmps.setIfInBounds d v)[i]? = some u
    rw [Array.getElem?_setIfInBounds_ne (fun e' => e e'.symm)]
    exact hu
theorem Fits.put_none (h : Fits I w n env a) (v : Value) : Fits I w n env (a.put none v) := h
end

/-- Where the call began, what it may write, how many slots it has. -/
structure Cx where
  I0 : Nat → Nat → Prop
  w0 : World
  T0 : Nat → Prop
  n : Nat

def At (C : Cx) (env : Env) (ds : List Deferred) (σ : List Ck) (a : Act) (w : World) : Prop :=
  ∃ I, Good C.I0 C.w0 C.T0 I w σ ∧ Fits I w C.n env a ∧ a.defers = ds
def X (P : Program) (C : Cx) (c : Code) (Q : Exit → Act → World → Prop) (env : Env) (ds : List Deferred) (σ : List Ck) : Prop :=
  ∀ a w, At C env ds σ a w → c.wp P Q a w
def XL (P : Program) (C : Cx) (ops : Array Oper) (Q : Exit → Act → World → Prop) (rest : List Oper) (env : Env) (ds : List Deferred) (σ : List Ck) : Prop :=
  ∀ a w, At C env ds σ a w → wpList P ops Q rest a w
def XE (C : Cx) (K : Act → World → Prop) (env : Env) (ds : List Deferred) (σ : List Ck) : Prop := ∀ a w, At C env ds σ a w → K a w
def XQ (C : Cx) (Q : Exit → Act → World → Prop) (e : Exit) (env : Env) (ds : List Deferred) (σ : List Ck) : Prop := ∀ a w, At C env ds σ a w → Q e a w

/-- The code that is left. -/
def KC (P : Program) (y : Code) (Q : Exit → Act → World → Prop) : Act → World → Prop := fun a w => y.wp P Q a w
/-- What is known may be known less. -/
def Wk (x y : AV) : Prop := ∀ I w v, VR I w x v → VR I w y v
theorem Wk.refl (x : AV) : Wk x x := fun _ _ _ h => h
theorem Wk.nil (sz : Nat) : Wk (.val (.slice none 0 0)) (.list sz []) := fun _ _ _ h => by
  rw [h.val_inv]
  exact .nil sz none 0 (by omega)
theorem Wk.cons0 (sz : Nat) (A : Option Addr) (c : Nat) (h : c ≤ 9223372036854775807) : Wk (.val (.slice A 0 c)) (.list sz []) := fun _ _ _ h' => by
  rw [h'.val_inv]
  exact .nil sz A c h
def Sub (r env : Env) : Prop := ∀ i x, lk r i = some x → ∃ y, lk env i = some y ∧ Wk y x
theorem Sub.nil (env : Env) : Sub [] env := fun i x h => by simp [lk] at h
theorem Sub.cons {r env : Env} {i : Nat} {x : AV} (h : lk env i = some x) (hr : Sub r env) : Sub ((i, x) :: r) env := fun j y hj => by
  by_cases e : j = i
  · subst e
    have : x = y := by simpa [lk] using hj
    subst this
    exact ⟨x, h, Wk.refl x⟩
  · have hb : Nat.beq j i = false := nbeq e
    exact hr j y (by simpa [lk, hb] using hj)
theorem Sub.cons_wk {r env : Env} {i : Nat} {x z : AV} (h : lk env i = some z) (hw : Wk z x) (hr : Sub r env) : Sub ((i, x) :: r) env := fun j y hj => by
  by_cases e : j = i
  · subst e
    have : x = y := by simpa [lk] using hj
    subst this
    exact ⟨z, h, hw⟩
  · have hb : Nat.beq j i = false := nbeq e
    exact hr j y (by simpa [lk, hb] using hj)
theorem Sub.refl (env : Env) : Sub env env := fun i x h => ⟨x, h, Wk.refl x⟩

section
variable {P : Program} {C : Cx} {Q : Exit → Act → World → Prop} {env r : Env} {ds : List Deferred} {σ σ' : List Ck}
theorem At.sub {a : Act} {w : World} (h : At C env ds σ a w) (hs : Sub r env) : At C r ds σ a w := by
  obtain ⟨I, hg, hf, hd⟩ := h
  refine ⟨I, hg, ⟨hf.size, fun i x hi => ?_⟩, hd⟩
  obtain ⟨y, hy, hw⟩ := hs i x hi
  obtain ⟨v, hv, hr⟩ := hf.get i y hy
  exact ⟨v, hv, hw I w v hr⟩
theorem At.perm {a : Act} {w : World} (h : At C env ds σ a w) (hp : σ.Perm σ') : At C env ds σ' a w := by
  obtain ⟨I, hg, hf, hd⟩ := h
  exact ⟨I, hg.perm hp, hf, hd⟩
theorem At.tail {c : Ck} {a : Act} {w : World} (h : At C env ds (c :: σ) a w) : At C env ds σ a w := by
  obtain ⟨I, hg, hf, hd⟩ := h
  exact ⟨I, hg.tail, hf, hd⟩
theorem At.vnil {a : Act} {w : World} (h : At C env ds σ a w) (e : TypeId) (sz : Nat) : At C env ds (.vec (.slice none 0 0) e sz [] :: σ) a w := by
  obtain ⟨I, hg, hf, hd⟩ := h
  exact ⟨I, hg.vnil e sz, hf, hd⟩
/-- The row in slot i grows no more: it is a list. -/
theorem At.pub {v : Value} {e : TypeId} {sz : Nat} {xs : List AV} {a : Act} {w : World} (h : At C env ds (.vec v e sz xs :: σ) a w) (i : Nat) (hi : lk env i = some (.val v)) : At C ((i, .list sz xs) :: env) ds σ a w := by
  obtain ⟨I, hg, hf, hd⟩ := h
  obtain ⟨I1, hg1, hp, hv⟩ := hg.pub
  have hf1 := hf.per hp
  refine ⟨I1, hg1, ⟨hf.size, fun j y hj => ?_⟩, hd⟩
  by_cases e' : j = i
  · subst e'
    have : AV.list sz xs = y := by simpa [lk] using hj
    subst this
    obtain ⟨u, hu, hr⟩ := hf.get j _ hi
    rw [hr.val_inv] at hu
    exact ⟨v, hu, hv⟩
  · have hb : Nat.beq j i = false := nbeq e'
    exact hf1.get j y (by simpa [lk, hb] using hj)

theorem x_sub {c : Code} (hs : Sub r env) (h : X P C c Q r ds σ) : X P C c Q env ds σ := fun a w k => h a w (k.sub hs)
theorem x_perm {c : Code} (hp : σ.Perm σ') (h : X P C c Q env ds σ') : X P C c Q env ds σ := fun a w k => h a w (k.perm hp)
theorem x_pub {c : Code} {v : Value} {e : TypeId} {sz : Nat} {xs : List AV} (i : Nat) (hi : lk env i = some (.val v)) (h : X P C c Q ((i, .list sz xs) :: env) ds σ) : X P C c Q env ds (.vec v e sz xs :: σ) := fun a w k => h a w (k.pub i hi)
theorem x_tail {c : Code} {d : Ck} (h : X P C c Q env ds σ) : X P C c Q env ds (d :: σ) := fun a w k => h a w k.tail
theorem xe_tail {K : Act → World → Prop} {d : Ck} (h : XE C K env ds σ) : XE C K env ds (d :: σ) := fun a w k => h a w k.tail
theorem xq_tail {e : Exit} {d : Ck} (h : XQ C Q e env ds σ) : XQ C Q e env ds (d :: σ) := fun a w k => h a w k.tail
theorem xq_perm {e : Exit} (hp : σ.Perm σ') (h : XQ C Q e env ds σ') : XQ C Q e env ds σ := fun a w k => h a w (k.perm hp)
theorem xq_pub {ex : Exit} {v : Value} {e : TypeId} {sz : Nat} {xs : List AV} (i : Nat) (hi : lk env i = some (.val v)) (h : XQ C Q ex ((i, .list sz xs) :: env) ds σ) : XQ C Q ex env ds (.vec v e sz xs :: σ) := fun a w k => h a w (k.pub i hi)
theorem x_seq {x y : Code} (h : X P C x (Exit.then (KC P y Q) Q) env ds σ) : X P C (.seq x y) Q env ds σ := fun a w k => wp_seq (h a w k)
theorem xe_code {y : Code} (h : X P C y Q env ds σ) : XE C (KC P y Q) env ds σ := h
theorem x_region {id : Nat} {l : List Oper} (h : XL P C l.toArray Q l env ds σ) : X P C (.region id l.toArray false) Q env ds σ := fun a w k => wp_region_lit (h a w k)
theorem x_cond {c : Operand} {x y : Code} {t : Bool} (hc : evl env c = some (.val (.bool t))) (hx : t = true → X P C x Q env ds σ) (hy : t = false → X P C y Q env ds σ) : X P C (.cond c x y) Q env ds σ := by
  intro a w k
  obtain ⟨I, hg, hf, hd⟩ := k
  have hv := (hf.eval hc).val_inv
  exact wp_cond_split hv (fun ht => hx ht a w ⟨I, hg, hf, hd⟩) (fun ht => hy ht a w ⟨I, hg, hf, hd⟩)
theorem x_block {id : Nat} {c : Code} (h : X P C c (Exit.inBlock id Q) env ds σ) : X P C (.block id c) Q env ds σ := fun a w k => wp_block (h a w k)
theorem x_exit {id : Nat} (h : XQ C Q (.exit id) env ds σ) : X P C (.exit id) Q env ds σ := fun a w k => wp_exit (h a w k)
theorem x_ret (h : XQ C Q .ret env ds σ) : X P C .ret Q env ds σ := fun a w k => wp_ret (h a w k)
theorem x_skip (h : XQ C Q .normal env ds σ) : X P C .skip Q env ds σ := fun a w k => wp_skip (h a w k)
theorem x_label {l : Nat} (h : XQ C Q .normal env ds σ) : X P C (.label l) Q env ds σ := fun a w k => wp_label (h a w k)
theorem xq_norm {K : Act → World → Prop} (h : XE C K env ds σ) : XQ C (Exit.then K Q) .normal env ds σ := h
theorem xq_exit {K : Act → World → Prop} {i : Nat} (h : XQ C Q (.exit i) env ds σ) : XQ C (Exit.then K Q) (.exit i) env ds σ := h
theorem xq_ret {K : Act → World → Prop} (h : XQ C Q .ret env ds σ) : XQ C (Exit.then K Q) .ret env ds σ := h
theorem xq_panic {K : Act → World → Prop} {l : List PanicEntry} (h : XQ C Q (.panic l) env ds σ) : XQ C (Exit.then K Q) (.panic l) env ds σ := h
theorem xq_hit {i : Nat} (h : XQ C Q .normal env ds σ) : XQ C (Exit.inBlock i Q) (.exit i) env ds σ := fun a w k => by
  show Exit.inBlock i Q (.exit i) a w
  simp only [Exit.inBlock, if_true]
  exact h a w k
theorem xq_miss {i j : Nat} (hij : Nat.beq i j = false) (h : XQ C Q (.exit i) env ds σ) : XQ C (Exit.inBlock j Q) (.exit i) env ds σ := fun a w k => by
  show Exit.inBlock j Q (.exit i) a w
  have : i ≠ j := fun e => by subst e; rw [Nat.beq_refl] at hij; cases hij
  simp only [Exit.inBlock, this, if_false]
  exact h a w k
theorem xq_bnorm {i : Nat} (h : XQ C Q .normal env ds σ) : XQ C (Exit.inBlock i Q) .normal env ds σ := h
theorem xq_bret {i : Nat} (h : XQ C Q .ret env ds σ) : XQ C (Exit.inBlock i Q) .ret env ds σ := h
theorem xq_bpanic {i : Nat} {l : List PanicEntry} (h : XQ C Q (.panic l) env ds σ) : XQ C (Exit.inBlock i Q) (.panic l) env ds σ := h

/-- What a loop's round must leave: less to do, the relation again. -/
def LoopK (C : Cx) (J : Nat → Env → List Ck → Prop) (m : Nat) (ds : List Deferred) (a : Act) (w : World) : Prop := ∃ m' env' σ', m' < m ∧ J m' env' σ' ∧ At C env' ds σ' a w
theorem x_loop {c : Code} (J : Nat → Env → List Ck → Prop) (m : Nat) (env1 : Env) (σ1 : List Ck) (h0 : J m env1 σ1) (hs : Sub env1 env) (hp : σ.Perm σ1)
    (round : ∀ m env σ, J m env σ → X P C c (Exit.then (LoopK C J m ds) Q) env ds σ) : X P C (.loop c) Q env ds σ := by
  intro a w k
  refine wp_loop_ghost (fun m a w => ∃ env σ, J m env σ ∧ At C env ds σ a w) m ⟨env1, σ1, h0, (k.sub hs).perm hp⟩ ?_
  rintro m a w ⟨env, σ, hJ, hA⟩
  refine Code.wp_mono ?_ (round m env σ hJ a w hA)
  intro e a w hq
  cases e with
  | normal =>
    obtain ⟨m', env', σ', hlt, hJ', hA'⟩ := hq
    exact ⟨m', hlt, env', σ', hJ', hA'⟩
  | _ => exact hq
theorem xe_loop {J : Nat → Env → List Ck → Prop} {m : Nat} (m' : Nat) (env' : Env) (σ1 : List Ck) (hm : m' < m) (hJ : J m' env' σ1) (hs : Sub env' env) (hp : σ.Perm σ1) : XE C (LoopK C J m ds) env ds σ :=
  fun a w k => ⟨m', env', σ1, hm, hJ, (k.sub hs).perm hp⟩
end

/-- How a call ends. -/
inductive AE where
  | ret (x : AV)
  | panic (v : Value)
inductive ERel (I : Nat → Nat → Prop) (w : World) : AE → Ending → Prop
  | ret {x : AV} {v : Value} (h : VR I w x v) : ERel I w (.ret x) (.returned v)
  | panic (v : Value) : ERel I w (.panic v) (.panicked [{ v, recovered := false }])

/-- What the caller is told. -/
def APost (I : Nat → Nat → Prop) (w : World) (T : Nat → Prop) (Post : AE → List Ck → Prop) (e : Ending) (w' : World) : Prop :=
  ∃ I' σ' ae, Good I w T I' w' σ' ∧ ERel I' w' ae e ∧ Post ae σ'
/-- A call of function f with arguments that hold 'args', in memory of which σ is the caller's own and handed over: it ends, and 'Post' tells how, and what σ is then; all else is as it was. -/
def AC (P : Program) (f : FuncId) (args : List AV) (σ : List Ck) (Post : AE → List Ck → Prop) : Prop :=
  ∀ I w vs, Rel I w σ → All2 (VR I w) args vs → Calls P f vs.toArray w (APost I w (touch σ) Post)
theorem AC.mono {P : Program} {f : FuncId} {args : List AV} {σ : List Ck} {Post Post' : AE → List Ck → Prop} (h : AC P f args σ Post) (hp : ∀ e σ, Post e σ → Post' e σ) : AC P f args σ Post' :=
  fun I w vs hr ha => (h I w vs hr ha).mono fun e w' ⟨I', σ', ae, hg, he, hq⟩ => ⟨I', σ', ae, hg, he, hp _ _ hq⟩

def argEnv : Nat → List AV → Env
  | _, [] => []
  | k, x :: r => (k, x) :: argEnv (k + 1) r
theorem argEnv_get {I : Nat → Nat → Prop} {w : World} : ∀ (args : List AV) (vs : List Value) (k : Nat), All2 (VR I w) args vs → ∀ i x, lk (argEnv k args) i = some x → ∃ v, k ≤ i ∧ vs[i - k]? = some v ∧ VR I w x v
  | [], _, k, _, i, x, h => by simp [argEnv, lk] at h
  | y :: r, vs, k, ha, i, x, h => by
    cases ha with
    | cons h0 h1 =>
      rename_i v vs
      by_cases e : i = k
      · subst e
        have : y = x := by simpa [argEnv, lk] using h
        subst this
        exact ⟨v, Nat.le_refl _, by simp, h0⟩
      · have hb : Nat.beq i k = false := nbeq e
        obtain ⟨u, hk, hu, hr⟩ := argEnv_get r vs (k + 1) h1 i x (by simpa [argEnv, lk, hb] using h)
        refine ⟨u, by omega, ?_, hr⟩
        obtain ⟨j, rfl⟩ : ∃ j, i = k + 1 + j := ⟨i - (k + 1), by omega⟩
        have e1 : k + 1 + j - (k + 1) = j := by omega
        have e2 : k + 1 + j - k = j + 1 := by omega
        rw [e1] at hu
        rw [e2]
        simpa using hu

theorem ac_intro {P : Program} {f : FuncId} {fn : Func} {c : Code} {args : List AV} {σ : List Ck} {Post : AE → List Ck → Prop} (hf : P.funcs[f]? = some fn) (hb : fn.body = some c) (hn : Nat.ble args.length fn.ntmps = true)
    (h : ∀ I w, X P ⟨I, w, touch σ, fn.ntmps⟩ c (bodyPost P fn (APost I w (touch σ) Post)) (argEnv 0 args) [] σ) : AC P f args σ Post := by
  intro I w vs hr ha
  refine calls_of_wp hf hb (h I w _ w ⟨I, Good.start hr, ⟨?_, ?_⟩, rfl⟩)
  · have := ha.length
    have := Nat.le_of_ble_eq_true hn
    simp
    omega
  · intro i x hi
    obtain ⟨v, _, hv, hx⟩ := argEnv_get args vs 0 ha i x hi
    have hlt : i < vs.length := (List.getElem?_eq_some_iff.1 hv).1
    refine ⟨v, ?_, hx⟩
    rw [Array.getElem?_append_left (by simpa using hlt)]
    simpa using hv

section
variable {P : Program} {C : Cx} {env : Env} {σ : List Ck} {I0 : Nat → Nat → Prop} {w0 : World} {T0 : Nat → Prop} {n : Nat} {fn : Func} {Post : AE → List Ck → Prop}
theorem xq_done {e : Exit} (he : e = .normal ∨ e = .ret) (x : AV) (hr : ∀ I w (a : Act), Fits I w n env a → Good I0 w0 T0 I w σ → ∃ v, (results fn a.tmps).run P w = .ok v w ∧ VR I w x v) (hp : Post (.ret x) σ) :
    XQ ⟨I0, w0, T0, n⟩ (bodyPost P fn (APost I0 w0 T0 Post)) e env [] σ := by
  rintro a w ⟨I, hg, hf, hd⟩
  obtain ⟨v, hv, hx⟩ := hr I w a hf hg
  have : bodyPost P fn (APost I0 w0 T0 Post) .ret a w := ⟨hd, v, hv, I, σ, .ret x, hg, .ret hx, hp⟩
  rcases he with rfl | rfl
  · exact this
  · exact this
theorem res0 (h : fn.results = #[]) : ∀ I w (a : Act), Fits I w n env a → Good I0 w0 T0 I w σ → ∃ v, (results fn a.tmps).run P w = .ok v w ∧ VR I w (.tuple []) v :=
  fun I w a _ _ => ⟨.tuple #[], by simp [results, h], .tuple [] [] rfl (by simp)⟩
theorem res1 {t : Tmp} {x : AV} (h : fn.results = #[.tmp t]) (hx : lk env t = some x) : ∀ I w (a : Act), Fits I w n env a → Good I0 w0 T0 I w σ → ∃ v, (results fn a.tmps).run P w = .ok v w ∧ VR I w x v :=
  fun I w a hf _ => ⟨a.eval (.tmp t), by simp [results, h, Act.eval], hf.eval (o := .tmp t) hx⟩
theorem res2 {t u : Tmp} {x y : AV} (h : fn.results = #[.tmp t, .tmp u]) (hx : lk env t = some x) (hy : lk env u = some y) : ∀ I w (a : Act), Fits I w n env a → Good I0 w0 T0 I w σ → ∃ v, (results fn a.tmps).run P w = .ok v w ∧ VR I w (.tuple [x, y]) v :=
  fun I w a hf _ => ⟨.tuple #[a.eval (.tmp t), a.eval (.tmp u)], by simp [results, h, Act.eval], .tuple_mk (.cons (hf.eval (o := .tmp t) hx) (.cons (hf.eval (o := .tmp u) hy) .nil))⟩
theorem res3 {t u s : Tmp} {x y z : AV} (h : fn.results = #[.tmp t, .tmp u, .tmp s]) (hx : lk env t = some x) (hy : lk env u = some y) (hz : lk env s = some z) : ∀ I w (a : Act), Fits I w n env a → Good I0 w0 T0 I w σ → ∃ v, (results fn a.tmps).run P w = .ok v w ∧ VR I w (.tuple [x, y, z]) v :=
  fun I w a hf _ => ⟨.tuple #[a.eval (.tmp t), a.eval (.tmp u), a.eval (.tmp s)], by simp [results, h, Act.eval], .tuple_mk (.cons (hf.eval (o := .tmp t) hx) (.cons (hf.eval (o := .tmp u) hy) (.cons (hf.eval (o := .tmp s) hz) .nil)))⟩
theorem res4 {t u s q : Tmp} {x y z y2 : AV} (h : fn.results = #[.tmp t, .tmp u, .tmp s, .tmp q]) (hx : lk env t = some x) (hy : lk env u = some y) (hz : lk env s = some z) (hq : lk env q = some y2) : ∀ I w (a : Act), Fits I w n env a → Good I0 w0 T0 I w σ → ∃ v, (results fn a.tmps).run P w = .ok v w ∧ VR I w (.tuple [x, y, z, y2]) v :=
  fun I w a hf _ => ⟨.tuple #[a.eval (.tmp t), a.eval (.tmp u), a.eval (.tmp s), a.eval (.tmp q)], by simp [results, h, Act.eval], .tuple_mk (.cons (hf.eval (o := .tmp t) hx) (.cons (hf.eval (o := .tmp u) hy) (.cons (hf.eval (o := .tmp s) hz) (.cons (hf.eval (o := .tmp q) hq) .nil))))⟩
theorem xq_died {v : Value} (hp : Post (.panic v) σ) : XQ ⟨I0, w0, T0, n⟩ (bodyPost P fn (APost I0 w0 T0 Post)) (.panic [{ v, recovered := false }]) env [] σ := by
  rintro a w ⟨I, hg, hf, hd⟩
  exact ⟨hd, I, σ, .panic v, hg, .panic v, hp⟩
end
end Go.Ax
