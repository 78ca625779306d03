/- What the reading of an argument tells of it: a value aa plain data (AV), in memory that nobody writes, no greater than the reading's bulk. No condition: plain theorems. -/
import Derived.Test.YtmallgapchjhnaaRows
import Derived.Test.YtmallgapchjhnaaRow
import Derived.OpenShut
import Derived.ShutString
import Derived.ChangeOld
import Derived.Deep.Slices
import Derived.Deep.CondSized
set_option linter.unusedVariables false
set_option linter.unusedSimpArgs false
namespace Go.Proofs.Ytmallgapchjhnaa
open Go Go.Ax

section
variable {H : Type} {enc : TypeId × Value → H} {P : Program} {w : World}
/-- A reading of type t, of at most N steps, bulk at most B: it is some a. -/
def Opn (enc : TypeId × Value → H) (P : Program) (w : World) (B N : Nat) (t : TypeId) {α : Type} (av : α → AV) (ok : α → Prop) (bk : α → Nat) : Prop :=
  ∀ n, n ≤ N → ∀ cs x, DataW.trod enc P w 0 (fun _ => true) true n t cs = some x → Rows.uptoBulk x.1 ≤ B → ∃ a, ok a ∧ All2 (VR (AllI w) w) (av a).cs cs ∧ bk a ≤ Rows.uptoBulk x.1
variable {B N : Nat} {t e : TypeId}
theorem Opn.mono {α : Type} {av : α → AV} {ok : α → Prop} {bk : α → Nat} {M : Nat} (h : Opn enc P w B N t av ok bk) (hm : M ≤ N) : Opn enc P w B M t av ok bk := fun n hn => h n (by omega)
theorem opn_int {k : IntKind} (ht : P.underlying t = some (.int k)) : Opn enc P w B N t (fun n : Int => .val (.int k n)) (fun n => (Lit.int k n).wf = true) (fun _ => 1) := fun n _ cs x h hb => by
  obtain ⟨m, rfl, rfl, h1⟩ := DataW.trod_int ht h
  exact ⟨m, h1, .cons (.val _) .nil, by simp [Rows.uptoBulk]⟩
theorem opn_bool (ht : P.underlying t = some .bool) : Opn enc P w B N t (fun b : Bool => .val (.bool b)) (fun _ => True) (fun _ => 1) := fun n _ cs x h hb => by
  obtain ⟨m, rfl, rfl⟩ := DataW.trod_bool ht h
  exact ⟨m, trivial, .cons (.val _) .nil, by simp [Rows.uptoBulk]⟩
theorem opn_str (ht : P.underlying t = some .string) : Opn enc P w B N t (fun s : ByteArray => .val (.string s)) (fun s => s.size ≤ B ∧ s.size ≤ maxLen) (fun s => s.size + 1) := fun n _ cs x h hb => by
  obtain ⟨s, rfl, rfl, h1⟩ := DataW.trod_string ht h
  have e : s.data.toList.length = s.size := Array.length_toList
  refine ⟨s, ⟨?_, h1⟩, .cons (.val _) .nil, ?_⟩
  · simp only [Rows.uptoBulk, e] at hb
    omega
  · simp only [Rows.uptoBulk, e]
    exact Nat.le_refl _
theorem sum_le {α : Type} {f : α → Nat} : ∀ (aa : List α) (ds : List (DataW H)), All2 (fun a d => f a ≤ Rows.uptoBulk d) aa ds → (aa.map f).sum ≤ Rows.uptoBulkAll ds
  | _, _, .nil => by simp [Rows.uptoBulkAll]
  | _, _, .cons h r => by
    have := sum_le _ _ r
    simp only [List.map_cons, List.sum_cons, Rows.uptoBulkAll]
    omega
theorem bulk_mem {d : DataW H} : ∀ {ds : List (DataW H)}, d ∈ ds → Rows.uptoBulk d ≤ Rows.uptoBulkAll ds
  | x :: ds, h => by
    rw [Rows.uptoBulkAll]
    rcases List.mem_cons.1 h with rfl | h
    · omega
    · have := bulk_mem h
      omega
theorem choose_list {α β : Type} {R : α → β → Prop} {f : Nat → β} : ∀ n : Nat, (∀ i, i < n → ∃ a, R a (f i)) → ∃ aa : List α, aa.length = n ∧ ∀ i a, aa[i]? = some a → R a (f i)
  | 0, _ => ⟨[], rfl, fun i a h => by simp at h⟩
  | n + 1, h => by
    obtain ⟨aa, h1, h2⟩ := choose_list n (fun i hi => h i (by omega))
    obtain ⟨a, ha⟩ := h n (by omega)
    refine ⟨aa ++ [a], by simp [h1], fun i x hx => ?_⟩
    rcases Nat.lt_trichotomy i n with hl | rfl | hl
    · exact h2 i x (by rwa [List.getElem?_append_left (by omega)] at hx)
    · rw [List.getElem?_append_right (by omega), h1] at hx
      have : a = x := by simpa using hx
      exact this ▸ ha
    · rw [List.getElem?_eq_none (by simp; omega)] at hx
      cases hx
theorem flat_get_inv {sz : Nat} : ∀ {xs : List AV}, (∀ x ∈ xs, x.cs.length = sz) → ∀ {i : Nat} {y : AV}, (flat xs)[i]? = some y → ∃ n j z, i = n * sz + j ∧ j < sz ∧ xs[n]? = some z ∧ z.cs[j]? = some y
  | [], _, i, y, h => by simp [flat] at h
  | x :: xs, hs, i, y, h => by
    rw [flat_cons] at h
    have hx := hs x (by simp)
    rcases Nat.lt_or_ge i sz with hl | hl
    · rw [List.getElem?_append_left (by omega)] at h
      exact ⟨0, i, x, by simp, hl, rfl, h⟩
    · rw [List.getElem?_append_right (by omega), hx] at h
      obtain ⟨n, j, z, h1, h2, h3, h4⟩ := flat_get_inv (fun x hx => hs x (by simp [hx])) h
      exact ⟨n + 1, j, z, by rw [Nat.add_mul]; omega, h2, h3, h4⟩
theorem opn_slice {α : Type} {av : α → AV} {ok : α → Prop} {bk : α → Nat} {sz : Nat} (ht : P.underlying t = some (.slice e)) (hc : P.cellsOf e = sz) (hp : 0 < sz) (hs : ∀ a, (av a).cs.length = sz) (he : Opn enc P w B N e av ok bk) :
    Opn enc P w B (N + 1) t (fun l : List α => .list sz (l.map av)) (fun l => ∀ a ∈ l, ok a) (fun l => (l.map bk).sum + 1) := fun n hn cs x h hb => by
  cases n with
  | zero => simp [DataW.trod] at h
  | succ n =>
  rcases DataW.trod_slice ht h with ⟨rfl, rfl⟩ | ⟨a, len, cap, elems, rest, n', hn', rfl, rfl, _, hl, hm, hlen, hel, _⟩
  · exact ⟨[], by simp, .cons (.nil _ _ _ (by omega)) .nil, by simp [Rows.uptoBulk]⟩
  obtain rfl : n = n' := by omega
  have hb' : Rows.uptoBulkAll (elems.map (·.1)) ≤ B := by
    simp only [Rows.uptoBulk] at hb
    omega
  have hin : ∀ i, i < len → ∃ y, elems[i]? = some y := fun i hi => ⟨elems[i], List.getElem?_eq_getElem (by omega)⟩
  obtain ⟨aa, hal, has⟩ := choose_list (R := fun (a : α) (y : Option (DataW H × List MemPlace) × Option (List Value)) => ∃ d cs, y = (some d, some cs) ∧ ok a ∧ All2 (VR (AllI w) w) (av a).cs cs ∧ bk a ≤ Rows.uptoBulk d.1)
    (f := fun i => (elems[i]?, w.cells? 0 (a.add (i * P.cellsOf e)) (P.cellsOf e))) len (fun i hi => by
      obtain ⟨y, hy⟩ := hin i hi
      have h1 := hel i hi
      rw [hy] at h1
      obtain ⟨cs', h2, h3⟩ := Option.bind_eq_some_iff.1 h1
      obtain ⟨a', o1, o2, o3⟩ := he n (by omega) cs' y h3 (Nat.le_trans (bulk_mem (List.mem_map.2 ⟨y, List.mem_of_getElem? hy, rfl⟩)) hb')
      exact ⟨a', y, cs', by simp only [hy, h2], o1, o2, o3⟩)
  have hok : ∀ x ∈ aa, ok x := fun x hx => by
    obtain ⟨i, hi⟩ := List.getElem?_of_mem hx
    obtain ⟨d, cs', _, o1, _⟩ := has i x hi
    exact o1
  have hsum : (aa.map bk).sum ≤ Rows.uptoBulkAll (elems.map (·.1)) := by
    refine sum_le _ _ (.of_get (by simp [hal, hlen]) (fun i x d hx hd => ?_))
    obtain ⟨d', cs', h1, _, _, o3⟩ := has i x hx
    rw [List.getElem?_map] at hd
    have h2 : elems[i]? = some d' := congrArg Prod.fst h1
    rw [h2] at hd
    have : d'.1 = d := by simpa using hd
    exact this ▸ o3
  refine ⟨aa, hok, .cons ?_ .nil, by simp only [Rows.uptoBulk]; omega⟩
  have hcell : ∀ i x, aa[i]? = some x → ∀ j y, (av x).cs[j]? = some y → ∃ v, w.cell? (a.add (i * sz + j)) = some v ∧ VR (AllI w) w y v := fun i x hx j y hy => by
    obtain ⟨d, cs', h1, _, o2, _⟩ := has i x hx
    have h2 : w.cells? 0 (a.add (i * P.cellsOf e)) (P.cellsOf e) = some cs' := congrArg Prod.snd h1
    obtain ⟨v, hv, hr⟩ := o2.get hy
    rw [hc] at h2
    obtain ⟨_, h3, h4⟩ := World.cells?_some h2
    have hj : j < sz := by
      have := (List.getElem?_eq_some_iff.1 hy).1
      rwa [hs] at this
    have h5 := h4 j hj
    rw [Go.Deep.add_add, hv] at h5
    exact ⟨v, h5, hr⟩
  have hcs : ∀ x ∈ aa.map av, x.cs.length = sz := fun x hx => by
    obtain ⟨y, _, rfl⟩ := List.mem_map.1 hx
    exact hs y
  rw [← hal] at hl
  cases aa with
  | nil => exact hal ▸ .nil _ _ _ hm
  | cons a0 r =>
    have hplain : a.spot = none := by
      obtain ⟨y, hy⟩ : ∃ y, (av a0).cs[0]? = some y := ⟨(av a0).cs[0]'(by rw [hs]; exact hp), List.getElem?_eq_getElem _⟩
      obtain ⟨v, hv, _⟩ := hcell 0 a0 rfl 0 y hy
      rw [show a.add (0 * sz + 0) = a by simp [Addr.add]] at hv
      unfold World.cell? at hv
      split at hv
      · cases hsp : a.spot with
        | none => rfl
        | some _ => simp [hsp] at hv
      · cases hv
    obtain ⟨b, o, sp⟩ := a
    simp only at hplain
    subst hplain
    have hget : ∀ i x, (flat ((a0 :: r).map av))[i]? = some x → ∃ v, w.cell? ⟨b, o + i, none⟩ = some v ∧ VR (AllI w) w x v := fun i x hx => by
      obtain ⟨n1, j, z, rfl, _, h2, h3⟩ := flat_get_inv hcs hx
      rw [List.getElem?_map] at h2
      obtain ⟨x0, hx0, rfl⟩ := Option.map_eq_some_iff.1 h2
      obtain ⟨v, hv, hr⟩ := hcell n1 x0 hx0 j x h3
      rw [add_plain] at hv
      exact ⟨v, hv, hr⟩
    have hfl : (flat ((a0 :: r).map av)).length = ((a0 :: r).map av).length * sz := flat_length hcs
    have hlen2 : len = ((a0 :: r).map av).length := by rw [List.length_map, hal]
    have hAt : ∀ i, i < ((a0 :: r).map av).length * sz → ∃ v, w.cell? ⟨b, o + i, none⟩ = some v := fun i hi => by
      obtain ⟨v, hv, _⟩ := hget i _ (List.getElem?_eq_getElem (by rw [hfl]; exact hi))
      exact ⟨v, hv⟩
    rw [hlen2]
    refine .list sz _ b o cap (fun i => (w.cell? ⟨b, o + i, none⟩).getD undef) hcs (by rw [List.length_map]; exact hl) hm (fun i hi => hAt i hi) (fun i hi => ?_) (fun i x hx => ?_)
    · obtain ⟨v, hv⟩ := hAt i hi
      rw [hv]
      rfl
    · obtain ⟨v, hv, hr⟩ := hget i x hx
      rw [hv]
      exact hr
/-- A struct's parts. -/
theorem opn_struct {fs : Array Field} {n : Nat} {cs : List Value} {x : DataW H × List MemPlace} (ht : P.underlying t = some (.struct fs)) (h : DataW.trod enc P w 0 (fun _ => true) true n t cs = some x) :
    ∃ (xs : List (DataW H × List MemPlace)) (m : Nat), n = m + 1 ∧ x.1 = .agg (xs.map (·.1)) ∧ cs.length = P.cellsOf t ∧ xs.length = fs.size ∧
      ∀ (i : Nat) (f : Field), fs[i]? = some f → DataW.trod enc P w 0 (fun _ => true) true m f.type ((cs.drop f.offset).take (P.cellsOf f.type)) = xs[i]? := by
  obtain ⟨xs, m, h1, h2, h3, h4, h5⟩ := DataW.trod_struct ht h
  exact ⟨xs, m, h1, by rw [h2], h3, h4, h5⟩
theorem part_le {d : DataW H} {ds : List (DataW H)} (h : d ∈ ds) (hb : Rows.uptoBulk (.agg ds) ≤ B) : Rows.uptoBulk d ≤ B := by
  have := bulk_mem h
  simp only [Rows.uptoBulk] at hb
  omega
end
end Go.Proofs.Ytmallgapchjhnaa
