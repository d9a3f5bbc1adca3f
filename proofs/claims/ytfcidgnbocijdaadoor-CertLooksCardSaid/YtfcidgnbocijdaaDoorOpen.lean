/- What an argument that reads as data holds, kind by kind: the bridge from the row's reading to the printed contracts' reading facts. For every program, type and kind. -/
import Derived.Test.YtfcidgnbocijdaaDoorV
import Derived.SizedLaws
import Derived.ChangeSlices
import Derived.ChangeArms
import Derived.ChangeSame
import Derived.Deep.Slices
set_option linter.unusedVariables false
namespace Go.Proofs.YtfcidgnbocijdaaDoor.Open
open Go.RowKit Go.Proofs.YtfcidgnbocijdaaDoorW.PrintWords Go.ChangeShapes Go.WideShapes

/-- Every slice and string in it is within the form's reach. -/
def Small {H : Type} (P : Program) (t : TypeId) (d : DataW H) : Prop := ∀ n ∈ d.weights P t, n ≤ 140737488351232

/-- Whatever reads as data of type t, and is small, is of kind d, and is well formed. -/
structure Opens (P : Program) (t : TypeId) {α : Type} (d : Kd α) (wf : α → Prop) : Prop where
  out : ∀ {H : Type} (enc : TypeId × Value → H) (w : World) (held : Bool) (fuel : Nat) (cs : List Value) (y : DataW H × List MemPlace),
    DataW.trod enc P w 0 (fun _ => true) held fuel t cs = some y → Small P t y.1 → ∃ x, d.K w x cs ∧ wf x

theorem small_of_all {H : Type} {P : Program} {ts : List TypeId} {ds : List (DataW H)} (h : (DataW.weightsEach P ts ds).all (· ≤ reachBytes) = true) {j : Nat} {t : TypeId} {d : DataW H} (ht : ts[j]? = some t) (hd : ds[j]? = some d) : Small P t d := by
  intro n hn
  have h1 := DataW.weights_mem_each ht hd n hn
  have h2 := List.all_eq_true.1 h n h1
  have h3 : n ≤ reachBytes := of_decide_eq_true h2
  exact h3

theorem opens_int {P : Program} {t : TypeId} {k : IntKind} (hu : P.underlying t = some (.int k)) : Opens P t (Kd.int k) (fun x => (Lit.int k x).wf = true) := by
  constructor
  intro H enc w held fuel cs y h hs
  obtain ⟨n, rfl, rfl, hw⟩ := DataW.trod_int hu h
  exact ⟨n, rfl, hw⟩
theorem opens_bool {P : Program} {t : TypeId} (hu : P.underlying t = some .bool) : Opens P t Kd.bool (fun _ => True) := by
  constructor
  intro H enc w held fuel cs y h hs
  obtain ⟨b, rfl, rfl⟩ := DataW.trod_bool hu h
  exact ⟨b, rfl, trivial⟩
theorem opens_string {P : Program} {t : TypeId} (hu : P.underlying t = some .string) : Opens P t Kd.string (fun s => s.size ≤ 140737488351232) := by
  constructor
  intro H enc w held fuel cs y h hs
  obtain ⟨s, rfl, rfl, hm⟩ := DataW.trod_string hu h
  refine ⟨s, rfl, ?_⟩
  have := hs s.data.toList.length (by simp [DataW.weights])
  simpa using this

theorem list_of {α : Type} {Q : Nat → α → Prop} : ∀ n : Nat, (∀ i, i < n → ∃ x, Q i x) → ∃ xs : List α, xs.length = n ∧ ∀ i x, xs[i]? = some x → Q i x
  | 0, _ => ⟨[], rfl, fun i x h => by simp at h⟩
  | n + 1, h => by
    obtain ⟨xs, hl, hx⟩ := list_of n (fun i hi => h i (by omega))
    obtain ⟨z, hz⟩ := h n (by omega)
    refine ⟨xs ++ [z], by simp [hl], fun i x hi => ?_⟩
    rcases Nat.lt_or_ge i xs.length with h1 | h1
    · rw [List.getElem?_append_left h1] at hi
      exact hx i x hi
    · rw [List.getElem?_append_right h1] at hi
      rcases Nat.eq_or_lt_of_le h1 with h2 | h2
      · rw [← h2, Nat.sub_self] at hi
        have h3 : z = x := by simpa using hi
        subst h3
        rw [← h2, hl]
        exact hz
      · rw [List.getElem?_eq_none (by simp; omega)] at hi
        cases hi

theorem small_elems {H : Type} {P : Program} {t e : TypeId} {elems spare : List (DataW H)} (hu : P.underlying t = some (.slice e)) (h : Small P t (.slice elems spare)) : ∀ d ∈ elems, Small P e d := by
  intro d hd n hn
  refine h n ?_
  simp only [DataW.weights, hu]
  refine List.mem_cons_of_mem _ (List.mem_append_left _ ?_)
  clear h
  induction elems with
  | nil => cases hd
  | cons a r ih =>
    simp only [DataW.weightsAll]
    rcases List.mem_cons.1 hd with rfl | hd
    · exact List.mem_append_left _ hn
    · exact List.mem_append_right _ (ih hd)

theorem opens_slice {P : Program} {t e : TypeId} {α : Type} {d : Kd α} {wf : α → Prop} {B : Nat} (hu : P.underlying t = some (.slice e)) (he : Opens P e d wf) (hc : P.cellsOf e = d.sz) (hB : P.bytesOf e = B) :
    Opens P t (Kd.slice e d) (fun xs => xs.length ≤ maxLen ∧ xs.length * B ≤ 140737488351232 ∧ ∀ x ∈ xs, wf x) := by
  constructor
  intro H enc w held fuel cs y h hs
  rcases Deep.open_slice hu h with ⟨rfl, rfl⟩ | ⟨a, len, cap, m, n, D, Pl, rfl, hb, hl, hm, hmm, rfl, hel⟩
  · exact ⟨[], ⟨none, 0, rfl, Nat.le_refl _, rfl, by simp, fun h0 => absurd h0 (by simp)⟩, by simp [maxLen], by simp, fun x hx => by cases hx⟩
  · have hlm : len ≤ m := by rw [hmm]; simpa using hl
    have hse := small_elems hu hs
    obtain ⟨xs, hxl, hx⟩ := list_of (Q := fun i x => ∃ cs', w.cells? 0 (a.add (i * P.cellsOf e)) (P.cellsOf e) = some cs' ∧ d.K w x cs' ∧ wf x) len (fun i hi => by
      obtain ⟨cs', h1, h2⟩ := hel i (by omega)
      obtain ⟨x, hk, hw⟩ := he.out enc w held n cs' (D i, Pl i) h2 (hse (D i) (List.mem_map.2 ⟨i, by simpa using hi, rfl⟩))
      exact ⟨x, cs', h1, hk, hw⟩)
    have hm63 : cap ≤ 9223372036854775807 := by simpa [maxLen] using hm
    refine ⟨xs, ⟨some a, cap, by rw [hxl], by omega, rfl, by omega, fun _ => ⟨a, rfl, fun j p hj => ?_⟩⟩, by rw [hxl]; omega, ?_, fun x hxm => ?_⟩
    · obtain ⟨cs', h1, hk, hw⟩ := hx j p hj
      refine ⟨cs', d.K_len hk, hk, fun i u hu' => ?_⟩
      unfold World.cells? at h1
      rw [if_pos (Nat.zero_le _)] at h1
      have hil : i < cs'.length := (List.getElem?_eq_some_iff.1 hu').1
      have hcl := mapM_some_length h1
      rw [List.length_range] at hcl
      have h3 := mapM_some_get h1 i i (by rw [List.getElem?_range (by omega)])
      rw [Deep.add_add, hc] at h3
      exact h3.trans hu'
    · have := hs ((((List.range len).map D).length + ((List.range (m - len)).map fun j => D (len + j)).length) * P.bytesOf e) (by simp [DataW.weights, hu])
      simp only [List.length_map, List.length_range] at this
      rw [hB] at this
      rw [hxl]
      exact Nat.le_trans (Nat.mul_le_mul_right _ (by omega)) this
    · obtain ⟨i, hi⟩ := List.getElem?_of_mem hxm
      obtain ⟨_, _, _, hw⟩ := hx i x hi
      exact hw

/-- A struct's fields from one on, their cells beginning at 'off'. -/
structure OpensF (P : Program) (fs : List Field) (off : Nat) {α : Type} (d : Kd α) (wf : α → Prop) : Prop where
  out : ∀ {H : Type} (enc : TypeId × Value → H) (w : World) (held : Bool) (n : Nat) (cs : List Value) (xs : List (DataW H × List MemPlace)), cs.length = off + d.sz →
    xs.length = fs.length → (∀ (i : Nat) (f : Field), fs[i]? = some f → DataW.trod enc P w 0 (fun _ => true) held n f.type ((cs.drop f.offset).take (P.cellsOf f.type)) = xs[i]?) →
      (∀ n ∈ DataW.weightsEach P (fs.map (·.type)) (xs.map (·.1)), n ≤ 140737488351232) → ∃ x, d.K w x (cs.drop off) ∧ wf x

theorem opens_last {P : Program} {f : Field} {off : Nat} {α : Type} {d : Kd α} {wf : α → Prop} (he : Opens P f.type d wf) (ho : f.offset = off) (hc : P.cellsOf f.type = d.sz) : OpensF P [f] off d wf := by
  constructor
  intro H enc w held n cs xs hl hxl hx hw
  match xs, hxl with
  | [y], _ =>
    have h := hx 0 f rfl
    rw [ho, hc, List.take_of_length_le (by rw [List.length_drop]; omega)] at h
    exact he.out enc w held n _ y h (fun k hk => hw k (by simp [DataW.weightsEach]; exact hk))
theorem opens_more {P : Program} {f g : Field} {fs : List Field} {off : Nat} {α β : Type} {d : Kd α} {d' : Kd β} {wf : α → Prop} {wf' : β → Prop} (he : Opens P f.type d wf) (ho : f.offset = off) (hc : P.cellsOf f.type = d.sz)
    (hr : OpensF P (g :: fs) (off + d.sz) d' wf') : OpensF P (f :: g :: fs) off (Kd.pair d d') (fun x => wf x.1 ∧ wf' x.2) := by
  constructor
  intro H enc w held n cs xs hl hxl hx hw
  match xs, hxl with
  | y :: ys, hxl =>
    have h := hx 0 f rfl
    rw [ho, hc] at h
    have hsz : cs.length = off + (d.sz + d'.sz) := hl
    obtain ⟨x, hk, hwx⟩ := he.out enc w held n _ y h (fun k hk => hw k (by simp only [List.map_cons, DataW.weightsEach]; exact List.mem_append_left _ hk))
    obtain ⟨x', hk', hwx'⟩ := hr.out enc w held n cs ys (by omega) (by simpa using hxl) (fun i f' hf => by simpa using hx (i + 1) f' (by simpa using hf)) (fun k hk => hw k (by simp only [List.map_cons, DataW.weightsEach] at hk ⊢; exact List.mem_append_right _ hk))
    refine ⟨(x, x'), ⟨(cs.drop off).take d.sz, cs.drop (off + d.sz), ?_, hk, hk'⟩, hwx, hwx'⟩
    rw [← List.drop_drop, List.take_append_drop]
theorem opens_struct {P : Program} {t : TypeId} {fs : Array Field} {α : Type} {d : Kd α} {wf : α → Prop} (hu : P.underlying t = some (.struct fs)) (hc : P.cellsOf t = d.sz) (hf : OpensF P fs.toList 0 d wf) : Opens P t d wf := by
  constructor
  intro H enc w held fuel cs y h hs
  obtain ⟨xs, n, rfl, rfl, hl, hxl, hx⟩ := DataW.trod_struct hu h
  have := hf.out enc w held n cs xs (by omega) (by simpa using hxl) (fun i f hf => hx i f (by simpa using hf)) (fun k hk => hs k (by simpa [DataW.weights, hu] using hk))
  simpa using this
theorem opens_iso {P : Program} {t : TypeId} {α β : Type} {d : Kd α} {f : β → α} {g : α → β} {wf : α → Prop} (hfg : ∀ a, f (g a) = a) (h : Opens P t d wf) : Opens P t (Kd.iso d f) (fun b => wf (f b)) := by
  constructor
  intro H enc w held fuel cs y hy hs
  obtain ⟨x, hk, hw⟩ := h.out enc w held fuel cs y hy hs
  refine ⟨g x, ?_, ?_⟩
  · show d.K w (f (g x)) cs
    rw [hfg]
    exact hk
  · show wf (f (g x))
    rw [hfg]
    exact hw
theorem opens_wf {P : Program} {t : TypeId} {α : Type} {d : Kd α} {wf wf' : α → Prop} (h : Opens P t d wf) (hi : ∀ x, wf x → wf' x) : Opens P t d wf' := by
  constructor
  intro H enc w held fuel cs y hy hs
  obtain ⟨x, hk, hw⟩ := h.out enc w held fuel cs y hy hs
  exact ⟨x, hk, hi x hw⟩
theorem opens_sizes {P : Program} {t : TypeId} {α : Type} {d : Kd α} {wf : α → Prop} (h : Opens P t d wf) {H : Type} {enc : TypeId × Value → H} {w : World} {held : Bool} {v : Value} {y : DataW H} {ps : List MemPlace} (hr : DataW.Trod enc P w 0 (fun _ => true) held t v y ps) (hs : Small P t y) : ∃ x, d.K w x v.cells.toList ∧ wf x := by
  obtain ⟨fuel, hf⟩ := hr
  exact h.out enc w held fuel _ _ hf hs
end Go.Proofs.YtfcidgnbocijdaaDoor.Open
