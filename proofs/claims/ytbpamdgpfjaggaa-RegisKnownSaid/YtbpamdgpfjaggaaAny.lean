/- A region whose operations may come up in many orders: one relation over the operations that are done, kept by each operation that may come up, holds at the end. For every program. -/
import Derived.Orders
import Derived.Test.YtbpamdgpfjaggaaWWords
set_option linter.unusedVariables false
set_option linter.unusedSimpArgs false
namespace Go.Proofs.Ytbpamdgpfjaggaa.Any
open Go Go.RowKit Go.Proofs.YtbpamdgpfjaggaaW.PrintWords
variable {P : Program} {ops : Array Oper} {Q : Exit → Act → World → Prop} {md : Region.Mode}

theorem count_set : ∀ (l : List Bool) (i : Nat), l.getD i true = false → (l.set i true).count false + 1 = l.count false
  | [], i, h => by simp at h
  | b :: t, 0, h => by
    have : b = false := by simpa using h
    subst this
    simp [List.count_cons]
  | b :: t, i + 1, h => by
    have h2 : t.getD i true = false := by simpa using h
    have := count_set t i h2
    simp only [List.set_cons_succ, List.count_cons]
    omega
theorem ready_none {listed : Array Bool} (h : listed.toList.count false = 0) : Region.ready md ops listed = [] := by
  cases hr : Region.ready md ops listed with
  | nil => rfl
  | cons i t =>
    have hi : i ∈ Region.ready md ops listed := by rw [hr]; exact List.mem_cons_self ..
    have h1 := (mem_ready.1 hi).1
    have h2 : listed.toList.getD i true = false := by simpa [Array.getD_eq_getD_getElem?] using h1
    have := count_set listed.toList i h2
    omega
/-- The relation: kept by every operation that may come up; what it says where all are done is enough. -/
theorem wpAny_inv (Inv : Array Bool → Act → World → Prop) (hstep : ∀ listed a w i, Inv listed a w → i ∈ Region.ready md ops listed → wpOp P ops Q i (fun a' w' => Inv (listed.setIfInBounds i true) a' w') a w)
    (hdone : ∀ listed a w, Inv listed a w → Region.ready md ops listed = [] → Q .normal a w) : ∀ (fuel : Nat) (listed : Array Bool) (a : Act) (w : World), listed.toList.count false ≤ fuel → Inv listed a w → wpAny P md ops Q fuel listed a w
  | 0, listed, a, w, hc, h => by
    have := ready_none (ops := ops) (md := md) (listed := listed) (by omega)
    exact ⟨this, hdone _ _ _ h this⟩
  | fuel + 1, listed, a, w, hc, h => by
    refine ⟨fun h0 => hdone _ _ _ h h0, fun i hi => ?_⟩
    refine wpOp_mono (fun a' w' h' => wpAny_inv Inv hstep hdone fuel _ a' w' ?_ h') (hstep listed a w i h hi)
    have h1 := (mem_ready.1 hi).1
    have h2 : listed.toList.getD i true = false := by simpa [Array.getD_eq_getD_getElem?] using h1
    have := count_set listed.toList i h2
    rw [Array.toList_setIfInBounds]
    omega
/-- The relation where every operation leaves one value: operation i in temporary b + i; Sp i says what that value is, in the world at hand. -/
def Inv (b n : Nat) (a0 : Act) (w0 : World) (Sp : Nat → World → Value → Prop) (listed : Array Bool) (a : Act) (w : World) : Prop :=
  a.defers = a0.defers ∧ a.tmps.size = a0.tmps.size ∧ (∀ t, (t < b ∨ b + n ≤ t) → a.tmps[t]? = a0.tmps[t]?) ∧ Below w0.heap.size w0 w ∧ listed.size = n ∧ ∀ i, i < n → listed.getD i false = true → ∃ v, a.tmps[b + i]? = some v ∧ Sp i w v
theorem inv_step {b n : Nat} {a0 : Act} {w0 : World} {Sp : Nat → World → Value → Prop} (hsp : ∀ i w w' v, Below w.heap.size w w' → Sp i w v → Sp i w' v) (hb : b + n ≤ a0.tmps.size) (hn : ops.size = n)
    (hop : ∀ i o, ops[i]? = some o → o.guard = none ∧ o.dst = some (b + i) ∧ ∀ (a : Act) (w : World), Below w0.heap.size w0 w → (∀ j, j < n → (∃ e ∈ o.after, Region.binds md e = true ∧ e.on = j) → ∃ v, a.tmps[b + j]? = some v ∧ Sp j w v) → ∃ v w', (execOp a.eval o).run P w = .ok (.value v) w' ∧ Below w.heap.size w w' ∧ Sp i w' v) :
    ∀ listed a w i, Inv b n a0 w0 Sp listed a w → i ∈ Region.ready md ops listed → wpOp P ops Q i (fun a' w' => Inv b n a0 w0 Sp (listed.setIfInBounds i true) a' w') a w := by
  intro listed a w i hI hi
  obtain ⟨h1, h2, h3, h4, h5, h6⟩ := hI
  obtain ⟨hun, o, ho, hall⟩ := mem_ready.1 hi
  have hin : i < n := by rw [← hn]; exact (Array.getElem?_eq_some_iff.1 ho).1
  obtain ⟨hg, hd, hrun⟩ := hop i o ho
  obtain ⟨v, w', hr, hbw, hs⟩ := hrun a w h4 (fun j hj ⟨e, he, hbi, hej⟩ => by subst hej; exact h6 _ hj (hall e he hbi))
  unfold wpOp
  rw [ho]
  have hw : Region.wanted o (yielded ops a.tmps) = true := by unfold Region.wanted; rw [hg]
  simp only [hw, if_true]
  left
  unfold Oper.wp
  rw [hr]
  show Inv b n a0 w0 Sp (listed.setIfInBounds i true) (a.put o.dst v) w'
  rw [hd]
  refine ⟨h1, by simp [Act.put, h2], fun t ht => ?_, below_step h4 hbw, by rw [Array.size_setIfInBounds, h5], fun j hj hl => ?_⟩
  · have hne : b + i ≠ t := by omega
    simp only [Act.put, Array.getElem?_setIfInBounds_ne hne]
    exact h3 t ht
  · by_cases e : j = i
    · subst e
      refine ⟨v, ?_, hs⟩
      simp only [Act.put]
      rw [Array.getElem?_setIfInBounds_self_of_lt (by omega)]
    · rw [getD_set_ne false (fun c => e c.symm)] at hl
      obtain ⟨u, hu, hs'⟩ := h6 j hj hl
      refine ⟨u, ?_, hsp _ _ _ _ hbw hs'⟩
      simp only [Act.put, Array.getElem?_setIfInBounds_ne (show b + i ≠ b + j by omega)]
      exact hu
theorem all_listed {listed : Array Bool} (hlt : ∀ i o, ops[i]? = some o → ∀ e ∈ o.after, Region.binds md e = true → e.on < i) (hsz : listed.size = ops.size) (h : Region.ready md ops listed = []) : ∀ i, i < ops.size → listed.getD i false = true := by
  intro i
  induction i using Nat.strongRecOn with
  | _ i ih =>
    intro hi
    cases hl : listed.getD i false with
    | true => rfl
    | false =>
      have hi' : i < listed.size := by omega
      have : i ∈ Region.ready md ops listed := by
        refine mem_ready.2 ⟨?_, ops[i], Array.getElem?_eq_getElem hi, fun e he hb => ?_⟩
        · simp [Array.getD_eq_getD_getElem?, Array.getElem?_eq_getElem hi'] at hl ⊢
          exact hl
        · have := hlt i _ (Array.getElem?_eq_getElem hi) e he hb
          exact ih _ this (by omega)
      rw [h] at this
      cases this
theorem lt_of {ops : Array Oper} (h : (List.range ops.size).all (fun i => ((ops[i]?).map fun o => o.after.toList.all fun e => decide (e.on < i)).getD true) = true) : ∀ i o, ops[i]? = some o → ∀ e ∈ o.after, Region.binds md e = true → e.on < i := by
  intro i o ho e he _
  have hi : i < ops.size := (Array.getElem?_eq_some_iff.1 ho).1
  have h1 := List.all_eq_true.1 h i (List.mem_range.2 hi)
  rw [ho] at h1
  simp only [Option.map_some, Option.getD_some, List.all_eq_true, decide_eq_true_eq] at h1
  exact h1 e (by simpa using he)
/-- The frame behind the region: the old one with the values laid in. -/
def fillN (T : Array Value) (b : Nat) (V : Nat → Value) : Nat → Array Value
  | 0 => T
  | n + 1 => (fillN T b V n).setIfInBounds (b + n) (V n)
theorem fillN_size (T : Array Value) (b : Nat) (V : Nat → Value) : ∀ n, (fillN T b V n).size = T.size
  | 0 => rfl
  | n + 1 => by rw [fillN, Array.size_setIfInBounds, fillN_size T b V n]
theorem fillN_get (T : Array Value) (b : Nat) (V : Nat → Value) : ∀ n t, b + n ≤ T.size → (fillN T b V n)[t]? = if b ≤ t ∧ t < b + n then some (V (t - b)) else T[t]?
  | 0, t, h => by rw [if_neg (by omega)]; rfl
  | n + 1, t, h => by
    rw [fillN]
    by_cases e : b + n = t
    · subst e
      rw [Array.getElem?_setIfInBounds_self_of_lt (by rw [fillN_size]; omega), if_pos (by omega)]
      congr 2; omega
    · rw [Array.getElem?_setIfInBounds_ne e, fillN_get T b V n t (by omega)]
      by_cases c : b ≤ t ∧ t < b + n
      · rw [if_pos c, if_pos (by omega)]
      · rw [if_neg c, if_neg (by omega)]
theorem inv_done {b n : Nat} {a0 : Act} {w0 : World} {Sp : Nat → World → Value → Prop} {listed : Array Bool} {a : Act} {w : World} (hb : b + n ≤ a0.tmps.size) (h : Inv b n a0 w0 Sp listed a w) (hall : ∀ i, i < n → listed.getD i false = true) :
    ∃ V : Nat → Value, a = { a0 with tmps := fillN a0.tmps b V n } ∧ (∀ i, i < n → Sp i w (V i)) ∧ Below w0.heap.size w0 w := by
  obtain ⟨h1, h2, h3, h4, h5, h6⟩ := h
  refine ⟨fun i => (a.tmps[b + i]?).getD default, ?_, fun i hi => ?_, h4⟩
  · obtain ⟨T, D⟩ := a
    simp only at h1 h2 h3 h6 ⊢
    subst h1
    congr 1
    apply Array.ext_getElem?
    intro t
    rw [fillN_get _ _ _ _ _ hb]
    by_cases c : b ≤ t ∧ t < b + n
    · rw [if_pos c]
      obtain ⟨v, hv, _⟩ := h6 (t - b) (by omega) (hall _ (by omega))
      rw [show b + (t - b) = t by omega] at hv ⊢
      rw [hv]; rfl
    · rw [if_neg c]; exact h3 t (by omega)
  · obtain ⟨v, hv, hs⟩ := h6 i hi (hall i hi)
    simp only [hv, Option.getD_some]
    exact hs
theorem init {b n : Nat} {a : Act} {w : World} {Sp : Nat → World → Value → Prop} : Inv b n a w Sp (Array.replicate n false) a w :=
  ⟨rfl, rfl, fun _ _ => rfl, Below.refl _ _, by simp, fun i hi h => absurd h (by simp [Array.getD_eq_getD_getElem?, hi])⟩
/-- The region: each operation by itself, whatever has been done before; then what all have left. -/
theorem region_inv {b n id : Nat} {a : Act} {w : World} (hm : P.follows .mixedOrders = true) (Sp : Nat → World → Value → Prop) (hsp : ∀ i w w' v, Below w.heap.size w w' → Sp i w v → Sp i w' v) (hb : b + n ≤ a.tmps.size) (hn : ops.size = n)
    (hlt : (List.range ops.size).all (fun i => ((ops[i]?).map fun o => o.after.toList.all fun e => decide (e.on < i)).getD true) = true)
    (hop : ∀ i o, ops[i]? = some o → o.guard = none ∧ o.dst = some (b + i) ∧ ∀ (a : Act) (w : World), (∀ j, j < n → (∃ e ∈ o.after, Region.binds .any e = true ∧ e.on = j) → ∃ v, a.tmps[b + j]? = some v ∧ Sp j w v) → ∃ v w', (execOp a.eval o).run P w = .ok (.value v) w' ∧ Below w.heap.size w w' ∧ Sp i w' v)
    (hdone : ∀ (V : Nat → Value) (w' : World), (∀ i, i < n → Sp i w' (V i)) → Below w.heap.size w w' → Q .normal { a with tmps := fillN a.tmps b V n } w') : (Code.region id ops true).wp P Q a w := by
  refine wp_region_any hm ?_
  refine wpAny_inv (Inv b n a { w with drawn := w.drawn + 1 } Sp) (inv_step hsp hb hn (fun i o ho => ⟨(hop i o ho).1, (hop i o ho).2.1, fun a w _ hd => (hop i o ho).2.2 a w hd⟩)) (fun listed a' w' hI hr => ?_) _ _ _ _ (by simp [List.count_replicate]) (by rw [hn]; exact init)
  obtain ⟨V, rfl, hV, hB⟩ := inv_done hb hI (by
    have := all_listed (lt_of hlt) (by rw [hI.2.2.2.2.1, hn]) hr
    rw [hn] at this
    exact this)
  exact hdone V w' hV (below_step (w := w) (below_drew1 (Below.refl _ _)) hB)
end Go.Proofs.Ytbpamdgpfjaggaa.Any
