/- What the printed functions of rank and of its reference come to, in plain words: names, ranks that may be, pipes. -/
import Derived.Test.YtgdbdjfmbccfoaaPRankEachx
import Derived.Test.YtgdbdjfmbccfoaaEv
set_option linter.unusedVariables false
set_option linter.unusedSimpArgs false
namespace Go.Proofs.Ytgdbdjfmbccfoaa.RkRankEach
open Go.RowKit Go.Proofs.YtgdbdjfmbccfoaaW.PrintWords Go.Proofs.Ytgdbdjfmbccfoaa.Pl Go.Proofs.Ytgdbdjfmbccfoaa.PRankEach

def Letter (c : Int) : Prop := 97 ≤ c ∧ c ≤ 122
instance (c : Int) : Decidable (Letter c) := by unfold Letter; infer_instance
def Sign (c : Int) : Prop := Letter c ∨ (48 ≤ c ∧ c ≤ 57) ∨ c = 45
instance (c : Int) : Decidable (Sign c) := by unfold Sign; infer_instance
def NameOk (s : ByteArray) : Prop := 1 ≤ s.size ∧ s.size ≤ 16 ∧ Letter (bt s 0) ∧ ∀ i, i < s.size → Sign (bt s (i : Nat))
instance (s : ByteArray) : Decidable (NameOk s) := by unfold NameOk; infer_instance
/-- From place i on all is well. -/
def Tail (s : ByteArray) (i : Nat) : Prop := ∀ j, j < s.size → i ≤ j → Sign (bt s (j : Nat)) ∧ (j = 0 → Letter (bt s 0))
instance (s : ByteArray) (i : Nat) : Decidable (Tail s i) := by unfold Tail; infer_instance
theorem Tail.next {s : ByteArray} {i : Nat} (h : Sign (bt s (i : Nat)) ∧ (i = 0 → Letter (bt s 0))) : Tail s (i + 1) ↔ Tail s i := by
  constructor
  · intro ht j hj hij
    rcases Nat.eq_or_lt_of_le hij with rfl | hlt
    · exact h
    · exact ht j hj hlt
  · intro ht j hj hij
    exact ht j hj (by omega)
theorem toList_nil {s : ByteArray} : s.toList = ([] : List UInt8) ↔ s.size = 0 := by
  have h : s.toList.length = s.size := by rw [ByteArray.toList_eq, Array.length_toList]; rfl
  constructor
  · intro e; rw [e] at h; simpa using h.symm
  · intro e; rw [e] at h; exact List.eq_nil_of_length_eq_zero h
theorem nameOk_iff {s : ByteArray} : NameOk s ↔ 1 ≤ s.size ∧ s.size ≤ 16 ∧ Tail s 0 := by
  unfold NameOk Tail
  constructor
  · rintro ⟨h1, h2, h3, h4⟩
    exact ⟨h1, h2, fun j hj _ => ⟨h4 j hj, fun _ => h3⟩⟩
  · rintro ⟨h1, h2, h3⟩
    exact ⟨h1, h2, (h3 0 (by omega) (by omega)).2 rfl, fun i hi => (h3 i hi (by omega)).1⟩

theorem named_loop (s : ByteArray) (hs : s.size ≤ 140737488351232) (r : Bool) : ∀ d i : Nat, s.size - i = d → i ≤ s.size → r = decide (1 ≤ s.size ∧ s.size ≤ 16 ∧ Tail s i) → Ev (fun k => rank_named.l0 k s (s.size : Int) (i : Int)) r := by
  intro d
  induction d with
  | zero =>
    intro i hd hi hr
    obtain rfl : i = s.size := by omega
    refine succ ?_
    simp only [rank_named.l0]
    refine neg (by omega) ?_
    have ht : Tail s s.size := fun j hj hij => absurd hj (by omega)
    refine alt (fun h => ?_) (fun h => ?_)
    · rw [toList_nil] at h
      refine ret ?_
      rw [hr, eq_comm, decide_eq_false_iff_not]
      omega
    · rw [toList_nil] at h
      refine ret ?_
      rw [hr]
      refine decide_eq_decide.2 ?_
      constructor
      · intro h1; exact ⟨by omega, by omega, ht⟩
      · intro h1; omega
  | succ d ih =>
    intro i hd hi hr
    refine succ ?_
    simp only [rank_named.l0]
    refine pos (by omega) (pos (by omega) (pos (by omega) ?_))
    have hw : wrap64 ((i : Int) + 1) = ((i + 1 : Nat) : Int) := wrapS (by omega)
    have good : (Sign (bt s (i : Nat)) ∧ (i = 0 → Letter (bt s 0))) → Ev (fun k => rank_named.l0 k s (s.size : Int) (wrap64 ((i : Int) + 1))) r := by
      intro hg
      rw [hw]
      refine ih (i + 1) (by omega) (by omega) ?_
      rw [hr]
      exact decide_eq_decide.2 (by rw [Tail.next hg])
    have bad : ¬ (Sign (bt s (i : Nat)) ∧ (i = 0 → Letter (bt s 0))) → Ev (fun _ : Nat => some false) r := by
      intro hg
      refine ret ?_
      rw [hr, eq_comm, decide_eq_false_iff_not]
      rintro ⟨_, _, ht⟩
      exact hg (ht i (by omega) (Nat.le_refl _))
    have z : i = 0 → bt s (i : Nat) = bt s 0 := by rintro rfl; rfl
    repeat' (refine alt (fun _ => ?_) (fun _ => ?_))
    all_goals first
      | (refine good ⟨by unfold Sign Letter; omega, fun h0 => ?_⟩; have := z h0; unfold Letter; omega)
      | (refine bad ?_; unfold Sign Letter; intro h; have h2 := h.2; have h1 := h.1; first | omega | (have h0 : i = 0 := by omega; have := z h0; have := h2 h0; omega))
theorem named (s : ByteArray) (hs : s.size ≤ 140737488351232) : Ev (fun k => rank_named.f k s) (decide (NameOk s)) := by
  unfold rank_named.f
  refine named_loop s hs _ s.size 0 (by omega) (by omega) ?_
  exact decide_eq_decide.2 nameOk_iff

/-! ### Ranks -/
/-- Breaks that rise from 'last' on, none above 'to'. -/
def Rising (top : Int) : Int → List Int → Prop
  | _, [] => True
  | last, b :: r => last < b ∧ b ≤ top ∧ Rising top b r
def risingB (top : Int) : Int → List Int → Bool
  | _, [] => true
  | last, b :: r => decide (last < b) && decide (b ≤ top) && risingB top b r
theorem risingB_iff (top : Int) : ∀ (l : List Int) (last : Int), risingB top last l = true ↔ Rising top last l
  | [], _ => by simp [risingB, Rising]
  | b :: r, last => by simp [risingB, Rising, risingB_iff top r b, and_assoc]
instance (top last : Int) (l : List Int) : Decidable (Rising top last l) := decidable_of_iff _ (risingB_iff top l last)
/-- A rank's own numbers. -/
structure Rank where
  nm : ByteArray
  fr : Int
  top : Int
  ab : Int
  br : List Int
  back : Int
def Rank.Plain (r : Rank) (keys : Int) : Prop :=
  1 ≤ keys ∧ keys ≤ 61 ∧ NameOk r.nm ∧ 0 ≤ r.fr ∧ r.fr ≤ r.top ∧ r.top < keys ∧ -120 ≤ r.ab ∧ r.ab ≤ 120 ∧ r.br.length ≤ 8 ∧ 0 ≤ r.back ∧ r.back ≤ 24 ∧ (r.br.length = 0 → r.back = 0)
instance (r : Rank) (keys : Int) : Decidable (r.Plain keys) := by unfold Rank.Plain; infer_instance
def Rank.May (r : Rank) (keys : Int) : Prop := r.Plain keys ∧ Rising r.top r.fr r.br
instance (r : Rank) (keys : Int) : Decidable (r.May keys) := by unfold Rank.May; infer_instance
def Rank.Small (r : Rank) : Prop := r.nm.size ≤ 140737488351232 ∧ r.br.length ≤ 140737488351232

theorem check_loop (r : Rank) (res : Int) (hs : r.br.length ≤ 140737488351232) : ∀ (d i : Nat) (last : Int), r.br.length - i = d → i ≤ r.br.length → res = (if Rising r.top last (r.br.drop i) then 0 else 2) →
    Ev (fun k => rank_Check.l0 k last r.br (r.br.length : Int) (i : Int) r.nm r.fr r.top r.ab r.br r.back) res := by
  intro d
  induction d with
  | zero =>
    intro i last hd hi hr
    refine succ ?_
    simp only [rank_Check.l0]
    refine neg (by omega) (ret ?_)
    rw [hr, List.drop_eq_nil_of_le (by omega), if_pos (by simp [Rising])]
  | succ d ih =>
    intro i last hd hi hr
    refine succ ?_
    simp only [rank_Check.l0]
    refine pos (by omega) (pos (by omega) (pos (by omega) ?_))
    have hl : i < r.br.length := by omega
    have hrd : rd r.br (i : Int) = r.br[i] := by rw [rdN, List.getD_eq_getElem?_getD, List.getElem?_eq_getElem hl]; rfl
    rw [List.drop_eq_getElem_cons hl] at hr
    rw [hrd]
    refine alt (fun h => ret ?_) (fun h => ?_)
    · rw [hr, if_neg (fun g => by have := g.1; omega)]
    refine alt (fun h' => ret ?_) (fun h' => ?_)
    · rw [hr, if_neg (fun g => by have := g.2.1; omega)]
    rw [wrapS (by omega)]
    refine ih (i + 1) _ (by omega) (by omega) ?_
    rw [hr]
    by_cases hR : Rising r.top r.br[i] (r.br.drop (i + 1))
    · rw [if_pos hR, if_pos ⟨by omega, by omega, hR⟩]
    · rw [if_neg hR, if_neg (fun h => hR h.2.2)]
theorem check (r : Rank) (keys : Int) (hs : r.Small) : Ev (fun k => rank_Check.f k r.nm r.fr r.top r.ab r.br r.back keys) (if r.May keys then 0 else 2) := by
  have jt : ∀ b : Bool, (b = true ↔ r.Plain keys) → Ev (fun k => rank_Check.j0 k b r.nm r.fr r.top r.ab r.br r.back) (if r.May keys then 0 else 2) := by
    intro b hb
    refine succ ?_
    simp only [rank_Check.j0]
    refine alt (fun h => ?_) (fun h => ?_)
    · refine check_loop r _ hs.2 r.br.length 0 r.fr (by omega) (by omega) ?_
      rw [List.drop_zero]
      by_cases hR : Rising r.top r.fr r.br
      · rw [if_pos hR, if_pos ⟨hb.1 h, hR⟩]
      · rw [if_neg hR, if_neg (fun hm => hR hm.2)]
    · refine ret ?_
      rw [if_neg (fun hm => h (hb.2 hm.1))]
  unfold rank_Check.f
  have no : ∀ {p : Prop}, ¬ p → (r.Plain keys → p) → ((false = true) ↔ r.Plain keys) := fun h1 h2 => ⟨fun h => (by cases h), fun h => absurd (h2 h) h1⟩
  refine alt (fun h1 => ?_) (fun h1 => jt _ (no h1 (fun h => h.1)))
  refine alt (fun h2 => ?_) (fun h2 => jt _ (no h2 (fun h => h.2.1)))
  refine bnd (named r.nm hs.1) ?_
  refine alt (fun h3 => ?_) (fun h3 => jt _ (no (fun h => h3 (decide_eq_true h)) (fun h => h.2.2.1)))
  have h3' : NameOk r.nm := of_decide_eq_true h3
  refine alt (fun h4 => ?_) (fun h4 => jt _ (no h4 (fun h => h.2.2.2.1)))
  refine alt (fun h5 => ?_) (fun h5 => jt _ (no h5 (fun h => h.2.2.2.2.1)))
  refine alt (fun h6 => ?_) (fun h6 => jt _ (no h6 (fun h => h.2.2.2.2.2.1)))
  refine alt (fun h7 => ?_) (fun h7 => jt _ (no h7 (fun h => h.2.2.2.2.2.2.1)))
  refine alt (fun h8 => ?_) (fun h8 => jt _ (no h8 (fun h => h.2.2.2.2.2.2.2.1)))
  refine alt (fun h9 => ?_) (fun h9 => jt _ (no h9 (fun h => by have := h.2.2.2.2.2.2.2.2.1; omega)))
  refine alt (fun h10 => ?_) (fun h10 => jt _ (no h10 (fun h => h.2.2.2.2.2.2.2.2.2.1)))
  refine alt (fun h11 => ?_) (fun h11 => jt _ (no h11 (fun h => h.2.2.2.2.2.2.2.2.2.2.1)))
  refine alt (fun h12 => ?_) (fun h12 => ?_)
  · exact jt _ ⟨fun _ => ⟨h1, h2, h3', h4, h5, h6, h7, h8, by omega, h10, h11, fun _ => h12⟩, fun _ => rfl⟩
  · refine jt _ ?_
    rw [decide_eq_true_iff]
    exact ⟨fun h => ⟨h1, h2, h3', h4, h5, h6, h7, h8, by omega, h10, h11, fun h0 => by omega⟩, fun h => by have := h.2.2.2.2.2.2.2.2.2.2.2; omega⟩

/-! ### Pipes -/
def Rank.from_ (r : Rank) (key n : Int) (l : List Int) : Int := l.foldl (fun n b => if b ≤ key then wrap64 (n - r.back) else n) n
def Rank.pipe (r : Rank) (key : Int) : Int × Bool := if key < r.fr ∨ key > r.top then (0, false) else (r.from_ key (wrap64 (key + r.ab)) r.br, true)
theorem pipe_loop (r : Rank) (key : Int) (hs : r.br.length ≤ 140737488351232) (res : Int × Bool) : ∀ (d i : Nat) (n : Int), r.br.length - i = d → i ≤ r.br.length → res = (r.from_ key n (r.br.drop i), true) →
    Ev (fun k => rank_row_pipe.l0 k key n r.br (r.br.length : Int) (i : Int) r.nm r.fr r.top r.ab r.br r.back) res := by
  intro d
  induction d with
  | zero =>
    intro i n hd hi hr
    refine succ ?_
    simp only [rank_row_pipe.l0]
    refine neg (by omega) (ret ?_)
    rw [hr, List.drop_eq_nil_of_le (by omega)]
    rfl
  | succ d ih =>
    intro i n hd hi hr
    refine succ ?_
    simp only [rank_row_pipe.l0]
    refine pos (by omega) (pos (by omega) (pos (by omega) ?_))
    have hl : i < r.br.length := by omega
    have hrd : rd r.br (i : Int) = r.br[i] := by rw [rdN, List.getD_eq_getElem?_getD, List.getElem?_eq_getElem hl]; rfl
    rw [List.drop_eq_getElem_cons hl] at hr
    rw [hrd, wrapS (by omega)]
    refine alt (fun h => ih (i + 1) _ (by omega) (by omega) ?_) (fun h => ih (i + 1) _ (by omega) (by omega) ?_)
    · rw [hr]; simp only [Rank.from_, List.foldl_cons]; rw [if_pos (by omega)]
    · rw [hr]; simp only [Rank.from_, List.foldl_cons]; rw [if_neg (by omega)]
theorem pipe (r : Rank) (key : Int) (hs : r.br.length ≤ 140737488351232) : Ev (fun k => rank_row_pipe.f k r.nm r.fr r.top r.ab r.br r.back key) (r.pipe key) := by
  have jt : ∀ b : Bool, (b = true ↔ key < r.fr ∨ key > r.top) → Ev (fun k => rank_row_pipe.j0 k key b r.nm r.fr r.top r.ab r.br r.back) (r.pipe key) := by
    intro b hb
    refine succ ?_
    simp only [rank_row_pipe.j0]
    refine alt (fun h => ret ?_) (fun h => pipe_loop r key hs _ r.br.length 0 _ (by omega) (by omega) ?_)
    · rw [Rank.pipe, if_pos (hb.1 h)]
    · rw [Rank.pipe, if_neg (fun g => h (hb.2 g)), List.drop_zero]
  unfold rank_row_pipe.f
  refine alt (fun h => jt _ (by simp [h])) (fun h => jt _ ?_)
  rw [decide_eq_true_iff]; omega
end Go.Proofs.Ytgdbdjfmbccfoaa.RkRankEach
