/- The search for the best choice, in plain words: the order of choices is a strict one of all, what is pruned is none that is better, and what is left over is the best of all choices that fit. No program is in sight here. -/
import Derived.Test.YtfcidgnbocijdaaDoorRgA
set_option linter.unusedVariables false
set_option linter.unusedSimpArgs false
namespace Go.Proofs.YtfcidgnbocijdaaDoor.Rg
open Go.RowKit Go.Proofs.YtfcidgnbocijdaaDoorW.PrintWords Go.Proofs.YtfcidgnbocijdaaDoor.Pl

/-! The order. -/
theorem cmpI_self (a : Int) : cmpI a a = 0 := (cmpI_eq a a).2 rfl
theorem cmpL_self : ∀ a : List Int, cmpL a a = 0
  | [] => rfl
  | a :: u => by rw [cmpL_cons, if_pos (cmpI_self a), cmpL_self u]
theorem cmpL_zero : ∀ {a b : List Int}, cmpL a b = 0 → a = b
  | [], [], _ => rfl
  | [], _ :: _, h => by simp [cmpL] at h
  | _ :: _, [], h => by simp [cmpL] at h
  | a :: u, b :: v, h => by
    rw [cmpL_cons] at h
    by_cases h1 : cmpI a b = 0
    · rw [if_pos h1] at h
      rw [(cmpI_eq a b).1 h1, cmpL_zero h]
    · rw [if_neg h1] at h
      exact absurd h h1
theorem cmpL_tot : ∀ (a b : List Int), a ≠ b → cmpL a b < 0 ∨ cmpL b a < 0
  | [], [], h => absurd rfl h
  | [], _ :: _, _ => Or.inl (by simp [cmpL])
  | _ :: _, [], _ => Or.inr (by simp [cmpL])
  | a :: u, b :: v, h => by
    rw [cmpL_cons, cmpL_cons]
    by_cases h1 : a = b
    · subst h1
      rw [if_pos (cmpI_self a), if_pos (cmpI_self a)]
      exact cmpL_tot u v (fun e => h (by rw [e]))
    · rw [if_neg (fun e => h1 ((cmpI_eq a b).1 e)), if_neg (fun e => h1 ((cmpI_eq b a).1 e).symm), cmpI_lt, cmpI_lt]
      omega
theorem cmpL_trans : ∀ {a b c : List Int}, cmpL a b < 0 → cmpL b c < 0 → cmpL a c < 0
  | [], [], _, h, _ => by simp [cmpL] at h
  | [], _ :: _, [], _, h => by simp [cmpL] at h
  | [], _ :: _, _ :: _, _, _ => by simp [cmpL]
  | _ :: _, [], _, h, _ => by simp [cmpL] at h
  | _ :: _, _ :: _, [], _, h => by simp [cmpL] at h
  | a :: u, b :: v, c :: w, h1, h2 => by
    rw [cmpL_cons] at h1 h2 ⊢
    by_cases e1 : a = b
    · subst e1
      rw [if_pos (cmpI_self a)] at h1
      by_cases e2 : a = c
      · subst e2
        rw [if_pos (cmpI_self a)] at h2 ⊢
        exact cmpL_trans h1 h2
      · rw [if_neg (fun e => e2 ((cmpI_eq a c).1 e))] at h2 ⊢
        exact h2
    · rw [if_neg (fun e => e1 ((cmpI_eq a b).1 e)), cmpI_lt] at h1
      by_cases e2 : b = c
      · subst e2
        rw [if_neg (fun e => e1 ((cmpI_eq a b).1 e)), cmpI_lt]
        exact h1
      · rw [if_neg (fun e => e2 ((cmpI_eq b c).1 e)), cmpI_lt] at h2
        rw [if_neg (fun e => by have := (cmpI_eq a c).1 e; omega), cmpI_lt]
        omega
abbrev Ch := List Int × Int × Int
def bt (x y : Ch) : Prop := better x.1 x.2.1 x.2.2 y.1 y.2.1 y.2.2 = true
theorem bt_iff {x y : Ch} : bt x y ↔ x.2.1 < y.2.1 ∨ x.2.1 = y.2.1 ∧ (x.2.2 < y.2.2 ∨ x.2.2 = y.2.2 ∧ cmpL x.1 y.1 < 0) := by
  unfold bt better
  by_cases h1 : x.2.1 = y.2.1
  · rw [if_pos h1]
    by_cases h2 : x.2.2 = y.2.2
    · rw [if_pos h2, decide_eq_true_eq]
      constructor
      · exact fun h => Or.inr ⟨h1, Or.inr ⟨h2, h⟩⟩
      · rintro (h | ⟨_, h | ⟨_, h⟩⟩)
        · omega
        · omega
        · exact h
    · rw [if_neg h2, decide_eq_true_eq]
      constructor
      · exact fun h => Or.inr ⟨h1, Or.inl h⟩
      · rintro (h | ⟨_, h | ⟨h, _⟩⟩)
        · omega
        · exact h
        · omega
  · rw [if_neg h1, decide_eq_true_eq]
    constructor
    · exact fun h => Or.inl h
    · rintro (h | ⟨h, _⟩)
      · exact h
      · omega
theorem bt_irr (x : Ch) : ¬ bt x x := fun h => by
  rcases bt_iff.1 h with h | ⟨_, h | ⟨_, h⟩⟩
  · omega
  · omega
  · rw [cmpL_self] at h; omega
theorem bt_trans {x y z : Ch} (h1 : bt x y) (h2 : bt y z) : bt x z := by
  rw [bt_iff] at h1 h2 ⊢
  rcases h1 with h1 | ⟨e1, h1 | ⟨f1, h1⟩⟩ <;> rcases h2 with h2 | ⟨e2, h2 | ⟨f2, h2⟩⟩
  · exact Or.inl (by omega)
  · exact Or.inl (by omega)
  · exact Or.inl (by omega)
  · exact Or.inl (by omega)
  · exact Or.inr ⟨by omega, Or.inl (by omega)⟩
  · exact Or.inr ⟨by omega, Or.inl (by omega)⟩
  · exact Or.inl (by omega)
  · exact Or.inr ⟨by omega, Or.inl (by omega)⟩
  · exact Or.inr ⟨by omega, Or.inr ⟨by omega, cmpL_trans h1 h2⟩⟩
theorem bt_tot {x y : Ch} (h1 : ¬ bt x y) (h2 : ¬ bt y x) : x = y := by
  rw [bt_iff] at h1 h2
  obtain ⟨a, m, w⟩ := x
  obtain ⟨b, m', w'⟩ := y
  simp only at h1 h2
  have hm : m = m' := by
    have a1 : ¬ m < m' := fun h => h1 (Or.inl h)
    have a2 : ¬ m' < m := fun h => h2 (Or.inl h)
    omega
  subst hm
  have hw : w = w' := by
    have a1 : ¬ w < w' := fun h => h1 (Or.inr ⟨rfl, Or.inl h⟩)
    have a2 : ¬ w' < w := fun h => h2 (Or.inr ⟨rfl, Or.inl h⟩)
    omega
  subst hw
  by_cases e : a = b
  · rw [e]
  · rcases cmpL_tot a b e with h | h
    · exact absurd (Or.inr ⟨rfl, Or.inr ⟨rfl, h⟩⟩) h1
    · exact absurd (Or.inr ⟨rfl, Or.inr ⟨rfl, h⟩⟩) h2
theorem bt_neg {x y z : Ch} (h1 : ¬ bt x y) (h2 : ¬ bt y z) : ¬ bt x z := fun h => by
  by_cases e : bt z y
  · exact h1 (bt_trans h e)
  · have := bt_tot h2 e
    subst this
    exact h1 h

/-! The best of a set of lists. -/
structure BestOf (P : List Int → Prop) (ch : List Int → Ch) (B R : Ch) : Prop where
  is : R = B ∨ ∃ T, P T ∧ R = ch T
  start : ¬ bt B R
  all : ∀ T, P T → ¬ bt (ch T) R
theorem BestOf.none {P : List Int → Prop} {ch : List Int → Ch} {B : Ch} (h : ∀ T, P T → ¬ bt (ch T) B) : BestOf P ch B B := ⟨Or.inl rfl, bt_irr B, h⟩
theorem BestOf.then {P Q : List Int → Prop} {ch : List Int → Ch} {B R1 R2 : Ch} (h1 : BestOf P ch B R1) (h2 : BestOf Q ch R1 R2) : BestOf (fun T => P T ∨ Q T) ch B R2 := by
  refine ⟨?_, bt_neg h1.start h2.start, ?_⟩
  · rcases h2.is with h | ⟨T, hT, h⟩
    · rcases h1.is with h' | ⟨T, hT, h'⟩
      · exact Or.inl (h.trans h')
      · exact Or.inr ⟨T, Or.inl hT, h.trans h'⟩
    · exact Or.inr ⟨T, Or.inr hT, h⟩
  · rintro T (hT | hT)
    · exact bt_neg (h1.all T hT) h2.start
    · exact h2.all T hT
theorem BestOf.iff {P Q : List Int → Prop} {ch : List Int → Ch} {B R : Ch} (h : BestOf P ch B R) (e : ∀ T, P T ↔ Q T) : BestOf Q ch B R := by
  refine ⟨?_, h.start, fun T hT => h.all T ((e T).2 hT)⟩
  rcases h.is with h | ⟨T, hT, h⟩
  · exact Or.inl h
  · exact Or.inr ⟨T, (e T).1 hT, h⟩
theorem BestOf.uniq {P : List Int → Prop} {ch : List Int → Ch} {B R R' : Ch} (h : BestOf P ch B R) (h' : BestOf P ch B R') : R = R' := by
  refine bt_tot (fun c => ?_) (fun c => ?_)
  · rcases h.is with e | ⟨T, hT, e⟩
    · exact h'.start (e ▸ c)
    · exact h'.all T hT (e ▸ c)
  · rcases h'.is with e | ⟨T, hT, e⟩
    · exact h.start (e ▸ c)
    · exact h.all T hT (e ▸ c)
theorem BestOf.one {P : List Int → Prop} {ch : List Int → Ch} {B : Ch} {T : List Int} (hP : ∀ U, P U ↔ U = T) (b : Bool) (hb : b = true ↔ bt (ch T) B) : BestOf P ch B (if b then ch T else B) := by
  by_cases h : bt (ch T) B
  · rw [if_pos (hb.2 h)]
    exact ⟨Or.inr ⟨T, (hP T).2 rfl, rfl⟩, fun c => bt_irr _ (bt_trans h c), fun U hU => by rw [(hP U).1 hU]; exact bt_irr _⟩
  · rw [if_neg (fun c => h (hb.1 c))]
    exact BestOf.none (fun U hU => by rw [(hP U).1 hU]; exact h)

/-! Sums of what rises. -/
theorem sm_app (f : Nat → Int) (l m : List Int) : sm f (l ++ m) = sm f l + sm f m := by
  induction l with
  | nil => simp [sm]
  | cons a l ih => simp only [List.cons_append, sm, ih]; omega
def sr (f : Nat → Int) (a n : Nat) : Int := sn (fun j => if j < a then 0 else f j) n
theorem sr_step (f : Nat → Int) (a : Nat) : ∀ n, a < n → sr f a n = f a + sr f (a + 1) n := by
  intro n
  induction n with
  | zero => intro h; omega
  | succ n ih =>
    intro h
    simp only [sr, sn] at ih ⊢
    by_cases h1 : a < n
    · rw [ih h1, if_neg (show ¬ n < a by omega), if_neg (show ¬ n < a + 1 by omega)]; omega
    · obtain rfl : a = n := by omega
      rw [if_neg (Nat.lt_irrefl a), if_pos (Nat.lt_succ_self a)]
      rw [sn_congr (g := fun j => if j < a + 1 then 0 else f j) a (fun i hi => by simp only [if_pos hi, if_pos (show i < a + 1 by omega)])]
      omega
theorem sr_mono {f : Nat → Int} (hf : ∀ i, 0 ≤ f i) {a b : Nat} (h : a ≤ b) (n : Nat) : sr f b n ≤ sr f a n := by
  refine sn_le n (fun i _ => ?_)
  have := hf i
  by_cases h1 : i < a
  · rw [if_pos h1, if_pos (show i < b by omega)]; omega
  · rw [if_neg h1]
    by_cases h2 : i < b
    · rw [if_pos h2]; omega
    · rw [if_neg h2]; omega
theorem sr_nonneg {f : Nat → Int} (hf : ∀ i, 0 ≤ f i) (a n : Nat) : 0 ≤ sr f a n := by
  have : sn (fun _ => (0 : Int)) n = 0 := by induction n with | zero => rfl | succ n ih => simp only [sn, ih]; rfl
  rw [← this]
  refine sn_le n (fun i _ => ?_)
  have := hf i
  by_cases h1 : i < a
  · rw [if_pos h1]; omega
  · rw [if_neg h1]; exact this
theorem sm_nonneg {f : Nat → Int} (hf : ∀ i, 0 ≤ f i) : ∀ U : List Int, 0 ≤ sm f U
  | [] => by simp [sm]
  | s :: t => by have := hf s.toNat; have := sm_nonneg hf t; simp only [sm]; omega
theorem sm_rises {f : Nat → Int} (hf : ∀ i, 0 ≤ f i) {n : Nat} : ∀ {U : List Int} {i : Nat}, risesF n ((i : Int) - 1) U = true → sm f U ≤ sr f i n
  | [], i, _ => sr_nonneg hf i n
  | s :: t, i, h => by
    simp only [risesF, Bool.and_eq_true, decide_eq_true_eq] at h
    obtain ⟨⟨h1, h2⟩, h3⟩ := h
    obtain ⟨m, rfl⟩ : ∃ m : Nat, s = m := ⟨s.toNat, by omega⟩
    have h4 := sm_rises hf (U := t) (i := m + 1) (by rw [show ((m + 1 : Nat) : Int) - 1 = m by omega]; exact h3)
    have h5 := sr_mono hf (show i ≤ m by omega) n
    rw [sr_step f m n (by omega)] at h5
    simp only [sm, Int.toNat_natCast]
    omega

/-! What goes on from a list. -/
/-- Lists that go on from T by stops from i on, below n. -/
def On (n i : Nat) (T T' : List Int) : Prop := ∃ U, risesF n ((i : Int) - 1) U = true ∧ T' = T ++ U
theorem on_end {n : Nat} {T T' : List Int} : On n n T T' ↔ T' = T := by
  constructor
  · rintro ⟨U, hU, rfl⟩
    cases U with
    | nil => simp
    | cons s t =>
      simp only [risesF, Bool.and_eq_true, decide_eq_true_eq] at hU
      omega
  · rintro rfl; exact ⟨[], rfl, by simp⟩
theorem on_step {n i : Nat} (hi : i < n) {T T' : List Int} : On n i T T' ↔ On n (i + 1) (T ++ [(i : Int)]) T' ∨ On n (i + 1) T T' := by
  have e : (((i + 1 : Nat) : Int) - 1) = i := by omega
  constructor
  · rintro ⟨U, hU, rfl⟩
    cases U with
    | nil => exact Or.inr ⟨[], rfl, rfl⟩
    | cons s t =>
      simp only [risesF, Bool.and_eq_true, decide_eq_true_eq] at hU
      by_cases h : s = i
      · subst h
        exact Or.inl ⟨t, by rw [e]; exact hU.2, by simp⟩
      · refine Or.inr ⟨s :: t, ?_, rfl⟩
        simp only [risesF, Bool.and_eq_true, decide_eq_true_eq, e]
        exact ⟨⟨by omega, hU.1.2⟩, hU.2⟩
  · rintro (⟨U, hU, rfl⟩ | ⟨U, hU, rfl⟩)
    · refine ⟨(i : Int) :: U, ?_, by simp⟩
      simp only [risesF, Bool.and_eq_true, decide_eq_true_eq]
      rw [e] at hU
      exact ⟨⟨by omega, by omega⟩, hU⟩
    · refine ⟨U, ?_, rfl⟩
      rw [e] at hU
      cases U with
      | nil => rfl
      | cons s t =>
        simp only [risesF, Bool.and_eq_true, decide_eq_true_eq] at hU ⊢
        exact ⟨⟨by omega, hU.1.2⟩, hU.2⟩
theorem on_all {n : Nat} {T' : List Int} : On n 0 [] T' ↔ rises n T' = true := by
  constructor
  · rintro ⟨U, hU, rfl⟩; simpa [rises] using hU
  · intro h; exact ⟨T', by simpa [rises] using h, by simp⟩

/-! What is settled, and the stops that are drawn by it. -/
structure Draws (S T : List Int) : Prop where
  sum : ∀ f, sm f T = sn (fun j => if j < S.length ∧ S.getD j 0 = 1 then f j else 0) S.length
  mem : ∀ x ∈ T, 0 ≤ x ∧ x < S.length
  len : T.length ≤ S.length
theorem Draws.nil : Draws [] [] := ⟨fun f => rfl, (fun x h => by cases h), Nat.le_refl _⟩
theorem getD_snoc_last (S : List Int) (x z : Int) : (S ++ [x]).getD S.length z = x := by
  rw [List.getD_eq_getElem?_getD, List.getElem?_append_right (Nat.le_refl _)]; simp
theorem getD_snoc_lt (S : List Int) (x z : Int) {j : Nat} (h : j < S.length) : (S ++ [x]).getD j z = S.getD j z := by
  rw [List.getD_eq_getElem?_getD, List.getElem?_append_left h, ← List.getD_eq_getElem?_getD]
theorem sn_snoc (S : List Int) (x : Int) (f : Nat → Int) : sn (fun j => if j < (S ++ [x]).length ∧ (S ++ [x]).getD j 0 = 1 then f j else 0) (S ++ [x]).length = sn (fun j => if j < S.length ∧ S.getD j 0 = 1 then f j else 0) S.length + if x = 1 then f S.length else 0 := by
  rw [List.length_append, List.length_singleton, sn]
  congr 1
  · refine sn_congr _ (fun i hi => ?_)
    rw [getD_snoc_lt S x 0 hi]
    by_cases h : S.getD i 0 = 1
    · rw [if_pos ⟨by omega, h⟩, if_pos ⟨hi, h⟩]
    · rw [if_neg (fun c => h c.2), if_neg (fun c => h c.2)]
  · rw [getD_snoc_last]
    by_cases h : x = 1
    · rw [if_pos ⟨by omega, h⟩, if_pos h]
    · rw [if_neg (fun c => h c.2), if_neg h]
theorem Draws.yes {S T : List Int} (h : Draws S T) : Draws (S ++ [1]) (T ++ [(S.length : Int)]) := by
  refine ⟨fun f => ?_, fun x hx => ?_, ?_⟩
  · rw [sn_snoc, sm_snoc, h.sum, if_pos rfl, Int.toNat_natCast]
  · rw [List.length_append, List.length_singleton]
    rcases List.mem_append.1 hx with hx | hx
    · have := h.mem x hx; omega
    · rw [List.mem_singleton.1 hx]; omega
  · have := h.len; rw [List.length_append, List.length_append]; simp; omega
theorem Draws.no {S T : List Int} {x : Int} (hx : x ≠ 1) (h : Draws S T) : Draws (S ++ [x]) T := by
  refine ⟨fun f => ?_, fun y hy => ?_, ?_⟩
  · rw [sn_snoc, h.sum, if_neg hx]; omega
  · rw [List.length_append, List.length_singleton]
    have := h.mem y hy; omega
  · have := h.len; rw [List.length_append]; omega
theorem sn_short (f : Nat → Int) (m : Nat) : ∀ n, m ≤ n → (∀ j, m ≤ j → f j = 0) → sn f n = sn f m := by
  intro n
  induction n with
  | zero => intro h _; rw [show m = 0 by omega]
  | succ n ih =>
    intro h hz
    by_cases e : m = n + 1
    · rw [e]
    · rw [sn, ih (by omega) hz, hz n (by omega)]; omega
theorem Draws.low {S T : List Int} (h : Draws S T) (Bs : List (List Int)) (k : Nat) {n : Nat} (hn : S.length ≤ n) : Rg.low Bs S k n = sm (fun s => bn Bs s k) T := by
  rw [h.sum, Rg.low]
  exact sn_short _ _ n hn (fun j hj => if_neg (fun c => by omega))
theorem gap_far {x a lo hi : Int} (h1 : lo ≤ a) (h2 : a ≤ lo + hi) : gap x lo hi ≤ far a x := by
  unfold gap far
  by_cases c1 : x < lo
  · rw [if_pos c1, if_neg (by omega)]; omega
  · rw [if_neg c1]
    by_cases c2 : x > lo + hi
    · rw [if_pos c2, if_pos (by omega)]; omega
    · rw [if_neg c2]
      by_cases c3 : a < x
      · rw [if_pos c3]; omega
      · rw [if_neg c3]; omega
theorem gap_all {x lo : Int} : gap x lo 0 = far lo x := by
  unfold gap far
  by_cases c1 : x < lo
  · rw [if_pos c1, if_neg (by omega)]
  · rw [if_neg c1]
    by_cases c2 : x > lo + 0
    · rw [if_pos c2, if_pos (by omega)]; omega
    · rw [if_neg c2, if_neg (by omega)]; omega
theorem gap_mono {x lo hi lo' hi' : Int} (h1 : lo ≤ lo') (h2 : lo' + hi' ≤ lo + hi) (h3 : 0 ≤ hi') : gap x lo hi ≤ gap x lo' hi' := by
  unfold gap
  by_cases c1 : x < lo
  · rw [if_pos c1, if_pos (by omega)]; omega
  · rw [if_neg c1]
    by_cases c2 : x > lo + hi
    · rw [if_pos c2, if_neg (by omega), if_pos (by omega)]; omega
    · rw [if_neg c2]
      by_cases c3 : x < lo'
      · rw [if_pos c3]; omega
      · rw [if_neg c3]
        by_cases c4 : x > lo' + hi'
        · rw [if_pos c4]; omega
        · rw [if_neg c4]; omega
section
variable {L : List Int} {Bs : List (List Int)} {Tk : List Int} {W : Int}
theorem least_on (h : May L Bs Tk W) {S T T' : List Int} (hd : Draws S T) (hl : S.length ≤ Bs.length) (ho : On Bs.length S.length T T') : least L Bs S ≤ miss L Bs T' := by
  obtain ⟨U, hU, rfl⟩ := ho
  unfold least miss
  refine sn_le _ (fun k _ => ?_)
  have hf : ∀ i, 0 ≤ bn Bs i k := fun i => (bn_ok h i k).1
  have h1 := sm_rises hf hU
  have h2 := sm_nonneg hf U
  rw [sm_app, hd.low Bs k hl]
  have h3 : Rg.high Bs S k Bs.length = sr (fun i => bn Bs i k) S.length Bs.length := rfl
  exact gap_far (by omega) (by rw [h3]; omega)
theorem wnd_on (h : May L Bs Tk W) {n i : Nat} {T T' : List Int} (ho : On n i T T') : wnd Tk T ≤ wnd Tk T' := by
  obtain ⟨U, hU, rfl⟩ := ho
  have := sm_nonneg (f := fun s => Tk.getD s 0) (fun i => (tk_ok h i).1) U
  unfold wnd
  rw [sm_app]
  omega
theorem least_full (h : May L Bs Tk W) {S T : List Int} (hd : Draws S T) (hl : S.length = Bs.length) : least L Bs S = miss L Bs T := by
  unfold least miss
  refine sn_congr _ (fun k _ => ?_)
  have h3 : Rg.high Bs S k Bs.length = 0 := by
    unfold Rg.high
    rw [sn_congr (g := fun _ => 0) _ (fun i hi => if_pos (by omega))]
    induction Bs.length with
    | zero => rfl
    | succ n ih => simp only [sn]; omega
  rw [h3, hd.low Bs k (by omega), gap_all]
theorem low_snoc (h : May L Bs Tk W) (S : List Int) (x : Int) (k : Nat) (hl : S.length < Bs.length) : low Bs (S ++ [x]) k Bs.length = low Bs S k Bs.length + if x = 1 then bn Bs S.length k else 0 := by
  unfold low
  rw [sn_short _ (S ++ [x]).length _ (by simp; omega) (fun j hj => if_neg (fun c => by omega)), sn_snoc, ← sn_short _ S.length Bs.length (by omega) (fun j hj => if_neg (fun c => by omega))]
theorem high_snoc (S : List Int) (x : Int) (k : Nat) (hl : S.length < Bs.length) : high Bs S k Bs.length = bn Bs S.length k + high Bs (S ++ [x]) k Bs.length := by
  have := sr_step (fun i => bn Bs i k) S.length Bs.length hl
  unfold high
  rw [List.length_append, List.length_singleton]
  exact this
theorem high_nonneg (h : May L Bs Tk W) (S : List Int) (k : Nat) : 0 ≤ high Bs S k Bs.length := sr_nonneg (fun i => (bn_ok h i k).1) S.length Bs.length
theorem least_snoc (h : May L Bs Tk W) (S : List Int) (x : Int) (hl : S.length < Bs.length) : least L Bs S ≤ least L Bs (S ++ [x]) := by
  unfold least
  refine sn_le _ (fun k _ => ?_)
  have h1 := low_snoc h S x k hl
  have h2 := high_snoc (Bs := Bs) S x k hl
  have h3 := high_nonneg h (S ++ [x]) k
  have h4 := bn_ok h S.length k
  by_cases e : x = 1
  · rw [if_pos e] at h1
    exact gap_mono (by omega) (by omega) h3
  · rw [if_neg e] at h1
    exact gap_mono (by omega) (by omega) h3
end
/-- The choice of a list of stops. -/
def ch (L : List Int) (Bs : List (List Int)) (Tk : List Int) (l : List Int) : Ch := (l, miss L Bs l, wnd Tk l)
end Go.Proofs.YtfcidgnbocijdaaDoor.Rg
