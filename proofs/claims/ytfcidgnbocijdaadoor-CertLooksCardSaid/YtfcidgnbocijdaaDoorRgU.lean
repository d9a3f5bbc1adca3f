/- Lists of stops as the bits of a number: every list that rises is one of some number's, and the other way. No program is in sight here. -/
import Derived.Test.YtfcidgnbocijdaaDoorRgS
set_option linter.unusedVariables false
set_option linter.unusedSimpArgs false
namespace Go.Proofs.YtfcidgnbocijdaaDoor.Rg
open Go.RowKit Go.Proofs.YtfcidgnbocijdaaDoorW.PrintWords Go.Proofs.YtfcidgnbocijdaaDoor.Pl

def bitsL : Nat → Nat → List Int
  | 0, _ => []
  | i + 1, s => if s.testBit i then bitsL i s ++ [(i : Int)] else bitsL i s
/-- What is settled by a number's bits. -/
def setL : Nat → Nat → List Int
  | 0, _ => []
  | i + 1, s => if s.testBit i then setL i s ++ [1] else setL i s ++ [2]
theorem setL_len (s : Nat) : ∀ i, (setL i s).length = i
  | 0 => rfl
  | i + 1 => by
    rw [setL]
    by_cases h : s.testBit i = true
    · rw [if_pos h, List.length_append, setL_len s i]; rfl
    · rw [if_neg h, List.length_append, setL_len s i]; rfl
theorem set_draws (s : Nat) : ∀ i, Draws (setL i s) (bitsL i s)
  | 0 => Draws.nil
  | i + 1 => by
    rw [setL, bitsL]
    by_cases h : s.testBit i = true
    · rw [if_pos h, if_pos h]
      have := (set_draws s i).yes
      rw [setL_len] at this
      exact this
    · rw [if_neg h, if_neg h]
      exact (set_draws s i).no (by decide)
theorem setL_ok (s : Nat) : ∀ i, ∀ x ∈ setL i s, x = 1 ∨ x = 2
  | 0, x, h => by cases h
  | i + 1, x, h => by
    rw [setL] at h
    by_cases c : s.testBit i = true
    · rw [if_pos c] at h
      rcases List.mem_append.1 h with h | h
      · exact setL_ok s i x h
      · exact Or.inl (List.mem_singleton.1 h)
    · rw [if_neg c] at h
      rcases List.mem_append.1 h with h | h
      · exact setL_ok s i x h
      · exact Or.inr (List.mem_singleton.1 h)
theorem risesF_snoc {n m : Int} (hnm : n ≤ m) : ∀ {l : List Int} {last : Int}, risesF n last l = true → last < n → risesF (m + 1) last (l ++ [m]) = true
  | [], last, _, h => by simp only [List.nil_append, risesF, Bool.and_eq_true, decide_eq_true_eq]; exact ⟨⟨by omega, by omega⟩, trivial⟩
  | s :: t, last, h, hl => by
    simp only [List.cons_append, risesF, Bool.and_eq_true, decide_eq_true_eq] at h ⊢
    exact ⟨⟨h.1.1, by omega⟩, risesF_snoc hnm h.2 h.1.2⟩
theorem risesF_more {n m : Int} (hnm : n ≤ m) : ∀ {l : List Int} {last : Int}, risesF n last l = true → risesF m last l = true
  | [], _, _ => rfl
  | s :: t, last, h => by
    simp only [risesF, Bool.and_eq_true, decide_eq_true_eq] at h ⊢
    exact ⟨⟨h.1.1, by omega⟩, risesF_more hnm h.2⟩
theorem bits_rises (s : Nat) : ∀ n, rises n (bitsL n s) = true
  | 0 => rfl
  | n + 1 => by
    have ih := bits_rises s n
    unfold rises at ih ⊢
    rw [bitsL]
    by_cases h : s.testBit n = true
    · rw [if_pos h]
      have := risesF_snoc (m := (n : Int)) (Int.le_refl _) ih (by omega)
      rw [show ((n + 1 : Nat) : Int) = (n : Int) + 1 by omega]
      exact this
    · rw [if_neg h]
      exact risesF_more (by omega) ih
theorem risesF_last {n : Int} : ∀ {l : List Int} {last : Int}, risesF (n + 1) last l = true → risesF n last l = true ∨ ∃ l', l = l' ++ [n] ∧ risesF n last l' = true
  | [], _, _ => Or.inl rfl
  | s :: t, last, h => by
    simp only [risesF, Bool.and_eq_true, decide_eq_true_eq] at h
    obtain ⟨⟨h1, h2⟩, h3⟩ := h
    rcases risesF_last h3 with h4 | ⟨t', rfl, h4⟩
    · by_cases e : s = n
      · subst e
        refine Or.inr ⟨[], ?_, rfl⟩
        cases t with
        | nil => rfl
        | cons x y =>
          simp only [risesF, Bool.and_eq_true, decide_eq_true_eq] at h4
          omega
      · refine Or.inl ?_
        simp only [risesF, Bool.and_eq_true, decide_eq_true_eq]
        exact ⟨⟨h1, by omega⟩, h4⟩
    · refine Or.inr ⟨s :: t', rfl, ?_⟩
      have h5 := risesF_mem h3 n (by simp)
      simp only [risesF, Bool.and_eq_true, decide_eq_true_eq]
      exact ⟨⟨h1, by omega⟩, h4⟩
theorem bitsL_congr {s s' : Nat} : ∀ {n : Nat}, (∀ j, j < n → s.testBit j = s'.testBit j) → bitsL n s = bitsL n s'
  | 0, _ => rfl
  | n + 1, h => by
    rw [bitsL, bitsL, h n (by omega), bitsL_congr (n := n) (fun j hj => h j (by omega))]
theorem rises_bits : ∀ {n : Nat} {l : List Int}, rises n l = true → ∃ s, s < 2 ^ n ∧ l = bitsL n s
  | 0, l, h => ⟨0, by decide, by
      cases l with
      | nil => rfl
      | cons x y =>
        simp only [rises, risesF, Bool.and_eq_true, decide_eq_true_eq] at h
        omega⟩
  | n + 1, l, h => by
    unfold rises at h
    rw [show ((n + 1 : Nat) : Int) = (n : Int) + 1 by omega] at h
    rcases risesF_last h with h1 | ⟨l', rfl, h1⟩
    · obtain ⟨s, hs, rfl⟩ := rises_bits (n := n) (l := l) h1
      refine ⟨s, by rw [Nat.pow_succ]; omega, ?_⟩
      rw [bitsL, Nat.testBit_lt_two_pow hs, if_neg (by decide)]
    · obtain ⟨s, hs, rfl⟩ := rises_bits (n := n) (l := l') h1
      refine ⟨2 ^ n + s, by rw [Nat.pow_succ]; omega, ?_⟩
      rw [bitsL, Nat.testBit_two_pow_add_eq, Nat.testBit_lt_two_pow hs, Bool.not_false, if_pos rfl, bitsL_congr (s := 2 ^ n + s) (s' := s) (fun j hj => Nat.testBit_two_pow_add_gt hj s)]
theorem rises_iff {n : Nat} {l : List Int} : rises n l = true ↔ ∃ s, s < 2 ^ n ∧ l = bitsL n s :=
  ⟨rises_bits, fun ⟨s, _, e⟩ => e ▸ bits_rises s n⟩
theorem bitsL_zero : ∀ n, bitsL n 0 = []
  | 0 => rfl
  | n + 1 => by rw [bitsL, Nat.zero_testBit, if_neg (by decide), bitsL_zero n]
end Go.Proofs.YtfcidgnbocijdaaDoor.Rg
