/- What 'cert' checks, and the document: over what is there for CertMakes. For the statement CertLooks. -/
import Derived.Test.YtfcidgnbocijdaaDoorCtMCertLooks
set_option linter.unusedVariables false
set_option linter.unusedSimpArgs false
namespace Go.Proofs.YtfcidgnbocijdaaDoor.CtKCertLooks
open Go.RowKit Go.Proofs.YtfcidgnbocijdaaDoorW.PrintWords Go.Proofs.YtfcidgnbocijdaaDoor.Pl Go.Proofs.YtfcidgnbocijdaaDoor.Rg Go.Proofs.YtfcidgnbocijdaaDoor.Ct Go.Proofs.YtfcidgnbocijdaaDoor.CtL Go.Proofs.YtfcidgnbocijdaaDoor.RgWCertLooks Go.Proofs.YtfcidgnbocijdaaDoor.CtMCertLooks Go.Proofs.YtfcidgnbocijdaaDoor.PCertMakes Go.Proofs.YtfcidgnbocijdaaDoor.PCertLooks
/-- The last place of a 1; -1: there is none. -/
def Last (S : List Int) (r : Int) : Prop := (r = -1 ∧ ∀ j, j < S.length → S.getD j 0 ≠ 1) ∨ (0 ≤ r ∧ r < S.length ∧ S.getD r.toNat 0 = 1 ∧ ∀ j : Nat, r < j → j < S.length → S.getD j 0 ≠ 1)
theorem Last.uniq {S : List Int} {r s : Int} (h : Last S r) (k : Last S s) : r = s := by
  rcases h with ⟨rfl, h⟩ | ⟨h0, h1, h2, h3⟩ <;> rcases k with ⟨rfl, k⟩ | ⟨k0, k1, k2, k3⟩
  · rfl
  · exact absurd k2 (h _ (by omega))
  · exact absurd h2 (k _ (by omega))
  · rcases Int.lt_trichotomy r s with hlt | he | hgt
    · exact absurd k2 (h3 s.toNat (by omega) (by omega))
    · exact he
    · exact absurd h2 (k3 r.toNat (by omega) (by omega))
theorem last_prog_loop (S : List Int) (hS : S.length < 9223372036854775807) : ∀ (i : Nat), i ≤ S.length → (∀ j, i ≤ j → j < S.length → S.getD j 0 ≠ 1) → ∃ r, Last S r ∧ Ev (fun k => bytealg_LastIndexByte.l0 k S 1 ((i : Int) - 1)) r := by
  intro i
  induction i with
  | zero =>
    intro hi h
    refine ⟨-1, .inl ⟨rfl, fun j hj => h j (by omega) hj⟩, succ ?_⟩
    simp only [bytealg_LastIndexByte.l0]
    exact neg (by omega) (ret rfl)
  | succ i ih =>
    intro hi h
    by_cases hx : S.getD i 0 = 1
    · refine ⟨(i : Int), .inr ⟨by omega, by omega, by simpa using hx, fun j hj hl => h j (by omega) hl⟩, succ ?_⟩
      simp only [bytealg_LastIndexByte.l0]
      rw [show (((i + 1 : Nat) : Int) - 1) = (i : Int) by omega, rdN]
      exact pos (by omega) (pos (by omega) (pos (by omega) (pos hx (ret rfl))))
    · obtain ⟨r, hr, he⟩ := ih (by omega) (fun j hj hl => by
        by_cases e : j = i
        · subst e; exact hx
        · exact h j (by omega) hl)
      refine ⟨r, hr, succ ?_⟩
      simp only [bytealg_LastIndexByte.l0]
      rw [show (((i + 1 : Nat) : Int) - 1) = (i : Int) by omega, rdN, wrapI (by omega) (by omega)]
      exact pos (by omega) (pos (by omega) (pos (by omega) (neg hx he)))
theorem last_prog (S : List Int) (hS : S.length < 9223372036854775807) : ∃ r, Last S r ∧ Ev (fun k => bytes_LastIndexByte.f k S 1) r := by
  obtain ⟨r, hr, he⟩ := last_prog_loop S hS S.length (Nat.le_refl _) (fun j hj hl => by omega)
  refine ⟨r, hr, ?_⟩
  unfold bytes_LastIndexByte.f bytealg_LastIndexByte.f
  rw [wrapI (by omega) (by omega)]
  exact bnd he (ret rfl)
theorem last_ref_loop (S : List Int) (hS : S.length < 9223372036854775807) : ∀ (d i : Nat) (r : Int), S.length - i = d → i ≤ S.length →
    ((r = -1 ∧ ∀ j, j < i → S.getD j 0 ≠ 1) ∨ (0 ≤ r ∧ r < i ∧ S.getD r.toNat 0 = 1 ∧ ∀ j : Nat, r < j → j < i → S.getD j 0 ≠ 1)) → ∃ r', Last S r' ∧ Ev (fun k => diapasonref27_last.l0 k S r (i : Int)) r' := by
  intro d
  induction d with
  | zero =>
    intro i r hd hi h
    have : i = S.length := by omega
    subst this
    refine ⟨r, h, succ ?_⟩
    simp only [diapasonref27_last.l0]
    exact neg (by omega) (ret rfl)
  | succ d ih =>
    intro i r hd hi h
    by_cases hx : S.getD i 0 = 1
    · obtain ⟨r', hr, he⟩ := ih (i + 1) (i : Int) (by omega) (by omega) (.inr ⟨by omega, by omega, by simpa using hx, fun j hj hl => by omega⟩)
      refine ⟨r', hr, succ ?_⟩
      simp only [diapasonref27_last.l0]
      rw [rdN, wrapS (by omega)]
      exact pos (by omega) (pos (by omega) (pos hx he))
    · obtain ⟨r', hr, he⟩ := ih (i + 1) r (by omega) (by omega) (by
        rcases h with ⟨h1, h2⟩ | ⟨h1, h2, h3, h4⟩
        · refine .inl ⟨h1, fun j hj => ?_⟩
          by_cases e : j = i
          · subst e; exact hx
          · exact h2 j (by omega)
        · refine .inr ⟨h1, by omega, h3, fun j hj hl => ?_⟩
          by_cases e : j = i
          · subst e; exact hx
          · exact h4 j hj (by omega))
      refine ⟨r', hr, succ ?_⟩
      simp only [diapasonref27_last.l0]
      rw [rdN, wrapS (by omega)]
      exact pos (by omega) (pos (by omega) (neg hx he))
theorem last_ref (S : List Int) (hS : S.length < 9223372036854775807) : ∃ r, Last S r ∧ Ev (fun k => diapasonref27_last.f k S) r := by
  unfold diapasonref27_last.f
  exact last_ref_loop S hS _ 0 (-1) rfl (by omega) (.inl ⟨rfl, fun j hj => by omega⟩)
/-- How the node behind one begins, by the place of its last 1. -/
def after (S : List Int) (r : Int) : List Int := if r < 0 then [] else S.take r.toNat ++ [2]
theorem next_at (S : List Int) (hS : S.length < 140737488355328) : ∃ r, Last S r ∧ Ev (fun k => cert_next.f k S) (after S r, decide (0 ≤ r)) := by
  obtain ⟨r, hr, he⟩ := last_prog S (by omega)
  refine ⟨r, hr, ?_⟩
  unfold cert_next.f
  refine bnd he ?_
  by_cases h : r < 0
  · refine pos h (ret ?_)
    rw [after, if_pos h, decide_eq_false (by omega)]
  · have hb : r < S.length := by rcases hr with ⟨rfl, _⟩ | ⟨_, h1, _⟩ <;> omega
    have hl : (S.take r.toNat).length ≤ S.length := by rw [List.length_take]; omega
    refine neg h (pos (by omega) (pos (by omega) ?_))
    have hc : slices_Clone_uint8_uint8.f (S.take r.toNat) = some (S.take r.toNat) := by
      unfold slices_Clone_uint8_uint8.f
      rw [if_pos (by omega)]
    rw [hc]
    refine some_bnd (pos (by omega) (ret ?_))
    rw [after, if_neg h, decide_eq_true (by omega)]
/-- begins as so, and goes on with 1s alone -/
def beg (S T : List Int) : Bool := T.isPrefixOf S && (S.drop T.length).all (fun x => decide (x = 1))
theorem beg_prog {S T : List Int} (hS : S.all ok12 = true) (hT : T.all ok12 = true) : cert_begins.f S T = some (beg S T) := by
  have ok : ∀ {l : List Int}, l.all ok12 = true → cert_begins.ok l = true := by
    intro l h
    unfold cert_begins.ok
    rw [List.all_eq_true] at h ⊢
    intro x hx
    have := h x hx
    unfold ok12 at this
    simp only [Bool.or_eq_true, beq_iff_eq] at this
    simp only [decide_eq_true_eq, Bool.and_eq_true]
    omega
  unfold cert_begins.f
  rw [if_pos ⟨ok hS, ok hT⟩]
  rfl
theorem after_ok {S : List Int} (hS : S.all ok12 = true) (r : Int) : (after S r).all ok12 = true := by
  unfold after
  split
  · rfl
  · rw [List.all_append, Bool.and_eq_true]
    refine ⟨?_, by decide⟩
    rw [List.all_eq_true] at hS ⊢
    exact fun x hx => hS x (List.mem_of_mem_take hx)
theorem fol_loop (T S : List Int) (hS : S.length < 9223372036854775807) (hT : T.length ≤ S.length) : ∀ (d i : Nat), S.length - i = d → i ≤ S.length →
    Ev (fun k => diapasonref27_follows.l0 k T S (i : Int)) ((T.drop i).isPrefixOf (S.drop i) && (S.drop (max i T.length)).all (fun x => decide (x = 1))) := by
  intro d
  induction d with
  | zero =>
    intro i hd hi
    refine succ ?_
    simp only [diapasonref27_follows.l0]
    refine neg (by omega) (ret ?_)
    rw [List.drop_of_length_le (by omega : T.length ≤ i), List.drop_of_length_le (by omega : S.length ≤ max i T.length)]
    simp
  | succ d ih =>
    intro i hd hi
    have hn := ih (i + 1) (by omega) (by omega)
    refine succ ?_
    simp only [diapasonref27_follows.l0]
    rw [rdN, rdN, wrapS (by omega)]
    have eS : S.drop i = S.getD i 0 :: S.drop (i + 1) := drop_cons S 0 i (by omega)
    refine pos (by omega) ?_
    by_cases h : i < T.length
    · have eT : T.drop i = T.getD i 0 :: T.drop (i + 1) := drop_cons T 0 i h
      have em : max i T.length = max (i + 1) T.length := by omega
      rw [eS, eT, em]
      refine pos (by omega) (pos (by omega) ?_)
      by_cases hx : S.getD i 0 = T.getD i 0
      · refine pos hx (neg (by omega) (cast_eq hn ?_))
        simp only [List.isPrefixOf, hx, beq_self_eq_true, Bool.true_and]
      · refine neg hx (ret ?_)
        have : (T.getD i 0 == S.getD i 0) = false := beq_eq_false_iff_ne.2 (fun e => hx e.symm)
        simp only [List.isPrefixOf, this, Bool.false_and]
    · rw [List.drop_of_length_le (by omega : T.length ≤ i + 1), show max (i + 1) T.length = i + 1 by omega] at hn
      rw [List.drop_of_length_le (by omega : T.length ≤ i), show max i T.length = i by omega, eS]
      refine neg (by omega) (pos (by omega) (pos (by omega) ?_))
      by_cases hx : S.getD i 0 = 1
      · refine pos hx (cast_eq hn ?_)
        simp only [List.isPrefixOf, List.all_cons, hx, decide_true, Bool.true_and]
      · refine neg hx (ret ?_)
        simp only [List.isPrefixOf, List.all_cons, decide_eq_false hx, Bool.false_and, Bool.and_false]
theorem fol_j0 (l : List S66) (i : Nat) (hi : i < l.length) (T : List Int) (hS : (rd_T66 l (i : Int)).f0.length < 9223372036854775807) : Ev (fun k => diapasonref27_follows.j0 k l (i : Int) T) (beg (rd_T66 l (i : Int)).f0 T) := by
  refine succ ?_
  simp only [diapasonref27_follows.j0]
  refine pos (by omega) (pos (by omega) ?_)
  generalize (rd_T66 l (i : Int)).f0 = S at *
  by_cases h : S.length < T.length
  · refine pos (by omega) (ret ?_)
    have : T.isPrefixOf S = false := by
      rw [Bool.eq_false_iff]
      intro hc
      have := (List.isPrefixOf_iff_prefix.1 hc).length_le
      omega
    rw [beg, this]; rfl
  · refine neg (by omega) ?_
    have := fol_loop T S hS (by omega) _ 0 rfl (by omega)
    simpa [beg] using this
theorem fol_first (l : List S66) (hl : 0 < l.length) (hS : (rd_T66 l 0).f0.length < 9223372036854775807) : Ev (fun k => diapasonref27_follows.f k l 0) (beg (rd_T66 l 0).f0 []) := by
  unfold diapasonref27_follows.f
  exact neg (by omega) (fol_j0 l 0 hl [] hS)
theorem fol_next (l : List S66) (i : Nat) (hi : i + 1 < l.length) (hll : l.length < 9223372036854775807) (hS0 : (rd_T66 l (i : Int)).f0.length < 140737488355328) (hS : (rd_T66 l ((i + 1 : Nat) : Int)).f0.length < 9223372036854775807) {r : Int} (hr : Last (rd_T66 l (i : Int)).f0 r) :
    Ev (fun k => diapasonref27_follows.f k l ((i + 1 : Nat) : Int)) (decide (0 ≤ r) && beg (rd_T66 l ((i + 1 : Nat) : Int)).f0 (after (rd_T66 l (i : Int)).f0 r)) := by
  unfold diapasonref27_follows.f
  rw [show wrap64 (((i + 1 : Nat) : Int) - 1) = (i : Int) by rw [wrapI (by omega) (by omega)]; omega]
  refine pos (by omega) (pos (by omega) (pos (by omega) ?_))
  obtain ⟨r', hr', he⟩ := last_ref (rd_T66 l (i : Int)).f0 (by omega)
  obtain rfl := hr'.uniq hr
  refine bnd he ?_
  have hj := fol_j0 l (i + 1) hi (after (rd_T66 l (i : Int)).f0 r') hS
  generalize (rd_T66 l (i : Int)).f0 = S at *
  by_cases h : r' < 0
  · refine pos h (ret ?_)
    rw [decide_eq_false (by omega)]; rfl
  · have hb : r' < S.length := by rcases hr with ⟨rfl, _⟩ | ⟨_, h1, _⟩ <;> omega
    have hl : (S.take r'.toNat).length ≤ S.length := by rw [List.length_take]; omega
    rw [after, if_neg h] at hj
    refine neg h (pos (by omega) (pos (by omega) (pos (by simpa using by omega) ?_)))
    refine some_bnd (pos (by simpa using by omega) (cast_eq hj ?_))
    rw [after, if_neg h, decide_eq_true (by omega)]; rfl
end Go.Proofs.YtfcidgnbocijdaaDoor.CtKCertLooks
