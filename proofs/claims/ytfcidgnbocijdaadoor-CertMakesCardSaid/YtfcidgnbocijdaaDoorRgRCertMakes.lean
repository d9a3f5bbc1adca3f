/- The reference's best choice, found by going through all sets, is the best of all that fit; it is the only one. For the statement CertMakes. -/
import Derived.Test.YtfcidgnbocijdaaDoorRgU
import Derived.Test.YtfcidgnbocijdaaDoorRgGCertMakes
set_option linter.unusedVariables false
set_option linter.unusedSimpArgs false
namespace Go.Proofs.YtfcidgnbocijdaaDoor.RgRCertMakes
open Go.RowKit Go.Proofs.YtfcidgnbocijdaaDoorW.PrintWords Go.Proofs.YtfcidgnbocijdaaDoor.Pl Go.Proofs.YtfcidgnbocijdaaDoor.Rg Go.Proofs.YtfcidgnbocijdaaDoor.RgCertMakes Go.Proofs.YtfcidgnbocijdaaDoor.RgWCertMakes Go.Proofs.YtfcidgnbocijdaaDoor.RgGCertMakes Go.Proofs.YtfcidgnbocijdaaDoor.PCertMakes
theorem bit64 : ∀ s : Fin 512, ∀ i : Fin 9, (Go.bits .and .i64 (shr .i64 ((s.val : Nat) : Int) ((i.val : Nat) : Int)) 1 = 1) ↔ s.val.testBit i.val = true := by decide +kernel
theorem bit_and {s i : Nat} (hs : s < 512) (hi : i < 9) : (Go.bits .and .i64 (shr .i64 (s : Int) (i : Int)) 1 = 1) ↔ s.testBit i = true := bit64 ⟨s, hs⟩ ⟨i, hi⟩
theorem shl1 : ∀ n : Fin 10, shl .i64 1 ((n.val : Nat) : Int) = ((2 ^ n.val : Nat) : Int) := by decide +kernel
theorem stops_loop (n s : Nat) (hn : n ≤ 9) (hs : s < 512) : ∀ (d i : Nat), n - i = d → i ≤ n → Ev (fun k => diapasonref26_Stops.l0 k (n : Int) (s : Int) (bitsL i s) (i : Int)) (bitsL n s) := by
  intro d
  induction d with
  | zero =>
    intro i hd hi
    refine succ ?_
    simp only [diapasonref26_Stops.l0]
    exact neg (by omega) (ret (by rw [show i = n by omega]))
  | succ d ih =>
    intro i hd hi
    refine succ ?_
    simp only [diapasonref26_Stops.l0]
    have hn' := ih (i + 1) (by omega) (by omega)
    rw [bitsL, ← wrapS (by omega)] at hn'
    have hl : (bitsL i s).length ≤ i := by have := (set_draws s i).len; rwa [setL_len] at this
    refine pos (by omega) (pos (by omega) (alt (fun h => ?_) (fun h => ?_)))
    · rw [if_pos ((bit_and hs (by omega)).1 h)] at hn'
      exact pos (by omega) hn'
    · rw [if_neg (fun c => h ((bit_and hs (by omega)).2 c))] at hn'
      exact hn'
section
variable {L : List Int} {Bs : List (List Int)} {Tk : List Int} {W : Int}
theorem ref_loop (h : May L Bs Tk W) (h9 : Bs.length ≤ 9) : ∀ (d s : Nat) (C : Ch), 2 ^ Bs.length - s = d → s ≤ 2 ^ Bs.length → C.1.length < 9223372036854775807 →
    ∃ R : Ch, BestOf (fun T => (∃ t, s ≤ t ∧ t < 2 ^ Bs.length ∧ T = bitsL Bs.length t) ∧ wnd Tk T ≤ W) (ch L Bs Tk) C R ∧ Ev (fun k => diapasonref26_Best.l0 k (Bs.length : Int) (s : Int) L Bs Tk W C.1 C.2.1 C.2.2) (R.1, R.2.1, R.2.2, 0) := by
  have hp : 2 ^ Bs.length ≤ 512 := by
    calc 2 ^ Bs.length ≤ 2 ^ 9 := Nat.pow_le_pow_right (by decide) h9
      _ = 512 := rfl
  have hs1 : shl .i64 1 (Bs.length : Int) = ((2 ^ Bs.length : Nat) : Int) := shl1 ⟨Bs.length, by omega⟩
  intro d
  induction d with
  | zero =>
    intro s C hd hs hC
    refine ⟨C, BestOf.none (fun T ⟨⟨t, h1, h2, _⟩, _⟩ => by omega), succ ?_⟩
    simp only [diapasonref26_Best.l0]
    rw [hs1]
    exact pos (by omega) (neg (by omega) (ret rfl))
  | succ d ih =>
    intro s C hd hs hC
    have hr := bits_rises s Bs.length
    have hlen := rises_len hr
    have hch := ref_choice h (l := bitsL Bs.length s) (by omega) (rises_mem hr)
    by_cases hw : wnd Tk (bitsL Bs.length s) ≤ W
    · have b1 : BestOf (fun T => T = bitsL Bs.length s) (ch L Bs Tk) C (if better (bitsL Bs.length s) (miss L Bs (bitsL Bs.length s)) (wnd Tk (bitsL Bs.length s)) C.1 C.2.1 C.2.2 then ch L Bs Tk (bitsL Bs.length s) else C) := BestOf.one (fun U => Iff.rfl) _ Iff.rfl
      obtain ⟨R, b2, e2⟩ := ih (s + 1) (if better (bitsL Bs.length s) (miss L Bs (bitsL Bs.length s)) (wnd Tk (bitsL Bs.length s)) C.1 C.2.1 C.2.2 then ch L Bs Tk (bitsL Bs.length s) else C) (by omega) (by omega) (by
        split
        · show (bitsL _ _).length < _; omega
        · exact hC)
      refine ⟨R, (b1.then b2).iff (fun T => ?_), succ ?_⟩
      · constructor
        · rintro (rfl | ⟨⟨t, h1, h2, h3⟩, h4⟩)
          · exact ⟨⟨s, by omega, by omega, rfl⟩, hw⟩
          · exact ⟨⟨t, by omega, h2, h3⟩, h4⟩
        · rintro ⟨⟨t, h1, h2, h3⟩, h4⟩
          by_cases e : t = s
          · subst e; exact Or.inl h3
          · exact Or.inr ⟨⟨t, by omega, h2, h3⟩, h4⟩
      · simp only [diapasonref26_Best.l0]
        rw [hs1, wrapS (by omega)]
        refine pos (by omega) (pos (by omega) (bnd (stops_loop Bs.length s h9 (by omega) _ 0 rfl (by omega)) (bnd hch (pos hw (bnd (ref_better _ _ _ _ _ _ (by omega)) ?_)))))
        cases e : better (bitsL Bs.length s) (miss L Bs (bitsL Bs.length s)) (wnd Tk (bitsL Bs.length s)) C.1 C.2.1 C.2.2 with
        | true =>
          rw [e] at e2
          exact pos rfl e2
        | false =>
          rw [e] at e2
          exact neg (by simp) e2
    · obtain ⟨R, b2, e2⟩ := ih (s + 1) C (by omega) (by omega) hC
      refine ⟨R, b2.iff (fun T => ?_), succ ?_⟩
      · constructor
        · rintro ⟨⟨t, h1, h2, h3⟩, h4⟩
          exact ⟨⟨t, by omega, h2, h3⟩, h4⟩
        · rintro ⟨⟨t, h1, h2, h3⟩, h4⟩
          by_cases e : t = s
          · subst e; subst h3; exact absurd h4 hw
          · exact ⟨⟨t, by omega, h2, h3⟩, h4⟩
      · simp only [diapasonref26_Best.l0]
        rw [hs1, wrapS (by omega)]
        exact pos (by omega) (pos (by omega) (bnd (stops_loop Bs.length s h9 (by omega) _ 0 rfl (by omega)) (bnd hch (neg hw e2))))
theorem ref_best (h : May L Bs Tk W) (h9 : Bs.length ≤ 9) : ∃ R : Ch, IsBest L Bs Tk W R ∧ Ev (fun k => diapasonref26_Best.f k L Bs Tk W) (R.1, R.2.1, R.2.2, 0) := by
  have hl16 := h.l16
  obtain ⟨R, b, e⟩ := ref_loop h h9 _ 1 (ch L Bs Tk []) rfl (Nat.pos_of_ne_zero (by have := Nat.two_pow_pos Bs.length; omega)) (by simp [ch])
  refine ⟨R, ⟨?_, fun T h1 h2 => ?_⟩, ?_⟩
  · rcases b.is with e | ⟨T, ⟨⟨t, h1, h2, h3⟩, h4⟩, e⟩
    · exact ⟨[], rfl, h.w.1, e⟩
    · exact ⟨T, h3 ▸ bits_rises t _, h4, e⟩
  · obtain ⟨t, ht, rfl⟩ := rises_bits h1
    by_cases e : t = 0
    · subst e; rw [bitsL_zero]; exact b.start
    · exact b.all _ ⟨⟨t, by omega, ht, rfl⟩, h2⟩
  · unfold diapasonref26_Best.f
    refine bnd (ref_may L Bs Tk W (by omega) (by omega) (fun r hr => by have := (h.bs r hr).1; omega)) (pos (may_iff.2 h) (bnd (ref_choice h (l := []) (by simp) (fun x hx => by cases hx)) ?_))
    exact e
theorem is_uniq {R R' : Ch} (h : IsBest L Bs Tk W R) (h' : IsBest L Bs Tk W R') : R = R' := by
  obtain ⟨T, a, b, rfl⟩ := h.it
  obtain ⟨T', a', b', rfl⟩ := h'.it
  exact bt_tot (h'.all T a b) (h.all T' a' b')
end
theorem same_loop (l : List Int) (a b c d : Int) (hl : l.length < 9223372036854775807) : ∀ (m i : Nat), l.length - i = m → i ≤ l.length → Ev (fun k => diapasonref26_Same.l0 k (i : Int) l a b l c d) true := by
  intro m
  induction m with
  | zero =>
    intro i hm hi
    refine succ ?_
    simp only [diapasonref26_Same.l0]
    exact neg (by omega) (ret rfl)
  | succ m ih =>
    intro i hm hi
    refine succ ?_
    simp only [diapasonref26_Same.l0]
    rw [wrapS (by omega)]
    exact pos (by omega) (pos (by omega) (pos (by omega) (pos (by trivial) (ih (i + 1) (by omega) (by omega)))))
theorem same (l : List Int) (a b : Int) (hl : l.length < 9223372036854775807) : Ev (fun k => diapasonref26_Same.f k l a b l a b) true := by
  unfold diapasonref26_Same.f
  refine pos rfl (pos rfl (succ ?_))
  simp only [diapasonref26_Same.j0]
  exact neg (by simp) (same_loop l a b a b hl _ 0 rfl (by omega))
end Go.Proofs.YtfcidgnbocijdaaDoor.RgRCertMakes
