/- A bound is never above what a choice misses that is settled so; one more settled is never below; all settled it is what the choice misses. For every want and every set of stops that the statement makes. -/
import Derived.Test.YtbpamdgpfjaggaaRgTRegisBounds
set_option linter.unusedVariables false
namespace Go.Proofs.Ytbpamdgpfjaggaa.Pure
open Go.RowKit Go.Proofs.YtbpamdgpfjaggaaW.PrintWords Go.Proofs.Ytbpamdgpfjaggaa.Pl Go.Proofs.Ytbpamdgpfjaggaa.Rg Go.Proofs.Ytbpamdgpfjaggaa.RgWRegisBounds Go.Proofs.Ytbpamdgpfjaggaa.RgTRegisBounds Go.Proofs.Ytbpamdgpfjaggaa.PRegisBounds
theorem bit8 : ∀ s : Fin 256, ∀ i : Fin 9, (Go.bits .and .u8 (shr .u8 ((s.val : Nat) : Int) ((i.val : Nat) : Int)) 1 = 1) ↔ s.val.testBit i.val = true := by decide +kernel
theorem on_bits (n s : Nat) : ∀ (d i : Nat), n - i = d → i ≤ n → On n i (bitsL i s) (bitsL n s) := by
  intro d
  induction d with
  | zero => intro i hd hi; rw [show i = n by omega, on_end]
  | succ d ih =>
    intro i hd hi
    have := ih (i + 1) (by omega) (by omega)
    rw [bitsL] at this
    rw [on_step (by omega)]
    by_cases h : s.testBit i = true
    · rw [if_pos h] at this; exact Or.inl this
    · rw [if_neg h] at this; exact Or.inr this
theorem bound_at {L : List Int} {Bs : List (List Int)} {Tk : List Int} {W : Int} (h : May L Bs Tk W) {S : List Int} (hS : S.length ≤ Bs.length) (hx : ∀ x ∈ S, x = 1 ∨ x = 2) : Ev (fun k => regis_Bound.f k L Bs Tk W S) (Rg.least L Bs S, 0) := by
  have h1 := h.l16
  have h2 := h.b16
  have h3 := h.tb
  have := prog_bound L Bs Tk W S (by omega) (by omega) (by omega) (fun r hr => by have := (h.bs r hr).1; omega) (by omega)
  rw [bound, if_pos ⟨may_iff.2 h, hS, List.all_eq_true.2 (fun x hx' => by
    rcases hx x hx' with rfl | rfl
    · rfl
    · rfl)⟩] at this
  exact this
theorem bounds_loop {L : List Int} {Bs : List (List Int)} {Tk : List Int} {W : Int} (h : May L Bs Tk W) (hb8 : Bs.length ≤ 8) (s : Nat) (hs : s < 256) : ∀ (d i : Nat) (last : Int), Bs.length + 1 - i = d → i ≤ Bs.length + 1 → (i ≤ Bs.length → last ≤ Rg.least L Bs (setL i s)) →
    Ev (fun k => diapasonlaw26_RegisBounds.l0 k (s : Int) (Bs.length : Int) (miss L Bs (bitsL Bs.length s)) last (setL i s) (i : Int) L Bs Tk W) true := by
  intro d
  induction d with
  | zero =>
    intro i last hd hi hl
    refine succ ?_
    simp only [diapasonlaw26_RegisBounds.l0]
    exact neg (by omega) (bnd works (ret rfl))
  | succ d ih =>
    intro i last hd hi hl
    have hl1 := hl (by omega)
    have hlen := setL_len s i
    have hup := least_on h (set_draws s i) (by rw [hlen]; omega) (by rw [hlen]; exact on_bits Bs.length s _ i rfl (by omega))
    have next : Ev (fun k => diapasonlaw26_RegisBounds.j1 k (s : Int) (Bs.length : Int) (miss L Bs (bitsL Bs.length s)) (setL i s) (i : Int) (Rg.least L Bs (setL i s)) false L Bs Tk W) true := by
      refine succ ?_
      simp only [diapasonlaw26_RegisBounds.j1]
      have hn := ih (i + 1) (Rg.least L Bs (setL i s)) (by omega) (by omega) (fun hi' => by
        rw [setL]
        by_cases c : s.testBit i = true
        · rw [if_pos c]; exact least_snoc h _ _ (by omega)
        · rw [if_neg c]; exact least_snoc h _ _ (by omega))
      rw [setL, ← wrapS (by omega)] at hn
      have hb := bit8 ⟨s, hs⟩ ⟨i, by omega⟩
      simp only at hb
      refine neg (by decide) (pos (by omega) (alt (fun c => ?_) (fun c => ?_)))
      · rw [if_pos (hb.1 c)] at hn
        exact pos (by omega) hn
      · rw [if_neg (fun e => c (hb.2 e))] at hn
        exact pos (by omega) hn
    refine succ ?_
    simp only [diapasonlaw26_RegisBounds.l0]
    refine pos (by omega) (bnd (bound_at h (by omega) (setL_ok s i)) (pos rfl (neg (by omega) (neg (by omega) (alt (fun c => ?_) (fun c => next))))))
    have e : Rg.least L Bs (setL i s) = miss L Bs (bitsL Bs.length s) := by
      have hi' : i = Bs.length := by omega
      rw [hi'] at hlen ⊢
      exact least_full h (set_draws s Bs.length) hlen
    rw [e, bne_self_eq_false, ← e]
    rw [← e] at next
    exact next
theorem RegisBounds : diapasonlaw26_RegisBounds.Pure := by
  intro l a b c w e s h1 h2 h3 h4 h5 h6 h7 h8 h9
  obtain ⟨L, Bs, Tk, e1, hm, hb8⟩ := of_want l h3 (by omega) h4 h5 h6 h7
  have hs := wfu8 h9
  obtain ⟨t, rfl⟩ : ∃ t : Nat, s = t := ⟨s.toNat, by omega⟩
  have hl0 := least_ok hm (setL 0 t) L.length hm.l16
  have hl := bounds_loop hm hb8 t (by omega) _ 0 0 rfl (by omega) (fun _ => hl0.1)
  refine Ev.rounds (r := true) ?_
  unfold diapasonlaw26_RegisBounds.f
  rw [wrapI (by omega) (by omega)]
  exact bnd e1 (bnd (stops (n := Bs.length) (s := t) (by omega) (by omega)) (bnd (told_rises hm (bits_rises t Bs.length)) (pos rfl hl)))
end Go.Proofs.Ytbpamdgpfjaggaa.Pure
