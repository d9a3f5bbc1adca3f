/- No choice of stops that fits is better than the one that Best tells, which misses and takes what Misses tells; with more wind no more is missed. For every want that the statement makes. -/
import Derived.Test.YtbpamdgpfjaggaaRgTRegisNone
import Derived.Test.YtbpamdgpfjaggaaRgGRegisNone
set_option linter.unusedVariables false
namespace Go.Proofs.Ytbpamdgpfjaggaa.Pure
open Go.RowKit Go.Proofs.YtbpamdgpfjaggaaW.PrintWords Go.Proofs.Ytbpamdgpfjaggaa.Pl Go.Proofs.Ytbpamdgpfjaggaa.Rg Go.Proofs.Ytbpamdgpfjaggaa.RgRegisNone Go.Proofs.Ytbpamdgpfjaggaa.RgWRegisNone Go.Proofs.Ytbpamdgpfjaggaa.RgTRegisNone Go.Proofs.Ytbpamdgpfjaggaa.RgGRegisNone Go.Proofs.Ytbpamdgpfjaggaa.PRegisNone
theorem shl1 : ∀ n : Fin 9, shl .i64 1 ((n.val : Nat) : Int) = ((2 ^ n.val : Nat) : Int) := by decide +kernel
theorem none_tail {L : List Int} {Bs : List (List Int)} {Tk : List Int} {W : Int} (h : May L Bs Tk W) {R : Ch} (hR : IsBest L Bs Tk W R) (a b c d e : Int) (hd : 0 ≤ e ∧ e ≤ 255) (hW : W ≤ 255) : Ev (fun k => (regis_Best.f k L Bs Tk (wrap64 (W + wrap64 e))).bind fun bt234 => if bt234.2.2.2 = 0 then (if bt234.2.1 ≤ R.2.1 then ((diapasonlaw26_works.f k).bind fun t241 => (some t241)) else (some false)) else (some false)) true := by
  have hw0 := h.w
  rw [wrapI (x := e) (by omega) (by omega), wrapI (by omega) (by omega)]
  have h' : May L Bs Tk (W + e) := { h with w := ⟨by omega, by omega⟩ }
  obtain ⟨R', b', e'⟩ := best h'
  have hR' := is_best h' b'
  refine bnd e' (pos rfl (pos ?_ (bnd works (ret rfl))))
  obtain ⟨T, h1, h2, rfl⟩ := hR.it
  have h3 := hR'.all T h1 (by omega)
  rw [bt_iff] at h3
  have : ¬ (ch L Bs Tk T).2.1 < R'.2.1 := fun c => h3 (Or.inl c)
  simp only at this ⊢
  omega
theorem none_loop {L : List Int} {Bs : List (List Int)} {Tk : List Int} {W : Int} (h : May L Bs Tk W) (hb8 : Bs.length ≤ 8) {R : Ch} (hR : IsBest L Bs Tk W R) (a b c d e : Int) (he : 0 ≤ e ∧ e ≤ 255) (hW : W ≤ 255) : ∀ (m s : Nat), 2 ^ Bs.length - s = m → s ≤ 2 ^ Bs.length →
    Ev (fun k => diapasonlaw26_RegisNone.l0 k (Bs.length : Int) (s : Int) a b c d e L Bs Tk W R.1 R.2.1 R.2.2) true := by
  have hp : 2 ^ Bs.length ≤ 256 := by
    calc 2 ^ Bs.length ≤ 2 ^ 8 := Nat.pow_le_pow_right (by decide) hb8
      _ = 256 := rfl
  have hs1 : shl .i64 1 (Bs.length : Int) = ((2 ^ Bs.length : Nat) : Int) := shl1 ⟨Bs.length, by omega⟩
  intro m
  induction m with
  | zero =>
    intro s hm hs
    refine succ ?_
    simp only [diapasonlaw26_RegisNone.l0]
    rw [hs1]
    exact pos (by omega) (neg (by omega) (none_tail h hR a b c d e he hW))
  | succ m ih =>
    intro s hm hs
    refine succ ?_
    simp only [diapasonlaw26_RegisNone.l0]
    rw [hs1, wrapS (by omega)]
    have hr := bits_rises s Bs.length
    refine pos (by omega) (pos (by omega) (bnd (stops (by omega) (by omega)) (bnd (told_rises h hr) (pos rfl ?_))))
    refine alt (fun h1 => ?_) (fun h1 => ih (s + 1) (by omega) (by omega))
    refine bnd (prog_better _ _ _ _ _ _ (by have := rises_len hr; omega)) (neg ?_ (ih (s + 1) (by omega) (by omega)))
    have := hR.all _ hr h1
    exact this
theorem RegisNone : diapasonlaw26_RegisNone.Pure := by
  intro l a b c w e h1 h2 h3 h4 h5 h6 h7 h8
  obtain ⟨L, Bs, Tk, e1, hm, hb8⟩ := of_want l h3 (by omega) h4 h5 h6 h7
  obtain ⟨R, bR, eR⟩ := best hm
  have hR := is_best hm bR
  obtain ⟨T, t1, t2, t3⟩ := hR.it
  have hw := wfu8 h7
  have he := wfu8 h8
  have hl := none_loop hm hb8 hR a b c w e he (by omega) _ 0 rfl (Nat.zero_le _)
  have hms := told_rises hm t1
  refine Ev.rounds (r := true) ?_
  unfold diapasonlaw26_RegisNone.f
  subst t3
  refine bnd e1 (bnd eR (pos rfl (bnd hms (pos rfl (pos rfl (pos rfl (succ ?_)))))))
  simp only [diapasonlaw26_RegisNone.j0]
  exact neg (by simp only [decide_eq_true_eq]; omega) hl
end Go.Proofs.Ytbpamdgpfjaggaa.Pure
