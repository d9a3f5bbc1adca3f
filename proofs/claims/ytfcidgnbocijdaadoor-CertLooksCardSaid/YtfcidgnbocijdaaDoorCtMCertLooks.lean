/- What the program's shut and Make, and the reference's, compute: the leaves that are shut. For the statement CertLooks. -/
import Derived.Test.YtfcidgnbocijdaaDoorCtL
import Derived.Test.YtfcidgnbocijdaaDoorRgWCertLooks
set_option linter.unusedVariables false
set_option linter.unusedSimpArgs false
namespace Go.Proofs.YtfcidgnbocijdaaDoor.CtMCertLooks
open Go.RowKit Go.Proofs.YtfcidgnbocijdaaDoorW.PrintWords Go.Proofs.YtfcidgnbocijdaaDoor.Pl Go.Proofs.YtfcidgnbocijdaaDoor.Rg Go.Proofs.YtfcidgnbocijdaaDoor.Ct Go.Proofs.YtfcidgnbocijdaaDoor.CtL Go.Proofs.YtfcidgnbocijdaaDoor.RgWCertLooks Go.Proofs.YtfcidgnbocijdaaDoor.PCertMakes Go.Proofs.YtfcidgnbocijdaaDoor.PCertLooks
section
variable {L : List Int} {Bs : List (List Int)} {Tk : List Int} {W : Int}
def mk (p : List Int × Int) : S66 := ⟨p.1, p.2⟩
def wf (Tk S : List Int) (j : Nat) : Int := if j < S.length ∧ S.getD j 0 = 1 then Tk.getD j 0 else 0
theorem winded_loop (h : May L Bs Tk W) (S : List Int) (hS : S.length ≤ Bs.length) : ∀ (d i : Nat), S.length - i = d → i ≤ S.length →
    Ev (fun k => cert_winded.l0 k (sn (wf Tk S) i) S (S.length : Int) (i : Int) L Bs Tk W) (decide (W < wS Tk S)) := by
  have hb := h.b16
  have htb := h.tb
  intro d
  induction d with
  | zero =>
    intro i hd hi
    refine succ ?_
    simp only [cert_winded.l0]
    refine neg (by omega) (ret ?_)
    rw [show i = S.length by omega]
    rfl
  | succ d ih =>
    intro i hd hi
    have hw := part_w h S i (by omega)
    have hw1 := part_w h S (i + 1) (by omega)
    have hn := ih (i + 1) (by omega) (by omega)
    refine succ ?_
    simp only [cert_winded.l0]
    rw [rdN, rdN, wrapS (by omega)]
    refine pos (by omega) (pos (by omega) (pos (by omega) (alt (fun g => pos (by omega) ?_) (fun g => ?_))))
    · have e : sn (wf Tk S) (i + 1) = sn (wf Tk S) i + Tk.getD i 0 := by rw [sn, wf, if_pos ⟨by omega, g⟩]
      rw [e] at hn
      have e2 : sn (wf Tk S) (i + 1) ≤ 16777216 ∧ 0 ≤ sn (wf Tk S) (i + 1) := ⟨hw1.2, hw1.1⟩
      rw [e] at e2
      rw [wrapI (by omega) (by omega)]
      exact hn
    · have e : sn (wf Tk S) (i + 1) = sn (wf Tk S) i := by rw [sn, wf, if_neg (fun c => g c.2)]; omega
      rw [e] at hn
      exact hn
theorem winded (h : May L Bs Tk W) (S : List Int) (hS : S.length ≤ Bs.length) : Ev (fun k => cert_winded.f k L Bs Tk W S) (decide (W < wS Tk S)) := by
  have := winded_loop h S hS _ 0 rfl (by omega)
  unfold cert_winded.f
  exact this
theorem prog_shut (h : May L Bs Tk W) (m : Int) (S : List Int) (b : Int) (hS : S.length < 9223372036854775807) : Ev (fun k => cert_shut.f k L Bs Tk W m S b) (isShut L Bs Tk W m S b) := by
  have hl16 := h.l16
  have hb16 := h.b16
  have htb := h.tb
  unfold cert_shut.f
  refine bnd (prog_bound L Bs Tk W S (by omega) (by omega) (by omega) (fun r hr => by have := (h.bs r hr).1; omega) hS) ?_
  have hm := may_iff.2 h
  by_cases c : S.length ≤ Bs.length ∧ S.all oneTwo = true
  · have e : bound L Bs Tk W S = (Rg.least L Bs S, 0) := by unfold bound; rw [if_pos ⟨hm, c⟩]
    rw [e]
    have e2 : isShut L Bs Tk W m S b = (decide (b = Rg.least L Bs S) && shutP L Bs Tk W m S) := by
      unfold isShut
      rw [decide_eq_true c.1, show S.all ok12 = true from c.2]
      rfl
    rw [e2]
    refine pos rfl (alt (fun g => bnd (winded h S c.1) (alt (fun g2 => ret ?_) (fun g2 => ret ?_))) (fun g => ret ?_))
    · rw [decide_eq_true (show b = _ from g.symm)]; unfold shutP; rw [g2]; rfl
    · rw [decide_eq_true (show b = _ from g.symm)]; unfold shutP; rw [(Bool.not_eq_true _).mp g2]; simp
    · rw [decide_eq_false (fun c => g c.symm)]; rfl
  · have e : bound L Bs Tk W S = (0, 2) := by unfold bound; rw [if_neg (fun x => c x.2)]
    rw [e]
    refine neg (by decide) (ret ?_)
    unfold isShut
    by_cases c1 : S.length ≤ Bs.length
    · have c2 : ¬ S.all ok12 = true := fun x => c ⟨c1, x⟩
      rw [(Bool.not_eq_true _).mp c2]; simp
    · rw [decide_eq_false c1]; rfl
theorem takes_loop (h : May L Bs Tk W) (S : List Int) (hS : S.length ≤ Bs.length) : ∀ (d i : Nat), S.length - i = d → i ≤ S.length →
    Ev (fun k => diapasonref27_takes.l0 k S (sn (wf Tk S) i) (i : Int) L Bs Tk W) (wS Tk S) := by
  have hb := h.b16
  have htb := h.tb
  intro d
  induction d with
  | zero =>
    intro i hd hi
    refine succ ?_
    simp only [diapasonref27_takes.l0]
    refine neg (by omega) (ret ?_)
    rw [show i = S.length by omega]
    rfl
  | succ d ih =>
    intro i hd hi
    have hw := part_w h S i (by omega)
    have hw1 := part_w h S (i + 1) (by omega)
    have hn := ih (i + 1) (by omega) (by omega)
    refine succ ?_
    simp only [diapasonref27_takes.l0]
    rw [rdN, rdN, wrapS (by omega)]
    refine pos (by omega) (pos (by omega) (alt (fun g => pos (by omega) ?_) (fun g => ?_)))
    · have e : sn (wf Tk S) (i + 1) = sn (wf Tk S) i + Tk.getD i 0 := by rw [sn, wf, if_pos ⟨by omega, g⟩]
      rw [e] at hn
      have e2 : sn (wf Tk S) (i + 1) ≤ 16777216 ∧ 0 ≤ sn (wf Tk S) (i + 1) := ⟨hw1.2, hw1.1⟩
      rw [e] at e2
      rw [wrapI (by omega) (by omega)]
      exact hn
    · have e : sn (wf Tk S) (i + 1) = sn (wf Tk S) i := by rw [sn, wf, if_neg (fun c => g c.2)]; omega
      rw [e] at hn
      exact hn
theorem takes (h : May L Bs Tk W) (S : List Int) (hS : S.length ≤ Bs.length) : Ev (fun k => diapasonref27_takes.f k L Bs Tk W S) (wS Tk S) := by
  have := takes_loop h S hS _ 0 rfl (by omega)
  unfold diapasonref27_takes.f
  exact this
theorem ref_settled (S : List Int) (hS : S.length < 9223372036854775807) : Ev (fun k => diapasonref26_Settled.f k L Bs Tk W S) (decide (S.length ≤ Bs.length) && S.all ok12) := by
  unfold diapasonref26_Settled.f
  by_cases c : S.length ≤ Bs.length
  · have hs := settled_loop S hS _ 0 rfl (by omega)
    rw [List.drop_zero] at hs
    exact neg (by omega) (cast_eq hs (by rw [decide_eq_true c]; rfl))
  · exact pos (by omega) (ret (by rw [decide_eq_false c]; rfl))
theorem ref_shut (h : May L Bs Tk W) (m : Int) (S : List Int) (b : Int) (hS : S.length < 9223372036854775807) : Ev (fun k => diapasonref27_Shut.f k L Bs Tk W m S b) (isShut L Bs Tk W m S b) := by
  unfold diapasonref27_Shut.f
  refine bnd (ref_settled S hS) ?_
  cases q : (decide (S.length ≤ Bs.length) && S.all ok12) with
  | true =>
    rw [Bool.and_eq_true, decide_eq_true_eq] at q
    have e2 : isShut L Bs Tk W m S b = (decide (b = Rg.least L Bs S) && shutP L Bs Tk W m S) := by
      unfold isShut
      rw [decide_eq_true q.1, q.2]
      rfl
    rw [e2]
    refine pos rfl (bnd (ref_least h S) (alt (fun g => bnd (takes h S q.1) (alt (fun g2 => ret ?_) (fun g2 => ret ?_))) (fun g => ret ?_)))
    · rw [decide_eq_true g]; unfold shutP; rw [decide_eq_true (show W < wS Tk S by omega)]; rfl
    · rw [decide_eq_true g, g]; unfold shutP; rw [decide_eq_false (show ¬ W < wS Tk S by omega)]; simp
    · rw [decide_eq_false g]; rfl
  | false =>
    refine neg (by simp) (ret ?_)
    unfold isShut
    rw [← Bool.and_assoc, q]
    rfl
end
end Go.Proofs.YtfcidgnbocijdaaDoor.CtMCertLooks
