/- The leaves of the tree of settled stops that are shut, in plain lists: how many, and that with all stops settled a node is shut. No program in sight. -/
import Derived.Test.YtfcidgnbocijdaaDoorRgU
import Derived.Test.YtfcidgnbocijdaaDoorCt
set_option linter.unusedVariables false
set_option linter.unusedSimpArgs false
namespace Go.Proofs.YtfcidgnbocijdaaDoor.CtL
open Go.RowKit Go.Proofs.YtfcidgnbocijdaaDoorW.PrintWords Go.Proofs.YtfcidgnbocijdaaDoor.Pl Go.Proofs.YtfcidgnbocijdaaDoor.Rg Go.Proofs.YtfcidgnbocijdaaDoor.Ct
section
variable {L : List Int} {Bs : List (List Int)} {Tk : List Int} {W m : Int}
def wS (Tk S : List Int) : Int := sn (fun j => if j < S.length ∧ S.getD j 0 = 1 then Tk.getD j 0 else 0) S.length
theorem wS_draws {S T : List Int} (hd : Draws S T) : wnd Tk T = wS Tk S := hd.sum _
theorem part_w (h : May L Bs Tk W) (S : List Int) (n : Nat) (hn : n ≤ 16) : 0 ≤ sn (fun j => if j < S.length ∧ S.getD j 0 = 1 then Tk.getD j 0 else 0) n ∧ sn (fun j => if j < S.length ∧ S.getD j 0 = 1 then Tk.getD j 0 else 0) n ≤ 16777216 := by
  have := sn_ok (f := fun j => if j < S.length ∧ S.getD j 0 = 1 then Tk.getD j 0 else 0) (m := 1048576) (fun i => by
    have := tk_ok h i
    by_cases c : i < S.length ∧ S.getD i 0 = 1
    · simp only [if_pos c]; omega
    · simp only [if_neg c]; omega) n
  omega
def shutP (L : List Int) (Bs : List (List Int)) (Tk : List Int) (W m : Int) (S : List Int) : Bool := decide (W < wS Tk S) || decide (m ≤ Rg.least L Bs S)
def isShut (L : List Int) (Bs : List (List Int)) (Tk : List Int) (W m : Int) (S : List Int) (b : Int) : Bool := decide (S.length ≤ Bs.length) && (S.all ok12 && (decide (b = Rg.least L Bs S) && shutP L Bs Tk W m S))
def lv (L : List Int) (Bs : List (List Int)) (Tk : List Int) (W m : Int) : Nat → List Int → List (List Int × Int)
  | 0, S => [(S, Rg.least L Bs S)]
  | d + 1, S => if shutP L Bs Tk W m S = true then [(S, Rg.least L Bs S)] else lv L Bs Tk W m d (S ++ [1]) ++ lv L Bs Tk W m d (S ++ [2])
theorem lv_len : ∀ (d : Nat) (S : List Int), (lv L Bs Tk W m d S).length ≤ 2 ^ d
  | 0, S => by simp [lv]
  | d + 1, S => by
    have h1 := lv_len d (S ++ [1])
    have h2 := lv_len d (S ++ [2])
    have h3 : 1 ≤ 2 ^ d := Nat.one_le_pow _ _ (by decide)
    rw [lv]
    split
    · simp only [List.length_singleton, Nat.pow_succ]; omega
    · rw [List.length_append, Nat.pow_succ]; omega
theorem snoc_of {S : List Int} {n : Nat} (h : S.length = n + 1) : ∃ S' x, S = S' ++ [x] ∧ S'.length = n := by
  refine ⟨S.take n, S.getD n 0, ?_, by rw [List.length_take]; omega⟩
  rw [← take_snoc S 0 (by omega), List.take_of_length_le (by omega)]
theorem draws_of : ∀ (n : Nat) (S : List Int), S.length = n → S.all ok12 = true → ∃ T, Draws S T ∧ rises n T = true
  | 0, S, hl, _ => by
    rw [List.eq_nil_of_length_eq_zero hl]
    exact ⟨[], Draws.nil, rfl⟩
  | n + 1, S, hl, ha => by
    obtain ⟨S', x, rfl, hl'⟩ := snoc_of hl
    rw [List.all_append, Bool.and_eq_true] at ha
    obtain ⟨T, hd, hr⟩ := draws_of n S' hl' ha.1
    have hx : x = 1 ∨ x = 2 := by
      have := ha.2
      simpa [ok12] using this
    unfold rises at hr ⊢
    rw [show ((n + 1 : Nat) : Int) = (n : Int) + 1 by omega]
    rcases hx with rfl | rfl
    · refine ⟨T ++ [(S'.length : Int)], hd.yes, ?_⟩
      rw [hl']
      exact risesF_snoc (m := (n : Int)) (Int.le_refl _) hr (by omega)
    · exact ⟨T, hd.no (by decide), risesF_more (by omega) hr⟩
theorem full_shut (h : May L Bs Tk W) (hm : ∀ T, rises Bs.length T = true → wnd Tk T ≤ W → m ≤ miss L Bs T) {S : List Int} (hl : S.length = Bs.length) (ha : S.all ok12 = true) : shutP L Bs Tk W m S = true := by
  obtain ⟨T, hd, hr⟩ := draws_of _ S rfl ha
  rw [hl] at hr
  unfold shutP
  rw [Bool.or_eq_true, decide_eq_true_eq, decide_eq_true_eq, ← wS_draws hd, least_full h hd hl]
  by_cases hw : W < wnd Tk T
  · exact Or.inl hw
  · exact Or.inr (hm T hr (by omega))
theorem all_snoc {S : List Int} (ha : S.all ok12 = true) {x : Int} (hx : x = 1 ∨ x = 2) : (S ++ [x]).all ok12 = true := by
  rw [List.all_append, ha]
  rcases hx with rfl | rfl <;> rfl
theorem least_le (h : May L Bs Tk W) (S : List Int) : 0 ≤ Rg.least L Bs S ∧ Rg.least L Bs S ≤ 268435456 := by
  have := sn_ok (f := fun k => gap (L.getD k 0) (low Bs S k Bs.length) (high Bs S k Bs.length)) (m := 16777216) (fun k => by
    have h1 := lv_ok h k
    have h16 := h.b16
    have hl : 0 ≤ low Bs S k Bs.length ∧ low Bs S k Bs.length ≤ 16777216 := by
      have := sn_ok (f := fun i => if i < S.length ∧ S.getD i 0 = 1 then bn Bs i k else 0) (m := 1048576) (fun i => by
        have := bn_ok h i k
        by_cases c : i < S.length ∧ S.getD i 0 = 1
        · simp only [if_pos c]; omega
        · simp only [if_neg c]; omega) Bs.length
      unfold low
      omega
    have hh := high_nonneg h S k
    unfold gap
    split
    · omega
    · split <;> omega) L.length
  have h16 := h.l16
  unfold Rg.least
  omega
end
end Go.Proofs.YtfcidgnbocijdaaDoor.CtL
