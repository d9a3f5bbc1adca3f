/- Which of two choices is better: the program's and the reference's answer, both by one definition. For the statement CertMakes. -/
import Derived.Test.YtfcidgnbocijdaaDoorRgA
import Derived.Test.YtfcidgnbocijdaaDoorPCertMakesx
set_option linter.unusedVariables false
set_option linter.unusedSimpArgs false
namespace Go.Proofs.YtfcidgnbocijdaaDoor.RgCertMakes
open Go.RowKit Go.Proofs.YtfcidgnbocijdaaDoorW.PrintWords Go.Proofs.YtfcidgnbocijdaaDoor.Pl Go.Proofs.YtfcidgnbocijdaaDoor.Rg Go.Proofs.YtfcidgnbocijdaaDoor.PCertMakes

theorem cmp_int (a b : Int) : Ev (fun _ => cmp_Compare_int.f a b) (cmpI a b) := by
  have h : cmp_Compare_int.f a b = some (cmpI a b) := by
    unfold cmp_Compare_int.f cmp_isNaN_int.f cmpI
    simp only [bne_self_eq_false, Option.bind_some, Bool.false_eq_true, if_false]
    split
    · rfl
    · split <;> rfl
  rw [h]; exact ret rfl
theorem getD_drop {α : Type} (xs : List α) (z : α) (i : Nat) (h : i < xs.length) : xs.drop i = xs.getD i z :: xs.drop (i + 1) := by
  rw [List.drop_eq_getElem_cons h, List.getD_eq_getElem?_getD, List.getElem?_eq_getElem h]; rfl
theorem cmp_list_loop (a b : List Int) (ha : a.length < 9223372036854775807) : ∀ (d i : Nat), a.length - i = d → i ≤ a.length → i ≤ b.length →
    Ev (fun k => slices_Compare_int_int.l0 k a b a (a.length : Int) (i : Int)) (cmpL (a.drop i) (b.drop i)) := by
  intro d
  induction d with
  | zero =>
    intro i hd hi hb
    refine succ ?_
    simp only [slices_Compare_int_int.l0]
    refine neg (by omega) ?_
    rw [List.drop_of_length_le (by omega : a.length ≤ i)]
    by_cases h : i < b.length
    · rw [getD_drop b 0 i h]
      exact pos (by omega) (ret rfl)
    · rw [List.drop_of_length_le (by omega : b.length ≤ i)]
      exact neg (by omega) (ret rfl)
  | succ d ih =>
    intro i hd hi hb
    refine succ ?_
    simp only [slices_Compare_int_int.l0]
    refine pos (by omega) (pos (by omega) (pos (by omega) ?_))
    rw [getD_drop a 0 i (by omega)]
    by_cases h : i < b.length
    · rw [getD_drop b 0 i h]
      refine neg (by omega) (pos (by omega) (bnd (cmp_int _ _) ?_))
      rw [rdN, rdN, wrapS (by omega)]
      simp only [cmpL]
      by_cases hc : cmpI (a.getD i 0) (b.getD i 0) = 0
      · rw [if_pos hc]; exact pos hc (ih (i + 1) (by omega) (by omega) (by omega))
      · rw [if_neg hc]; exact neg hc (ret rfl)
    · rw [List.drop_of_length_le (by omega : b.length ≤ i)]
      exact pos (by omega) (ret rfl)
theorem or3 (x y z : Int) : Ev (fun k => cmp_Or_int.f k [x, y, z]) (if x = 0 then (if y = 0 then z else y) else x) := by
  unfold cmp_Or_int.f
  refine succ ?_
  simp only [cmp_Or_int.l0]
  refine pos (by simp) (pos (by decide) (pos (by simp) ?_))
  have w1 : wrap64 (0 + 1) = 1 := by unfold wrap64; omega
  have w2 : wrap64 (1 + 1) = 2 := by unfold wrap64; omega
  have w3 : wrap64 (2 + 1) = 3 := by unfold wrap64; omega
  have r0 : rd [x, y, z] 0 = x := rfl
  have r1 : rd [x, y, z] 1 = y := rfl
  have r2 : rd [x, y, z] 2 = z := rfl
  rw [r0, w1]
  by_cases hx : x = 0
  · rw [if_pos hx]
    refine pos hx (succ ?_)
    simp only [cmp_Or_int.l0]
    refine pos (by simp) (pos (by decide) (pos (by simp) ?_))
    rw [r1, w2]
    by_cases hy : y = 0
    · rw [if_pos hy]
      refine pos hy (succ ?_)
      simp only [cmp_Or_int.l0]
      refine pos (by simp) (pos (by decide) (pos (by simp) ?_))
      rw [r2, w3]
      by_cases hz : z = 0
      · refine pos hz (succ ?_)
        simp only [cmp_Or_int.l0]
        exact neg (by simp) (ret hz.symm)
      · exact neg hz (ret rfl)
    · rw [if_neg hy]; exact neg hy (ret rfl)
  · rw [if_neg hx]; exact neg hx (ret rfl)
theorem prog_better (s : List Int) (m w : Int) (s' : List Int) (m' w' : Int) (hs : s.length < 9223372036854775807) : Ev (fun k => regis_Better.f k s m w s' m' w') (better s m w s' m' w') := by
  unfold regis_Better.f slices_Compare_int_int.f
  refine bnd (cmp_int _ _) (bnd (cmp_int _ _) (bnd (cmp_list_loop s s' hs _ 0 rfl (by omega) (by omega)) (bnd (or3 _ _ _) (ret ?_))))
  unfold better
  simp only [cmpI_eq, List.drop_zero]
  by_cases h1 : m = m'
  · simp only [if_pos h1]
    by_cases h2 : w = w'
    · simp only [if_pos h2]
    · simp only [if_neg h2, cmpI_lt]
  · simp only [if_neg h1, cmpI_lt]
theorem ahead_loop (a b : List Int) (ha : a.length < 9223372036854775807) : ∀ (d i : Nat), a.length - i = d → i ≤ a.length → i ≤ b.length →
    Ev (fun k => diapasonref26_ahead.l0 k a b (i : Int)) (decide (cmpL (a.drop i) (b.drop i) < 0)) := by
  intro d
  induction d with
  | zero =>
    intro i hd hi hb
    refine succ ?_
    simp only [diapasonref26_ahead.l0]
    refine neg (by omega) (succ ?_)
    simp only [diapasonref26_ahead.j1]
    refine neg (by simp) (ret ?_)
    rw [List.drop_of_length_le (by omega : a.length ≤ i)]
    by_cases h : i < b.length
    · rw [getD_drop b 0 i h, decide_eq_true (show (a.length : Int) < b.length by omega)]; rfl
    · rw [List.drop_of_length_le (by omega : b.length ≤ i), decide_eq_false (show ¬ (a.length : Int) < b.length by omega)]; rfl
  | succ d ih =>
    intro i hd hi hb
    refine succ ?_
    simp only [diapasonref26_ahead.l0]
    refine pos (by omega) (succ ?_)
    simp only [diapasonref26_ahead.j1]
    rw [getD_drop a 0 i (by omega)]
    by_cases h : i < b.length
    · rw [getD_drop b 0 i h]
      refine pos (decide_eq_true (by omega)) (pos (by omega) (pos (by omega) (pos (by omega) ?_)))
      rw [rdN, rdN, wrapS (by omega)]
      by_cases hc : a.getD i 0 = b.getD i 0
      · have e := cmpL_cons (a.getD i 0) (b.getD i 0) (a.drop (i + 1)) (b.drop (i + 1))
        rw [if_pos ((cmpI_eq _ _).2 hc)] at e
        simp only [e]
        exact pos hc (ih (i + 1) (by omega) (by omega) (by omega))
      · have e := cmpL_cons (a.getD i 0) (b.getD i 0) (a.drop (i + 1)) (b.drop (i + 1))
        rw [if_neg (fun h => hc ((cmpI_eq _ _).1 h))] at e
        simp only [e]
        refine neg hc (ret ?_)
        simp only [cmpI_lt]
    · rw [List.drop_of_length_le (by omega : b.length ≤ i)]
      refine neg (by simp; omega) (ret ?_)
      rw [decide_eq_false (show ¬ (a.length : Int) < b.length by omega)]; rfl
theorem ref_better (s : List Int) (m w : Int) (s' : List Int) (m' w' : Int) (hs : s.length < 9223372036854775807) : Ev (fun k => diapasonref26_Better.f k s m w s' m' w') (better s m w s' m' w') := by
  unfold diapasonref26_Better.f better diapasonref26_ahead.f
  refine alt (fun h1 => ?_) (fun h1 => ?_)
  · rw [if_pos h1]
    refine alt (fun h2 => ?_) (fun h2 => ?_)
    · rw [if_pos h2]; exact bnd (ahead_loop s s' hs _ 0 rfl (by omega) (by omega)) (ret rfl)
    · rw [if_neg h2]; exact ret rfl
  · rw [if_neg h1]; exact ret rfl
end Go.Proofs.YtfcidgnbocijdaaDoor.RgCertMakes
