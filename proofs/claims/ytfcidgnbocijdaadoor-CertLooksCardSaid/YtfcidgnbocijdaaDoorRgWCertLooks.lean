/- What the program's and the reference's functions of chapter 26 compute, in the words of RgA. For the statement CertLooks. -/
import Derived.Test.YtfcidgnbocijdaaDoorRgA
import Derived.Test.YtfcidgnbocijdaaDoorPCertLooksx
set_option linter.unusedVariables false
set_option linter.unusedSimpArgs false
namespace Go.Proofs.YtfcidgnbocijdaaDoor.RgWCertLooks
open Go.RowKit Go.Proofs.YtfcidgnbocijdaaDoorW.PrintWords Go.Proofs.YtfcidgnbocijdaaDoor.Pl Go.Proofs.YtfcidgnbocijdaaDoor.Rg Go.Proofs.YtfcidgnbocijdaaDoor.PCertMakes Go.Proofs.YtfcidgnbocijdaaDoor.PCertLooks

theorem drop_cons {α : Type} (xs : List α) (z : α) (i : Nat) (h : i < xs.length) : xs.drop i = xs.getD i z :: xs.drop (i + 1) := by
  rw [List.drop_eq_getElem_cons h, List.getD_eq_getElem?_getD, List.getElem?_eq_getElem h]; rfl
def ixf (p : Int → Bool) : Nat → List Int → Int
  | _, [] => -1
  | i, x :: t => if p x = true then i else ixf p (i + 1) t
theorem ixf_any (p : Int → Bool) : ∀ (l : List Int) (i : Nat), decide (ixf p i l ≥ 0) = l.any p
  | [], i => rfl
  | x :: t, i => by
    by_cases h : p x = true
    · have e : ixf p i (x :: t) = (i : Int) := by simp [ixf, h]
      rw [List.any_cons, h, decide_eq_true (by rw [e]; omega)]; rfl
    · have e : ixf p i (x :: t) = ixf p (i + 1) t := by simp [ixf, h]
      simp only [e, List.any_cons]
      rw [ixf_any p t (i + 1)]; simp [h]
theorem wrong (x : Int) : regis_wrong.f x = some (!okN x) := by
  unfold regis_wrong.f okN
  by_cases h : x < 0
  · rw [if_pos h, decide_eq_false (show ¬ 0 ≤ x by omega)]; rfl
  · rw [if_neg h, decide_eq_true (show 0 ≤ x by omega)]
    by_cases h2 : x > 1048576
    · rw [decide_eq_true h2, decide_eq_false (show ¬ x ≤ 1048576 by omega)]; rfl
    · rw [decide_eq_false h2, decide_eq_true (show x ≤ 1048576 by omega)]; rfl
theorem ix_wrong (xs : List Int) (hx : xs.length < 9223372036854775807) : ∀ (d i : Nat), xs.length - i = d → i ≤ xs.length →
    Ev (fun k => slices_IndexFunc_int_int_regis_wrong.l0 k xs (xs.length : Int) (i : Int)) (ixf (fun x => !okN x) i (xs.drop i)) := by
  intro d
  induction d with
  | zero =>
    intro i hd hi
    refine succ ?_
    simp only [slices_IndexFunc_int_int_regis_wrong.l0]
    refine neg (by omega) (ret ?_)
    rw [List.drop_of_length_le (by omega : xs.length ≤ i)]; rfl
  | succ d ih =>
    intro i hd hi
    refine succ ?_
    simp only [slices_IndexFunc_int_int_regis_wrong.l0]
    refine pos (by omega) (pos (by omega) (pos (by omega) ?_))
    rw [drop_cons xs 0 i (by omega), wrong, rdN, wrapS (by omega)]
    refine some_bnd ?_
    simp only [ixf]
    by_cases h : (!okN (xs.getD i 0)) = true
    · rw [if_pos h]; exact pos h (ret rfl)
    · rw [if_neg h]; exact neg h (ih (i + 1) (by omega) (by omega))
theorem has_wrong (xs : List Int) (hx : xs.length < 9223372036854775807) : Ev (fun k => slices_ContainsFunc_int_int_regis_wrong.f k xs) (!xs.all okN) := by
  unfold slices_ContainsFunc_int_int_regis_wrong.f slices_IndexFunc_int_int_regis_wrong.f
  refine bnd (ix_wrong xs hx _ 0 rfl (by omega)) (ret ?_)
  rw [ixf_any, List.drop_zero, List.not_all_eq_any_not]
theorem check_rows (n : Nat) (L : List Int) (Bs : List (List Int)) (Tk : List Int) (W : Int) (hb : Bs.length < 9223372036854775807) (hr : ∀ r ∈ Bs, r.length < 9223372036854775807) : ∀ (d i : Nat), Bs.length - i = d → i ≤ Bs.length →
    Ev (fun k => regis_Check.l0 k (n : Int) Bs (Bs.length : Int) (i : Int)) (if (Bs.drop i).all (rowOk n) then 0 else 2) := by
  intro d
  induction d with
  | zero =>
    intro i hd hi
    refine succ ?_
    simp only [regis_Check.l0]
    refine neg (by omega) (ret ?_)
    rw [List.drop_of_length_le (by omega : Bs.length ≤ i)]; rfl
  | succ d ih =>
    intro i hd hi
    refine succ ?_
    simp only [regis_Check.l0]
    refine pos (by omega) (pos (by omega) (pos (by omega) ?_))
    have e : rd_L1 Bs (i : Int) = Bs.getD i [] := by simp [rd_L1]
    have e1 : (Bs.drop i).all (rowOk n) = (rowOk n (Bs.getD i []) && (Bs.drop (i + 1)).all (rowOk n)) := by rw [drop_cons Bs [] i (by omega)]; rfl
    rw [e, wrapS (by omega)]
    by_cases h : (Bs.getD i []).length = n
    · refine pos (by omega) (bnd (has_wrong _ (hr _ (getD_mem Bs [] (by omega)))) ?_)
      by_cases h2 : (Bs.getD i []).all okN = true
      · have e2 : rowOk n (Bs.getD i []) = true := by rw [rowOk, h2, decide_eq_true h]; rfl
        rw [h2]; exact neg (by simp) (cast_eq (ih (i + 1) (by omega) (by omega)) (by rw [e1, e2, Bool.true_and]))
      · rw [Bool.not_eq_true] at h2
        have e2 : rowOk n (Bs.getD i []) = false := by rw [rowOk, h2, Bool.and_false]
        rw [h2]; exact pos (by simp) (ret (by rw [e1, e2]; rfl))
    · have e2 : rowOk n (Bs.getD i []) = false := by rw [rowOk, decide_eq_false h, Bool.false_and]
      exact neg (by omega) (ret (by rw [e1, e2]; rfl))
theorem check (L : List Int) (Bs : List (List Int)) (Tk : List Int) (W : Int) (hl : L.length < 9223372036854775807) (ht : Tk.length < 9223372036854775807) (hb : Bs.length < 9223372036854775807) (hr : ∀ r ∈ Bs, r.length < 9223372036854775807) :
    Ev (fun k => regis_Check.f k L Bs Tk W) (if may L Bs Tk W then 0 else 2) := by
  unfold regis_Check.f
  have bad : ∀ n, Ev (fun k => regis_Check.j0 k n true L Bs Tk W) 2 := fun n => succ (by simp only [regis_Check.j0]; exact pos trivial (ret rfl))
  refine alt (fun h1 => cast_eq (bad _) ?_) (fun h1 => alt (fun h2 => cast_eq (bad _) ?_) (fun h2 => alt (fun h3 => cast_eq (bad _) ?_) (fun h3 => alt (fun h4 => ?_) (fun h4 => cast_eq (bad _) ?_))))
  · rw [if_neg]; intro h; have := (may_iff.1 h).l1; omega
  · rw [if_neg]; intro h; have := (may_iff.1 h).l16; omega
  · rw [if_neg]; intro h; have := (may_iff.1 h).b16; omega
  · rw [wrong]
    refine some_bnd (succ ?_)
    simp only [regis_Check.j0]
    have e : may L Bs Tk W = (okN W && L.all okN && Tk.all okN && Bs.all (rowOk L.length)) := by
      unfold may
      rw [decide_eq_true (show 1 ≤ L.length by omega), decide_eq_true (show L.length ≤ 16 by omega), decide_eq_true (show Bs.length ≤ 16 by omega), decide_eq_true (show Tk.length = Bs.length by omega)]
      simp
    rw [e]
    by_cases g1 : okN W = true
    · rw [g1]
      refine neg (by simp) (bnd (has_wrong L hl) ?_)
      by_cases g2 : L.all okN = true
      · rw [g2]
        refine neg (by simp) (bnd (has_wrong Tk ht) (succ ?_))
        simp only [regis_Check.j1]
        by_cases g3 : Tk.all okN = true
        · rw [g3]
          exact neg (by simp) (cast_eq (check_rows L.length L Bs Tk W hb hr _ 0 rfl (by omega)) (by simp))
        · rw [Bool.not_eq_true] at g3; rw [g3]; exact pos (by simp) (ret (by simp))
      · rw [Bool.not_eq_true] at g2; rw [g2]
        refine pos (by simp) (succ ?_)
        simp only [regis_Check.j1]
        exact pos trivial (ret (by simp))
    · rw [Bool.not_eq_true] at g1; rw [g1]; exact pos (by simp) (ret (by simp))
  · rw [if_neg]; intro h; have := (may_iff.1 h).tb; omega
theorem right (x : Int) : diapasonref26_right.f x = some (okN x) := by
  unfold diapasonref26_right.f okN
  by_cases h : x ≥ 0
  · rw [if_pos h, decide_eq_true (show 0 ≤ x by omega)]; rfl
  · rw [if_neg h, decide_eq_false (show ¬ 0 ≤ x by omega)]; rfl
/-- The rest of May, from row i on. -/
def rowsT (n : Nat) (Bs : List (List Int)) (Tk : List Int) (i : Nat) : Bool := (Bs.drop i).all (rowOk n) && (Tk.drop i).all okN
theorem may_row (L : List Int) (Bs : List (List Int)) (Tk : List Int) (W : Int) (i : Nat) (hi : i < Bs.length) (hr : ∀ r ∈ Bs, r.length < 9223372036854775807) (r : Bool)
    (hn : Ev (fun k => diapasonref26_May.l1 k ((i + 1 : Nat) : Int) L Bs Tk W) r) (hb : Bs.length < 9223372036854775807) : ∀ (d j : Nat), (Bs.getD i []).length - j = d → j ≤ (Bs.getD i []).length →
    Ev (fun k => diapasonref26_May.l2 k (i : Int) (j : Int) L Bs Tk W) (((Bs.getD i []).drop j).all okN && r) := by
  have e : rd_L1 Bs (i : Int) = Bs.getD i [] := by simp [rd_L1]
  have hx := hr _ (getD_mem Bs [] hi)
  intro d
  induction d with
  | zero =>
    intro j hd hj
    refine succ ?_
    simp only [diapasonref26_May.l2]
    rw [e, wrapS (show i < 9223372036854775807 by omega)]
    refine pos (by omega) (pos (by omega) (neg (by omega) (cast_eq hn ?_)))
    rw [List.drop_of_length_le (by omega : (Bs.getD i []).length ≤ j)]; rfl
  | succ d ih =>
    intro j hd hj
    refine succ ?_
    simp only [diapasonref26_May.l2]
    rw [e, rdN, right, wrapS (show j < 9223372036854775807 by omega)]
    have e1 : ((Bs.getD i []).drop j).all okN = (okN ((Bs.getD i []).getD j 0) && ((Bs.getD i []).drop (j + 1)).all okN) := by rw [drop_cons (Bs.getD i []) 0 j (by omega)]; rfl
    refine pos (by omega) (pos (by omega) (pos (by omega) (pos (by omega) (some_bnd ?_))))
    by_cases h : okN ((Bs.getD i []).getD j 0) = true
    · exact pos h (cast_eq (ih (j + 1) (by omega) (by omega)) (by rw [e1, h, Bool.true_and]))
    · rw [Bool.not_eq_true] at h
      exact neg (by rw [h]; simp) (ret (by rw [e1, h]; rfl))
theorem may_rows (L : List Int) (Bs : List (List Int)) (Tk : List Int) (W : Int) (ht : Tk.length = Bs.length) (hb : Bs.length < 9223372036854775807) (hr : ∀ r ∈ Bs, r.length < 9223372036854775807) : ∀ (d i : Nat), Bs.length - i = d → i ≤ Bs.length →
    Ev (fun k => diapasonref26_May.l1 k (i : Int) L Bs Tk W) (rowsT L.length Bs Tk i) := by
  intro d
  induction d with
  | zero =>
    intro i hd hi
    refine succ ?_
    simp only [diapasonref26_May.l1]
    refine neg (by omega) (ret ?_)
    rw [rowsT, List.drop_of_length_le (by omega : Bs.length ≤ i), List.drop_of_length_le (by omega : Tk.length ≤ i)]; rfl
  | succ d ih =>
    intro i hd hi
    refine succ ?_
    simp only [diapasonref26_May.l1]
    have e : rd_L1 Bs (i : Int) = Bs.getD i [] := by simp [rd_L1]
    rw [e, rdN, right]
    have e1 : rowsT L.length Bs Tk i = ((rowOk L.length (Bs.getD i []) && okN (Tk.getD i 0)) && rowsT L.length Bs Tk (i + 1)) := by
      rw [rowsT, rowsT, drop_cons Bs [] i (by omega), drop_cons Tk 0 i (by omega)]
      simp only [List.all_cons]
      cases rowOk L.length (Bs.getD i []) <;> cases okN (Tk.getD i 0) <;> cases (List.drop (i + 1) Bs).all (rowOk L.length) <;> rfl
    refine pos (by omega) (pos (by omega) (alt (fun h => ?_) (fun h => ?_)))
    · refine pos (by omega) (some_bnd (succ ?_))
      simp only [diapasonref26_May.j3]
      by_cases h2 : okN (Tk.getD i 0) = true
      · rw [h2]
        refine neg (by simp) (cast_eq (may_row L Bs Tk W i (by omega) hr _ (ih (i + 1) (by omega) (by omega)) hb _ 0 rfl (by omega)) ?_)
        rw [e1, h2, rowOk, decide_eq_true (show (Bs.getD i []).length = L.length by omega), List.drop_zero, Bool.and_true, Bool.true_and]
      · rw [Bool.not_eq_true] at h2
        rw [h2]; exact pos (by simp) (ret (by rw [e1, h2, Bool.and_false]; rfl))
    · refine succ ?_
      simp only [diapasonref26_May.j3]
      refine pos trivial (ret ?_)
      rw [e1, rowOk, decide_eq_false (show ¬ (Bs.getD i []).length = L.length by omega)]; rfl
theorem may_levels (L : List Int) (Bs : List (List Int)) (Tk : List Int) (W : Int) (hl : L.length < 9223372036854775807) (ht : Tk.length = Bs.length) (hb : Bs.length < 9223372036854775807) (hr : ∀ r ∈ Bs, r.length < 9223372036854775807) : ∀ (d i : Nat), L.length - i = d → i ≤ L.length →
    Ev (fun k => diapasonref26_May.l0 k (i : Int) L Bs Tk W) ((L.drop i).all okN && rowsT L.length Bs Tk 0) := by
  intro d
  induction d with
  | zero =>
    intro i hd hi
    refine succ ?_
    simp only [diapasonref26_May.l0]
    refine neg (by omega) (cast_eq (may_rows L Bs Tk W ht hb hr _ 0 rfl (by omega)) ?_)
    rw [List.drop_of_length_le (by omega : L.length ≤ i)]; rfl
  | succ d ih =>
    intro i hd hi
    refine succ ?_
    simp only [diapasonref26_May.l0]
    rw [rdN, right, wrapS (by omega)]
    have e1 : (L.drop i).all okN = (okN (L.getD i 0) && (L.drop (i + 1)).all okN) := by rw [drop_cons L 0 i (by omega)]; rfl
    refine pos (by omega) (pos (by omega) (some_bnd ?_))
    by_cases h : okN (L.getD i 0) = true
    · exact pos h (cast_eq (ih (i + 1) (by omega) (by omega)) (by rw [e1, h, Bool.true_and]))
    · rw [Bool.not_eq_true] at h
      exact neg (by rw [h]; simp) (ret (by rw [e1, h]; rfl))
theorem ref_may (L : List Int) (Bs : List (List Int)) (Tk : List Int) (W : Int) (hl : L.length < 9223372036854775807) (hb : Bs.length < 9223372036854775807) (hr : ∀ r ∈ Bs, r.length < 9223372036854775807) :
    Ev (fun k => diapasonref26_May.f k L Bs Tk W) (may L Bs Tk W) := by
  unfold diapasonref26_May.f
  have bad : Ev (fun k => diapasonref26_May.j0 k true L Bs Tk W) false := succ (by simp only [diapasonref26_May.j0]; exact pos trivial (ret rfl))
  have no : ¬ May L Bs Tk W → false = may L Bs Tk W := fun h => by
    cases e : may L Bs Tk W with
    | false => rfl
    | true => exact absurd (may_iff.1 e) h
  refine alt (fun h1 => cast_eq bad (no fun h => ?_)) (fun h1 => alt (fun h2 => cast_eq bad (no fun h => ?_)) (fun h2 => alt (fun h3 => cast_eq bad (no fun h => ?_)) (fun h3 => alt (fun h4 => ?_) (fun h4 => cast_eq bad (no fun h => ?_)))))
  · have := h.l1; omega
  · have := h.l16; omega
  · have := h.b16; omega
  · rw [right]
    refine some_bnd (succ ?_)
    simp only [diapasonref26_May.j0]
    have e : may L Bs Tk W = (okN W && (L.all okN && rowsT L.length Bs Tk 0)) := by
      unfold may rowsT
      rw [decide_eq_true (show 1 ≤ L.length by omega), decide_eq_true (show L.length ≤ 16 by omega), decide_eq_true (show Bs.length ≤ 16 by omega), decide_eq_true (show Tk.length = Bs.length by omega), List.drop_zero, List.drop_zero]
      cases okN W <;> cases L.all okN <;> cases Tk.all okN <;> cases Bs.all (rowOk L.length) <;> rfl
    by_cases g1 : okN W = true
    · rw [g1]
      exact neg (by simp) (cast_eq (may_levels L Bs Tk W hl (by omega) hb hr _ 0 rfl (by omega)) (by rw [e, g1, List.drop_zero]; rfl))
    · rw [Bool.not_eq_true] at g1; rw [g1]; exact pos (by simp) (ret (by rw [e, g1]; rfl))
  · have := h.tb; omega
def vec (n : Nat) (f : Nat → Int) : List Int := (List.range n).map f
theorem vec_len (n : Nat) (f : Nat → Int) : (vec n f).length = n := by simp [vec]
theorem vec_get {n : Nat} (f : Nat → Int) {k : Nat} (h : k < n) : (vec n f).getD k 0 = f k := by
  unfold vec
  rw [List.getD_eq_getElem?_getD, List.getElem?_map, List.getElem?_range h]; rfl
theorem vec_congr {n : Nat} {f g : Nat → Int} (h : ∀ k, k < n → f k = g k) : vec n f = vec n g := by
  unfold vec
  exact List.map_congr_left (fun k hk => h k (List.mem_range.1 hk))
theorem vec_set {n : Nat} (f : Nat → Int) (j : Nat) (v : Int) : (vec n f).set j v = vec n (fun k => if k = j then v else f k) := by
  unfold vec
  apply List.ext_getElem
  · simp
  · intro i h1 h2
    simp only [List.getElem_set, List.getElem_map, List.getElem_range]
    by_cases h : j = i
    · subst h; simp
    · rw [if_neg h, if_neg (fun e => h e.symm)]
theorem vec_rep (n : Nat) : List.replicate n (0 : Int) = vec n (fun _ => 0) := by
  unfold vec
  apply List.ext_getElem
  · simp
  · intro i h1 h2; simp
theorem far_mx {a b : Int} (ha : 0 ≤ a ∧ a ≤ 16777216) (hb : 0 ≤ b ∧ b ≤ 1048576) : mx (wrap64 (a - b)) (wrap64 (b - a)) = far a b := by
  rw [wrapI (by omega) (by omega), wrapI (by omega) (by omega)]
  unfold mx far
  by_cases h : a < b
  · rw [if_pos h]; omega
  · rw [if_neg h]; omega
section
variable {L : List Int} {Bs : List (List Int)} {Tk : List Int} {W : Int}
theorem sb_ok (h : May L Bs Tk W) {l : List Int} (hl : l.length ≤ 16) (k : Nat) : 0 ≤ sm (fun s => bn Bs s k) l ∧ sm (fun s => bn Bs s k) l ≤ 16777216 := by
  have := sm_ok (f := fun s => bn Bs s k) (fun s => bn_ok h s k) l
  have : (l.length : Int) ≤ 16 := by omega
  omega
theorem far_ok (h : May L Bs Tk W) {l : List Int} (hl : l.length ≤ 16) (k : Nat) : 0 ≤ far (sm (fun s => bn Bs s k) l) (L.getD k 0) ∧ far (sm (fun s => bn Bs s k) l) (L.getD k 0) ≤ 16777216 := by
  have h1 := sb_ok h hl k
  have h2 := lv_ok h k
  unfold far
  by_cases h : sm (fun s => bn Bs s k) l < L.getD k 0
  · rw [if_pos h]; omega
  · rw [if_neg h]; omega
theorem miss_ok (h : May L Bs Tk W) {l : List Int} (hl : l.length ≤ 16) (n : Nat) (hn : n ≤ 16) : 0 ≤ sn (fun k => far (sm (fun s => bn Bs s k) l) (L.getD k 0)) n ∧ sn (fun k => far (sm (fun s => bn Bs s k) l) (L.getD k 0)) n ≤ 268435456 := by
  have := sn_ok (fun k => far_ok h hl k) n
  have : (n : Int) ≤ 16 := by omega
  omega
theorem wnd_ok (h : May L Bs Tk W) {l : List Int} (hl : l.length ≤ 16) : 0 ≤ wnd Tk l ∧ wnd Tk l ≤ 16777216 := by
  have := sm_ok (f := fun s => Tk.getD s 0) (fun s => tk_ok h s) l
  have : (l.length : Int) ≤ 16 := by omega
  unfold wnd
  omega
theorem weighed_tail (h : May L Bs Tk W) {l : List Int} (hl : l.length ≤ 16) (wn : Int) : ∀ (d j : Nat), L.length - j = d → j ≤ L.length →
    Ev (fun k => regis_weighed.l2 k (vec L.length (fun k => sm (fun s => bn Bs s k) l)) (L.length : Int) (j : Int) L Bs Tk W l (sn (fun k => far (sm (fun s => bn Bs s k) l) (L.getD k 0)) j) wn) (l, miss L Bs l, wn) := by
  have h16 := h.l16
  intro d
  induction d with
  | zero =>
    intro j hd hj
    refine succ ?_
    simp only [regis_weighed.l2]
    refine neg (by omega) (ret ?_)
    rw [show j = L.length by omega]; rfl
  | succ d ih =>
    intro j hd hj
    refine succ ?_
    simp only [regis_weighed.l2]
    refine pos (by omega) (pos (by omega) (pos (by rw [vec_len]; omega) (pos (by omega) ?_)))
    rw [rdN, rdN, vec_get _ (by omega), far_mx (sb_ok h hl j) (lv_ok h j), wrapS (by omega)]
    have hm := miss_ok h hl (j + 1) (by omega)
    simp only [sn] at hm
    rw [wrapI (by omega) (by omega)]
    exact ih (j + 1) (by omega) (by omega)
theorem weighed_row (h : May L Bs Tk W) (s : Nat) (hs : s < Bs.length) (l : List Int) (len i m w' : Int) (A : Nat → Int) (hA : ∀ k, 0 ≤ A k ∧ A k ≤ 16777216) (r : List Int × Int × Int)
    (hn : Ev (fun k => regis_weighed.l0 k (vec L.length (fun k => A k + bn Bs s k)) l len (wrap64 (i + 1)) L Bs Tk W l m w') r) : ∀ (d j : Nat), L.length - j = d → j ≤ L.length →
    Ev (fun k => regis_weighed.l1 k (vec L.length (fun k => if k < j then A k + bn Bs s k else A k)) l len i (Bs.getD s []) ((Bs.getD s []).length : Int) (j : Int) L Bs Tk W l m w') r := by
  have h16 := h.l16
  have hrl := (h.bs _ (getD_mem Bs [] hs)).1
  intro d
  induction d with
  | zero =>
    intro j hd hj
    refine succ ?_
    simp only [regis_weighed.l1]
    refine neg (by omega) ?_
    rw [vec_congr (n := L.length) (g := fun k => A k + bn Bs s k) (fun k hk => if_pos (by omega))]
    exact hn
  | succ d ih =>
    intro j hd hj
    refine succ ?_
    simp only [regis_weighed.l1]
    refine pos (by omega) (pos (by omega) (pos (by omega) (pos (by rw [vec_len]; omega) ?_)))
    have e : rd (Bs.getD s []) (j : Int) = bn Bs s j := by rw [rdN]; rfl
    have hb := bn_ok h s j
    have ha := hA j
    rw [e, rdN, vec_get _ (by omega), if_neg (Nat.lt_irrefl j), Int.toNat_natCast, vec_set, wrapS (by omega), wrapI (by omega) (by omega)]
    refine cast_eq ?_ rfl
    rw [vec_congr (n := L.length) (g := fun k => if k < j + 1 then A k + bn Bs s k else A k) (fun k hk => by
      by_cases h1 : k = j
      · subst h1; rw [if_pos rfl, if_pos (by omega)]
      · rw [if_neg h1]
        by_cases h2 : k < j
        · rw [if_pos h2, if_pos (by omega)]
        · rw [if_neg h2, if_neg (by omega)])]
    exact ih (j + 1) (by omega) (by omega)
theorem weighed_loop (h : May L Bs Tk W) {l : List Int} (hl : l.length ≤ 16) (hm : ∀ x ∈ l, 0 ≤ x ∧ x < Bs.length) : ∀ (d i : Nat), l.length - i = d → i ≤ l.length →
    Ev (fun k => regis_weighed.l0 k (vec L.length (fun k => sm (fun s => bn Bs s k) (l.take i))) l (l.length : Int) (i : Int) L Bs Tk W l 0 (wnd Tk (l.take i))) (l, miss L Bs l, wnd Tk l) := by
  have htb := h.tb
  intro d
  induction d with
  | zero =>
    intro i hd hi
    refine succ ?_
    simp only [regis_weighed.l0]
    refine neg (by omega) ?_
    rw [List.take_of_length_le (by omega : l.length ≤ i), vec_len]
    exact weighed_tail h hl _ _ 0 rfl (by omega)
  | succ d ih =>
    intro i hd hi
    have hx := hm _ (getD_mem l 0 (show i < l.length by omega))
    have hlt : (l.take i).length ≤ 16 := by rw [List.length_take]; omega
    have hw := wnd_ok h hlt
    have hk := tk_ok h (l.getD i 0).toNat
    refine succ ?_
    simp only [regis_weighed.l0]
    rw [rdN]
    refine pos (by omega) (pos (by omega) (pos (by omega) (pos hx.1 (pos (by omega) (pos hx.2 ?_)))))
    have e : rd_L1 Bs (l.getD i 0) = Bs.getD (l.getD i 0).toNat [] := rfl
    have e2 : rd Tk (l.getD i 0) = Tk.getD (l.getD i 0).toNat 0 := rfl
    rw [e, e2, wrapI (by omega) (by omega)]
    have hn := ih (i + 1) (by omega) (by omega)
    rw [take_snoc l 0 (by omega)] at hn
    simp only [sm_snoc, wnd] at hn
    rw [← wrapS (show i < 9223372036854775807 by omega)] at hn
    have := weighed_row h (l.getD i 0).toNat (by omega) l (l.length : Int) (i : Int) 0 _ _ (fun k => sb_ok h hlt k) _ hn _ 0 rfl (by omega)
    simpa [wnd] using this
theorem weighed (h : May L Bs Tk W) {l : List Int} (hl : l.length ≤ 16) (hm : ∀ x ∈ l, 0 ≤ x ∧ x < Bs.length) : Ev (fun k => regis_weighed.f k L Bs Tk W l) (l, miss L Bs l, wnd Tk l) := by
  have h16 := h.l16
  unfold regis_weighed.f
  refine pos (by omega) (pos (by omega) ?_)
  rw [Int.toNat_natCast, vec_rep]
  exact weighed_loop h hl hm _ 0 rfl (by omega)
end
section
variable {L : List Int} {Bs : List (List Int)} {Tk : List Int} {W : Int}
theorem far_f {a b : Int} (ha : 0 ≤ a ∧ a ≤ 16777216) (hb : 0 ≤ b ∧ b ≤ 1048576) : diapasonref26_far.f a b = some (far a b) := by
  unfold diapasonref26_far.f far
  by_cases h : a < b
  · rw [if_pos h, if_pos h, wrapI (by omega) (by omega)]
  · rw [if_neg h, if_neg h, wrapI (by omega) (by omega)]
theorem choice_wind (h : May L Bs Tk W) {l : List Int} (hl : l.length ≤ 16) (hm : ∀ x ∈ l, 0 ≤ x ∧ x < Bs.length) (m : Int) : ∀ (d i : Nat), l.length - i = d → i ≤ l.length →
    Ev (fun k => diapasonref26_Choice.l2 k l (i : Int) L Bs Tk W l m (wnd Tk (l.take i))) (l, m, wnd Tk l) := by
  have htb := h.tb
  intro d
  induction d with
  | zero =>
    intro i hd hi
    refine succ ?_
    simp only [diapasonref26_Choice.l2]
    refine neg (by omega) (ret ?_)
    rw [List.take_of_length_le (by omega : l.length ≤ i)]
  | succ d ih =>
    intro i hd hi
    have hx := hm _ (getD_mem l 0 (show i < l.length by omega))
    have hlt : (l.take i).length ≤ 16 := by rw [List.length_take]; omega
    have hw := wnd_ok h hlt
    have hk := tk_ok h (l.getD i 0).toNat
    refine succ ?_
    simp only [diapasonref26_Choice.l2]
    rw [rdN]
    refine pos (by omega) (pos (by omega) (pos hx.1 (pos (by omega) ?_)))
    have e2 : rd Tk (l.getD i 0) = Tk.getD (l.getD i 0).toNat 0 := rfl
    rw [e2, wrapS (show i < 9223372036854775807 by omega), wrapI (by omega) (by omega)]
    have hn := ih (i + 1) (by omega) (by omega)
    rw [take_snoc l 0 (by omega)] at hn
    simp only [sm_snoc, wnd] at hn
    exact hn
theorem choice_row (h : May L Bs Tk W) {l : List Int} (hl : l.length ≤ 16) (hm : ∀ x ∈ l, 0 ≤ x ∧ x < Bs.length) (j : Nat) (hj : j < L.length) (r : List Int × Int × Int) (m : Int)
    (hn : Ev (fun k => diapasonref26_Choice.l0 k l (wrap64 ((j : Int) + 1)) L Bs Tk W l (wrap64 (m + far (sm (fun s => bn Bs s j) l) (L.getD j 0))) 0) r) : ∀ (d i : Nat), l.length - i = d → i ≤ l.length →
    Ev (fun k => diapasonref26_Choice.l1 k l (j : Int) (sm (fun s => bn Bs s j) (l.take i)) (i : Int) L Bs Tk W l m 0) r := by
  intro d
  induction d with
  | zero =>
    intro i hd hi
    refine succ ?_
    simp only [diapasonref26_Choice.l1]
    rw [List.take_of_length_le (by omega : l.length ≤ i), show rd L (j : Int) = L.getD j 0 from rdN L j, far_f (sb_ok h hl j) (lv_ok h j)]
    exact neg (by omega) (pos (by omega) (pos (by omega) (some_bnd hn)))
  | succ d ih =>
    intro i hd hi
    have hx := hm _ (getD_mem l 0 (show i < l.length by omega))
    have hlt : (l.take i).length ≤ 16 := by rw [List.length_take]; omega
    have hs := sb_ok h hlt j
    have hb := bn_ok h (l.getD i 0).toNat j
    have hrl := (h.bs _ (getD_mem Bs [] (show (l.getD i 0).toNat < Bs.length by omega))).1
    refine succ ?_
    simp only [diapasonref26_Choice.l1]
    rw [rdN]
    have e : rd_L1 Bs (l.getD i 0) = Bs.getD (l.getD i 0).toNat [] := rfl
    have e2 : rd (Bs.getD (l.getD i 0).toNat []) (j : Int) = bn Bs (l.getD i 0).toNat j := by rw [rdN]; rfl
    rw [e, e2, wrapS (show i < 9223372036854775807 by omega), wrapI (by omega) (by omega)]
    refine pos (by omega) (pos (by omega) (pos hx.1 (pos (by omega) (pos (by omega) (pos (by omega) ?_)))))
    have hi' := ih (i + 1) (by omega) (by omega)
    rw [take_snoc l 0 (by omega)] at hi'
    simp only [sm_snoc] at hi'
    exact hi'
theorem choice_loop (h : May L Bs Tk W) {l : List Int} (hl : l.length ≤ 16) (hm : ∀ x ∈ l, 0 ≤ x ∧ x < Bs.length) : ∀ (d j : Nat), L.length - j = d → j ≤ L.length →
    Ev (fun k => diapasonref26_Choice.l0 k l (j : Int) L Bs Tk W l (sn (fun k => far (sm (fun s => bn Bs s k) l) (L.getD k 0)) j) 0) (l, miss L Bs l, wnd Tk l) := by
  have h16 := h.l16
  intro d
  induction d with
  | zero =>
    intro j hd hj
    refine succ ?_
    simp only [diapasonref26_Choice.l0]
    refine neg (by omega) ?_
    rw [show j = L.length by omega]
    exact choice_wind h hl hm _ _ 0 rfl (by omega)
  | succ d ih =>
    intro j hd hj
    refine succ ?_
    simp only [diapasonref26_Choice.l0]
    refine pos (by omega) ?_
    have hm' := miss_ok h hl (j + 1) (by omega)
    simp only [sn] at hm'
    have hn := ih (j + 1) (by omega) (by omega)
    simp only [sn] at hn
    rw [← wrapS (show j < 9223372036854775807 by omega), ← wrapI (x := sn _ j + far _ _) (by omega) (by omega)] at hn
    exact choice_row h hl hm j (by omega) _ _ hn _ 0 rfl (by omega)
theorem ref_choice (h : May L Bs Tk W) {l : List Int} (hl : l.length ≤ 16) (hm : ∀ x ∈ l, 0 ≤ x ∧ x < Bs.length) : Ev (fun k => diapasonref26_Choice.f k L Bs Tk W l) (l, miss L Bs l, wnd Tk l) := by
  unfold diapasonref26_Choice.f
  exact choice_loop h hl hm _ 0 rfl (by omega)
def told (L : List Int) (Bs : List (List Int)) (Tk : List Int) (W : Int) (l : List Int) : Int × Int × Int :=
  if may L Bs Tk W = true ∧ rises Bs.length l = true then (miss L Bs l, wnd Tk l, 0) else (0, 0, 2)
theorem misses_loop (h : May L Bs Tk W) (l : List Int) (hll : l.length < 9223372036854775807) : ∀ (d i : Nat) (last : Int), l.length - i = d → i ≤ l.length → last < Bs.length → (risesF Bs.length last (l.drop i) = true ↔ rises Bs.length l = true) →
    Ev (fun k => regis_Misses.l0 k l last l (l.length : Int) (i : Int) L Bs Tk W) (told L Bs Tk W l) := by
  intro d
  induction d with
  | zero =>
    intro i last hd hi hlast hr
    refine succ ?_
    simp only [regis_Misses.l0]
    rw [List.drop_of_length_le (by omega : l.length ≤ i)] at hr
    have hr' := hr.1 rfl
    have := rises_len hr'
    have hb := h.b16
    refine neg (by omega) (bnd (weighed h (by omega) (rises_mem hr')) (ret ?_))
    rw [told, if_pos ⟨may_iff.2 h, hr'⟩]
  | succ d ih =>
    intro i last hd hi hlast hr
    refine succ ?_
    simp only [regis_Misses.l0]
    rw [rdN, wrapS (by omega)]
    rw [drop_cons l 0 i (by omega)] at hr
    simp only [risesF, Bool.and_eq_true, decide_eq_true_eq] at hr
    have no : ¬ (last < l.getD i 0 ∧ l.getD i 0 < Bs.length) → (0, 0, 2) = told L Bs Tk W l := fun hn => by
      rw [told, if_neg]
      intro hc
      exact hn (hr.2 hc.2).1
    refine pos (by omega) (pos (by omega) (pos (by omega) (alt (fun h1 => ret (no (by omega))) (fun h1 => alt (fun h2 => ret (no (by omega))) (fun h2 => ?_)))))
    refine ih (i + 1) _ (by omega) (by omega) (by omega) ?_
    constructor
    · intro hc; exact hr.1 ⟨⟨by omega, by omega⟩, hc⟩
    · intro hc; exact (hr.2 hc).2
theorem misses (L : List Int) (Bs : List (List Int)) (Tk : List Int) (W : Int) (l : List Int) (hl : L.length < 9223372036854775807) (ht : Tk.length < 9223372036854775807) (hb : Bs.length < 9223372036854775807) (hr : ∀ r ∈ Bs, r.length < 9223372036854775807) (hll : l.length < 9223372036854775807) :
    Ev (fun k => regis_Misses.f k L Bs Tk W l) (told L Bs Tk W l) := by
  unfold regis_Misses.f
  refine bnd (check L Bs Tk W hl ht hb hr) ?_
  by_cases h : may L Bs Tk W = true
  · rw [if_pos h]
    refine pos rfl ?_
    exact misses_loop (may_iff.1 h) l hll _ 0 (-1) rfl (by omega) (by omega) Iff.rfl
  · rw [if_neg h]
    refine neg (by decide) (ret ?_)
    rw [told, if_neg (fun hc => h hc.1)]
theorem rises_loop (L : List Int) (Bs : List (List Int)) (Tk : List Int) (W : Int) (l : List Int) (hll : l.length < 9223372036854775807) : ∀ (d i : Nat), l.length - i = d → i ≤ l.length → (∀ x, (i = 0 → x = -1) → (0 < i → x = l.getD (i - 1) 0 ∧ 0 ≤ x) → 
    Ev (fun k => diapasonref26_Rises.l0 k l (i : Int) L Bs Tk W) (risesF Bs.length x (l.drop i))) := by
  intro d
  induction d with
  | zero =>
    intro i hd hi x h0 h1
    refine succ ?_
    simp only [diapasonref26_Rises.l0]
    refine neg (by omega) (ret ?_)
    rw [List.drop_of_length_le (by omega : l.length ≤ i)]; rfl
  | succ d ih =>
    intro i hd hi x h0 h1
    refine succ ?_
    simp only [diapasonref26_Rises.l0]
    have e1 : risesF Bs.length x (l.drop i) = (decide (x < l.getD i 0) && decide (l.getD i 0 < Bs.length) && risesF Bs.length (l.getD i 0) (l.drop (i + 1))) := by rw [drop_cons l 0 i (by omega)]; rfl
    rw [rdN, wrapS (by omega)]
    have hx : -1 ≤ x := by
      rcases Nat.eq_zero_or_pos i with h | h
      · rw [h0 h]; omega
      · have := (h1 h).2; omega
    refine pos (by omega) (pos (by omega) (alt (fun g1 => ret ?_) (fun g1 => alt (fun g2 => ret ?_) (fun g2 => ?_))))
    · rw [e1, decide_eq_false (by omega)]; rfl
    · rw [e1, decide_eq_false (show ¬ l.getD i 0 < (Bs.length : Int) by omega), Bool.and_false]; rfl
    · have hn := ih (i + 1) (by omega) (by omega) (l.getD i 0) (by omega) (fun _ => ⟨rfl, by omega⟩)
      have e3 : decide (l.getD i 0 < (Bs.length : Int)) = true := decide_eq_true (by omega)
      refine alt (fun g3 => ?_) (fun g3 => ?_)
      · have hw : wrap64 ((i : Int) - 1) = ((i - 1 : Nat) : Int) := by rw [wrapI (by omega) (by omega)]; omega
        have hx' := h1 (by omega)
        rw [hw, rdN]
        refine pos (by omega) (pos (by omega) (alt (fun g4 => ret ?_) (fun g4 => cast_eq hn ?_)))
        · rw [e1, decide_eq_false (by omega)]; rfl
        · rw [e1, e3, decide_eq_true (by omega)]; rfl
      · have := h0 (by omega)
        exact cast_eq hn (by rw [e1, e3, decide_eq_true (by omega)]; rfl)
theorem ref_rises (L : List Int) (Bs : List (List Int)) (Tk : List Int) (W : Int) (l : List Int) (hll : l.length < 9223372036854775807) : Ev (fun k => diapasonref26_Rises.f k L Bs Tk W l) (rises Bs.length l) := by
  unfold diapasonref26_Rises.f rises
  have := rises_loop L Bs Tk W l hll _ 0 rfl (by omega) (-1) (fun _ => rfl) (fun h => by omega)
  simpa using this
end
section
variable {L : List Int} {Bs : List (List Int)} {Tk : List Int} {W : Int}
theorem part_ok (h : May L Bs Tk W) (p : Nat → Prop) [DecidablePred p] (k n : Nat) (hn : n ≤ 16) : 0 ≤ sn (fun i => if p i then bn Bs i k else 0) n ∧ sn (fun i => if p i then bn Bs i k else 0) n ≤ 16777216 := by
  have := sn_ok (f := fun i => if p i then bn Bs i k else 0) (m := 1048576) (fun i => by
    have := bn_ok h i k
    by_cases hp : p i
    · simp only [if_pos hp]; exact this
    · simp only [if_neg hp]; omega) n
  have : (n : Int) ≤ 16 := by omega
  omega
theorem low_ok (h : May L Bs Tk W) (S : List Int) (k n : Nat) (hn : n ≤ 16) : 0 ≤ low Bs S k n ∧ low Bs S k n ≤ 16777216 := part_ok h (fun i => i < S.length ∧ S.getD i 0 = 1) k n hn
theorem high_ok (h : May L Bs Tk W) (S : List Int) (k n : Nat) (hn : n ≤ 16) : 0 ≤ high Bs S k n ∧ high Bs S k n ≤ 16777216 := by
  have e : high Bs S k n = sn (fun i => if ¬ i < S.length then bn Bs i k else 0) n := by
    unfold high
    refine sn_congr n (fun i _ => ?_)
    by_cases hp : i < S.length
    · simp only [if_pos hp, if_neg (not_not_intro hp)]
    · simp only [if_neg hp, if_pos hp]
  rw [e]
  exact part_ok h (fun i => ¬ i < S.length) k n hn
theorem gap_ok {x lo hi : Int} (hx : 0 ≤ x ∧ x ≤ 1048576) (hl : 0 ≤ lo ∧ lo ≤ 16777216) (hh : 0 ≤ hi) : 0 ≤ gap x lo hi ∧ gap x lo hi ≤ 16777216 := by
  unfold gap
  by_cases h1 : x < lo
  · rw [if_pos h1]; omega
  · rw [if_neg h1]
    by_cases h2 : x > lo + hi
    · rw [if_pos h2]; omega
    · rw [if_neg h2]; omega
theorem least_ok (h : May L Bs Tk W) (S : List Int) (n : Nat) (hn : n ≤ 16) : 0 ≤ sn (fun k => gap (L.getD k 0) (low Bs S k Bs.length) (high Bs S k Bs.length)) n ∧ sn (fun k => gap (L.getD k 0) (low Bs S k Bs.length) (high Bs S k Bs.length)) n ≤ 268435456 := by
  have := sn_ok (fun k => gap_ok (lv_ok h k) (low_ok h S k Bs.length h.b16) (high_ok h S k Bs.length h.b16).1) n
  have : (n : Int) ≤ 16 := by omega
  omega
theorem gap_mx {x lo hi : Int} (hx : 0 ≤ x ∧ x ≤ 1048576) (hl : 0 ≤ lo ∧ lo ≤ 16777216) (hh : 0 ≤ hi ∧ hi ≤ 16777216) : mx (mx 0 (wrap64 (lo - x))) (wrap64 (wrap64 (x - lo) - hi)) = gap x lo hi := by
  rw [wrapI (x := lo - x) (by omega) (by omega), wrapI (x := x - lo) (by omega) (by omega), wrapI (by omega) (by omega)]
  unfold mx gap
  by_cases h1 : x < lo
  · rw [if_pos h1, if_pos (show 0 < lo - x by omega)]; rw [if_neg (by omega)]
  · rw [if_neg h1, if_neg (show ¬ 0 < lo - x by omega)]
    by_cases h2 : x > lo + hi
    · rw [if_pos h2, if_pos (by omega)]
    · rw [if_neg h2, if_neg (by omega)]
theorem least_row (h : May L Bs Tk W) (S : List Int) (j : Nat) (hj : j < L.length) (out : Int) (r : Int)
    (hn : Ev (fun k => regis_least.l0 k S (wrap64 (out + gap (L.getD j 0) (low Bs S j Bs.length) (high Bs S j Bs.length))) L (L.length : Int) (wrap64 ((j : Int) + 1)) L Bs Tk W) r) : ∀ (d i : Nat), Bs.length - i = d → i ≤ Bs.length →
    Ev (fun k => regis_least.l1 k S out (j : Int) (L.getD j 0) (low Bs S j i) (high Bs S j i) L (L.length : Int) (j : Int) Bs (Bs.length : Int) (i : Int) L Bs Tk W) r := by
  have hb := h.b16
  intro d
  induction d with
  | zero =>
    intro i hd hi
    refine succ ?_
    simp only [regis_least.l1]
    rw [gap_mx (lv_ok h j) (low_ok h S j i (by omega)) (high_ok h S j i (by omega)), show i = Bs.length by omega]
    exact neg (by omega) hn
  | succ d ih =>
    intro i hd hi
    have hrl := (h.bs _ (getD_mem Bs [] (show i < Bs.length by omega))).1
    have e : rd_L1 Bs (i : Int) = Bs.getD i [] := by simp [rd_L1]
    have e2 : rd (Bs.getD i []) (j : Int) = bn Bs i j := by rw [rdN]; rfl
    have hbn := bn_ok h i j
    have hlo := low_ok h S j i (by omega)
    have hhi := high_ok h S j i (by omega)
    have hn' := ih (i + 1) (by omega) (by omega)
    simp only [low, high, sn] at hn'
    refine succ ?_
    simp only [regis_least.l1]
    rw [e, e2, wrapS (show i < 9223372036854775807 by omega)]
    refine pos (by omega) (pos (by omega) (pos (by omega) (alt (fun g1 => ?_) (fun g1 => ?_))))
    · refine pos (by omega) (pos (by omega) ?_)
      rw [wrapI (by omega) (by omega)]
      rw [if_neg (fun c => by omega), if_neg (show ¬ i < S.length by omega), Int.add_zero] at hn'
      exact hn'
    · refine pos (by omega) ?_
      rw [rdN]
      rw [if_pos (show i < S.length by omega), Int.add_zero] at hn'
      refine alt (fun g2 => ?_) (fun g2 => ?_)
      · refine pos (by omega) (pos (by omega) ?_)
        rw [wrapI (by omega) (by omega)]
        rw [if_pos ⟨by omega, g2⟩] at hn'
        exact hn'
      · rw [if_neg (fun c => g2 c.2), Int.add_zero] at hn'
        exact hn'
theorem least_loop (h : May L Bs Tk W) (S : List Int) : ∀ (d j : Nat), L.length - j = d → j ≤ L.length →
    Ev (fun k => regis_least.l0 k S (sn (fun k => gap (L.getD k 0) (low Bs S k Bs.length) (high Bs S k Bs.length)) j) L (L.length : Int) (j : Int) L Bs Tk W) (Rg.least L Bs S) := by
  have h16 := h.l16
  intro d
  induction d with
  | zero =>
    intro j hd hj
    refine succ ?_
    simp only [regis_least.l0]
    refine neg (by omega) (ret ?_)
    rw [show j = L.length by omega]; rfl
  | succ d ih =>
    intro j hd hj
    refine succ ?_
    simp only [regis_least.l0]
    refine pos (by omega) (pos (by omega) (pos (by omega) ?_))
    have hm := least_ok h S (j + 1) (by omega)
    have hn := ih (j + 1) (by omega) (by omega)
    simp only [sn] at hm hn
    rw [← wrapS (show j < 9223372036854775807 by omega), ← wrapI (x := sn _ j + gap _ _ _) (by omega) (by omega)] at hn
    rw [rdN]
    exact least_row h S j (by omega) _ _ hn _ 0 rfl (by omega)
theorem prog_least (h : May L Bs Tk W) (S : List Int) : Ev (fun k => regis_least.f k L Bs Tk W S) (Rg.least L Bs S) := by
  unfold regis_least.f
  exact least_loop h S _ 0 rfl (by omega)
end
section
variable {L : List Int} {Bs : List (List Int)} {Tk : List Int} {W : Int}
theorem ref_least_row (h : May L Bs Tk W) (S : List Int) (j : Nat) (hj : j < L.length) (out : Int) (ho : 0 ≤ out ∧ out ≤ 268435456) (r : Int)
    (hn : Ev (fun k => diapasonref26_Least.l0 k S (out + gap (L.getD j 0) (low Bs S j Bs.length) (high Bs S j Bs.length)) (wrap64 ((j : Int) + 1)) L Bs Tk W) r) : ∀ (d i : Nat), Bs.length - i = d → i ≤ Bs.length →
    Ev (fun k => diapasonref26_Least.l1 k S out (j : Int) (low Bs S j i) (low Bs S j i + high Bs S j i) (i : Int) L Bs Tk W) r := by
  have hb := h.b16
  intro d
  induction d with
  | zero =>
    intro i hd hi
    have hlo := low_ok h S j Bs.length (by omega)
    have hhi := high_ok h S j Bs.length (by omega)
    have hx := lv_ok h j
    refine succ ?_
    simp only [diapasonref26_Least.l1]
    rw [show i = Bs.length by omega, show rd L (j : Int) = L.getD j 0 from rdN L j]
    refine neg (by omega) (pos (by omega) (pos (by omega) ?_))
    refine alt (fun g1 => alt (fun g2 => by omega) (fun g2 => ?_)) (fun g1 => alt (fun g2 => ?_) (fun g2 => ?_))
    · rw [wrapI (x := out + low Bs S j Bs.length) (by omega) (by omega), wrapI (by omega) (by omega)]
      rw [gap, if_pos g1] at hn
      rw [show out + low Bs S j Bs.length - L.getD j 0 = out + (low Bs S j Bs.length - L.getD j 0) by omega]
      exact hn
    · rw [wrapI (x := out + L.getD j 0) (by omega) (by omega), wrapI (by omega) (by omega)]
      rw [gap, if_neg g1, if_pos g2] at hn
      rw [show out + L.getD j 0 - (low Bs S j Bs.length + high Bs S j Bs.length) = out + (L.getD j 0 - low Bs S j Bs.length - high Bs S j Bs.length) by omega]
      exact hn
    · rw [gap, if_neg g1, if_neg g2, Int.add_zero] at hn
      exact hn
  | succ d ih =>
    intro i hd hi
    have hrl := (h.bs _ (getD_mem Bs [] (show i < Bs.length by omega))).1
    have e : rd_L1 Bs (i : Int) = Bs.getD i [] := by simp [rd_L1]
    have e2 : rd (Bs.getD i []) (j : Int) = bn Bs i j := by rw [rdN]; rfl
    have hbn := bn_ok h i j
    have hlo := low_ok h S j i (by omega)
    have hhi := high_ok h S j i (by omega)
    have hn' := ih (i + 1) (by omega) (by omega)
    simp only [low, high, sn] at hn'
    refine succ ?_
    simp only [diapasonref26_Least.l1]
    rw [e, e2, wrapS (show i < 9223372036854775807 by omega)]
    refine pos (by omega) (alt (fun g1 => pos (by omega) ?_) (fun g1 => pos (by omega) (pos (by omega) (pos (by omega) ?_))))
    · rw [rdN]
      rw [if_pos (show i < S.length by omega), Int.add_zero] at hn'
      refine alt (fun g2 => pos (by omega) (pos (by omega) ?_)) (fun g2 => ?_)
      · rw [wrapI (x := low Bs S j i + bn Bs i j) (by omega) (by omega), wrapI (by omega) (by omega)]
        rw [if_pos ⟨by omega, g2⟩] at hn'
        rw [show low Bs S j i + high Bs S j i + bn Bs i j = low Bs S j i + bn Bs i j + high Bs S j i by omega]
        exact hn'
      · rw [if_neg (fun c => g2 c.2), Int.add_zero] at hn'
        exact hn'
    · rw [wrapI (by omega) (by omega)]
      rw [if_neg (fun c => by omega), if_neg (show ¬ i < S.length by omega), Int.add_zero] at hn'
      rw [show low Bs S j i + high Bs S j i + bn Bs i j = low Bs S j i + (high Bs S j i + bn Bs i j) by omega]
      exact hn'
theorem ref_least_loop (h : May L Bs Tk W) (S : List Int) : ∀ (d j : Nat), L.length - j = d → j ≤ L.length →
    Ev (fun k => diapasonref26_Least.l0 k S (sn (fun k => gap (L.getD k 0) (low Bs S k Bs.length) (high Bs S k Bs.length)) j) (j : Int) L Bs Tk W) (Rg.least L Bs S) := by
  have h16 := h.l16
  intro d
  induction d with
  | zero =>
    intro j hd hj
    refine succ ?_
    simp only [diapasonref26_Least.l0]
    refine neg (by omega) (ret ?_)
    rw [show j = L.length by omega]; rfl
  | succ d ih =>
    intro j hd hj
    refine succ ?_
    simp only [diapasonref26_Least.l0]
    refine pos (by omega) ?_
    have hn := ih (j + 1) (by omega) (by omega)
    simp only [sn] at hn
    rw [← wrapS (show j < 9223372036854775807 by omega)] at hn
    exact ref_least_row h S j (by omega) _ (least_ok h S j (by omega)) _ hn _ 0 rfl (by omega)
theorem ref_least (h : May L Bs Tk W) (S : List Int) : Ev (fun k => diapasonref26_Least.f k L Bs Tk W S) (Rg.least L Bs S) := by
  unfold diapasonref26_Least.f
  exact ref_least_loop h S _ 0 rfl (by omega)
def oneTwo (s : Int) : Bool := s == 1 || s == 2
theorem is_bad (x : Int) : regis_Bound_1.f x = some (!oneTwo x) := by
  unfold regis_Bound_1.f oneTwo
  by_cases h : x = 1
  · rw [if_pos h, h]; rfl
  · rw [if_neg h]
    have : (x == 1) = false := beq_eq_false_iff_ne.2 h
    rw [this, Bool.false_or]; rfl
theorem ix_bad (xs : List Int) (hx : xs.length < 9223372036854775807) : ∀ (d i : Nat), xs.length - i = d → i ≤ xs.length →
    Ev (fun k => slices_IndexFunc_uint8_uint8_regis_Bound_1.l0 k xs (xs.length : Int) (i : Int)) (ixf (fun x => !oneTwo x) i (xs.drop i)) := by
  intro d
  induction d with
  | zero =>
    intro i hd hi
    refine succ ?_
    simp only [slices_IndexFunc_uint8_uint8_regis_Bound_1.l0]
    refine neg (by omega) (ret ?_)
    rw [List.drop_of_length_le (by omega : xs.length ≤ i)]; rfl
  | succ d ih =>
    intro i hd hi
    refine succ ?_
    simp only [slices_IndexFunc_uint8_uint8_regis_Bound_1.l0]
    refine pos (by omega) (pos (by omega) (pos (by omega) ?_))
    rw [drop_cons xs 0 i (by omega), is_bad, rdN, wrapS (by omega)]
    refine some_bnd ?_
    simp only [ixf]
    by_cases h : (!oneTwo (xs.getD i 0)) = true
    · rw [if_pos h]; exact pos h (ret rfl)
    · rw [if_neg h]; exact neg h (ih (i + 1) (by omega) (by omega))
theorem has_bad (xs : List Int) (hx : xs.length < 9223372036854775807) : Ev (fun k => slices_ContainsFunc_uint8_uint8_regis_Bound_1.f k xs) (!xs.all oneTwo) := by
  unfold slices_ContainsFunc_uint8_uint8_regis_Bound_1.f slices_IndexFunc_uint8_uint8_regis_Bound_1.f
  refine bnd (ix_bad xs hx _ 0 rfl (by omega)) (ret ?_)
  rw [ixf_any, List.drop_zero, List.not_all_eq_any_not]
def bound (L : List Int) (Bs : List (List Int)) (Tk : List Int) (W : Int) (S : List Int) : Int × Int :=
  if may L Bs Tk W = true ∧ S.length ≤ Bs.length ∧ S.all oneTwo = true then (Rg.least L Bs S, 0) else (0, 2)
theorem prog_bound (L : List Int) (Bs : List (List Int)) (Tk : List Int) (W : Int) (S : List Int) (hl : L.length < 9223372036854775807) (ht : Tk.length < 9223372036854775807) (hb : Bs.length < 9223372036854775807) (hr : ∀ r ∈ Bs, r.length < 9223372036854775807) (hS : S.length < 9223372036854775807) :
    Ev (fun k => regis_Bound.f k L Bs Tk W S) (bound L Bs Tk W S) := by
  unfold regis_Bound.f
  have bad : ¬ (may L Bs Tk W = true ∧ S.length ≤ Bs.length ∧ S.all oneTwo = true) → Ev (fun k => regis_Bound.j0 k S true L Bs Tk W) (bound L Bs Tk W S) := fun hn =>
    succ (by simp only [regis_Bound.j0]; exact pos trivial (ret (by rw [bound, if_neg hn])))
  refine bnd (check L Bs Tk W hl ht hb hr) ?_
  by_cases h : may L Bs Tk W = true
  · rw [if_pos h]
    refine pos rfl ?_
    by_cases h2 : S.length ≤ Bs.length
    · rw [decide_eq_false (show ¬ (S.length : Int) > Bs.length by omega)]
      refine succ ?_
      simp only [regis_Bound.j0]
      refine neg (by simp) (bnd (has_bad S hS) ?_)
      by_cases h3 : S.all oneTwo = true
      · rw [h3]
        exact neg (by simp) (bnd (prog_least (may_iff.1 h) S) (ret (by rw [bound, if_pos ⟨h, h2, h3⟩])))
      · rw [Bool.not_eq_true] at h3
        rw [h3]
        exact pos (by simp) (ret (by rw [bound, if_neg (fun c => by rw [h3] at c; exact absurd c.2.2 (by simp))]))
    · rw [decide_eq_true (show (S.length : Int) > Bs.length by omega)]
      exact bad (fun c => h2 c.2.1)
  · rw [if_neg h]
    exact neg (by decide) (bad (fun c => h c.1))
theorem settled_loop (S : List Int) (hS : S.length < 9223372036854775807) : ∀ (d i : Nat), S.length - i = d → i ≤ S.length → Ev (fun k => diapasonref26_Settled.l0 k S (i : Int)) ((S.drop i).all oneTwo) := by
  intro d
  induction d with
  | zero =>
    intro i hd hi
    refine succ ?_
    simp only [diapasonref26_Settled.l0]
    refine neg (by omega) (ret ?_)
    rw [List.drop_of_length_le (by omega : S.length ≤ i)]; rfl
  | succ d ih =>
    intro i hd hi
    have e1 : (S.drop i).all oneTwo = (oneTwo (S.getD i 0) && (S.drop (i + 1)).all oneTwo) := by rw [drop_cons S 0 i (by omega)]; rfl
    refine succ ?_
    simp only [diapasonref26_Settled.l0]
    rw [rdN, wrapS (by omega)]
    have hn := ih (i + 1) (by omega) (by omega)
    refine pos (by omega) (pos (by omega) (alt (fun g1 => cast_eq hn ?_) (fun g1 => alt (fun g2 => cast_eq hn ?_) (fun g2 => ret ?_))))
    · rw [e1, oneTwo, g1]; rfl
    · rw [e1, oneTwo, g2]; rfl
    · rw [e1, oneTwo, beq_eq_false_iff_ne.2 g1, beq_eq_false_iff_ne.2 g2]; rfl
end
end Go.Proofs.YtfcidgnbocijdaaDoor.RgWCertLooks
