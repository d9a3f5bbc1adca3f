/- Registrations, in plain words: which want may be, what a list of stops brings, misses and takes, what is the least that settled stops leave. No program is in sight here. -/
import Derived.Test.YtfcidgnbocijdaaDoorEv
set_option linter.unusedVariables false
set_option linter.unusedSimpArgs false
namespace Go.Proofs.YtfcidgnbocijdaaDoor.Rg
open Go.RowKit Go.Proofs.YtfcidgnbocijdaaDoorW.PrintWords Go.Proofs.YtfcidgnbocijdaaDoor.Pl

def okN (n : Int) : Bool := decide (0 ≤ n) && decide (n ≤ 1048576)
theorem okN_iff {n : Int} : okN n = true ↔ 0 ≤ n ∧ n ≤ 1048576 := by simp [okN]
def rowOk (n : Nat) (r : List Int) : Bool := decide (r.length = n) && r.all okN
def may (L : List Int) (Bs : List (List Int)) (Tk : List Int) (W : Int) : Bool :=
  decide (1 ≤ L.length) && decide (L.length ≤ 16) && decide (Bs.length ≤ 16) && decide (Tk.length = Bs.length) && okN W && L.all okN && Tk.all okN && Bs.all (rowOk L.length)
structure May (L : List Int) (Bs : List (List Int)) (Tk : List Int) (W : Int) : Prop where
  l1 : 1 ≤ L.length
  l16 : L.length ≤ 16
  b16 : Bs.length ≤ 16
  tb : Tk.length = Bs.length
  w : 0 ≤ W ∧ W ≤ 1048576
  ls : ∀ x ∈ L, 0 ≤ x ∧ x ≤ 1048576
  ts : ∀ x ∈ Tk, 0 ≤ x ∧ x ≤ 1048576
  bs : ∀ r ∈ Bs, r.length = L.length ∧ ∀ x ∈ r, 0 ≤ x ∧ x ≤ 1048576
theorem may_iff {L : List Int} {Bs : List (List Int)} {Tk : List Int} {W : Int} : may L Bs Tk W = true ↔ May L Bs Tk W := by
  unfold may rowOk
  simp only [Bool.and_eq_true, decide_eq_true_eq, List.all_eq_true, okN_iff]
  constructor
  · rintro ⟨⟨⟨⟨⟨⟨⟨a, b⟩, c⟩, d⟩, e⟩, f⟩, g⟩, h⟩
    exact ⟨a, b, c, d, e, f, g, h⟩
  · rintro ⟨a, b, c, d, e, f, g, h⟩
    exact ⟨⟨⟨⟨⟨⟨⟨a, b⟩, c⟩, d⟩, e⟩, f⟩, g⟩, h⟩

/-- What stop s brings to level k. -/
def bn (Bs : List (List Int)) (s k : Nat) : Int := (Bs.getD s []).getD k 0
theorem getD_mem {α : Type} (xs : List α) (z : α) {i : Nat} (h : i < xs.length) : xs.getD i z ∈ xs := by
  rw [List.getD_eq_getElem?_getD, List.getElem?_eq_getElem h]; exact List.getElem_mem h
theorem getD_over {α : Type} (xs : List α) (z : α) {i : Nat} (h : xs.length ≤ i) : xs.getD i z = z := by
  rw [List.getD_eq_getElem?_getD, List.getElem?_eq_none h]; rfl
theorem bn_ok {L : List Int} {Bs : List (List Int)} {Tk : List Int} {W : Int} (h : May L Bs Tk W) (s k : Nat) : 0 ≤ bn Bs s k ∧ bn Bs s k ≤ 1048576 := by
  unfold bn
  by_cases hs : s < Bs.length
  · by_cases hk : k < (Bs.getD s []).length
    · exact (h.bs _ (getD_mem Bs [] hs)).2 _ (getD_mem _ 0 hk)
    · rw [getD_over _ _ (by omega)]; omega
  · rw [getD_over Bs _ (by omega)]; simp
theorem tk_ok {L : List Int} {Bs : List (List Int)} {Tk : List Int} {W : Int} (h : May L Bs Tk W) (s : Nat) : 0 ≤ Tk.getD s 0 ∧ Tk.getD s 0 ≤ 1048576 := by
  by_cases hs : s < Tk.length
  · exact h.ts _ (getD_mem Tk 0 hs)
  · rw [getD_over Tk _ (by omega)]; omega
theorem lv_ok {L : List Int} {Bs : List (List Int)} {Tk : List Int} {W : Int} (h : May L Bs Tk W) (s : Nat) : 0 ≤ L.getD s 0 ∧ L.getD s 0 ≤ 1048576 := by
  by_cases hs : s < L.length
  · exact h.ls _ (getD_mem L 0 hs)
  · rw [getD_over L _ (by omega)]; omega

/-- Sums of a function over a list of stops. -/
def sm (f : Nat → Int) : List Int → Int
  | [] => 0
  | s :: t => f s.toNat + sm f t
theorem sm_snoc (f : Nat → Int) (l : List Int) (s : Int) : sm f (l ++ [s]) = sm f l + f s.toNat := by
  induction l with
  | nil => simp [sm]
  | cons a l ih => simp only [List.cons_append, sm, ih]; omega
theorem sm_ok {f : Nat → Int} (hf : ∀ i, 0 ≤ f i ∧ f i ≤ 1048576) (l : List Int) : 0 ≤ sm f l ∧ sm f l ≤ 1048576 * l.length := by
  induction l with
  | nil => simp [sm]
  | cons a l ih => have := hf a.toNat; simp only [sm, List.length_cons]; omega
/-- Sums over 0 .. n-1. -/
def sn (f : Nat → Int) : Nat → Int
  | 0 => 0
  | n + 1 => sn f n + f n
theorem sn_ok {f : Nat → Int} {m : Int} (hf : ∀ i, 0 ≤ f i ∧ f i ≤ m) (n : Nat) : 0 ≤ sn f n ∧ sn f n ≤ m * n := by
  induction n with
  | zero => simp [sn]
  | succ n ih =>
    have := hf n
    simp only [sn]
    have : m * ((n + 1 : Nat) : Int) = m * n + m := by push_cast; rw [Int.mul_add, Int.mul_one]
    omega
theorem sn_congr {f g : Nat → Int} (n : Nat) (h : ∀ i, i < n → f i = g i) : sn f n = sn g n := by
  induction n with
  | zero => rfl
  | succ n ih => simp only [sn]; rw [ih (fun i hi => h i (by omega)), h n (by omega)]
theorem sn_le {f g : Nat → Int} (n : Nat) (h : ∀ i, i < n → f i ≤ g i) : sn f n ≤ sn g n := by
  induction n with
  | zero => exact Int.le_refl _
  | succ n ih => have := ih (fun i hi => h i (by omega)); have := h n (by omega); simp only [sn]; omega
def far (a b : Int) : Int := if a < b then b - a else a - b
/-- What a list of stops misses. -/
def miss (L : List Int) (Bs : List (List Int)) (l : List Int) : Int := sn (fun k => far (sm (fun s => bn Bs s k) l) (L.getD k 0)) L.length
def wnd (Tk : List Int) (l : List Int) : Int := sm (fun s => Tk.getD s 0) l
def risesF (n : Int) : Int → List Int → Bool
  | _, [] => true
  | last, s :: t => decide (last < s) && decide (s < n) && risesF n s t
def rises (n : Nat) (l : List Int) : Bool := risesF n (-1) l
theorem risesF_len {n : Int} : ∀ {l : List Int} {last : Int}, risesF n last l = true → last < n → (l.length : Int) ≤ n - 1 - last
  | [], last, _, h => by simp; omega
  | s :: t, last, h, _ => by
    simp only [risesF, Bool.and_eq_true, decide_eq_true_eq] at h
    have := risesF_len h.2 h.1.2
    simp only [List.length_cons]
    omega
theorem rises_len {n : Nat} {l : List Int} (h : rises n l = true) : l.length ≤ n := by
  have := risesF_len h (by omega); omega
theorem risesF_mem {n : Int} : ∀ {l : List Int} {last : Int}, risesF n last l = true → ∀ x ∈ l, last < x ∧ x < n
  | [], _, _, x, hx => by cases hx
  | s :: t, last, h, x, hx => by
    simp only [risesF, Bool.and_eq_true, decide_eq_true_eq] at h
    rcases List.mem_cons.1 hx with rfl | hx
    · exact h.1
    · have := risesF_mem h.2 x hx; omega
theorem rises_mem {n : Nat} {l : List Int} (h : rises n l = true) : ∀ x ∈ l, 0 ≤ x ∧ x < n := fun x hx => by
  have := risesF_mem h x hx; omega
/-- What settled stops bring to level k: drawn for sure; and what may still come. -/
def low (Bs : List (List Int)) (S : List Int) (k n : Nat) : Int := sn (fun i => if i < S.length ∧ S.getD i 0 = 1 then bn Bs i k else 0) n
def high (Bs : List (List Int)) (S : List Int) (k n : Nat) : Int := sn (fun i => if i < S.length then 0 else bn Bs i k) n
def gap (x lo hi : Int) : Int := if x < lo then lo - x else if x > lo + hi then x - lo - hi else 0
def least (L : List Int) (Bs : List (List Int)) (S : List Int) : Int := sn (fun k => gap (L.getD k 0) (low Bs S k Bs.length) (high Bs S k Bs.length)) L.length
def settled (n : Nat) (S : List Int) : Bool := decide (S.length ≤ n) && S.all (fun s => s == 1 || s == 2)
/-! Which of two choices is better. -/
def cmpI (a b : Int) : Int := if a < b then -1 else if a > b then 1 else 0
def cmpL : List Int → List Int → Int
  | [], [] => 0
  | [], _ :: _ => -1
  | _ :: _, [] => 1
  | a :: u, b :: v => if cmpI a b = 0 then cmpL u v else cmpI a b
def better (s : List Int) (m w : Int) (s' : List Int) (m' w' : Int) : Bool :=
  if m = m' then (if w = w' then decide (cmpL s s' < 0) else decide (w < w')) else decide (m < m')
theorem cmpI_eq (a b : Int) : cmpI a b = 0 ↔ a = b := by
  unfold cmpI
  by_cases h1 : a < b
  · rw [if_pos h1]; constructor <;> intro h <;> omega
  · rw [if_neg h1]
    by_cases h2 : a > b
    · rw [if_pos h2]; constructor <;> intro h <;> omega
    · rw [if_neg h2]; constructor <;> intro h <;> omega
theorem cmpI_lt (a b : Int) : cmpI a b < 0 ↔ a < b := by
  unfold cmpI
  by_cases h1 : a < b
  · rw [if_pos h1]; constructor <;> intro h <;> omega
  · rw [if_neg h1]
    by_cases h2 : a > b
    · rw [if_pos h2]; constructor <;> intro h <;> omega
    · rw [if_neg h2]; constructor <;> intro h <;> omega
theorem cmpL_cons (a b : Int) (u v : List Int) : cmpL (a :: u) (b :: v) = if cmpI a b = 0 then cmpL u v else cmpI a b := by rw [cmpL]
end Go.Proofs.YtfcidgnbocijdaaDoor.Rg
