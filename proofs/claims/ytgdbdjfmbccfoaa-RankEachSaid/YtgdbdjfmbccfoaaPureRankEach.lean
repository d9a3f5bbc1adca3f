/- Each key of a rank is among the keys of its pipe and of no other one; at a break the pipe is Back lower; Size is the least and the greatest. For every shape, without a condition. -/
import Derived.Test.YtgdbdjfmbccfoaaRkwRankEach
set_option linter.unusedVariables false
set_option linter.unusedSimpArgs false
namespace Go.Proofs.Ytgdbdjfmbccfoaa.RkRankEach
open Go.RowKit Go.Proofs.YtgdbdjfmbccfoaaW.PrintWords Go.Proofs.Ytgdbdjfmbccfoaa.Pl Go.Proofs.Ytgdbdjfmbccfoaa.PRankEach

/-! ### The rank that is made -/
/-- A rank of small numbers that may be. -/
def Fine (r : Rank) : Prop := r.May 61 ∧ r.Small ∧ -30 ≤ r.ab ∧ r.ab ≤ 30
theorem rising_snoc (top : Int) : ∀ (l : List Int) (last b : Int), Rising top last l → last < b → (∀ x ∈ l, x < b) → b ≤ top → Rising top last (l ++ [b])
  | [], last, b, _, h, _, hb => ⟨h, hb, trivial⟩
  | a :: l, last, b, hr, h, ha, hb => ⟨hr.1, hr.2.1, rising_snoc top l a b hr.2.2 (ha a List.mem_cons_self) (fun x hx => ha x (List.mem_cons_of_mem _ hx)) hb⟩
theorem of_loop_f (nm : ByteArray) (fr top ab : Int) (a0 a1 a2 a3 a4 : Int) (h3 : 0 ≤ a3 ∧ a3 ≤ 255) (hnm : NameOk nm) (hsz : nm.size ≤ 140737488351232) (hf : 0 ≤ fr ∧ fr ≤ 19) (ht : fr ≤ top ∧ top ≤ 58) (hab : -30 ≤ ab ∧ ab ≤ 29) : ∀ (d i : Nat) (br : List Int), 16 - i = d → i ≤ 16 → br.length ≤ 8 → Rising top fr br → (∀ x ∈ br, x < fr + 1 + 2 * (i : Int)) →
    ∃ r : Rank, Ev (fun k => diapasonlaw20_of.l0 k (i : Int) a0 a1 a2 a3 a4 nm fr top ab br 0) (r.nm, r.fr, r.top, r.ab, r.br, r.back) ∧ Fine r := by
  intro d
  have fin : ∀ (i : Nat) (br : List Int), br.length ≤ 8 → Rising top fr br → ∃ r : Rank, Ev (fun k => diapasonlaw20_of.j1 k (i : Int) false a0 a1 a2 a3 a4 nm fr top ab br 0) (r.nm, r.fr, r.top, r.ab, r.br, r.back) ∧ Fine r := by
    intro i br hl hR
    have hm : Int.tmod a3 25 = a3 % 25 := Int.tmod_eq_emod_of_nonneg h3.1
    have hw : wrap64 (Int.tmod a3 25) = a3 % 25 := by rw [hm]; exact wrapI (by omega) (by omega)
    by_cases h0 : (br.length : Int) > 0
    · refine ⟨⟨nm, fr, top, ab, br, a3 % 25⟩, succ ?_, ⟨⟨⟨by omega, by omega, hnm, hf.1, ht.1, by show top < 61; omega, by show -120 ≤ ab; omega, by show ab ≤ 120; omega, hl, by show 0 ≤ a3 % 25; omega, by show a3 % 25 ≤ 24; omega, fun h => by have h' : br.length = 0 := h; omega⟩, hR⟩, ⟨hsz, by show br.length ≤ _; omega⟩, by show -30 ≤ ab; omega, by show ab ≤ 30; omega⟩⟩
      simp only [diapasonlaw20_of.j1]
      rw [hw]
      exact neg (by decide) (pos h0 (ret rfl))
    · refine ⟨⟨nm, fr, top, ab, br, 0⟩, succ ?_, ⟨⟨⟨by omega, by omega, hnm, hf.1, ht.1, by show top < 61; omega, by show -120 ≤ ab; omega, by show ab ≤ 120; omega, hl, by show (0 : Int) ≤ 0; omega, by show (0 : Int) ≤ 24; omega, fun _ => rfl⟩, hR⟩, ⟨hsz, by show br.length ≤ _; omega⟩, by show -30 ≤ ab; omega, by show ab ≤ 30; omega⟩⟩
      simp only [diapasonlaw20_of.j1]
      exact neg (by decide) (neg h0 (ret rfl))
  induction d with
  | zero =>
    intro i br hd hi hl hR hb
    obtain ⟨r, hr, hF⟩ := fin i br hl hR
    refine ⟨r, succ ?_, hF⟩
    simp only [diapasonlaw20_of.l0]
    exact neg (by omega) hr
  | succ d ih =>
    intro i br hd hi hl hR hb
    by_cases h8 : (br.length : Int) < 8
    · have hw : wrap64 ((i : Int) + 1) = ((i + 1 : Nat) : Int) := wrapS (by omega)
      have e1 : wrap64 (2 * (i : Int)) = 2 * (i : Int) := wrapI (by omega) (by omega)
      have e2 : wrap64 (fr + 1) = fr + 1 := wrapI (by omega) (by omega)
      have e3 : wrap64 (fr + 1 + 2 * (i : Int)) = fr + 1 + 2 * (i : Int) := wrapI (by omega) (by omega)
      have go : ∀ br', br'.length ≤ 8 → Rising top fr br' → (∀ x ∈ br', x < fr + 1 + 2 * ((i + 1 : Nat) : Int)) → ∃ r : Rank, Ev (fun k => diapasonlaw20_of.l0 k ((i + 1 : Nat) : Int) a0 a1 a2 a3 a4 nm fr top ab br' 0) (r.nm, r.fr, r.top, r.ab, r.br, r.back) ∧ Fine r :=
        fun br' h1 h2 h4 => ih (i + 1) br' (by omega) (by omega) h1 h2 h4
      have stay := go br hl hR (fun x hx => by have := hb x hx; omega)
      have put := fun hle : fr + 1 + 2 * (i : Int) ≤ top => go (br ++ [fr + 1 + 2 * (i : Int)]) (by simp; omega) (rising_snoc top br fr _ hR (by omega) hb hle) (fun x hx => by
        rcases List.mem_append.1 hx with hx | hx
        · have := hb x hx; omega
        · have := List.mem_singleton.1 hx; omega)
      by_cases hc : Go.bits .and .u16 (shr .u16 a4 (i : Int)) 1 = 1 ∧ fr + 1 + 2 * (i : Int) ≤ top
      · obtain ⟨r, hr, hF⟩ := put hc.2
        refine ⟨r, succ ?_, hF⟩
        simp only [diapasonlaw20_of.l0]
        refine pos (by omega) (succ ?_)
        simp only [diapasonlaw20_of.j1]
        rw [hw, e1, e2, e3]
        exact pos (decide_eq_true h8) (pos (by omega) (pos hc.1 (pos hc.2 (pos (by omega) hr))))
      · obtain ⟨r, hr, hF⟩ := stay
        refine ⟨r, succ ?_, hF⟩
        simp only [diapasonlaw20_of.l0]
        refine pos (by omega) (succ ?_)
        simp only [diapasonlaw20_of.j1]
        rw [hw, e1, e2, e3]
        refine pos (decide_eq_true h8) (pos (by omega) (alt (fun g1 => ?_) (fun _ => hr)))
        exact neg (fun g2 => hc ⟨g1, g2⟩) hr
    · obtain ⟨r, hr, hF⟩ := fin i br hl hR
      refine ⟨r, succ ?_, hF⟩
      simp only [diapasonlaw20_of.l0]
      refine pos (by omega) ?_
      rw [decide_eq_false h8]
      exact hr
theorem of_f (a0 a1 a2 a3 a4 : Int) (h0 : 0 ≤ a0 ∧ a0 ≤ 255) (h1 : 0 ≤ a1 ∧ a1 ≤ 255) (h2 : 0 ≤ a2 ∧ a2 ≤ 255) (h3 : 0 ≤ a3 ∧ a3 ≤ 255) : ∃ r : Rank, Ev (fun k => diapasonlaw20_of.f k a0 a1 a2 a3 a4) (r.nm, r.fr, r.top, r.ab, r.br, r.back) ∧ Fine r := by
  unfold diapasonlaw20_of.f
  have m0 : Int.tmod a0 20 = a0 % 20 := Int.tmod_eq_emod_of_nonneg h0.1
  have m1 : Int.tmod a1 40 = a1 % 40 := Int.tmod_eq_emod_of_nonneg h1.1
  have m2 : Int.tmod a2 60 = a2 % 60 := Int.tmod_eq_emod_of_nonneg h2.1
  rw [m0, m1, m2]
  have w0 : wrap64 (a0 % 20) = a0 % 20 := wrapI (by omega) (by omega)
  have w1 : wrap64 (a1 % 40) = a1 % 40 := wrapI (by omega) (by omega)
  have w2 : wrap64 (a2 % 60) = a2 % 60 := wrapI (by omega) (by omega)
  rw [w0, w1, w2]
  have w3 : wrap64 (a0 % 20 + a1 % 40) = a0 % 20 + a1 % 40 := wrapI (by omega) (by omega)
  have w4 : wrap64 (a2 % 60 - 30) = a2 % 60 - 30 := wrapI (by omega) (by omega)
  rw [w3, w4]
  exact of_loop_f ⟨#[97]⟩ (a0 % 20) (a0 % 20 + a1 % 40) (a2 % 60 - 30) a0 a1 a2 a3 a4 h3 (by decide) (by decide) (by omega) (by omega) (by omega) 16 0 [] (by omega) (by omega) (by simp) trivial (fun x hx => by cases hx)

/-! ### Pipes without wraps -/
/-- How many breaks are at most the key; how many are the key. -/
def le_ (key : Int) (l : List Int) : Int := (l.filter fun b => decide (b ≤ key)).length
def eq_ (key : Int) (l : List Int) : Int := (l.filter fun b => decide (b = key)).length
theorem le_cons (key b : Int) (l : List Int) : le_ key (b :: l) = (if b ≤ key then 1 else 0) + le_ key l := by
  unfold le_
  by_cases h : b ≤ key <;> simp [List.filter_cons, h] <;> omega
theorem eq_cons (key b : Int) (l : List Int) : eq_ key (b :: l) = (if b = key then 1 else 0) + eq_ key l := by
  unfold eq_
  by_cases h : b = key <;> simp [List.filter_cons, h] <;> omega
theorem le_bd (key : Int) (l : List Int) : 0 ≤ le_ key l ∧ le_ key l ≤ l.length := by
  unfold le_
  have := List.length_filter_le (fun b => decide (b ≤ key)) l
  omega
theorem eq_bd (key : Int) (l : List Int) : 0 ≤ eq_ key l ∧ eq_ key l ≤ l.length := by
  unfold eq_
  have := List.length_filter_le (fun b => decide (b = key)) l
  omega
theorem le_next (key : Int) : ∀ l : List Int, le_ (key + 1) l = le_ key l + eq_ (key + 1) l
  | [] => rfl
  | b :: l => by
    rw [le_cons, le_cons, eq_cons, le_next key l]
    by_cases h1 : b ≤ key
    · rw [if_pos h1, if_pos (by omega), if_neg (by omega)]; omega
    · by_cases h2 : b = key + 1
      · rw [if_neg h1, if_pos (by omega), if_pos h2]; omega
      · rw [if_neg h1, if_neg (by omega), if_neg h2]; omega
theorem mul_small {b n : Int} (hb : 0 ≤ b ∧ b ≤ 24) (hn : 0 ≤ n ∧ n ≤ 8) : 0 ≤ b * n ∧ b * n ≤ 192 := by
  constructor
  · exact Int.mul_nonneg hb.1 hn.1
  · have := Int.mul_le_mul hb.2 hn.2 hn.1 (by omega); omega
theorem from_val (r : Rank) (hb : 0 ≤ r.back ∧ r.back ≤ 24) (key : Int) : ∀ (l : List Int) (n : Int), l.length ≤ 8 → -1000 + 24 * l.length ≤ n → n ≤ 1000 → r.from_ key n l = n - r.back * le_ key l
  | [], n, _, _, _ => by simp [Rank.from_, le_]
  | b :: l, n, hl, h1, h2 => by
    have hl' : l.length ≤ 8 := by simp at hl; omega
    have hc : ((b :: l).length : Int) = l.length + 1 := by simp
    rw [hc] at h1
    rw [le_cons]
    by_cases h : b ≤ key
    · have e : r.from_ key n (b :: l) = r.from_ key (wrap64 (n - r.back)) l := by simp [Rank.from_, h]
      have hlc : (l.length : Int) ≤ 8 := by omega
      rw [e, wrapI (by omega) (by omega), from_val r hb key l (n - r.back) hl' (by omega) (by omega), if_pos h, Int.mul_add]
      omega
    · have e : r.from_ key n (b :: l) = r.from_ key n l := by simp [Rank.from_, h]
      rw [e, from_val r hb key l n hl' (by omega) h2, if_neg h]
      simp
theorem pipe_val {r : Rank} (hF : Fine r) {key : Int} (h1 : r.fr ≤ key) (h2 : key ≤ r.top) : r.pipe key = (key + r.ab - r.back * le_ key r.br, true) := by
  obtain ⟨⟨⟨_, _, _, g4, g5, g6, _, _, g9, g10, g11, _⟩, _⟩, _, ha, hb⟩ := hF
  rw [Rank.pipe, if_neg (by omega), wrapI (by omega) (by omega), from_val r ⟨g10, g11⟩ key r.br _ g9 (by omega) (by omega)]
theorem pipe_out {r : Rank} {key : Int} (h : key < r.fr ∨ key > r.top) : r.pipe key = (0, false) := by rw [Rank.pipe, if_pos h]
theorem pipe_bd {r : Rank} (hF : Fine r) (key : Int) : -1000 ≤ (r.pipe key).1 ∧ (r.pipe key).1 ≤ 1000 := by
  by_cases h : key < r.fr ∨ key > r.top
  · rw [pipe_out h]; show -1000 ≤ (0 : Int) ∧ (0 : Int) ≤ 1000; omega
  · rw [pipe_val hF (by omega) (by omega)]
    obtain ⟨⟨⟨_, _, _, g4, g5, g6, _, _, g9, g10, g11, _⟩, _⟩, _, ha, hb⟩ := hF
    have := le_bd key r.br
    have := mul_small ⟨g10, g11⟩ (n := le_ key r.br) (by omega)
    show -1000 ≤ key + r.ab - r.back * le_ key r.br ∧ key + r.ab - r.back * le_ key r.br ≤ 1000
    omega
theorem pipe_next {r : Rank} (hF : Fine r) {key : Int} (h1 : r.fr ≤ key) (h2 : key + 1 ≤ r.top) : (r.pipe (key + 1)).1 = (r.pipe key).1 + 1 - r.back * eq_ (key + 1) r.br := by
  rw [pipe_val hF h1 (by omega), pipe_val hF (by omega) h2]
  show key + 1 + r.ab - r.back * le_ (key + 1) r.br = key + r.ab - r.back * le_ key r.br + 1 - r.back * eq_ (key + 1) r.br
  rw [le_next, Int.mul_add]
  omega
theorem pipe_is {r : Rank} (hF : Fine r) (key : Int) : (r.pipe key).2 = true ↔ r.fr ≤ key ∧ key ≤ r.top := by
  by_cases h : key < r.fr ∨ key > r.top
  · rw [pipe_out h]; exact ⟨fun h' => (by cases h'), fun h' => by omega⟩
  · rw [pipe_val hF (by omega) (by omega)]; exact ⟨fun _ => by omega, fun _ => rfl⟩
theorem no_eq (top : Int) : ∀ (l : List Int) (last key : Int), Rising top last l → key ≤ last → eq_ key l = 0
  | [], _, _, _, _ => rfl
  | b :: l, last, key, hR, hk => by
    rw [eq_cons, no_eq top l b key hR.2.2 (by have := hR.1; omega), if_neg (by have := hR.1; omega)]; rfl
theorem no_le (top : Int) : ∀ (l : List Int) (last key : Int), Rising top last l → key ≤ last → le_ key l = 0
  | [], _, _, _, _ => rfl
  | b :: l, last, key, hR, hk => by
    rw [le_cons, no_le top l b key hR.2.2 (by have := hR.1; omega), if_neg (by have := hR.1; omega)]; rfl

/-! ### The keys of a pipe -/
theorem keysFrom_mem (r : Rank) (p : Int) : ∀ (d i : Nat) (x : Int), x ∈ r.keysFrom p d i → (i : Int) ≤ x ∧ x < i + d ∧ (r.pipe x).2 = true ∧ (r.pipe x).1 = p
  | 0, i, x, h => by cases h
  | d + 1, i, x, h => by
    simp only [Rank.keysFrom] at h
    rcases List.mem_append.1 h with h | h
    · by_cases hc : (r.pipe i).2 = true ∧ (r.pipe i).1 = p
      · rw [if_pos hc] at h
        obtain rfl := List.mem_singleton.1 h
        exact ⟨by omega, by omega, hc⟩
      · rw [if_neg hc] at h
        cases h
    · obtain ⟨h1, h2, h3⟩ := keysFrom_mem r p d (i + 1) x h
      exact ⟨by omega, by omega, h3⟩
/-- Rising. -/
def Up (l : List Int) : Prop := ∀ i : Nat, (h : i + 1 < l.length) → l[i] < l[i + 1]
theorem up_cons {a : Int} {l : List Int} (h : Up l) (ha : ∀ x ∈ l, a < x) : Up (a :: l) := by
  intro i hi
  cases i with
  | zero => exact ha _ (List.getElem_mem _)
  | succ i => exact h i (by simpa using hi)
theorem keysFrom_up (r : Rank) (p : Int) : ∀ d i : Nat, Up (r.keysFrom p d i)
  | 0, i => fun j hj => absurd hj (by simp [Rank.keysFrom])
  | d + 1, i => by
    simp only [Rank.keysFrom]
    have ih := keysFrom_up r p d (i + 1)
    by_cases hc : (r.pipe i).2 = true ∧ (r.pipe i).1 = p
    · rw [if_pos hc]
      exact up_cons ih (fun x hx => by have := (keysFrom_mem r p d (i + 1) x hx).1; omega)
    · rw [if_neg hc]
      exact ih
theorem keysFrom_has (r : Rank) (p : Int) : ∀ (d i j : Nat), i ≤ j → j < i + d → (r.pipe j).2 = true → (r.pipe j).1 = p → r.keysFrom p d i ≠ []
  | 0, i, j, h1, h2, _, _ => by omega
  | d + 1, i, j, h1, h2, h3, h4 => by
    simp only [Rank.keysFrom]
    intro h
    obtain ⟨ha, hb⟩ := List.append_eq_nil_iff.1 h
    rcases Nat.eq_or_lt_of_le h1 with rfl | hlt
    · rw [if_pos ⟨h3, h4⟩] at ha
      cases ha
    · exact keysFrom_has r p d (i + 1) j hlt (by omega) h3 h4 hb
/-- How many keys have a pipe below p. -/
def under (r : Rank) (p : Int) : Nat → Nat → Nat
  | 0, _ => 0
  | d + 1, i => (if (r.pipe i).2 = true ∧ (r.pipe i).1 < p then 1 else 0) + under r p d (i + 1)
theorem under_next (r : Rank) (p : Int) : ∀ d i : Nat, under r (p + 1) d i = under r p d i + (r.keysFrom p d i).length
  | 0, _ => rfl
  | d + 1, i => by
    simp only [under, Rank.keysFrom, List.length_append]
    rw [under_next r p d (i + 1)]
    by_cases h1 : (r.pipe i).2 = true
    · by_cases h2 : (r.pipe i).1 = p
      · rw [if_pos ⟨h1, by omega⟩, if_neg (by omega), if_pos ⟨h1, h2⟩]; simp; omega
      · by_cases h3 : (r.pipe i).1 < p
        · rw [if_pos ⟨h1, by omega⟩, if_pos ⟨h1, h3⟩, if_neg (fun h => h2 h.2)]; simp; omega
        · rw [if_neg (fun h => by have := h.2; omega), if_neg (fun h => h3 h.2), if_neg (fun h => h2 h.2)]; simp
    · rw [if_neg (fun h => h1 h.1), if_neg (fun h => h1 h.1), if_neg (fun h => h1 h.1)]; simp
theorem under_none (r : Rank) (p : Int) : ∀ d i : Nat, (∀ j : Nat, i ≤ j → j < i + d → (r.pipe j).2 = true → p ≤ (r.pipe j).1) → under r p d i = 0
  | 0, _, _ => rfl
  | d + 1, i, h => by
    simp only [under]
    rw [under_none r p d (i + 1) (fun j h1 h2 h3 => h j (by omega) (by omega) h3), if_neg (fun g => by have := h i (by omega) (by omega) g.1; have := g.2; omega)]
theorem under_all {r : Rank} (hF : Fine r) (p : Int) (h : ∀ j : Int, r.fr ≤ j → j ≤ r.top → (r.pipe j).1 < p) : ∀ d i : Nat, i + d = 61 → (under r p d i : Int) = max 0 (r.top + 1 - max (i : Int) r.fr)
  | 0, i, he => by
    have := hF.1.1.2.2.2.2.2.1
    simp only [under]
    omega
  | d + 1, i, he => by
    simp only [under]
    have ih := under_all hF p h d (i + 1) (by omega)
    have hi := pipe_is hF (i : Int)
    by_cases hc : r.fr ≤ (i : Int) ∧ (i : Int) ≤ r.top
    · rw [if_pos ⟨hi.2 hc, h _ hc.1 hc.2⟩]; omega
    · rw [if_neg (fun g => hc (hi.1 g.1))]; omega

/-! ### Size -/
theorem mn_le (a b : Int) : mn a b ≤ a ∧ mn a b ≤ b ∧ (mn a b = a ∨ mn a b = b) := by unfold mn; split <;> omega
theorem mx_ge (a b : Int) : a ≤ mx a b ∧ b ≤ mx a b ∧ (mx a b = a ∨ mx a b = b) := by unfold mx; split <;> omega
theorem sizeFrom_spec (r : Rank) : ∀ (d : Nat) (key lo hi : Int), (r.sizeFrom d key lo hi).1 ≤ lo ∧ hi ≤ (r.sizeFrom d key lo hi).2 ∧
    (∀ j : Int, key ≤ j → j < key + d → (r.sizeFrom d key lo hi).1 ≤ (r.pipe j).1 ∧ (r.pipe j).1 ≤ (r.sizeFrom d key lo hi).2) ∧
    ((r.sizeFrom d key lo hi).1 = lo ∨ ∃ j : Int, key ≤ j ∧ j < key + d ∧ (r.sizeFrom d key lo hi).1 = (r.pipe j).1) ∧
    ((r.sizeFrom d key lo hi).2 = hi ∨ ∃ j : Int, key ≤ j ∧ j < key + d ∧ (r.sizeFrom d key lo hi).2 = (r.pipe j).1)
  | 0, key, lo, hi => ⟨Int.le_refl _, Int.le_refl _, fun j h1 h2 => by omega, .inl rfl, .inl rfl⟩
  | d + 1, key, lo, hi => by
    obtain ⟨a1, a2, a3, a4, a5⟩ := sizeFrom_spec r d (key + 1) (mn lo (r.pipe key).1) (mx hi (r.pipe key).1)
    obtain ⟨m1, m2, m3⟩ := mn_le lo (r.pipe key).1
    obtain ⟨x1, x2, x3⟩ := mx_ge hi (r.pipe key).1
    simp only [Rank.sizeFrom]
    refine ⟨by omega, by omega, fun j h1 h2 => ?_, ?_, ?_⟩
    · rcases Int.lt_or_eq_of_le h1 with h1 | rfl
      · exact a3 j (by omega) (by omega)
      · exact ⟨by omega, by omega⟩
    · rcases a4 with a4 | ⟨j, b1, b2, b3⟩
      · rcases m3 with m3 | m3
        · exact .inl (by omega)
        · exact .inr ⟨key, by omega, by omega, by omega⟩
      · exact .inr ⟨j, by omega, by omega, b3⟩
    · rcases a5 with a5 | ⟨j, b1, b2, b3⟩
      · rcases x3 with x3 | x3
        · exact .inl (by omega)
        · exact .inr ⟨key, by omega, by omega, by omega⟩
      · exact .inr ⟨j, by omega, by omega, b3⟩
theorem size_spec {r : Rank} (hF : Fine r) : ∃ lo hi : Int, r.size 61 = (lo, hi, 0) ∧ (∀ j : Int, r.fr ≤ j → j ≤ r.top → lo ≤ (r.pipe j).1 ∧ (r.pipe j).1 ≤ hi) ∧ (∃ j : Int, r.fr ≤ j ∧ j ≤ r.top ∧ (r.pipe j).1 = lo) ∧ (∃ j : Int, r.fr ≤ j ∧ j ≤ r.top ∧ (r.pipe j).1 = hi) := by
  obtain ⟨_, _, _, g4, g5, g6, _⟩ := hF.1.1
  refine ⟨_, _, by rw [Rank.size, if_pos hF.1], ?_, ?_, ?_⟩
  · intro j h1 h2
    exact (sizeFrom_spec r (r.top - r.fr + 1).toNat r.fr (r.pipe r.fr).1 (r.pipe r.fr).1).2.2.1 j h1 (by omega)
  · rcases (sizeFrom_spec r (r.top - r.fr + 1).toNat r.fr (r.pipe r.fr).1 (r.pipe r.fr).1).2.2.2.1 with h | ⟨j, b1, b2, b3⟩
    · exact ⟨r.fr, by omega, g5, h.symm⟩
    · exact ⟨j, b1, by omega, b3.symm⟩
  · rcases (sizeFrom_spec r (r.top - r.fr + 1).toNat r.fr (r.pipe r.fr).1 (r.pipe r.fr).1).2.2.2.2 with h | ⟨j, b1, b2, b3⟩
    · exact ⟨r.fr, by omega, g5, h.symm⟩
    · exact ⟨j, b1, by omega, b3.symm⟩

/-! ### The law's loops -/
theorem pipe_ev {r : Rank} (hF : Fine r) (key : Int) : Ev (fun k => rank_Pipe.f k r.nm r.fr r.top r.ab r.br r.back key) ((r.pipe key).1, (r.pipe key).2, 0) := cast_eq (rank_pipe_f r key hF.2.1) (if_pos hF.1)
/-- How many keys of the rank are below one. -/
def met_ (r : Rank) (key : Int) : Int := max 0 (min key (r.top + 1) - r.fr)
theorem met_in {r : Rank} {key : Int} (h1 : r.fr ≤ key) (h2 : key ≤ r.top) : met_ r (key + 1) = met_ r key + 1 := by unfold met_; omega
theorem met_out {r : Rank} {key : Int} (h : ¬ (r.fr ≤ key ∧ key ≤ r.top)) : met_ r (key + 1) = met_ r key := by unfold met_; omega
theorem met_bd {r : Rank} (hF : Fine r) (key : Int) : 0 ≤ met_ r key ∧ met_ r key ≤ 61 := by
  obtain ⟨_, _, _, g4, g5, g6, _⟩ := hF.1.1
  unfold met_
  omega
theorem want_loop {r : Rank} (hF : Fine r) (count met key n : Int) (hk : r.fr ≤ key) (hk2 : key ≤ r.top) (hn : n = (r.pipe key).1)
    (next : Ev (fun k => diapasonlaw20_RankEach.l2 k count met n (wrap64 (key + 1)) r.nm r.fr r.top r.ab r.br r.back) true) : ∀ (d i : Nat) (want : Int), r.br.length - i = d → i ≤ r.br.length → -2000 + 24 * d ≤ want → want ≤ 2000 →
      (r.fr < key → n = want - r.back * eq_ key (r.br.drop i)) → Ev (fun k => diapasonlaw20_RankEach.l3 k count met key n want (i : Int) r.nm r.fr r.top r.ab r.br r.back) true := by
  have hF' := hF
  obtain ⟨⟨⟨_, _, _, g4, g5, g6, _, _, g9, g10, g11, _⟩, hR⟩, _, ha, hb⟩ := hF'
  intro d
  induction d with
  | zero =>
    intro i want hd hi h1 h2 hw
    refine succ ?_
    simp only [diapasonlaw20_RankEach.l3]
    refine neg (by omega) ?_
    have j8 : Ev (fun k => diapasonlaw20_RankEach.j8 k count met key n false r.nm r.fr r.top r.ab r.br r.back) true := by
      refine succ ?_
      simp only [diapasonlaw20_RankEach.j8]
      exact neg (by decide) next
    have hfirst : key = r.fr → (n != wrap64 (key + r.ab)) = false := by
      intro he
      rw [wrapI (by omega) (by omega), bne_eq_false_iff_eq, hn, pipe_val hF hk hk2]
      show key + r.ab - r.back * le_ key r.br = _
      rw [no_le r.top r.br r.fr key hR (by omega)]
      simp
    refine alt (fun c1 => ?_) (fun c1 => ?_)
    · have he : n = want := by
        have := hw (by omega)
        rw [List.drop_eq_nil_of_le (by omega)] at this
        simpa [eq_] using this
      refine pos he (alt (fun c2 => ?_) (fun _ => j8))
      rw [hfirst c2]
      exact j8
    · refine alt (fun c2 => ?_) (fun _ => j8)
      rw [hfirst c2]
      exact j8
  | succ d ih =>
    intro i want hd hi h1 h2 hw
    refine succ ?_
    simp only [diapasonlaw20_RankEach.l3]
    refine pos (by omega) (pos (by omega) ?_)
    have hl : i < r.br.length := by omega
    have hrd : rd r.br (i : Int) = r.br[i] := by rw [rdN, List.getD_eq_getElem?_getD, List.getElem?_eq_getElem hl]; rfl
    have hwi : wrap64 ((i : Int) + 1) = ((i + 1 : Nat) : Int) := wrapS (by omega)
    have hwb : wrap64 (want - r.back) = want - r.back := wrapI (by omega) (by omega)
    rw [hrd, hwi, hwb]
    clear hwi hwb
    rw [List.drop_eq_getElem_cons hl, eq_cons] at hw
    refine alt (fun c => ih (i + 1) _ (by omega) (by omega) (by omega) (by omega) (fun h => ?_)) (fun c => ih (i + 1) _ (by omega) (by omega) (by omega) (by omega) (fun h => ?_))
    · have := hw h
      rw [if_pos c, Int.mul_add] at this
      omega
    · have := hw h
      rw [if_neg c] at this
      simpa using this
theorem keys_loop2 {r : Rank} (hF : Fine r) (count : Int) (hc : count = met_ r 62) : ∀ (d : Nat) (key met last : Int), (62 - key).toNat = d → -1 ≤ key → key ≤ 62 → met = met_ r key → (r.fr < key → key ≤ r.top → last = (r.pipe (key - 1)).1) → -1000 ≤ last → last ≤ 1000 →
    Ev (fun k => diapasonlaw20_RankEach.l2 k count met last key r.nm r.fr r.top r.ab r.br r.back) true := by
  have hF' := hF
  obtain ⟨⟨⟨_, _, _, g4, g5, g6, _, _, g9, g10, g11, _⟩, hR⟩, _, ha, hb⟩ := hF'
  intro d
  induction d with
  | zero =>
    intro key met last hd h1 h2 hm hl hb1 hb2
    refine succ ?_
    simp only [diapasonlaw20_RankEach.l2]
    refine neg (by omega) (pos ?_ (bnd works_f (ret rfl)))
    rw [hc, hm, show key = 62 from by omega]
  | succ d ih =>
    intro key met last hd h1 h2 hm hl hb1 hb2
    have hw : wrap64 (key + 1) = key + 1 := wrapI (by omega) (by omega)
    have hp := pipe_is hF key
    have j6 : Ev (fun k => diapasonlaw20_RankEach.j6 k count met last key (r.pipe key).1 (r.pipe key).2 false r.nm r.fr r.top r.ab r.br r.back) true := by
      refine succ ?_
      simp only [diapasonlaw20_RankEach.j6]
      have hmb := met_bd hF key
      have hwm : wrap64 (met + 1) = met + 1 := wrapI (by omega) (by omega)
      have hwl : wrap64 (last + 1) = last + 1 := wrapI (by omega) (by omega)
      rw [hw, hwm, hwl]
      refine neg (by decide) (alt (fun c => ?_) (fun c => ?_))
      · obtain ⟨c1, c2⟩ := hp.1 c
        have hbd := pipe_bd hF key
        refine want_loop hF count (met + 1) key _ c1 c2 rfl ?_ r.br.length 0 (last + 1) (by omega) (by omega) (by omega) (by omega) (fun hlt => ?_)
        · rw [hw]
          refine ih (key + 1) (met + 1) _ (by omega) (by omega) (by omega) (by rw [hm, met_in c1 c2]) (fun _ _ => ?_) hbd.1 hbd.2
          rw [show key + 1 - 1 = key from by omega]
        · rw [hl hlt c2, List.drop_zero]
          have := pipe_next hF (key := key - 1) (by omega) (by omega)
          rw [show key - 1 + 1 = key from by omega] at this
          exact this
      · have hn : ¬ (r.fr ≤ key ∧ key ≤ r.top) := fun g => c (hp.2 g)
        refine ih (key + 1) met last (by omega) (by omega) (by omega) (by rw [hm, met_out hn]) (fun q1 q2 => ?_) hb1 hb2
        omega
    refine succ ?_
    simp only [diapasonlaw20_RankEach.l2]
    refine pos (by omega) (bnd (pipe_ev hF key) (pos rfl ?_))
    have hb' : ∀ b : Bool, (b = true ↔ r.fr ≤ key ∧ key ≤ r.top) → ((r.pipe key).2 != b) = false := by
      intro b hbq
      rw [bne_eq_false_iff_eq, Bool.eq_iff_iff, hp, hbq]
    refine alt (fun c => ?_) (fun c => ?_)
    · show Ev (fun k => diapasonlaw20_RankEach.j6 k count met last key (r.pipe key).1 (r.pipe key).2 ((r.pipe key).2 != decide (key ≤ r.top)) r.nm r.fr r.top r.ab r.br r.back) true
      rw [hb' _ (by rw [decide_eq_true_iff]; omega)]
      exact j6
    · show Ev (fun k => diapasonlaw20_RankEach.j6 k count met last key (r.pipe key).1 (r.pipe key).2 ((r.pipe key).2 != false) r.nm r.fr r.top r.ab r.br r.back) true
      rw [hb' _ ⟨fun h => (by cases h), fun h => by omega⟩]
      exact j6
theorem rd_at (l : List Int) (i : Nat) (h : i < l.length) : rd l (i : Int) = l[i] := by rw [rdN, List.getD_eq_getElem?_getD, List.getElem?_eq_getElem h]; rfl
theorem list_loop {r : Rank} (hF : Fine r) (low high met p : Int) (l : List Int) (hlen : l.length ≤ 61) (hm : ∀ x ∈ l, (r.pipe x).2 = true ∧ (r.pipe x).1 = p) (hu : Up l)
    (next : ∀ count : Int, Ev (fun k => diapasonlaw20_RankEach.l0 k low high count met (wrap64 (p + 1)) r.nm r.fr r.top r.ab r.br r.back) true → True) : ∀ (d i : Nat) (count : Int), l.length - i = d → i ≤ l.length → 0 ≤ count → count + (d : Int) ≤ 100000 →
      Ev (fun k => diapasonlaw20_RankEach.l0 k low high (count + d) met (wrap64 (p + 1)) r.nm r.fr r.top r.ab r.br r.back) true → Ev (fun k => diapasonlaw20_RankEach.l1 k low high count met p l (i : Int) r.nm r.fr r.top r.ab r.br r.back) true := by
  intro d
  induction d with
  | zero =>
    intro i count hd hi h0 h1 hn
    refine succ ?_
    simp only [diapasonlaw20_RankEach.l1]
    refine neg (by omega) ?_
    simpa using hn
  | succ d ih =>
    intro i count hd hi h0 h1 hn
    have hl : i < l.length := by omega
    have hrd := rd_at l i hl
    obtain ⟨q1, q2⟩ := hm l[i] (List.getElem_mem _)
    have j4 : Ev (fun k => diapasonlaw20_RankEach.j4 k low high count met p l (i : Int) false r.nm r.fr r.top r.ab r.br r.back) true := by
      refine succ ?_
      simp only [diapasonlaw20_RankEach.j4]
      rw [wrapS (by omega), wrapI (x := count + 1) (by omega) (by omega)]
      refine neg (by decide) (ih (i + 1) (count + 1) (by omega) (by omega) (by omega) (by omega) ?_)
      rw [show count + 1 + (d : Int) = count + ((d + 1 : Nat) : Int) from by omega]
      exact hn
    refine succ ?_
    simp only [diapasonlaw20_RankEach.l1]
    rw [hrd]
    refine pos (by omega) (pos (by omega) (bnd (pipe_ev hF l[i]) (pos rfl (pos q1 (pos q2 (alt (fun c => ?_) (fun c => j4)))))))
    have hw : wrap64 ((i : Int) - 1) = ((i - 1 : Nat) : Int) := by rw [wrapI (by omega) (by omega)]; omega
    rw [hw, rd_at l (i - 1) (by omega)]
    refine pos (by omega) (pos (by omega) ?_)
    have := hu (i - 1) (by omega)
    have e : i - 1 + 1 = i := by omega
    simp only [e] at this
    rw [decide_eq_false (by omega)]
    exact j4
theorem pipes_loop {r : Rank} (hF : Fine r) (lo hi : Int) (hlo : ∃ j : Int, r.fr ≤ j ∧ j ≤ r.top ∧ (r.pipe j).1 = lo) (hhi : ∃ j : Int, r.fr ≤ j ∧ j ≤ r.top ∧ (r.pipe j).1 = hi) (hall : ∀ j : Int, r.fr ≤ j → j ≤ r.top → (r.pipe j).1 ≤ hi) (hb1 : -1000 ≤ lo) (hb2 : hi ≤ 1000) :
    ∀ (d : Nat) (p : Int), (hi + 1 - p).toNat = d → lo ≤ p → p ≤ hi + 1 → Ev (fun k => diapasonlaw20_RankEach.l0 k lo hi (under r p 61 0 : Nat) 0 p r.nm r.fr r.top r.ab r.br r.back) true := by
  have hF' := hF
  obtain ⟨⟨⟨_, _, _, g4, g5, g6, _, _, g9, g10, g11, _⟩, hR⟩, _, ha, hb⟩ := hF'
  intro d
  induction d with
  | zero =>
    intro p hd h1 h2
    refine succ ?_
    simp only [diapasonlaw20_RankEach.l0]
    refine neg (by omega) (keys_loop2 hF _ ?_ 63 (-1) 0 0 (by omega) (by omega) (by omega) ?_ (fun h => by omega) (by omega) (by omega))
    · rw [under_all hF p (fun j q1 q2 => by have := hall j q1 q2; omega) 61 0 rfl]
      unfold met_
      omega
    · unfold met_
      omega
  | succ d ih =>
    intro p hd h1 h2
    refine succ ?_
    simp only [diapasonlaw20_RankEach.l0]
    have hk : Ev (fun k => rank_Keys.f k r.nm r.fr r.top r.ab r.br r.back 61 p) (r.keysFrom p 61 0, 0) := cast_eq (keys_f r 61 p hF.2.1) (by rw [Rank.keys, if_pos hF.1]; rfl)
    refine pos (by omega) (bnd hk (pos rfl ?_))
    have hle : (r.keysFrom p 61 0).length ≤ 61 := by
      have : ∀ d i, (r.keysFrom p d i).length ≤ d := by
        intro d
        induction d with
        | zero => intro i; simp [Rank.keysFrom]
        | succ d ih =>
          intro i
          have := ih (i + 1)
          simp only [Rank.keysFrom, List.length_append]
          split <;> simp <;> omega
      exact this 61 0
    have hu61 : ∀ q, under r q 61 0 ≤ 61 := by
      have : ∀ q d i, under r q d i ≤ d := by
        intro q d
        induction d with
        | zero => intro i; simp [under]
        | succ d ih =>
          intro i
          have := ih (i + 1)
          simp only [under]
          split <;> omega
      exact fun q => this q 61 0
    have j2 : Ev (fun k => diapasonlaw20_RankEach.j2 k lo hi (under r p 61 0 : Nat) 0 p (r.keysFrom p 61 0) false r.nm r.fr r.top r.ab r.br r.back) true := by
      refine succ ?_
      simp only [diapasonlaw20_RankEach.j2]
      refine neg (by decide) ?_
      refine list_loop hF lo hi 0 p _ hle (fun x hx => (keysFrom_mem r p 61 0 x hx).2.2) (keysFrom_up r p 61 0) (fun _ _ => trivial) (r.keysFrom p 61 0).length 0 _ (by omega) (by omega) (by omega) (by have := hu61 p; omega) ?_
      rw [wrapI (by omega) (by omega)]
      have e := under_next r p 61 0
      have := ih (p + 1) (by omega) (by omega) (by omega)
      rw [e] at this
      rw [show ((under r p 61 0 : Nat) : Int) + ((r.keysFrom p 61 0).length : Int) = ((under r p 61 0 + (r.keysFrom p 61 0).length : Nat) : Int) from by omega]
      exact this
    have some_ : (∃ j : Int, r.fr ≤ j ∧ j ≤ r.top ∧ (r.pipe j).1 = p) → (((r.keysFrom p 61 0).length : Int) == 0) = false := by
      rintro ⟨j, q1, q2, q3⟩
      rw [beq_eq_false_iff_ne]
      intro h0
      obtain ⟨m, rfl⟩ := Int.eq_ofNat_of_zero_le (show 0 ≤ j by omega)
      exact keysFrom_has r p 61 0 m (by omega) (by omega) ((pipe_is hF _).2 ⟨q1, q2⟩) q3 (List.eq_nil_of_length_eq_zero (by omega))
    refine alt (fun c => ?_) (fun c => alt (fun c2 => ?_) (fun c2 => j2))
    · show Ev (fun k => diapasonlaw20_RankEach.j2 k lo hi (under r p 61 0 : Nat) 0 p (r.keysFrom p 61 0) (((r.keysFrom p 61 0).length : Int) == 0) r.nm r.fr r.top r.ab r.br r.back) true
      rw [some_ (by rw [c]; exact hlo)]
      exact j2
    · show Ev (fun k => diapasonlaw20_RankEach.j2 k lo hi (under r p 61 0 : Nat) 0 p (r.keysFrom p 61 0) (((r.keysFrom p 61 0).length : Int) == 0) r.nm r.fr r.top r.ab r.br r.back) true
      rw [some_ (by rw [c2]; exact hhi)]
      exact j2
end Go.Proofs.Ytgdbdjfmbccfoaa.RkRankEach
namespace Go.Proofs.Ytgdbdjfmbccfoaa.Pure
open Go.RowKit Go.Proofs.YtgdbdjfmbccfoaaW.PrintWords Go.Proofs.Ytgdbdjfmbccfoaa.Pl Go.Proofs.Ytgdbdjfmbccfoaa.PRankEach Go.Proofs.Ytgdbdjfmbccfoaa.RkRankEach
theorem RankEach : diapasonlaw20_RankEach.Pure := by
  intro a0 a1 a2 a3 a4 h0 h1 h2 h3 h4
  obtain ⟨r, hr, hF⟩ := of_f a0 a1 a2 a3 a4 (wfu8 h0) (wfu8 h1) (wfu8 h2) (wfu8 h3)
  obtain ⟨lo, hi, hs, hall, hlo, hhi⟩ := size_spec hF
  refine Ev.rounds ?_
  unfold diapasonlaw20_RankEach.f
  refine bnd hr (bnd (cast_eq (size_f r 61 hF.2.1) hs) (pos rfl (bnd (cast_eq (check r 61 hF.2.1) (if_pos hF.1)) ?_)))
  refine succ ?_
  simp only [diapasonlaw20_RankEach.j0]
  refine neg (by decide) ?_
  have hz : under r lo 61 0 = 0 := under_none r lo 61 0 (fun j _ _ hj => by
    obtain ⟨q1, q2⟩ := (pipe_is hF _).1 hj
    exact (hall j q1 q2).1)
  have hb : ∃ j : Int, (r.pipe j).1 = lo := by obtain ⟨j, _, _, h⟩ := hlo; exact ⟨j, h⟩
  have hb2 : ∃ j : Int, (r.pipe j).1 = hi := by obtain ⟨j, _, _, h⟩ := hhi; exact ⟨j, h⟩
  obtain ⟨j, hj⟩ := hb
  obtain ⟨j2, hj2⟩ := hb2
  have b1 := pipe_bd hF j
  have b2 := pipe_bd hF j2
  have hle : lo ≤ hi := by
    obtain ⟨q, q1, q2, q3⟩ := hlo
    have := (hall q q1 q2).2
    omega
  have := pipes_loop hF lo hi hlo hhi (fun j q1 q2 => (hall j q1 q2).2) (by omega) (by omega) (hi + 1 - lo).toNat lo rfl (Int.le_refl _) (by omega)
  rw [hz] at this
  exact this
end Go.Proofs.Ytgdbdjfmbccfoaa.Pure
