/- Of any rank, key, number of keys and pipe: Check, Pipe, Keys and Size of the program are the reference's; the rank stays. For every rank, without a condition. -/
import Derived.Test.YtgdbdjfmbccfoaaRkwRankTells
set_option linter.unusedVariables false
set_option linter.unusedSimpArgs false
namespace Go.Proofs.Ytgdbdjfmbccfoaa.RkRankTells
open Go.RowKit Go.Proofs.YtgdbdjfmbccfoaaW.PrintWords Go.Proofs.Ytgdbdjfmbccfoaa.Pl Go.Proofs.Ytgdbdjfmbccfoaa.PRankTells

theorem ref_check (r : Rank) (keys : Int) (hs : r.Small) : Ev (fun k => diapasonref20_Check.f k r.nm r.fr r.top r.ab r.br r.back keys) (if r.May keys then 0 else 2) := by
  unfold diapasonref20_Check.f
  refine bnd (may r keys hs) ?_
  by_cases hm : r.May keys
  · rw [if_pos hm]; exact pos (decide_eq_true hm) (ret rfl)
  · rw [if_neg hm]; exact neg (by simpa using hm) (ret rfl)
theorem ref_pipe (r : Rank) (key : Int) (hs : r.Small) : Ev (fun k => diapasonref20_Pipe.f k r.nm r.fr r.top r.ab r.br r.back key) (if r.May 61 then ((r.pipe key).1, (r.pipe key).2, 0) else (0, false, 2)) := by
  unfold diapasonref20_Pipe.f
  refine bnd (may r 61 hs) ?_
  by_cases hm : r.May 61
  · rw [if_pos hm]; exact pos (decide_eq_true hm) (bnd (of r key hs.2) (ret rfl))
  · rw [if_neg hm]; exact neg (by simpa using hm) (ret rfl)
theorem ref_keys_loop (r : Rank) (p : Int) (keys : Nat) (hk : keys ≤ 61) (hs : r.Small) : ∀ (d i : Nat) (acc : List Int), keys - i = d → i ≤ keys → acc.length ≤ i →
    Ev (fun k => diapasonref20_Keys.l0 k (keys : Int) p acc (i : Int) r.nm r.fr r.top r.ab r.br r.back) (acc ++ r.keysFrom p d i, 0) := by
  intro d
  induction d with
  | zero =>
    intro i acc hd hi hl
    refine succ ?_
    simp only [diapasonref20_Keys.l0]
    exact neg (by omega) (ret (by simp [Rank.keysFrom]))
  | succ d ih =>
    intro i acc hd hi hl
    refine succ ?_
    simp only [diapasonref20_Keys.l0]
    refine pos (by omega) (bnd (of r _ hs.2) ?_)
    have hw : wrap64 ((i : Int) + 1) = ((i + 1 : Nat) : Int) := wrapS (by omega)
    rw [hw]
    refine alt (fun h1 => ?_) (fun h1 => ?_)
    · refine alt (fun h2 => ?_) (fun h2 => ?_)
      · refine pos (by omega) ?_
        refine cast_eq (ih (i + 1) _ (by omega) (by omega) (by simp; omega)) ?_
        simp only [Rank.keysFrom]; rw [if_pos ⟨h1, h2⟩]; simp
      · refine cast_eq (ih (i + 1) _ (by omega) (by omega) (by omega)) ?_
        simp only [Rank.keysFrom]; rw [if_neg (fun h => h2 h.2)]; simp
    · refine cast_eq (ih (i + 1) _ (by omega) (by omega) (by omega)) ?_
      simp only [Rank.keysFrom]; rw [if_neg (fun h => h1 h.1)]; simp
theorem ref_keys (r : Rank) (keys p : Int) (hs : r.Small) : Ev (fun k => diapasonref20_Keys.f k r.nm r.fr r.top r.ab r.br r.back keys p) (r.keys keys p) := by
  unfold diapasonref20_Keys.f Rank.keys
  refine bnd (may r keys hs) ?_
  by_cases hm : r.May keys
  · rw [if_pos hm]
    have h1 := hm.1.1
    have h2 := hm.1.2.1
    refine pos (decide_eq_true hm) ?_
    obtain ⟨n, rfl⟩ := Int.eq_ofNat_of_zero_le (show 0 ≤ keys by omega)
    exact cast_eq (ref_keys_loop r p n (by omega) hs n 0 [] (by omega) (by omega) (by simp)) (by simp)
  · rw [if_neg hm]
    exact neg (by simpa using hm) (ret rfl)
theorem ref_size_loop (r : Rank) (hs : r.Small) (hf : 0 ≤ r.fr) (hn : r.top ≤ 60) : ∀ (d : Nat) (key lo hi : Int), (r.top - key + 1).toNat = d → 0 ≤ key →
    Ev (fun k => diapasonref20_Size.l0 k lo hi key r.nm r.fr r.top r.ab r.br r.back) ((r.sizeFrom d key lo hi).1, (r.sizeFrom d key lo hi).2, 0) := by
  intro d
  induction d with
  | zero =>
    intro key lo hi hd hk
    refine succ ?_
    simp only [diapasonref20_Size.l0]
    exact neg (by omega) (ret rfl)
  | succ d ih =>
    intro key lo hi hd hk
    refine succ ?_
    simp only [diapasonref20_Size.l0]
    have hw : wrap64 (key + 1) = key + 1 := wrapI (by omega) (by omega)
    rw [hw]
    refine pos (by omega) (bnd (of r _ hs.2) ?_)
    exact ih (key + 1) _ _ (by omega) (by omega)
theorem ref_size (r : Rank) (keys : Int) (hs : r.Small) : Ev (fun k => diapasonref20_Size.f k r.nm r.fr r.top r.ab r.br r.back keys) (r.size keys) := by
  unfold diapasonref20_Size.f Rank.size
  refine bnd (may r keys hs) ?_
  by_cases hm : r.May keys
  · rw [if_pos hm]
    obtain ⟨⟨h1, h2, _, h4, h5, h6, _⟩, _⟩ := id hm
    refine pos (decide_eq_true hm) (bnd (of r _ hs.2) ?_)
    exact ref_size_loop r hs h4 (by omega) _ _ _ _ rfl h4
  · rw [if_neg hm]
    exact neg (by simpa using hm) (ret rfl)
theorem same_loop (l : List Int) (hl : l.length ≤ 140737488351232) : ∀ d i : Nat, l.length - i = d → i ≤ l.length → Ev (fun k => diapasonlaw20_same.l0 k l l (i : Int)) true := by
  intro d
  induction d with
  | zero =>
    intro i hd hi
    refine succ ?_
    simp only [diapasonlaw20_same.l0]
    exact neg (by omega) (ret rfl)
  | succ d ih =>
    intro i hd hi
    refine succ ?_
    simp only [diapasonlaw20_same.l0]
    rw [wrapS (by omega)]
    exact pos (by omega) (pos (by omega) (pos (by omega) (pos trivial (ih (i + 1) (by omega) (by omega)))))
theorem same_f (l : List Int) (hl : l.length ≤ 140737488351232) : Ev (fun k => diapasonlaw20_same.f k l l) true := by
  unfold diapasonlaw20_same.f
  exact pos rfl (same_loop l hl l.length 0 (by omega) (by omega))
theorem keysFrom_le (r : Rank) (p : Int) : ∀ d i, (r.keysFrom p d i).length ≤ d
  | 0, _ => by simp [Rank.keysFrom]
  | d + 1, i => by
    have := keysFrom_le r p d (i + 1)
    simp only [Rank.keysFrom, List.length_append]
    split <;> simp <;> omega
theorem keys_le (r : Rank) (keys p : Int) : (r.keys keys p).1.length ≤ 140737488351232 := by
  unfold Rank.keys
  by_cases hm : r.May keys
  · rw [if_pos hm]
    have h2 := hm.1.2.1
    have := keysFrom_le r p keys.toNat 0
    show (r.keysFrom p keys.toNat 0).length ≤ _
    omega
  · rw [if_neg hm]
    decide
end Go.Proofs.Ytgdbdjfmbccfoaa.RkRankTells
namespace Go.Proofs.Ytgdbdjfmbccfoaa.Pure
open Go.RowKit Go.Proofs.YtgdbdjfmbccfoaaW.PrintWords Go.Proofs.Ytgdbdjfmbccfoaa.Pl Go.Proofs.Ytgdbdjfmbccfoaa.PRankTells Go.Proofs.Ytgdbdjfmbccfoaa.RkRankTells
theorem RankTells : diapasonlaw20_RankTells.Pure := by
  intro nm fr top ab br back key keys p h0 h1 h2 h3 h4 h5 h6 h7 h8 h9 h10
  have hs : (Rank.mk nm fr top ab br back).Small := ⟨h0, by show br.length ≤ _; omega⟩
  refine Ev.rounds ?_
  unfold diapasonlaw20_RankTells.f
  simp only [List.nil_append, List.length_nil]
  refine pos (by omega) (some_bnd ?_)
  refine bnd (check ⟨nm, fr, top, ab, br, back⟩ keys hs) (bnd (ref_check ⟨nm, fr, top, ab, br, back⟩ keys hs) (pos rfl ?_))
  refine bnd (rank_pipe_f ⟨nm, fr, top, ab, br, back⟩ key hs) (bnd (ref_pipe ⟨nm, fr, top, ab, br, back⟩ key hs) (pos rfl ?_))
  refine neg (by simp) ?_
  refine succ ?_
  simp only [diapasonlaw20_RankTells.j0]
  refine neg (by simp) ?_
  refine bnd (keys_f ⟨nm, fr, top, ab, br, back⟩ keys p hs) (bnd (ref_keys ⟨nm, fr, top, ab, br, back⟩ keys p hs) (bnd (same_f _ (keys_le _ _ _)) (pos rfl ?_)))
  refine succ ?_
  simp only [diapasonlaw20_RankTells.j1]
  refine neg (by simp) ?_
  refine bnd (size_f ⟨nm, fr, top, ab, br, back⟩ keys hs) (bnd (ref_size ⟨nm, fr, top, ab, br, back⟩ keys hs) (pos rfl (pos rfl (pos rfl ?_))))
  exact bnd (same_f _ hs.2) (pos rfl (bnd works_f (ret rfl)))
end Go.Proofs.Ytgdbdjfmbccfoaa.Pure
