/- What the printed Pipe, Keys, Size of rank and of its reference come to; the chapter's example. -/
import Derived.Test.YtgdbdjfmbccfoaaRkRankEach
set_option linter.unusedVariables false
set_option linter.unusedSimpArgs false
namespace Go.Proofs.Ytgdbdjfmbccfoaa.RkRankEach
open Go.RowKit Go.Proofs.YtgdbdjfmbccfoaaW.PrintWords Go.Proofs.Ytgdbdjfmbccfoaa.Pl Go.Proofs.Ytgdbdjfmbccfoaa.PRankEach

theorem rank_pipe_f (r : Rank) (key : Int) (hs : r.Small) : Ev (fun k => rank_Pipe.f k r.nm r.fr r.top r.ab r.br r.back key) (if r.May 61 then ((r.pipe key).1, (r.pipe key).2, 0) else (0, false, 2)) := by
  unfold rank_Pipe.f
  refine bnd (check r 61 hs) ?_
  by_cases hm : r.May 61
  · rw [if_pos hm, if_pos hm]
    exact pos rfl (bnd (pipe r key hs.2) (ret rfl))
  · rw [if_neg hm, if_neg hm]
    exact neg (by decide) (ret rfl)
/-- The keys from i on, d of them, whose pipe is p. -/
def Rank.keysFrom (r : Rank) (p : Int) : Nat → Nat → List Int
  | 0, _ => []
  | d + 1, i => (if (r.pipe i).2 = true ∧ (r.pipe i).1 = p then [(i : Int)] else []) ++ r.keysFrom p d (i + 1)
theorem keys_loop (r : Rank) (p : Int) (keys : Nat) (hk : keys ≤ 61) (hs : r.Small) : ∀ (d i : Nat) (acc : List Int), keys - i = d → i ≤ keys → acc.length ≤ i →
    Ev (fun k => rank_Keys.l0 k p acc (keys : Int) (i : Int) r.nm r.fr r.top r.ab r.br r.back) (acc ++ r.keysFrom p d i, 0) := by
  intro d
  induction d with
  | zero =>
    intro i acc hd hi hl
    refine succ ?_
    simp only [rank_Keys.l0]
    exact neg (by omega) (ret (by simp [Rank.keysFrom]))
  | succ d ih =>
    intro i acc hd hi hl
    refine succ ?_
    simp only [rank_Keys.l0]
    refine pos (by omega) (bnd (pipe r _ hs.2) ?_)
    have hw : wrap64 ((i : Int) + 1) = ((i + 1 : Nat) : Int) := wrapS (by omega)
    rw [hw]
    refine alt (fun h1 => ?_) (fun h1 => ?_)
    · refine alt (fun h2 => ?_) (fun h2 => ?_)
      · refine pos (by omega) ?_
        refine cast_eq (ih (i + 1) _ (by omega) (by omega) (by simp; omega)) ?_
        simp only [Rank.keysFrom]; rw [if_pos ⟨h1, h2⟩]; simp
      · refine cast_eq (ih (i + 1) _ (by omega) (by omega) (by omega)) ?_
        simp only [Rank.keysFrom]; rw [if_neg (fun h => h2 h.2)]; simp
    · refine cast_eq (ih (i + 1) _ (by omega) (by omega) (by omega)) ?_
      simp only [Rank.keysFrom]; rw [if_neg (fun h => h1 h.1)]; simp
def Rank.keys (r : Rank) (keys p : Int) : List Int × Int := if r.May keys then (r.keysFrom p keys.toNat 0, 0) else ([], 2)
theorem keys_f (r : Rank) (keys p : Int) (hs : r.Small) : Ev (fun k => rank_Keys.f k r.nm r.fr r.top r.ab r.br r.back keys p) (r.keys keys p) := by
  unfold rank_Keys.f Rank.keys
  refine bnd (check r keys hs) ?_
  by_cases hm : r.May keys
  · rw [if_pos hm, if_pos hm]
    have h1 := hm.1.1
    have h2 := hm.1.2.1
    obtain ⟨n, rfl⟩ := Int.eq_ofNat_of_zero_le (show 0 ≤ keys by omega)
    exact pos rfl (cast_eq (keys_loop r p n (by omega) hs n 0 [] (by omega) (by omega) (by simp)) (by simp))
  · rw [if_neg hm, if_neg hm]
    exact neg (by decide) (ret rfl)
/-- The least and the greatest pipe of d keys from one on. -/
def Rank.sizeFrom (r : Rank) : Nat → Int → Int → Int → Int × Int
  | 0, _, lo, hi => (lo, hi)
  | d + 1, key, lo, hi => r.sizeFrom d (key + 1) (mn lo (r.pipe key).1) (mx hi (r.pipe key).1)
theorem size_loop (r : Rank) (n : Nat) (hs : r.Small) (hf : 0 ≤ r.fr) (hn : r.fr + n ≤ 61) : ∀ (d i : Nat) (lo hi : Int), n - i = d → i ≤ n →
    Ev (fun k => rank_Size.l0 k lo hi (n : Int) (i : Int) r.nm r.fr r.top r.ab r.br r.back) ((r.sizeFrom d (r.fr + i) lo hi).1, (r.sizeFrom d (r.fr + i) lo hi).2, 0) := by
  intro d
  induction d with
  | zero =>
    intro i lo hi hd hi'
    refine succ ?_
    simp only [rank_Size.l0]
    exact neg (by omega) (ret rfl)
  | succ d ih =>
    intro i lo hi hd hi'
    refine succ ?_
    simp only [rank_Size.l0]
    have hw : wrap64 ((i : Int) + 1) = ((i + 1 : Nat) : Int) := wrapS (by omega)
    have hw2 : wrap64 (r.fr + (i : Int)) = r.fr + (i : Int) := wrapI (by omega) (by omega)
    rw [hw, hw2]
    refine pos (by omega) (bnd (pipe r _ hs.2) ?_)
    refine cast_eq (ih (i + 1) _ _ (by omega) (by omega)) ?_
    simp only [Rank.sizeFrom]
    rw [show r.fr + ((i + 1 : Nat) : Int) = r.fr + (i : Int) + 1 from by omega]
def Rank.size (r : Rank) (keys : Int) : Int × Int × Int := if r.May keys then ((r.sizeFrom (r.top - r.fr + 1).toNat r.fr (r.pipe r.fr).1 (r.pipe r.fr).1).1, (r.sizeFrom (r.top - r.fr + 1).toNat r.fr (r.pipe r.fr).1 (r.pipe r.fr).1).2, 0) else (0, 0, 2)
theorem size_f (r : Rank) (keys : Int) (hs : r.Small) : Ev (fun k => rank_Size.f k r.nm r.fr r.top r.ab r.br r.back keys) (r.size keys) := by
  unfold rank_Size.f Rank.size
  refine bnd (check r keys hs) ?_
  by_cases hm : r.May keys
  · rw [if_pos hm, if_pos hm]
    obtain ⟨⟨h1, h2, _, h4, h5, h6, _⟩, _⟩ := hm
    refine pos rfl (bnd (pipe r _ hs.2) ?_)
    have e1 : wrap64 (r.top - r.fr) = r.top - r.fr := wrapI (by omega) (by omega)
    have e2 : wrap64 (r.top - r.fr + 1) = r.top - r.fr + 1 := wrapI (by omega) (by omega)
    rw [e1, e2]
    obtain ⟨n, hn⟩ := Int.eq_ofNat_of_zero_le (show 0 ≤ r.top - r.fr + 1 by omega)
    rw [hn, Int.toNat_natCast]
    refine cast_eq (size_loop r n hs h4 (by omega) n 0 _ _ (by omega) (by omega)) ?_
    simp
  · rw [if_neg hm, if_neg hm]
    exact neg (by decide) (ret rfl)

def ex : Rank := ⟨⟨#[99, 121, 109, 98, 97, 108]⟩, 2, 9, 12, [5, 8], 7⟩
theorem ex_may : ex.May 61 := by decide
theorem ex_small : ex.Small := ⟨by decide, by decide⟩
theorem works_f : Ev (fun k => diapasonlaw20_works.f k) true := by
  unfold diapasonlaw20_works.f diapasonlaw20_example.f
  simp only [Option.bind_some]
  refine bnd (cast_eq (rank_pipe_f ex 7 ex_small) (if_pos ex_may)) ?_
  refine bnd (cast_eq (size_f ex 61 ex_small) (if_pos ex_may)) ?_
  refine pos rfl (pos rfl (pos (by decide +kernel) (pos (by decide +kernel) (pos (by decide +kernel) (ret (by decide +kernel))))))
end Go.Proofs.Ytgdbdjfmbccfoaa.RkRankEach
