-- Written by a program of this session (the kit's print, turned: wip/px).
import Derived.Test.YtgdbdjfmbccfoaaPRankKnownx0
import Derived.Test.YtgdbdjfmbccfoaaPRankKnownx2
import Derived.Test.YtgdbdjfmbccfoaaPRankKnownx3
namespace Go.Proofs.Ytgdbdjfmbccfoaa.PRankKnown
open Go.RowKit Go.Proofs.YtgdbdjfmbccfoaaW.PrintWords Go.Proofs.YtgdbdjfmbccfoaaW.PrintLast Go.Proofs.YtgdbdjfmbccfoaaW.PrintMore
attribute [local go_sem] max2_int min2_int max_two min_two max_three min_three max_four min_four   -- for this text's walks alone
set_option linter.unusedVariables false
set_option linter.unusedSimpArgs false

/-! ### diapasonlaw20_RankKnown: function 5 -/
def diapasonlaw20_RankKnown.nm : ByteArray := ⟨#[99, 121, 109, 98, 97, 108]⟩
def diapasonlaw20_RankKnown.wants : List Int := [-1, -1, 14, 15, 16, 10, 11, 12, 6, 7, -1]
def diapasonlaw20_RankKnown.ns : List Int := [0, 0, 14, 15, 16, 10, 11, 12, 6, 7, 0]
def diapasonlaw20_RankKnown.bs : List (List Int) := [[2], [8, 5], [10], [5, 5], [3, 4, 5, 6, 7, 8, 9, 10, 11], []]
def diapasonlaw20_RankKnown.ss : List ByteArray := [⟨#[]⟩, ⟨#[65]⟩, ⟨#[49, 97]⟩, ⟨#[97, 32, 98]⟩, ⟨#[97, 98, 99, 100, 101, 102, 103, 104, 105, 106, 107, 108, 109, 110, 111, 112, 113]⟩, ⟨#[45, 97]⟩]
structure diapasonlaw20_RankKnown.Ok (k : Nat) : Prop where
  pipes : ∀ i : Nat, i < 11 → rank_Pipe.f k diapasonlaw20_RankKnown.nm 2 9 12 [5, 8] 7 (i : Int) = some (diapasonlaw20_RankKnown.ns.getD i 0, decide (0 ≤ diapasonlaw20_RankKnown.wants.getD i 0), 0)
  keys : rank_Keys.f k diapasonlaw20_RankKnown.nm 2 9 12 [5, 8] 7 61 10 = some ([5], 0)
  c10 : rank_Check.f k diapasonlaw20_RankKnown.nm 2 9 12 [5, 8] 7 10 = some 0
  c9 : rank_Check.f k diapasonlaw20_RankKnown.nm 2 9 12 [5, 8] 7 9 = some 2
  c0 : rank_Check.f k diapasonlaw20_RankKnown.nm 2 9 12 [5, 8] 7 0 = some 2
  c62 : rank_Check.f k diapasonlaw20_RankKnown.nm 2 9 12 [5, 8] 7 62 = some 2
  breaks : ∀ i : Nat, i < 6 → rank_Check.f k diapasonlaw20_RankKnown.nm 2 9 12 (diapasonlaw20_RankKnown.bs.getD i []) 7 61 = some 2
  names : ∀ i : Nat, i < 6 → rank_Check.f k (diapasonlaw20_RankKnown.ss.getD i ⟨#[]⟩) 2 9 12 [5, 8] 7 61 = some 2
  above : rank_Check.f k diapasonlaw20_RankKnown.nm 2 9 121 [5, 8] 7 61 = some 2
  back : rank_Check.f k diapasonlaw20_RankKnown.nm 2 9 12 [5, 8] 25 61 = some 2
  none_ : rank_Pipe.f k ⟨#[]⟩ 0 0 0 [] 0 0 = some (0, false, 2)
  works : diapasonlaw20_works.f k = some true
def diapasonlaw20_RankKnown.okB (k : Nat) : Bool := (List.range 11).all (fun i => decide (rank_Pipe.f k diapasonlaw20_RankKnown.nm 2 9 12 [5, 8] 7 (i : Int) = some (diapasonlaw20_RankKnown.ns.getD i 0, decide (0 ≤ diapasonlaw20_RankKnown.wants.getD i 0), 0))) && (decide (rank_Keys.f k diapasonlaw20_RankKnown.nm 2 9 12 [5, 8] 7 61 10 = some ([5], 0)) && (decide (rank_Check.f k diapasonlaw20_RankKnown.nm 2 9 12 [5, 8] 7 10 = some 0) && (decide (rank_Check.f k diapasonlaw20_RankKnown.nm 2 9 12 [5, 8] 7 9 = some 2) && (decide (rank_Check.f k diapasonlaw20_RankKnown.nm 2 9 12 [5, 8] 7 0 = some 2) && (decide (rank_Check.f k diapasonlaw20_RankKnown.nm 2 9 12 [5, 8] 7 62 = some 2) && ((List.range 6).all (fun i => decide (rank_Check.f k diapasonlaw20_RankKnown.nm 2 9 12 (diapasonlaw20_RankKnown.bs.getD i []) 7 61 = some 2)) && ((List.range 6).all (fun i => decide (rank_Check.f k (diapasonlaw20_RankKnown.ss.getD i ⟨#[]⟩) 2 9 12 [5, 8] 7 61 = some 2)) && (decide (rank_Check.f k diapasonlaw20_RankKnown.nm 2 9 121 [5, 8] 7 61 = some 2) && (decide (rank_Check.f k diapasonlaw20_RankKnown.nm 2 9 12 [5, 8] 25 61 = some 2) && (decide (rank_Pipe.f k ⟨#[]⟩ 0 0 0 [] 0 0 = some (0, false, 2)) && decide (diapasonlaw20_works.f k = some true)))))))))))
theorem diapasonlaw20_RankKnown.ok_of {k : Nat} (h : diapasonlaw20_RankKnown.okB k = true) : diapasonlaw20_RankKnown.Ok k := by
  unfold diapasonlaw20_RankKnown.okB at h
  simp only [Bool.and_eq_true, decide_eq_true_eq, List.all_eq_true, List.mem_range] at h
  obtain ⟨a, b, c, d, e, f, g, h, i, j, l, m⟩ := h
  exact ⟨a, b, c, d, e, f, g, h, i, j, l, m⟩
def diapasonlaw20_RankKnown.f (k : Nat) : Option Bool := if diapasonlaw20_RankKnown.okB k = true then some true else none
theorem diapasonlaw20_RankKnown.table (i : Nat) (h : i < 11) (h0 : 0 ≤ diapasonlaw20_RankKnown.wants.getD i 0) : diapasonlaw20_RankKnown.ns.getD i 0 = diapasonlaw20_RankKnown.wants.getD i 0 := by
  have : ∀ i : Fin 11, 0 ≤ diapasonlaw20_RankKnown.wants.getD i.val 0 → diapasonlaw20_RankKnown.ns.getD i.val 0 = diapasonlaw20_RankKnown.wants.getD i.val 0 := by decide
  exact this ⟨i, h⟩ h0
theorem diapasonlaw20_RankKnown.stay {w : World} {a : Addr} {v : Value} (o : Obj) (h : w.cell? a = some v) : (w.alloc o).cell? a = some v := (World.grownBy_alloc w o none).cell h (by simp)
/-- The rank's cells, read. -/
theorem diapasonlaw20_RankKnown.cells {w : World} {g : Nat} {s : ByteArray} {a b c d : Int} {v : Value} (h : w.heap[g]? = some (.cells #[.string s, .int .i64 a, .int .i64 b, .int .i64 c, v, .int .i64 d] 24 (0, 0))) :
    w.cell? ⟨g, 0, none⟩ = some (.string s) ∧ w.cell? ⟨g, 1, none⟩ = some (.int .i64 a) ∧ w.cell? ⟨g, 2, none⟩ = some (.int .i64 b) ∧ w.cell? ⟨g, 3, none⟩ = some (.int .i64 c) ∧ w.cell? ⟨g, 4, none⟩ = some v ∧ w.cell? ⟨g, 5, none⟩ = some (.int .i64 d) :=
  ⟨(blk_cell h 0).trans rfl, (blk_cell h 1).trans rfl, (blk_cell h 2).trans rfl, (blk_cell h 3).trans rfl, (blk_cell h 4).trans rfl, (blk_cell h 5).trans rfl⟩
theorem diapasonlaw20_RankKnown.add0 (g j : Nat) : (⟨g, 0, none⟩ : Addr).add j = ⟨g, j, none⟩ := by
  unfold Addr.add
  by_cases h : j = 0
  · subst h; simp
  · simp [h]
theorem diapasonlaw20_RankKnown.rowC {W : World} {g n : Nat} (xs : List Int) (h : W.heap[g]? = some (.cells (xs.map (Value.int .i64)).toArray 3 (0, 0))) (hn : xs.length = n) (hm : n ≤ 100) : Kd.C (Kd.int .i64) W (some ⟨g, 0, none⟩) n xs := by
  refine ⟨hn, by omega, fun _ => ⟨_, rfl, fun j p hj => ⟨[.int .i64 p], rfl, rfl, fun i u hu => ?_⟩⟩⟩
  match i, hu with
  | 0, hu =>
    injection hu with hu
    subst hu
    show W.cell? ((⟨g, 0, none⟩ : Addr).add (j * 1 + 0)) = _
    rw [Nat.mul_one, Nat.add_zero, diapasonlaw20_RankKnown.add0, blk_cell h]
    rw [List.getElem?_toArray, List.getElem?_map, hj]; rfl
set_option maxHeartbeats 2000000 in
theorem diapasonlaw20_RankKnown.rows (w7 : World) : ∀ i : Nat, i < 6 → ∃ (A : Option Addr) (c : Nat), ((((((w7.alloc (.cells #[.int .i64 2] 3 (0, 0))).alloc (.cells #[.int .i64 8, .int .i64 5] 3 (0, 0))).alloc (.cells #[.int .i64 10] 3 (0, 0))).alloc (.cells #[.int .i64 5, .int .i64 5] 3 (0, 0))).alloc (.cells #[.int .i64 3, .int .i64 4, .int .i64 5, .int .i64 6, .int .i64 7, .int .i64 8, .int .i64 9, .int .i64 10, .int .i64 11] 3 (0, 0))).alloc (.cells #[.slice (some ⟨w7.heap.size, 0, none⟩) 1 1, .slice (some ⟨w7.heap.size + 1, 0, none⟩) 2 2, .slice (some ⟨w7.heap.size + 1 + 1, 0, none⟩) 1 1, .slice (some ⟨w7.heap.size + 1 + 1 + 1, 0, none⟩) 2 2, .slice (some ⟨w7.heap.size + 1 + 1 + 1 + 1, 0, none⟩) 9 9, .slice none 0 0] 22 (0, 0))).cell? ((⟨w7.heap.size + 1 + 1 + 1 + 1 + 1, 0, none⟩ : Addr).add i) = some (.slice A (diapasonlaw20_RankKnown.bs.getD i []).length c) ∧ (diapasonlaw20_RankKnown.bs.getD i []).length ≤ c ∧ Kd.C (Kd.int .i64) ((((((w7.alloc (.cells #[.int .i64 2] 3 (0, 0))).alloc (.cells #[.int .i64 8, .int .i64 5] 3 (0, 0))).alloc (.cells #[.int .i64 10] 3 (0, 0))).alloc (.cells #[.int .i64 5, .int .i64 5] 3 (0, 0))).alloc (.cells #[.int .i64 3, .int .i64 4, .int .i64 5, .int .i64 6, .int .i64 7, .int .i64 8, .int .i64 9, .int .i64 10, .int .i64 11] 3 (0, 0))).alloc (.cells #[.slice (some ⟨w7.heap.size, 0, none⟩) 1 1, .slice (some ⟨w7.heap.size + 1, 0, none⟩) 2 2, .slice (some ⟨w7.heap.size + 1 + 1, 0, none⟩) 1 1, .slice (some ⟨w7.heap.size + 1 + 1 + 1, 0, none⟩) 2 2, .slice (some ⟨w7.heap.size + 1 + 1 + 1 + 1, 0, none⟩) 9 9, .slice none 0 0] 22 (0, 0))) A (diapasonlaw20_RankKnown.bs.getD i []).length (diapasonlaw20_RankKnown.bs.getD i []) := by
  have hs : ∀ (W : World) (o : Obj), (W.alloc o).heap.size = W.heap.size + 1 := fun W o => by simp
  have b0 := blk_alloc (blk_alloc (blk_alloc (blk_alloc (blk_alloc (blk_new w7 (.cells #[.int .i64 2] 3 (0, 0))) (.cells #[.int .i64 8, .int .i64 5] 3 (0, 0))) (.cells #[.int .i64 10] 3 (0, 0))) (.cells #[.int .i64 5, .int .i64 5] 3 (0, 0))) (.cells #[.int .i64 3, .int .i64 4, .int .i64 5, .int .i64 6, .int .i64 7, .int .i64 8, .int .i64 9, .int .i64 10, .int .i64 11] 3 (0, 0))) (.cells #[.slice (some ⟨w7.heap.size, 0, none⟩) 1 1, .slice (some ⟨w7.heap.size + 1, 0, none⟩) 2 2, .slice (some ⟨w7.heap.size + 1 + 1, 0, none⟩) 1 1, .slice (some ⟨w7.heap.size + 1 + 1 + 1, 0, none⟩) 2 2, .slice (some ⟨w7.heap.size + 1 + 1 + 1 + 1, 0, none⟩) 9 9, .slice none 0 0] 22 (0, 0))
  have b1 := blk_alloc (blk_alloc (blk_alloc (blk_alloc (blk_new (w7.alloc (.cells #[.int .i64 2] 3 (0, 0))) (.cells #[.int .i64 8, .int .i64 5] 3 (0, 0))) (.cells #[.int .i64 10] 3 (0, 0))) (.cells #[.int .i64 5, .int .i64 5] 3 (0, 0))) (.cells #[.int .i64 3, .int .i64 4, .int .i64 5, .int .i64 6, .int .i64 7, .int .i64 8, .int .i64 9, .int .i64 10, .int .i64 11] 3 (0, 0))) (.cells #[.slice (some ⟨w7.heap.size, 0, none⟩) 1 1, .slice (some ⟨w7.heap.size + 1, 0, none⟩) 2 2, .slice (some ⟨w7.heap.size + 1 + 1, 0, none⟩) 1 1, .slice (some ⟨w7.heap.size + 1 + 1 + 1, 0, none⟩) 2 2, .slice (some ⟨w7.heap.size + 1 + 1 + 1 + 1, 0, none⟩) 9 9, .slice none 0 0] 22 (0, 0))
  simp only [hs] at b1
  have b2 := blk_alloc (blk_alloc (blk_alloc (blk_new ((w7.alloc (.cells #[.int .i64 2] 3 (0, 0))).alloc (.cells #[.int .i64 8, .int .i64 5] 3 (0, 0))) (.cells #[.int .i64 10] 3 (0, 0))) (.cells #[.int .i64 5, .int .i64 5] 3 (0, 0))) (.cells #[.int .i64 3, .int .i64 4, .int .i64 5, .int .i64 6, .int .i64 7, .int .i64 8, .int .i64 9, .int .i64 10, .int .i64 11] 3 (0, 0))) (.cells #[.slice (some ⟨w7.heap.size, 0, none⟩) 1 1, .slice (some ⟨w7.heap.size + 1, 0, none⟩) 2 2, .slice (some ⟨w7.heap.size + 1 + 1, 0, none⟩) 1 1, .slice (some ⟨w7.heap.size + 1 + 1 + 1, 0, none⟩) 2 2, .slice (some ⟨w7.heap.size + 1 + 1 + 1 + 1, 0, none⟩) 9 9, .slice none 0 0] 22 (0, 0))
  simp only [hs] at b2
  have b3 := blk_alloc (blk_alloc (blk_new (((w7.alloc (.cells #[.int .i64 2] 3 (0, 0))).alloc (.cells #[.int .i64 8, .int .i64 5] 3 (0, 0))).alloc (.cells #[.int .i64 10] 3 (0, 0))) (.cells #[.int .i64 5, .int .i64 5] 3 (0, 0))) (.cells #[.int .i64 3, .int .i64 4, .int .i64 5, .int .i64 6, .int .i64 7, .int .i64 8, .int .i64 9, .int .i64 10, .int .i64 11] 3 (0, 0))) (.cells #[.slice (some ⟨w7.heap.size, 0, none⟩) 1 1, .slice (some ⟨w7.heap.size + 1, 0, none⟩) 2 2, .slice (some ⟨w7.heap.size + 1 + 1, 0, none⟩) 1 1, .slice (some ⟨w7.heap.size + 1 + 1 + 1, 0, none⟩) 2 2, .slice (some ⟨w7.heap.size + 1 + 1 + 1 + 1, 0, none⟩) 9 9, .slice none 0 0] 22 (0, 0))
  simp only [hs] at b3
  have b4 := blk_alloc (blk_new ((((w7.alloc (.cells #[.int .i64 2] 3 (0, 0))).alloc (.cells #[.int .i64 8, .int .i64 5] 3 (0, 0))).alloc (.cells #[.int .i64 10] 3 (0, 0))).alloc (.cells #[.int .i64 5, .int .i64 5] 3 (0, 0))) (.cells #[.int .i64 3, .int .i64 4, .int .i64 5, .int .i64 6, .int .i64 7, .int .i64 8, .int .i64 9, .int .i64 10, .int .i64 11] 3 (0, 0))) (.cells #[.slice (some ⟨w7.heap.size, 0, none⟩) 1 1, .slice (some ⟨w7.heap.size + 1, 0, none⟩) 2 2, .slice (some ⟨w7.heap.size + 1 + 1, 0, none⟩) 1 1, .slice (some ⟨w7.heap.size + 1 + 1 + 1, 0, none⟩) 2 2, .slice (some ⟨w7.heap.size + 1 + 1 + 1 + 1, 0, none⟩) 9 9, .slice none 0 0] 22 (0, 0))
  simp only [hs] at b4
  have b5 := blk_new (((((w7.alloc (.cells #[.int .i64 2] 3 (0, 0))).alloc (.cells #[.int .i64 8, .int .i64 5] 3 (0, 0))).alloc (.cells #[.int .i64 10] 3 (0, 0))).alloc (.cells #[.int .i64 5, .int .i64 5] 3 (0, 0))).alloc (.cells #[.int .i64 3, .int .i64 4, .int .i64 5, .int .i64 6, .int .i64 7, .int .i64 8, .int .i64 9, .int .i64 10, .int .i64 11] 3 (0, 0))) (.cells #[.slice (some ⟨w7.heap.size, 0, none⟩) 1 1, .slice (some ⟨w7.heap.size + 1, 0, none⟩) 2 2, .slice (some ⟨w7.heap.size + 1 + 1, 0, none⟩) 1 1, .slice (some ⟨w7.heap.size + 1 + 1 + 1, 0, none⟩) 2 2, .slice (some ⟨w7.heap.size + 1 + 1 + 1 + 1, 0, none⟩) 9 9, .slice none 0 0] 22 (0, 0))
  simp only [hs] at b5
  generalize ((((((w7.alloc (.cells #[.int .i64 2] 3 (0, 0))).alloc (.cells #[.int .i64 8, .int .i64 5] 3 (0, 0))).alloc (.cells #[.int .i64 10] 3 (0, 0))).alloc (.cells #[.int .i64 5, .int .i64 5] 3 (0, 0))).alloc (.cells #[.int .i64 3, .int .i64 4, .int .i64 5, .int .i64 6, .int .i64 7, .int .i64 8, .int .i64 9, .int .i64 10, .int .i64 11] 3 (0, 0))).alloc (.cells #[.slice (some ⟨w7.heap.size, 0, none⟩) 1 1, .slice (some ⟨w7.heap.size + 1, 0, none⟩) 2 2, .slice (some ⟨w7.heap.size + 1 + 1, 0, none⟩) 1 1, .slice (some ⟨w7.heap.size + 1 + 1 + 1, 0, none⟩) 2 2, .slice (some ⟨w7.heap.size + 1 + 1 + 1 + 1, 0, none⟩) 9 9, .slice none 0 0] 22 (0, 0))) = W8 at b0 b1 b2 b3 b4 b5 ⊢
  intro i hi
  rw [diapasonlaw20_RankKnown.add0, blk_cell b5]
  match i, hi with
  | 0, _ => exact ⟨_, _, rfl, Nat.le_refl _, diapasonlaw20_RankKnown.rowC [2] b0 rfl (by decide)⟩
  | 1, _ => exact ⟨_, _, rfl, Nat.le_refl _, diapasonlaw20_RankKnown.rowC [8, 5] b1 rfl (by decide)⟩
  | 2, _ => exact ⟨_, _, rfl, Nat.le_refl _, diapasonlaw20_RankKnown.rowC [10] b2 rfl (by decide)⟩
  | 3, _ => exact ⟨_, _, rfl, Nat.le_refl _, diapasonlaw20_RankKnown.rowC [5, 5] b3 rfl (by decide)⟩
  | 4, _ => exact ⟨_, _, rfl, Nat.le_refl _, diapasonlaw20_RankKnown.rowC [3, 4, 5, 6, 7, 8, 9, 10, 11] b4 rfl (by decide)⟩
  | 5, _ => exact ⟨_, _, rfl, Nat.le_refl _, rfl, by decide, fun h => absurd h (by decide)⟩
theorem diapasonlaw20_RankKnown.texts (W : World) : ∀ i : Nat, i < 6 → (W.alloc (.cells #[.string ⟨#[]⟩, .string ⟨#[65]⟩, .string ⟨#[49, 97]⟩, .string ⟨#[97, 32, 98]⟩, .string ⟨#[97, 98, 99, 100, 101, 102, 103, 104, 105, 106, 107, 108, 109, 110, 111, 112, 113]⟩, .string ⟨#[45, 97]⟩] 9 (0, 0))).cell? ((⟨W.heap.size, 0, none⟩ : Addr).add i) = some (.string (diapasonlaw20_RankKnown.ss.getD i ⟨#[]⟩)) := by
  intro i hi
  rw [diapasonlaw20_RankKnown.add0, blk_cell (blk_new W _)]
  match i, hi with
  | 0, _ => rfl
  | 1, _ => rfl
  | 2, _ => rfl
  | 3, _ => rfl
  | 4, _ => rfl
  | 5, _ => rfl
set_option maxHeartbeats 8000000 in
set_option maxRecDepth 100000 in
theorem diapasonlaw20_RankKnown.calls (k : Nat) (r : Bool) (w : World) (h : diapasonlaw20_RankKnown.f k = some r) :
    Calls Try.prog 5 #[] w fun e w' => e = .returned (.bool r) ∧ Below w.heap.size w w' := by
  unfold diapasonlaw20_RankKnown.f at h
  by_cases hok : diapasonlaw20_RankKnown.okB k = true
  case neg => rw [if_neg hok] at h; cases h
  rw [if_pos hok] at h
  injection h with h
  subst h
  have OK := Aside0.mk (diapasonlaw20_RankKnown.ok_of hok)
  clear hok
  have hu24 := Try.underlying24
  obtain ⟨nm, hnm⟩ : ∃ s, s = diapasonlaw20_RankKnown.nm := ⟨_, rfl⟩
  have HN := Aside0.mk hnm
  have HEX := Aside0.mk (show diapasonlaw20_example.f = some (nm, 2, 9, 12, [5, 8], 7) by rw [hnm]; rfl)
  clear hnm
  go_enter Try.func5, Try.ntmps5
  go_wp2_with fail
  refine (diapasonlaw20_example.calls nm 2 9 12 [5, 8] 7 _ HEX.out).mono ?_
  rintro e w1 ⟨v4, rfl, hv, hb⟩
  obtain ⟨A, c, e4⟩ := Kd.R_slice hv
  have e4 : v4 = .slice A 2 c := e4
  subst e4
  have hrd := Kd.R_reads' hv
  have hc2 : 2 ≤ c := hrd.2.1
  have HC1 := Aside0.mk (show Kd.C (Kd.int .i64) w1 A 2 [5, 8] from hrd.2.2)
  have HB1 := Aside0.mk hb
  clear hv hb hrd
  go_wp2_with fail
  have hz1 := blk_alloc (blk_new w1 (.cells #[.string nm, .int .i64 2, .int .i64 9, .int .i64 12, .slice A 2 c, .int .i64 7] 24 (0, 0))) (.cells #[.int .i64 (-1), .int .i64 (-1), .int .i64 14, .int .i64 15, .int .i64 16, .int .i64 10, .int .i64 11, .int .i64 12, .int .i64 6, .int .i64 7, .int .i64 (-1)] 3 (0, 0))
  have hz2 := blk_new (w1.alloc (.cells #[.string nm, .int .i64 2, .int .i64 9, .int .i64 12, .slice A 2 c, .int .i64 7] 24 (0, 0))) (.cells #[.int .i64 (-1), .int .i64 (-1), .int .i64 14, .int .i64 15, .int .i64 16, .int .i64 10, .int .i64 11, .int .i64 12, .int .i64 6, .int .i64 7, .int .i64 (-1)] 3 (0, 0))
  have hs2 : (w1.alloc (.cells #[.string nm, .int .i64 2, .int .i64 9, .int .i64 12, .slice A 2 c, .int .i64 7] 24 (0, 0))).heap.size = w1.heap.size + 1 := by simp
  rw [hs2] at hz2
  have hb2 := below_alloc (below_alloc HB1.out (.cells #[.string nm, .int .i64 2, .int .i64 9, .int .i64 12, .slice A 2 c, .int .i64 7] 24 (0, 0))) (.cells #[.int .i64 (-1), .int .i64 (-1), .int .i64 14, .int .i64 15, .int .i64 16, .int .i64 10, .int .i64 11, .int .i64 12, .int .i64 6, .int .i64 7, .int .i64 (-1)] 3 (0, 0))
  have hC2 := Kd.C_alloc (Kd.C_alloc HC1.out (.cells #[.string nm, .int .i64 2, .int .i64 9, .int .i64 12, .slice A 2 c, .int .i64 7] 24 (0, 0))) (.cells #[.int .i64 (-1), .int .i64 (-1), .int .i64 14, .int .i64 15, .int .i64 16, .int .i64 10, .int .i64 11, .int .i64 12, .int .i64 6, .int .i64 7, .int .i64 (-1)] 3 (0, 0))
  generalize (w1.alloc (.cells #[.string nm, .int .i64 2, .int .i64 9, .int .i64 12, .slice A 2 c, .int .i64 7] 24 (0, 0))).alloc (.cells #[.int .i64 (-1), .int .i64 (-1), .int .i64 14, .int .i64 15, .int .i64 16, .int .i64 10, .int .i64 11, .int .i64 12, .int .i64 6, .int .i64 7, .int .i64 (-1)] 3 (0, 0)) = W2 at hz1 hz2 hb2 hC2 ⊢
  have hx : ∀ i, i < 11 → W2.cell? ((⟨w1.heap.size + 1, 0, none⟩ : Addr).add i) = some (.int .i64 (diapasonlaw20_RankKnown.wants.getD i 0)) := fun i hi => by
    rw [diapasonlaw20_RankKnown.add0, blk_cell hz2]
    have : ∀ i : Fin 11, (#[.int .i64 (-1), .int .i64 (-1), .int .i64 14, .int .i64 15, .int .i64 16, .int .i64 10, .int .i64 11, .int .i64 12, .int .i64 6, .int .i64 7, .int .i64 (-1)] : Array Value)[i.val]? = some (.int .i64 (diapasonlaw20_RankKnown.wants.getD i.val 0)) := fun i => by
      match i with
      | 0 => rfl
      | 1 => rfl
      | 2 => rfl
      | 3 => rfl
      | 4 => rfl
      | 5 => rfl
      | 6 => rfl
      | 7 => rfl
      | 8 => rfl
      | 9 => rfl
      | 10 => rfl
    exact this ⟨i, hi⟩
  have HX := Aside0.mk hx
  have HZ := Aside0.mk hz1
  have HB2 := Aside0.mk hb2
  have HC2 := Aside0.mk hC2
  clear hx hz1 hz2 hs2 hb2 hC2 HC1 HB1
  generalize (⟨w1.heap.size + 1, 0, none⟩ : Addr) = ad2 at HX ⊢
  generalize w1.heap.size = g1 at HZ ⊢
  go_loopw [20] (fun v20 wr => ∃ i : Nat, v20 = .int .i64 i ∧ i ≤ 11 ∧ Aside0 (Below W2.heap.size W2 wr)) (fun v20 _ => 11 - (intOf v20).toNat)
  case atStart => exact ⟨0, rfl, by omega, ⟨Below.refl _ _⟩⟩
  case round =>
    obtain ⟨i, rfl, hi, HB⟩ := hrel
    obtain ⟨e0, e1, e2, e3, e4, e5⟩ := diapasonlaw20_RankKnown.cells (blk_below HZ.out HB.out)
    have HC := Aside0.mk (Kd.C_below HC2.out HB.out)
    by_cases hlt : i < 11
    · have hx := (HB.out.cell (World.block_lt_of_cell? _ _ (HX.out i hlt))).trans (HX.out i hlt)
      have hp := OK.out.pipes i hlt
      rw [← HN.out] at hp
      have ht := diapasonlaw20_RankKnown.table i hlt
      generalize diapasonlaw20_RankKnown.wants.getD i 0 = wv at hx hp ht
      generalize diapasonlaw20_RankKnown.ns.getD i 0 = nv at hp ht
      by_cases h0 : 0 ≤ wv
      · rw [decide_eq_true h0, ht h0] at hp
        have HP := Aside0.mk hp
        clear hp ht
        go_wp2_with (go_at_call 11; refine (rank_Pipe.calls k nm 2 9 12 A c [5, 8] 7 i wv true 0 _ HC.out hc2 HP.out).mono ?_; rintro e w3 ⟨rfl, hb⟩; have HBn := Aside0.mk (below_step HB.out hb); clear hb)
        go_roundw
        case rel => exact ⟨i + 1, by go_num, by omega, HBn⟩
        case measure => simp [intOf]; omega
      · rw [decide_eq_false h0] at hp
        have HP := Aside0.mk hp
        clear hp ht
        go_wp2_with (go_at_call 11; refine (rank_Pipe.calls k nm 2 9 12 A c [5, 8] 7 i nv false 0 _ HC.out hc2 HP.out).mono ?_; rintro e w3 ⟨rfl, hb⟩; have HBn := Aside0.mk (below_step HB.out hb); clear hb)
        go_roundw
        case rel => exact ⟨i + 1, by go_num, by omega, HBn⟩
        case measure => simp [intOf]; omega
    · obtain rfl : i = 11 := by omega
      go_wp2_with fail
      have hke := OK.out.keys
      rw [← HN.out] at hke
      refine (rank_Keys.calls k nm 2 9 12 A c [5, 8] 7 61 10 [5] 0 _ HC.out hc2 hke).mono ?_
      clear hke
      rintro e w3 ⟨v7, rfl, hv, hb⟩
      obtain ⟨A7, c7, e7⟩ := Kd.R_slice hv
      have e7 : v7 = .slice A7 1 c7 := e7
      subst e7
      obtain ⟨ad7, e7, hx7⟩ := Kd.at_int (Kd.R_reads' hv).2.2 0 (by decide) (by decide)
      subst e7
      have hx7 : w3.cell? (ad7.add 0) = some (.int .i64 5) := hx7
      have ha0 : ad7.add 0 = ad7 := by simp [Addr.add]
      have HX7 := Aside0.mk hx7
      have HB3 := Aside0.mk (below_step HB.out hb)
      clear hv hb HC HB hx7 e0 e1 e2 e3 e4 e5
      obtain ⟨e0, e1, e2, e3, e4, e5⟩ := diapasonlaw20_RankKnown.cells (blk_below HZ.out HB3.out)
      have hx7 := HX7.out
      have hx7' : w3.cell? ad7 = some (.int .i64 5) := by rw [← ha0]; exact hx7
      go_wp2_with fail
      have hk1 := OK.out.c10
      rw [← HN.out] at hk1
      refine (rank_Check.calls k nm 2 9 12 A c [5, 8] 7 10 0 _ (Kd.C_below HC2.out HB3.out) hc2 hk1).mono ?_
      clear hk1 e0 e1 e2 e3 e4 e5
      rintro e w4 ⟨rfl, hb⟩
      have HB4 := Aside0.mk (below_step HB3.out hb)
      clear hb
      obtain ⟨e0, e1, e2, e3, e4, e5⟩ := diapasonlaw20_RankKnown.cells (blk_below HZ.out HB4.out)
      go_wp2_with fail
      have hk1 := OK.out.c9
      rw [← HN.out] at hk1
      refine (rank_Check.calls k nm 2 9 12 A c [5, 8] 7 9 2 _ (Kd.C_below HC2.out HB4.out) hc2 hk1).mono ?_
      clear hk1 e0 e1 e2 e3 e4 e5
      rintro e w5 ⟨rfl, hb⟩
      have HB5 := Aside0.mk (below_step HB4.out hb)
      clear hb
      obtain ⟨e0, e1, e2, e3, e4, e5⟩ := diapasonlaw20_RankKnown.cells (blk_below HZ.out HB5.out)
      go_wp2_with fail
      have hk1 := OK.out.c0
      rw [← HN.out] at hk1
      refine (rank_Check.calls k nm 2 9 12 A c [5, 8] 7 0 2 _ (Kd.C_below HC2.out HB5.out) hc2 hk1).mono ?_
      clear hk1 e0 e1 e2 e3 e4 e5
      rintro e w6 ⟨rfl, hb⟩
      have HB6 := Aside0.mk (below_step HB5.out hb)
      clear hb
      obtain ⟨e0, e1, e2, e3, e4, e5⟩ := diapasonlaw20_RankKnown.cells (blk_below HZ.out HB6.out)
      go_wp2_with fail
      have hk1 := OK.out.c62
      rw [← HN.out] at hk1
      refine (rank_Check.calls k nm 2 9 12 A c [5, 8] 7 62 2 _ (Kd.C_below HC2.out HB6.out) hc2 hk1).mono ?_
      clear hk1 e0 e1 e2 e3 e4 e5
      rintro e w7 ⟨rfl, hb⟩
      have HB7 := Aside0.mk (below_step HB6.out hb)
      clear hb HB3 HB4 HB5 HB6 hx7 hx7' HX7
      go_wp2_with fail
      have hbs := diapasonlaw20_RankKnown.rows w7
      have hb8 := below_alloc (below_alloc (below_alloc (below_alloc (below_alloc (below_alloc HB7.out (.cells #[.int .i64 2] 3 (0, 0))) (.cells #[.int .i64 8, .int .i64 5] 3 (0, 0))) (.cells #[.int .i64 10] 3 (0, 0))) (.cells #[.int .i64 5, .int .i64 5] 3 (0, 0))) (.cells #[.int .i64 3, .int .i64 4, .int .i64 5, .int .i64 6, .int .i64 7, .int .i64 8, .int .i64 9, .int .i64 10, .int .i64 11] 3 (0, 0))) (.cells #[.slice (some ⟨w7.heap.size, 0, none⟩) 1 1, .slice (some ⟨w7.heap.size + 1, 0, none⟩) 2 2, .slice (some ⟨w7.heap.size + 1 + 1, 0, none⟩) 1 1, .slice (some ⟨w7.heap.size + 1 + 1 + 1, 0, none⟩) 2 2, .slice (some ⟨w7.heap.size + 1 + 1 + 1 + 1, 0, none⟩) 9 9, .slice none 0 0] 22 (0, 0))
      generalize ((((((w7.alloc (.cells #[.int .i64 2] 3 (0, 0))).alloc (.cells #[.int .i64 8, .int .i64 5] 3 (0, 0))).alloc (.cells #[.int .i64 10] 3 (0, 0))).alloc (.cells #[.int .i64 5, .int .i64 5] 3 (0, 0))).alloc (.cells #[.int .i64 3, .int .i64 4, .int .i64 5, .int .i64 6, .int .i64 7, .int .i64 8, .int .i64 9, .int .i64 10, .int .i64 11] 3 (0, 0))).alloc (.cells #[.slice (some ⟨w7.heap.size, 0, none⟩) 1 1, .slice (some ⟨w7.heap.size + 1, 0, none⟩) 2 2, .slice (some ⟨w7.heap.size + 1 + 1, 0, none⟩) 1 1, .slice (some ⟨w7.heap.size + 1 + 1 + 1, 0, none⟩) 2 2, .slice (some ⟨w7.heap.size + 1 + 1 + 1 + 1, 0, none⟩) 9 9, .slice none 0 0] 22 (0, 0))) = W8 at hbs hb8 ⊢
      generalize (⟨w7.heap.size + 1 + 1 + 1 + 1 + 1, 0, none⟩ : Addr) = ad8 at hbs ⊢
      have HS8 := Aside0.mk hbs
      have HB8 := Aside0.mk hb8
      clear hbs hb8 HB7
      go_loopw [94] (fun v94 wr => ∃ i : Nat, v94 = .int .i64 i ∧ i ≤ 6 ∧ Aside0 (Below W8.heap.size W8 wr)) (fun v94 _ => 6 - (intOf v94).toNat)
      case atStart => exact ⟨0, rfl, by omega, ⟨Below.refl _ _⟩⟩
      case round =>
        obtain ⟨i, rfl, hi, HB⟩ := hrel
        have HBr := Aside0.mk (below_step HB8.out HB.out)
        obtain ⟨e0, e1, e2, e3, e4, e5⟩ := diapasonlaw20_RankKnown.cells (blk_below HZ.out HBr.out)
        by_cases hlt : i < 6
        · obtain ⟨Ai, ci, hx, hle, hC⟩ := HS8.out i hlt
          replace hx := (HB.out.cell (World.block_lt_of_cell? _ _ hx)).trans hx
          have HCi := Aside0.mk (Kd.C_below hC HB.out)
          have hp := OK.out.breaks i hlt
          rw [← HN.out] at hp
          generalize diapasonlaw20_RankKnown.bs.getD i [] = bi at hx hle hp HCi
          have HP := Aside0.mk hp
          clear hp hC
          go_wp2_with (go_at_call 9; refine (rank_Check.calls k nm 2 9 12 Ai ci bi 7 61 2 _ (Kd.C_alloc HCi.out _) hle HP.out).mono ?_; rintro e w8 ⟨rfl, hb⟩; have HBn := Aside0.mk (below_step (below_alloc HB.out _) hb); clear hb)
          go_roundw
          case rel => exact ⟨i + 1, by go_num, by omega, HBn⟩
          case measure => simp [intOf]; omega
        · obtain rfl : i = 6 := by omega
          clear HB HS8 HB8
          go_wp2_with fail
          have hts := diapasonlaw20_RankKnown.texts wr
          have hb9 := below_alloc HBr.out (.cells #[.string ⟨#[]⟩, .string ⟨#[65]⟩, .string ⟨#[49, 97]⟩, .string ⟨#[97, 32, 98]⟩, .string ⟨#[97, 98, 99, 100, 101, 102, 103, 104, 105, 106, 107, 108, 109, 110, 111, 112, 113]⟩, .string ⟨#[45, 97]⟩] 9 (0, 0))
          clear e0 e1 e2 e3 e4 e5 HBr
          generalize wr.alloc (.cells #[.string ⟨#[]⟩, .string ⟨#[65]⟩, .string ⟨#[49, 97]⟩, .string ⟨#[97, 32, 98]⟩, .string ⟨#[97, 98, 99, 100, 101, 102, 103, 104, 105, 106, 107, 108, 109, 110, 111, 112, 113]⟩, .string ⟨#[45, 97]⟩] 9 (0, 0)) = W9 at hts hb9 ⊢
          generalize (⟨wr.heap.size, 0, none⟩ : Addr) = ad9 at hts ⊢
          have HT9 := Aside0.mk hts
          have HB9 := Aside0.mk hb9
          clear hts hb9
          go_loopw [107] (fun v107 wr => ∃ i : Nat, v107 = .int .i64 i ∧ i ≤ 6 ∧ Aside0 (Below W9.heap.size W9 wr)) (fun v107 _ => 6 - (intOf v107).toNat)
          case atStart => exact ⟨0, rfl, by omega, ⟨Below.refl _ _⟩⟩
          case round =>
            obtain ⟨i, rfl, hi, HB⟩ := hrel
            have HBr := Aside0.mk (below_step HB9.out HB.out)
            have HC := Aside0.mk (Kd.C_below HC2.out HBr.out)
            obtain ⟨e0, e1, e2, e3, e4, e5⟩ := diapasonlaw20_RankKnown.cells (blk_below HZ.out HBr.out)
            by_cases hlt : i < 6
            · have hx := HT9.out i hlt
              replace hx := (HB.out.cell (World.block_lt_of_cell? _ _ hx)).trans hx
              have hp := OK.out.names i hlt
              generalize diapasonlaw20_RankKnown.ss.getD i ⟨#[]⟩ = si at hx hp
              have HP := Aside0.mk hp
              clear hp
              go_wp2_with (go_at_call 9; refine (rank_Check.calls k si 2 9 12 A c [5, 8] 7 61 2 _ (Kd.C_alloc HC.out _) hc2 HP.out).mono ?_; rintro e w9 ⟨rfl, hb⟩; have HBn := Aside0.mk (below_step (below_alloc HB.out _) hb); clear hb)
              refine ⟨⟨_, _, _, _, _, _, _, _, _, _, _, _, _, _, ⟨i + 1, ?_, ?_, HBn⟩, rfl⟩, ?_⟩
              · go_num
              · omega
              · simp [intOf]; omega
            · obtain rfl : i = 6 := by omega
              clear HB HT9 HB9
              have g0 := diapasonlaw20_RankKnown.stay (.cells #[.string nm, .int .i64 2, .int .i64 9, .int .i64 121, .slice A 2 c, .int .i64 7] 24 (0, 0)) e0
              have g1 := diapasonlaw20_RankKnown.stay (.cells #[.string nm, .int .i64 2, .int .i64 9, .int .i64 121, .slice A 2 c, .int .i64 7] 24 (0, 0)) e1
              have g2 := diapasonlaw20_RankKnown.stay (.cells #[.string nm, .int .i64 2, .int .i64 9, .int .i64 121, .slice A 2 c, .int .i64 7] 24 (0, 0)) e2
              have g3 := diapasonlaw20_RankKnown.stay (.cells #[.string nm, .int .i64 2, .int .i64 9, .int .i64 121, .slice A 2 c, .int .i64 7] 24 (0, 0)) e3
              have g4 := diapasonlaw20_RankKnown.stay (.cells #[.string nm, .int .i64 2, .int .i64 9, .int .i64 121, .slice A 2 c, .int .i64 7] 24 (0, 0)) e4
              have g5 := diapasonlaw20_RankKnown.stay (.cells #[.string nm, .int .i64 2, .int .i64 9, .int .i64 121, .slice A 2 c, .int .i64 7] 24 (0, 0)) e5
              go_wp2_with fail
              have hX := blk_alloc (blk_new wr (.cells #[.string nm, .int .i64 2, .int .i64 9, .int .i64 121, .slice A 2 c, .int .i64 7] 24 (0, 0))) (.cells #[.string nm, .int .i64 2, .int .i64 9, .int .i64 12, .slice A 2 c, .int .i64 25] 24 (0, 0))
              have hY := blk_new (wr.alloc (.cells #[.string nm, .int .i64 2, .int .i64 9, .int .i64 121, .slice A 2 c, .int .i64 7] 24 (0, 0))) (.cells #[.string nm, .int .i64 2, .int .i64 9, .int .i64 12, .slice A 2 c, .int .i64 25] 24 (0, 0))
              have hs : (wr.alloc (.cells #[.string nm, .int .i64 2, .int .i64 9, .int .i64 121, .slice A 2 c, .int .i64 7] 24 (0, 0))).heap.size = wr.heap.size + 1 := by simp
              rw [hs] at hY
              have HBx := Aside0.mk (below_alloc (below_alloc HBr.out (.cells #[.string nm, .int .i64 2, .int .i64 9, .int .i64 121, .slice A 2 c, .int .i64 7] 24 (0, 0))) (.cells #[.string nm, .int .i64 2, .int .i64 9, .int .i64 12, .slice A 2 c, .int .i64 25] 24 (0, 0)))
              have HCx := Aside0.mk (Kd.C_alloc (Kd.C_alloc HC.out (.cells #[.string nm, .int .i64 2, .int .i64 9, .int .i64 121, .slice A 2 c, .int .i64 7] 24 (0, 0))) (.cells #[.string nm, .int .i64 2, .int .i64 9, .int .i64 12, .slice A 2 c, .int .i64 25] 24 (0, 0)))
              refine (rank_Pipe.calls k ⟨#[]⟩ 0 0 0 none 0 [] 0 0 0 false 2 _ ⟨rfl, by decide, fun h => absurd h (by decide)⟩ (Nat.le_refl _) OK.out.none_).mono ?_
              rintro e w9 ⟨rfl, hb⟩
              have HX9 := Aside0.mk (blk_below hX hb)
              have HY9 := Aside0.mk (blk_below hY hb)
              have HC9 := Aside0.mk (Kd.C_below HCx.out hb)
              have HB9 := Aside0.mk (below_step HBx.out hb)
              clear hb hX hY hs HBx HCx HC HBr e0 e1 e2 e3 e4 e5 g0 g1 g2 g3 g4 g5
              obtain ⟨e0, e1, e2, e3, e4, e5⟩ := diapasonlaw20_RankKnown.cells HX9.out
              go_wp2_with fail
              have hk1 := OK.out.above
              rw [← HN.out] at hk1
              refine (rank_Check.calls k nm 2 9 121 A c [5, 8] 7 61 2 _ HC9.out hc2 hk1).mono ?_
              clear hk1 e0 e1 e2 e3 e4 e5
              rintro e w10 ⟨rfl, hb⟩
              have HC10 := Aside0.mk (Kd.C_below HC9.out hb)
              have HB10 := Aside0.mk (below_step HB9.out hb)
              obtain ⟨e0, e1, e2, e3, e4, e5⟩ := diapasonlaw20_RankKnown.cells (blk_below HY9.out hb)
              clear hb HC9 HB9 HX9 HY9
              go_wp2_with fail
              have hk1 := OK.out.back
              rw [← HN.out] at hk1
              refine (rank_Check.calls k nm 2 9 12 A c [5, 8] 25 61 2 _ HC10.out hc2 hk1).mono ?_
              clear hk1 e0 e1 e2 e3 e4 e5
              rintro e w11 ⟨rfl, hb⟩
              have HB11 := Aside0.mk (below_step HB10.out hb)
              clear hb HB10 HC10
              go_wp2_with fail
              refine (diapasonlaw20_works.calls k true _ OK.out.works).mono ?_
              rintro e w12 ⟨rfl, hb⟩
              have HB12 := Aside0.mk (below_step HB11.out hb)
              clear hb
              go_wp2
              go_ret
              exact ⟨rfl, below_step HB2.out HB12.out⟩

/-- THE ONE PURE STATEMENT of diapasonlaw20_RankKnown: yours. -/
def diapasonlaw20_RankKnown.Pure : Prop := ∃ k, diapasonlaw20_RankKnown.f k  = some true
theorem diapasonlaw20_RankKnown.walk (P : diapasonlaw20_RankKnown.Pure)  (w : World)   :
    Calls Try.prog 5 #[] w fun e w' => e = .returned (.bool true) ∧ Below w.heap.size w w' := by
  obtain ⟨k, h⟩ := P  
  refine (diapasonlaw20_RankKnown.calls k  true w  h).mono ?_
  rintro e w' ⟨rfl, hd⟩
  exact ⟨rfl, hd⟩

end Go.Proofs.Ytgdbdjfmbccfoaa.PRankKnown
