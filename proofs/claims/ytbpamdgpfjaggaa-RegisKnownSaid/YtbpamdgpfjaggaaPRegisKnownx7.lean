-- Written by a program of this session (the kit's print, turned: wip/px).
import Derived.Test.YtbpamdgpfjaggaaPRegisKnownx0
import Derived.Test.YtbpamdgpfjaggaaPRegisKnownx2
import Derived.Test.YtbpamdgpfjaggaaPRegisKnownx5
import Derived.Test.YtbpamdgpfjaggaaPRegisKnownx6
namespace Go.Proofs.Ytbpamdgpfjaggaa.PRegisKnown
open Go.RowKit Go.Proofs.YtbpamdgpfjaggaaW.PrintWords Go.Proofs.YtbpamdgpfjaggaaW.PrintLast Go.Proofs.YtbpamdgpfjaggaaW.PrintMore
attribute [local go_sem] max2_int min2_int max_two min_two max_three min_three max_four min_four   -- for this text's walks alone
set_option linter.unusedVariables false
set_option linter.unusedSimpArgs false

/-! ### diapasonlaw26_RegisKnown: function 8 -/
def diapasonlaw26_RegisKnown.sl : List (List Int) := [[], [0], [1], [0, 1]]
def diapasonlaw26_RegisKnown.mi : List Int := [14, 8, 5, 1]
def diapasonlaw26_RegisKnown.wi : List Int := [0, 2, 3, 5]
def diapasonlaw26_RegisKnown.bd : List (List Int) := [[1, 1, 1, 1], [0], [3]]
def diapasonlaw26_RegisKnown.ms : List (List Int) := [[1, 0], [3], [0, 0], [-1]]
/-- The eight that may not be: levels, brings, takes, wind. -/
def diapasonlaw26_RegisKnown.ws : List (List Int × List (List Int) × List Int × Int) := [([], [], [], 0), (List.replicate 17 0, [], [], 0), ([-1], [], [], 0), ([1048577], [], [], 0), ([1], [], [], -1), ([1], [[1]], [], 0), ([1], [[1, 2]], [0], 0), ([1], List.replicate 17 [], List.replicate 17 0, 0)]
def diapasonlaw26_RegisKnown.w (i : Nat) : List Int × List (List Int) × List Int × Int := diapasonlaw26_RegisKnown.ws.getD i ([], [], [], 0)
structure diapasonlaw26_RegisKnown.Ok (k : Nat) : Prop where
  stops : ∀ i : Nat, i < 4 → diapasonlaw26_stops.f k 3 (i : Int) = some (diapasonlaw26_RegisKnown.sl.getD i [])
  misses : ∀ i : Nat, i < 4 → regis_Misses.f k [10, 4] [[6, 0], [5, 4], [3, 1]] [2, 3, 1] 5 (diapasonlaw26_RegisKnown.sl.getD i []) = some (diapasonlaw26_RegisKnown.mi.getD i 0, diapasonlaw26_RegisKnown.wi.getD i 0, 0)
  best4 : regis_Best.f k [10, 4] [[6, 0], [5, 4], [3, 1]] [2, 3, 1] 4 = some ([1, 2], 3, 4, 0)
  best0 : regis_Best.f k [10, 4] [[6, 0], [5, 4], [3, 1]] [2, 3, 1] 0 = some ([], 14, 0, 0)
  bound : ∀ i : Nat, i < 3 → regis_Bound.f k [10, 4] [[6, 0], [5, 4], [3, 1]] [2, 3, 1] 0 (diapasonlaw26_RegisKnown.bd.getD i []) = some (0, 2)
  wrong : ∀ i : Nat, i < 4 → regis_Misses.f k [10, 4] [[6, 0], [5, 4], [3, 1]] [2, 3, 1] 0 (diapasonlaw26_RegisKnown.ms.getD i []) = some (0, 0, 2)
  check : ∀ i : Nat, i < 8 → regis_Check.f k (diapasonlaw26_RegisKnown.w i).1 (diapasonlaw26_RegisKnown.w i).2.1 (diapasonlaw26_RegisKnown.w i).2.2.1 (diapasonlaw26_RegisKnown.w i).2.2.2 = some 2
  last : regis_Check.f k [1048576] [] [] 1048576 = some 0
  works : diapasonlaw26_works.f k = some true
def diapasonlaw26_RegisKnown.okB (k : Nat) : Bool := (List.range 4).all (fun i => decide (diapasonlaw26_stops.f k 3 (i : Int) = some (diapasonlaw26_RegisKnown.sl.getD i []))) && ((List.range 4).all (fun i => decide (regis_Misses.f k [10, 4] [[6, 0], [5, 4], [3, 1]] [2, 3, 1] 5 (diapasonlaw26_RegisKnown.sl.getD i []) = some (diapasonlaw26_RegisKnown.mi.getD i 0, diapasonlaw26_RegisKnown.wi.getD i 0, 0))) && (decide (regis_Best.f k [10, 4] [[6, 0], [5, 4], [3, 1]] [2, 3, 1] 4 = some ([1, 2], 3, 4, 0)) && (decide (regis_Best.f k [10, 4] [[6, 0], [5, 4], [3, 1]] [2, 3, 1] 0 = some ([], 14, 0, 0)) && ((List.range 3).all (fun i => decide (regis_Bound.f k [10, 4] [[6, 0], [5, 4], [3, 1]] [2, 3, 1] 0 (diapasonlaw26_RegisKnown.bd.getD i []) = some (0, 2))) && ((List.range 4).all (fun i => decide (regis_Misses.f k [10, 4] [[6, 0], [5, 4], [3, 1]] [2, 3, 1] 0 (diapasonlaw26_RegisKnown.ms.getD i []) = some (0, 0, 2))) && ((List.range 8).all (fun i => decide (regis_Check.f k (diapasonlaw26_RegisKnown.w i).1 (diapasonlaw26_RegisKnown.w i).2.1 (diapasonlaw26_RegisKnown.w i).2.2.1 (diapasonlaw26_RegisKnown.w i).2.2.2 = some 2)) && (decide (regis_Check.f k [1048576] [] [] 1048576 = some 0) && decide (diapasonlaw26_works.f k = some true))))))))
theorem diapasonlaw26_RegisKnown.ok_of {k : Nat} (h : diapasonlaw26_RegisKnown.okB k = true) : diapasonlaw26_RegisKnown.Ok k := by
  unfold diapasonlaw26_RegisKnown.okB at h
  simp only [Bool.and_eq_true, decide_eq_true_eq, List.all_eq_true, List.mem_range] at h
  obtain ⟨a, b, c, d, e, f, g, h, i⟩ := h
  exact ⟨a, b, c, d, e, f, g, h, i⟩
def diapasonlaw26_RegisKnown.f (k : Nat) : Option Bool := if diapasonlaw26_RegisKnown.okB k = true then some true else none
theorem diapasonlaw26_RegisKnown.add0 (g j : Nat) : (⟨g, 0, none⟩ : Addr).add j = ⟨g, j, none⟩ := by
  unfold Addr.add
  by_cases h : j = 0
  · subst h; simp
  · simp [h]
theorem diapasonlaw26_RegisKnown.stay {w : World} {a : Addr} {v : Value} (o : Obj) (h : w.cell? a = some v) : (w.alloc o).cell? a = some v := (World.grownBy_alloc w o none).cell h (by simp)
theorem diapasonlaw26_RegisKnown.cells {w : World} {g : Nat} {a b c : Value} {d : Int} (h : w.heap[g]? = some (.cells #[a, b, c, .int .i64 d] 25 (0, 0))) :
    w.cell? ⟨g, 0, none⟩ = some a ∧ w.cell? ⟨g, 1, none⟩ = some b ∧ w.cell? ⟨g, 2, none⟩ = some c ∧ w.cell? ⟨g, 3, none⟩ = some (.int .i64 d) ∧ w.frozen? ⟨g, 3, none⟩ = false :=
  ⟨(blk_cell h 0).trans rfl, (blk_cell h 1).trans rfl, (blk_cell h 2).trans rfl, (blk_cell h 3).trans rfl, blk_frozen h 3⟩
theorem diapasonlaw26_RegisKnown.rowC {q : IntKind} {W : World} {g n t : Nat} (xs : List Int) (h : W.heap[g]? = some (.cells (xs.map (Value.int q)).toArray t (0, 0))) (hn : xs.length = n) (hm : n ≤ 100) : Kd.C (Kd.int q) W (some ⟨g, 0, none⟩) n xs := by
  refine ⟨hn, by omega, fun _ => ⟨_, rfl, fun j p hj => ⟨[.int q p], rfl, rfl, fun i u hu => ?_⟩⟩⟩
  match i, hu with
  | 0, hu =>
    injection hu with hu
    subst hu
    show W.cell? ((⟨g, 0, none⟩ : Addr).add (j * 1 + 0)) = _
    rw [Nat.mul_one, Nat.add_zero, diapasonlaw26_RegisKnown.add0, blk_cell h]
    rw [List.getElem?_toArray, List.getElem?_map, hj]; rfl
set_option maxHeartbeats 2000000 in
theorem diapasonlaw26_RegisKnown.bds (W : World) : ∀ i : Nat, i < 3 → ∃ (A : Option Addr) (c : Nat), ((((W.alloc (.cells #[.int .u8 1, .int .u8 1, .int .u8 1, .int .u8 1] 5 (0, 0))).alloc (.cells #[.int .u8 0] 5 (0, 0))).alloc (.cells #[.int .u8 3] 5 (0, 0))).alloc (.cells #[.slice (some ⟨W.heap.size, 0, none⟩) 4 4, .slice (some ⟨W.heap.size + 1, 0, none⟩) 1 1, .slice (some ⟨W.heap.size + 1 + 1, 0, none⟩) 1 1] 43 (0, 0))).cell? ((⟨W.heap.size + 1 + 1 + 1, 0, none⟩ : Addr).add i) = some (.slice A (diapasonlaw26_RegisKnown.bd.getD i []).length c) ∧ (diapasonlaw26_RegisKnown.bd.getD i []).length ≤ c ∧ Kd.C (Kd.int .u8) ((((W.alloc (.cells #[.int .u8 1, .int .u8 1, .int .u8 1, .int .u8 1] 5 (0, 0))).alloc (.cells #[.int .u8 0] 5 (0, 0))).alloc (.cells #[.int .u8 3] 5 (0, 0))).alloc (.cells #[.slice (some ⟨W.heap.size, 0, none⟩) 4 4, .slice (some ⟨W.heap.size + 1, 0, none⟩) 1 1, .slice (some ⟨W.heap.size + 1 + 1, 0, none⟩) 1 1] 43 (0, 0))) A (diapasonlaw26_RegisKnown.bd.getD i []).length (diapasonlaw26_RegisKnown.bd.getD i []) := by
  have hs : ∀ (W : World) (o : Obj), (W.alloc o).heap.size = W.heap.size + 1 := fun W o => by simp
  have b0 := blk_alloc (blk_alloc (blk_alloc (blk_new W (.cells #[.int .u8 1, .int .u8 1, .int .u8 1, .int .u8 1] 5 (0, 0))) (.cells #[.int .u8 0] 5 (0, 0))) (.cells #[.int .u8 3] 5 (0, 0))) (.cells #[.slice (some ⟨W.heap.size, 0, none⟩) 4 4, .slice (some ⟨W.heap.size + 1, 0, none⟩) 1 1, .slice (some ⟨W.heap.size + 1 + 1, 0, none⟩) 1 1] 43 (0, 0))
  have b1 := blk_alloc (blk_alloc (blk_new (W.alloc (.cells #[.int .u8 1, .int .u8 1, .int .u8 1, .int .u8 1] 5 (0, 0))) (.cells #[.int .u8 0] 5 (0, 0))) (.cells #[.int .u8 3] 5 (0, 0))) (.cells #[.slice (some ⟨W.heap.size, 0, none⟩) 4 4, .slice (some ⟨W.heap.size + 1, 0, none⟩) 1 1, .slice (some ⟨W.heap.size + 1 + 1, 0, none⟩) 1 1] 43 (0, 0))
  simp only [hs] at b1
  have b2 := blk_alloc (blk_new ((W.alloc (.cells #[.int .u8 1, .int .u8 1, .int .u8 1, .int .u8 1] 5 (0, 0))).alloc (.cells #[.int .u8 0] 5 (0, 0))) (.cells #[.int .u8 3] 5 (0, 0))) (.cells #[.slice (some ⟨W.heap.size, 0, none⟩) 4 4, .slice (some ⟨W.heap.size + 1, 0, none⟩) 1 1, .slice (some ⟨W.heap.size + 1 + 1, 0, none⟩) 1 1] 43 (0, 0))
  simp only [hs] at b2
  have b3 := blk_new (((W.alloc (.cells #[.int .u8 1, .int .u8 1, .int .u8 1, .int .u8 1] 5 (0, 0))).alloc (.cells #[.int .u8 0] 5 (0, 0))).alloc (.cells #[.int .u8 3] 5 (0, 0))) (.cells #[.slice (some ⟨W.heap.size, 0, none⟩) 4 4, .slice (some ⟨W.heap.size + 1, 0, none⟩) 1 1, .slice (some ⟨W.heap.size + 1 + 1, 0, none⟩) 1 1] 43 (0, 0))
  simp only [hs] at b3
  generalize ((((W.alloc (.cells #[.int .u8 1, .int .u8 1, .int .u8 1, .int .u8 1] 5 (0, 0))).alloc (.cells #[.int .u8 0] 5 (0, 0))).alloc (.cells #[.int .u8 3] 5 (0, 0))).alloc (.cells #[.slice (some ⟨W.heap.size, 0, none⟩) 4 4, .slice (some ⟨W.heap.size + 1, 0, none⟩) 1 1, .slice (some ⟨W.heap.size + 1 + 1, 0, none⟩) 1 1] 43 (0, 0))) = W8 at b0 b1 b2 b3 ⊢
  intro i hi
  rw [diapasonlaw26_RegisKnown.add0, blk_cell b3]
  match i, hi with
  | 0, _ => exact ⟨_, _, rfl, Nat.le_refl _, diapasonlaw26_RegisKnown.rowC [1, 1, 1, 1] b0 rfl (by decide)⟩
  | 1, _ => exact ⟨_, _, rfl, Nat.le_refl _, diapasonlaw26_RegisKnown.rowC [0] b1 rfl (by decide)⟩
  | 2, _ => exact ⟨_, _, rfl, Nat.le_refl _, diapasonlaw26_RegisKnown.rowC [3] b2 rfl (by decide)⟩
set_option maxHeartbeats 2000000 in
theorem diapasonlaw26_RegisKnown.mss (W : World) : ∀ i : Nat, i < 4 → ∃ (A : Option Addr) (c : Nat), (((((W.alloc (.cells #[.int .i64 1, .int .i64 0] 3 (0, 0))).alloc (.cells #[.int .i64 3] 3 (0, 0))).alloc (.cells #[.int .i64 0, .int .i64 0] 3 (0, 0))).alloc (.cells #[.int .i64 (-1)] 3 (0, 0))).alloc (.cells #[.slice (some ⟨W.heap.size, 0, none⟩) 2 2, .slice (some ⟨W.heap.size + 1, 0, none⟩) 1 1, .slice (some ⟨W.heap.size + 1 + 1, 0, none⟩) 2 2, .slice (some ⟨W.heap.size + 1 + 1 + 1, 0, none⟩) 1 1] 22 (0, 0))).cell? ((⟨W.heap.size + 1 + 1 + 1 + 1, 0, none⟩ : Addr).add i) = some (.slice A (diapasonlaw26_RegisKnown.ms.getD i []).length c) ∧ (diapasonlaw26_RegisKnown.ms.getD i []).length ≤ c ∧ Kd.C (Kd.int .i64) (((((W.alloc (.cells #[.int .i64 1, .int .i64 0] 3 (0, 0))).alloc (.cells #[.int .i64 3] 3 (0, 0))).alloc (.cells #[.int .i64 0, .int .i64 0] 3 (0, 0))).alloc (.cells #[.int .i64 (-1)] 3 (0, 0))).alloc (.cells #[.slice (some ⟨W.heap.size, 0, none⟩) 2 2, .slice (some ⟨W.heap.size + 1, 0, none⟩) 1 1, .slice (some ⟨W.heap.size + 1 + 1, 0, none⟩) 2 2, .slice (some ⟨W.heap.size + 1 + 1 + 1, 0, none⟩) 1 1] 22 (0, 0))) A (diapasonlaw26_RegisKnown.ms.getD i []).length (diapasonlaw26_RegisKnown.ms.getD i []) := by
  have hs : ∀ (W : World) (o : Obj), (W.alloc o).heap.size = W.heap.size + 1 := fun W o => by simp
  have b0 := blk_alloc (blk_alloc (blk_alloc (blk_alloc (blk_new W (.cells #[.int .i64 1, .int .i64 0] 3 (0, 0))) (.cells #[.int .i64 3] 3 (0, 0))) (.cells #[.int .i64 0, .int .i64 0] 3 (0, 0))) (.cells #[.int .i64 (-1)] 3 (0, 0))) (.cells #[.slice (some ⟨W.heap.size, 0, none⟩) 2 2, .slice (some ⟨W.heap.size + 1, 0, none⟩) 1 1, .slice (some ⟨W.heap.size + 1 + 1, 0, none⟩) 2 2, .slice (some ⟨W.heap.size + 1 + 1 + 1, 0, none⟩) 1 1] 22 (0, 0))
  have b1 := blk_alloc (blk_alloc (blk_alloc (blk_new (W.alloc (.cells #[.int .i64 1, .int .i64 0] 3 (0, 0))) (.cells #[.int .i64 3] 3 (0, 0))) (.cells #[.int .i64 0, .int .i64 0] 3 (0, 0))) (.cells #[.int .i64 (-1)] 3 (0, 0))) (.cells #[.slice (some ⟨W.heap.size, 0, none⟩) 2 2, .slice (some ⟨W.heap.size + 1, 0, none⟩) 1 1, .slice (some ⟨W.heap.size + 1 + 1, 0, none⟩) 2 2, .slice (some ⟨W.heap.size + 1 + 1 + 1, 0, none⟩) 1 1] 22 (0, 0))
  simp only [hs] at b1
  have b2 := blk_alloc (blk_alloc (blk_new ((W.alloc (.cells #[.int .i64 1, .int .i64 0] 3 (0, 0))).alloc (.cells #[.int .i64 3] 3 (0, 0))) (.cells #[.int .i64 0, .int .i64 0] 3 (0, 0))) (.cells #[.int .i64 (-1)] 3 (0, 0))) (.cells #[.slice (some ⟨W.heap.size, 0, none⟩) 2 2, .slice (some ⟨W.heap.size + 1, 0, none⟩) 1 1, .slice (some ⟨W.heap.size + 1 + 1, 0, none⟩) 2 2, .slice (some ⟨W.heap.size + 1 + 1 + 1, 0, none⟩) 1 1] 22 (0, 0))
  simp only [hs] at b2
  have b3 := blk_alloc (blk_new (((W.alloc (.cells #[.int .i64 1, .int .i64 0] 3 (0, 0))).alloc (.cells #[.int .i64 3] 3 (0, 0))).alloc (.cells #[.int .i64 0, .int .i64 0] 3 (0, 0))) (.cells #[.int .i64 (-1)] 3 (0, 0))) (.cells #[.slice (some ⟨W.heap.size, 0, none⟩) 2 2, .slice (some ⟨W.heap.size + 1, 0, none⟩) 1 1, .slice (some ⟨W.heap.size + 1 + 1, 0, none⟩) 2 2, .slice (some ⟨W.heap.size + 1 + 1 + 1, 0, none⟩) 1 1] 22 (0, 0))
  simp only [hs] at b3
  have b4 := blk_new ((((W.alloc (.cells #[.int .i64 1, .int .i64 0] 3 (0, 0))).alloc (.cells #[.int .i64 3] 3 (0, 0))).alloc (.cells #[.int .i64 0, .int .i64 0] 3 (0, 0))).alloc (.cells #[.int .i64 (-1)] 3 (0, 0))) (.cells #[.slice (some ⟨W.heap.size, 0, none⟩) 2 2, .slice (some ⟨W.heap.size + 1, 0, none⟩) 1 1, .slice (some ⟨W.heap.size + 1 + 1, 0, none⟩) 2 2, .slice (some ⟨W.heap.size + 1 + 1 + 1, 0, none⟩) 1 1] 22 (0, 0))
  simp only [hs] at b4
  generalize (((((W.alloc (.cells #[.int .i64 1, .int .i64 0] 3 (0, 0))).alloc (.cells #[.int .i64 3] 3 (0, 0))).alloc (.cells #[.int .i64 0, .int .i64 0] 3 (0, 0))).alloc (.cells #[.int .i64 (-1)] 3 (0, 0))).alloc (.cells #[.slice (some ⟨W.heap.size, 0, none⟩) 2 2, .slice (some ⟨W.heap.size + 1, 0, none⟩) 1 1, .slice (some ⟨W.heap.size + 1 + 1, 0, none⟩) 2 2, .slice (some ⟨W.heap.size + 1 + 1 + 1, 0, none⟩) 1 1] 22 (0, 0))) = W8 at b0 b1 b2 b3 b4 ⊢
  intro i hi
  rw [diapasonlaw26_RegisKnown.add0, blk_cell b4]
  match i, hi with
  | 0, _ => exact ⟨_, _, rfl, Nat.le_refl _, diapasonlaw26_RegisKnown.rowC [1, 0] b0 rfl (by decide)⟩
  | 1, _ => exact ⟨_, _, rfl, Nat.le_refl _, diapasonlaw26_RegisKnown.rowC [3] b1 rfl (by decide)⟩
  | 2, _ => exact ⟨_, _, rfl, Nat.le_refl _, diapasonlaw26_RegisKnown.rowC [0, 0] b2 rfl (by decide)⟩
  | 3, _ => exact ⟨_, _, rfl, Nat.le_refl _, diapasonlaw26_RegisKnown.rowC [-1] b3 rfl (by decide)⟩
/-! what the eight's operations leave -/
def diapasonlaw26_RegisKnown.rowI (w : World) (v : Value) (xs : List Int) : Prop := ∃ A c, v = .slice A xs.length c ∧ xs.length ≤ c ∧ Kd.C (Kd.int .i64) w A xs.length xs
def diapasonlaw26_RegisKnown.rowL (w : World) (v : Value) (xs : List (List Int)) : Prop := ∃ A c, v = .slice A xs.length c ∧ xs.length ≤ c ∧ Kd.C (Kd.slice 3 (Kd.int .i64)) w A xs.length xs
def diapasonlaw26_RegisKnown.want (w : World) (v : Value) (x : List Int × List (List Int) × List Int × Int) : Prop := ∃ v0 v1 v2, v = .agg #[v0, v1, v2, .int .i64 x.2.2.2] ∧ diapasonlaw26_RegisKnown.rowI w v0 x.1 ∧ diapasonlaw26_RegisKnown.rowL w v1 x.2.1 ∧ diapasonlaw26_RegisKnown.rowI w v2 x.2.2.1
def diapasonlaw26_RegisKnown.all8 (w : World) (v : Value) : Prop := ∃ ad : Addr, v = .slice (some ad) 8 8 ∧ ∀ i, i < 8 → ∃ v0 v1 v2, w.cell? (ad.add (i * 4)) = some v0 ∧ w.cell? ⟨(ad.add (i * 4)).block, (ad.add (i * 4)).off + 1, none⟩ = some v1 ∧ w.cell? ⟨(ad.add (i * 4)).block, (ad.add (i * 4)).off + 2, none⟩ = some v2 ∧ w.cell? ⟨(ad.add (i * 4)).block, (ad.add (i * 4)).off + 3, none⟩ = some (.int .i64 (diapasonlaw26_RegisKnown.w i).2.2.2) ∧ diapasonlaw26_RegisKnown.rowI w v0 (diapasonlaw26_RegisKnown.w i).1 ∧ diapasonlaw26_RegisKnown.rowL w v1 (diapasonlaw26_RegisKnown.w i).2.1 ∧ diapasonlaw26_RegisKnown.rowI w v2 (diapasonlaw26_RegisKnown.w i).2.2.1
theorem diapasonlaw26_RegisKnown.rowI_b {w w' : World} {v : Value} {xs : List Int} (hb : Below w.heap.size w w') (h : diapasonlaw26_RegisKnown.rowI w v xs) : diapasonlaw26_RegisKnown.rowI w' v xs := by
  obtain ⟨A, c, e, hl, hC⟩ := h
  exact ⟨A, c, e, hl, Kd.C_below hC hb⟩
theorem diapasonlaw26_RegisKnown.rowL_b {w w' : World} {v : Value} {xs : List (List Int)} (hb : Below w.heap.size w w') (h : diapasonlaw26_RegisKnown.rowL w v xs) : diapasonlaw26_RegisKnown.rowL w' v xs := by
  obtain ⟨A, c, e, hl, hC⟩ := h
  exact ⟨A, c, e, hl, Kd.C_below hC hb⟩
theorem diapasonlaw26_RegisKnown.want_b {w w' : World} {v : Value} {x : List Int × List (List Int) × List Int × Int} (hb : Below w.heap.size w w') (h : diapasonlaw26_RegisKnown.want w v x) : diapasonlaw26_RegisKnown.want w' v x := by
  obtain ⟨v0, v1, v2, e, h0, h1, h2⟩ := h
  exact ⟨v0, v1, v2, e, diapasonlaw26_RegisKnown.rowI_b hb h0, diapasonlaw26_RegisKnown.rowL_b hb h1, diapasonlaw26_RegisKnown.rowI_b hb h2⟩
theorem diapasonlaw26_RegisKnown.all8_b {w w' : World} {v : Value} (hb : Below w.heap.size w w') (h : diapasonlaw26_RegisKnown.all8 w v) : diapasonlaw26_RegisKnown.all8 w' v := by
  obtain ⟨ad, e, h⟩ := h
  refine ⟨ad, e, fun i hi => ?_⟩
  obtain ⟨v0, v1, v2, x0, x1, x2, x3, h0, h1, h2⟩ := h i hi
  exact ⟨v0, v1, v2, pw_cell_below hb x0, pw_cell_below hb x1, pw_cell_below hb x2, pw_cell_below hb x3, diapasonlaw26_RegisKnown.rowI_b hb h0, diapasonlaw26_RegisKnown.rowL_b hb h1, diapasonlaw26_RegisKnown.rowI_b hb h2⟩
theorem diapasonlaw26_RegisKnown.nilI (w : World) : diapasonlaw26_RegisKnown.rowI w (.slice none 0 0) [] := ⟨none, 0, rfl, Nat.le_refl _, rfl, by decide, fun h => absurd h (by decide)⟩
theorem diapasonlaw26_RegisKnown.nilL (w : World) : diapasonlaw26_RegisKnown.rowL w (.slice none 0 0) [] := ⟨none, 0, rfl, Nat.le_refl _, rfl, by decide, fun h => absurd h (by decide)⟩
theorem diapasonlaw26_RegisKnown.ev {a : Act} {t : Tmp} {v : Value} (h : a.tmps[t]? = some v) : a.eval (.tmp t) = v := by simp [Act.eval, h]
theorem diapasonlaw26_RegisKnown.xBuild {a : Act} {w : World} {o : Oper} {t : TypeId} {parts : Array (Nat × Operand)} {cells : Array Value} (ho : o.op = .build t parts) (h : Try.prog.built t (parts.map fun (i, x) => (i, a.eval x)).toList = some cells) : (execOp a.eval o).run Try.prog w = .ok (.value (.agg cells)) w := by
  unfold execOp
  simp only [ho, Sem.run_bind, run_build w t _ cells h, Result.andThen_ok]
  rfl
theorem diapasonlaw26_RegisKnown.xRow {a : Act} {w : World} {o : Oper} {t e : TypeId} {len : Nat} {parts : Array (Nat × Operand)} {cells : Array Value} {ie : TypeInfo} {z : Value} (ho : o.op = .buildSlice t len parts)
    (hu : Try.prog.underlying t = some (.slice e)) (hie : Try.prog.info? e = some ie) (hz : ie.zero = some z) (hsmall : ¬ len * ie.size > 2 ^ 24) (hpos : ¬ len * ie.size = 0)
    (hf : Instr.fill (fun i => some (i * ie.size, ie.size)) ((Array.range (len * ie.size)).map (z.cells[· % z.cells.size]!)) (parts.map fun (i, x) => (i, a.eval x)).toList = some cells) :
    (execOp a.eval o).run Try.prog w = .ok (.value (.slice (some ⟨w.heap.size, 0, none⟩) len len)) (w.alloc (.cells cells e)) := by
  unfold execOp
  simp only [ho, Sem.run_bind, run_buildSlice w t e len _ cells ie z hu hie hz hsmall hpos hf, Result.andThen_ok]
  rfl
theorem diapasonlaw26_RegisKnown.opI {a : Act} {w : World} {o : Oper} (xs : List Int) {len : Nat} {parts : Array (Nat × Operand)} (ho : o.op = .buildSlice 22 len parts) (hl : xs.length = len) (hpos : 0 < len) (hsm : len ≤ 100) {ps : List (Nat × Value)} (hp : (parts.map fun (i, x) => (i, a.eval x)).toList = ps)
    (hf : Instr.fill (fun i => some (i * 1, 1)) ((Array.range (len * 1)).map (fun i => (Value.int .i64 0).cells[i % (Value.int .i64 0).cells.size]!)) ps = some (xs.map (Value.int .i64)).toArray) :
    ∃ v w', (execOp a.eval o).run Try.prog w = .ok (.value v) w' ∧ Below w.heap.size w w' ∧ diapasonlaw26_RegisKnown.rowI w' v xs := by
  have hi : (Try.prog.info? 3).map (fun i => (i.zero, i.size, i.bytes)) = some (some (.int .i64 0), 1, 8) := by kernel_rfl
  obtain ⟨ie, hie, hz, hs, _⟩ := info_parts hi
  refine ⟨_, _, diapasonlaw26_RegisKnown.xRow ho Try.underlying22 hie hz (by rw [hs]; omega) (by rw [hs]; omega) (by rw [hs, hp]; exact hf), below_alloc (Below.refl _ _) _, ?_⟩
  refine ⟨_, _, by rw [hl], by omega, ?_⟩
  rw [hl]
  exact diapasonlaw26_RegisKnown.rowC xs (blk_new w _) hl hsm
theorem diapasonlaw26_RegisKnown.opMI {a : Act} {w : World} {o : Oper} (ho : o.op = .makeSlice 22 (.const (.int .i64 17)) (.const (.int .i64 17))) :
    ∃ v w', (execOp a.eval o).run Try.prog w = .ok (.value v) w' ∧ Below w.heap.size w w' ∧ diapasonlaw26_RegisKnown.rowI w' v (List.replicate 17 0) := by
  have hi : (Try.prog.info? 3).map (fun i => (i.zero, i.size, i.bytes)) = some (some (.int .i64 0), 1, 8) := by kernel_rfl
  obtain ⟨ie, hie, hz, hs, hby⟩ := info_parts hi
  have hr := run_makeSlice (P := Try.prog) w 22 3 ie _ Try.underlying22 hie hz .i64 .i64 17 17 (by decide) (by decide) (by rw [hs]; decide) (by rw [hby]; decide) (by decide)
  rw [hs] at hr
  have hx : (execOp a.eval o).run Try.prog w = .ok (.value (.slice (some ⟨w.heap.size, 0, none⟩) 17 17)) (w.alloc (.cells (madeCells (Value.int .i64 0).cells (17 * 1)) 3)) := by
    unfold execOp
    simp only [ho, Sem.run_bind]
    change ((Instr.makeSlice 22 (.int .i64 17) (.int .i64 17)).run Try.prog w).andThen _ = _
    rw [hr]
    rfl
  have hm : madeCells (Value.int .i64 0).cells (17 * 1) = ((List.replicate 17 0).map (Value.int .i64)).toArray := by kernel_rfl
  rw [hm] at hx
  exact ⟨_, _, hx, below_alloc (Below.refl _ _) _, _, _, rfl, by decide, diapasonlaw26_RegisKnown.rowC (List.replicate 17 0) (blk_new w _) rfl (by decide)⟩
theorem diapasonlaw26_RegisKnown.rowLC {W : World} {g n : Nat} {vs : List Value} {xss : List (List Int)} (h : W.heap[g]? = some (.cells vs.toArray 22 (0, 0))) (hx : xss.length = n) (hm : n ≤ 100) (hv : ∀ (j : Nat) (xs : List Int), xss[j]? = some xs → ∃ v, vs[j]? = some v ∧ diapasonlaw26_RegisKnown.rowI W v xs) : Kd.C (Kd.slice 3 (Kd.int .i64)) W (some ⟨g, 0, none⟩) n xss := by
  refine ⟨hx, by omega, fun _ => ⟨_, rfl, fun j p hj => ?_⟩⟩
  obtain ⟨v, hvj, A, c, rfl, hle, hC⟩ := hv j p hj
  refine ⟨[.slice A p.length c], rfl, ⟨A, c, rfl, hle, hC⟩, fun i u hu => ?_⟩
  match i, hu with
  | 0, hu =>
    injection hu with hu
    subst hu
    show W.cell? ((⟨g, 0, none⟩ : Addr).add (j * 1 + 0)) = _
    rw [Nat.mul_one, Nat.add_zero, diapasonlaw26_RegisKnown.add0, blk_cell h, List.getElem?_toArray, hvj]
theorem diapasonlaw26_RegisKnown.opML {a : Act} {w : World} {o : Oper} (ho : o.op = .makeSlice 23 (.const (.int .i64 17)) (.const (.int .i64 17))) :
    ∃ v w', (execOp a.eval o).run Try.prog w = .ok (.value v) w' ∧ Below w.heap.size w w' ∧ diapasonlaw26_RegisKnown.rowL w' v (List.replicate 17 []) := by
  have hi : (Try.prog.info? 22).map (fun i => (i.zero, i.size, i.bytes)) = some (some (.slice none 0 0), 1, 24) := by kernel_rfl
  obtain ⟨ie, hie, hz, hs, hby⟩ := info_parts hi
  have hr := run_makeSlice (P := Try.prog) w 23 22 ie _ Try.underlying23 hie hz .i64 .i64 17 17 (by decide) (by decide) (by rw [hs]; decide) (by rw [hby]; decide) (by decide)
  rw [hs] at hr
  have hx : (execOp a.eval o).run Try.prog w = .ok (.value (.slice (some ⟨w.heap.size, 0, none⟩) 17 17)) (w.alloc (.cells (madeCells (Value.slice none 0 0).cells (17 * 1)) 22)) := by
    unfold execOp
    simp only [ho, Sem.run_bind]
    change ((Instr.makeSlice 23 (.int .i64 17) (.int .i64 17)).run Try.prog w).andThen _ = _
    rw [hr]
    rfl
  have hm : madeCells (Value.slice none 0 0).cells (17 * 1) = (List.replicate 17 (Value.slice none 0 0)).toArray := by kernel_rfl
  rw [hm] at hx
  refine ⟨_, _, hx, below_alloc (Below.refl _ _) _, _, _, rfl, by decide, diapasonlaw26_RegisKnown.rowLC (vs := List.replicate 17 (Value.slice none 0 0)) (blk_new w _) rfl (by decide) (fun j xs hj => ?_)⟩
  have hj17 : j < 17 := by have := (List.getElem?_eq_some_iff.1 hj).1; simpa using this
  rw [List.getElem?_replicate, if_pos hj17] at hj
  injection hj with hj
  subst hj
  exact ⟨_, by rw [List.getElem?_replicate, if_pos hj17], diapasonlaw26_RegisKnown.nilI _⟩
theorem diapasonlaw26_RegisKnown.fl1 (A : Option Addr) (n c : Nat) : Instr.fill (fun i => some (i * 1, 1)) ((Array.range (1 * 1)).map (fun i => (Value.slice none 0 0).cells[i % (Value.slice none 0 0).cells.size]!)) [(0, .slice A n c)] = some #[.slice A n c] := by kernel_rfl
theorem diapasonlaw26_RegisKnown.fl8 (a0 b0 c0 d0 a1 b1 c1 d1 a2 b2 c2 d2 a3 b3 c3 d3 a4 b4 c4 d4 a5 b5 c5 d5 a6 b6 c6 d6 a7 b7 c7 d7 : Value) : Instr.fill (fun i => some (i * 4, 4)) ((Array.range (8 * 4)).map (fun i => (Value.agg #[.slice none 0 0, .slice none 0 0, .slice none 0 0, .int .i64 0]).cells[i % (Value.agg #[.slice none 0 0, .slice none 0 0, .slice none 0 0, .int .i64 0]).cells.size]!)) [(0, .agg #[a0, b0, c0, d0]), (1, .agg #[a1, b1, c1, d1]), (2, .agg #[a2, b2, c2, d2]), (3, .agg #[a3, b3, c3, d3]), (4, .agg #[a4, b4, c4, d4]), (5, .agg #[a5, b5, c5, d5]), (6, .agg #[a6, b6, c6, d6]), (7, .agg #[a7, b7, c7, d7])] = some #[a0, b0, c0, d0, a1, b1, c1, d1, a2, b2, c2, d2, a3, b3, c3, d3, a4, b4, c4, d4, a5, b5, c5, d5, a6, b6, c6, d6, a7, b7, c7, d7] := by kernel_rfl
theorem diapasonlaw26_RegisKnown.opL {a : Act} {w : World} {o : Oper} {t : Tmp} {v : Value} {xs : List Int} (ho : o.op = .buildSlice 23 1 #[(0, .tmp t)]) (hv : a.tmps[t]? = some v) (hr : diapasonlaw26_RegisKnown.rowI w v xs) :
    ∃ v w', (execOp a.eval o).run Try.prog w = .ok (.value v) w' ∧ Below w.heap.size w w' ∧ diapasonlaw26_RegisKnown.rowL w' v [xs] := by
  have hi : (Try.prog.info? 22).map (fun i => (i.zero, i.size, i.bytes)) = some (some (.slice none 0 0), 1, 24) := by kernel_rfl
  obtain ⟨ie, hie, hz, hs, _⟩ := info_parts hi
  have he := diapasonlaw26_RegisKnown.ev hv
  have hb := below_alloc (Below.refl w.heap.size w) (.cells #[v] 22)
  have hr' := diapasonlaw26_RegisKnown.rowI_b hb hr
  obtain ⟨A, c, rfl, _, _⟩ := id hr
  refine ⟨_, _, diapasonlaw26_RegisKnown.xRow (cells := #[.slice A xs.length c]) ho Try.underlying23 hie hz (by rw [hs]; decide) (by rw [hs]; decide) ?_, hb, _, _, rfl, Nat.le_refl _, diapasonlaw26_RegisKnown.rowLC (vs := [.slice A xs.length c]) (blk_new w _) rfl (by simp) (fun j ys hj => ?_)⟩
  · have hp : ((#[(0, Operand.tmp t)] : Array (Nat × Operand)).map fun (i, x) => (i, a.eval x)).toList = [(0, a.eval (.tmp t))] := by simp
    rw [hs, hp, he]
    exact diapasonlaw26_RegisKnown.fl1 A xs.length c
  · match j, hj with
    | 0, hj =>
      injection hj with hj
      subst hj
      exact ⟨_, rfl, hr'⟩
theorem diapasonlaw26_RegisKnown.opW {a : Act} {w : World} {o : Oper} {parts : Array (Nat × Operand)} {v0 v1 v2 : Value} {x : List Int × List (List Int) × List Int × Int} (ho : o.op = .build 25 parts)
    {ps : List (Nat × Value)} (hp : (parts.map fun (i, y) => (i, a.eval y)).toList = ps) (h : Try.prog.built 25 ps = some #[v0, v1, v2, .int .i64 x.2.2.2]) (h0 : diapasonlaw26_RegisKnown.rowI w v0 x.1) (h1 : diapasonlaw26_RegisKnown.rowL w v1 x.2.1) (h2 : diapasonlaw26_RegisKnown.rowI w v2 x.2.2.1) :
    ∃ v w', (execOp a.eval o).run Try.prog w = .ok (.value v) w' ∧ Below w.heap.size w w' ∧ diapasonlaw26_RegisKnown.want w' v x :=
  ⟨_, _, diapasonlaw26_RegisKnown.xBuild ho (by rw [hp]; exact h), Below.refl _ _, v0, v1, v2, rfl, h0, h1, h2⟩
theorem diapasonlaw26_RegisKnown.bt1 (v0 : Value) (A : Option Addr) (n c : Nat) (e : v0 = .slice A n c) : Try.prog.built 25 [(0, v0)] = some #[v0, .slice none 0 0, .slice none 0 0, .int .i64 0] := by subst e; kernel_rfl
theorem diapasonlaw26_RegisKnown.bt0 : Try.prog.built 25 [] = some #[.slice none 0 0, .slice none 0 0, .slice none 0 0, .int .i64 0] := by kernel_rfl
theorem diapasonlaw26_RegisKnown.bt4 (v0 : Value) (A : Option Addr) (n c : Nat) (e : v0 = .slice A n c) : Try.prog.built 25 [(0, v0), (3, .int .i64 (-1))] = some #[v0, .slice none 0 0, .slice none 0 0, .int .i64 (-1)] := by subst e; kernel_rfl
theorem diapasonlaw26_RegisKnown.bt2 (v0 v1 : Value) (A B : Option Addr) (n c m d : Nat) (e : v0 = .slice A n c) (f : v1 = .slice B m d) : Try.prog.built 25 [(0, v0), (1, v1)] = some #[v0, v1, .slice none 0 0, .int .i64 0] := by subst e; subst f; kernel_rfl
theorem diapasonlaw26_RegisKnown.bt3 (v0 v1 v2 : Value) (A B C : Option Addr) (n c m d q r : Nat) (e : v0 = .slice A n c) (f : v1 = .slice B m d) (g : v2 = .slice C q r) : Try.prog.built 25 [(0, v0), (1, v1), (2, v2)] = some #[v0, v1, v2, .int .i64 0] := by subst e; subst f; subst g; kernel_rfl
theorem diapasonlaw26_RegisKnown.opMv {a : Act} {w : World} {o : Oper} {v : Value} (ho : o.op = .move (.const v)) : (execOp a.eval o).run Try.prog w = .ok (.value v) w := by
  unfold execOp
  simp only [ho]
  rfl
theorem diapasonlaw26_RegisKnown.op8 {a : Act} {w : World} {o : Oper} {u0 u1 u2 u3 u4 u5 u6 u7 : Value} {parts : Array (Nat × Operand)} (ho : o.op = .buildSlice 53 8 parts) (hp : (parts.map fun (i, y) => (i, a.eval y)).toList = [(0, u0), (1, u1), (2, u2), (3, u3), (4, u4), (5, u5), (6, u6), (7, u7)])
    (k0 : diapasonlaw26_RegisKnown.want w u0 (diapasonlaw26_RegisKnown.w 0)) (k1 : diapasonlaw26_RegisKnown.want w u1 (diapasonlaw26_RegisKnown.w 1)) (k2 : diapasonlaw26_RegisKnown.want w u2 (diapasonlaw26_RegisKnown.w 2)) (k3 : diapasonlaw26_RegisKnown.want w u3 (diapasonlaw26_RegisKnown.w 3)) (k4 : diapasonlaw26_RegisKnown.want w u4 (diapasonlaw26_RegisKnown.w 4)) (k5 : diapasonlaw26_RegisKnown.want w u5 (diapasonlaw26_RegisKnown.w 5)) (k6 : diapasonlaw26_RegisKnown.want w u6 (diapasonlaw26_RegisKnown.w 6)) (k7 : diapasonlaw26_RegisKnown.want w u7 (diapasonlaw26_RegisKnown.w 7)) :
    ∃ v w', (execOp a.eval o).run Try.prog w = .ok (.value v) w' ∧ Below w.heap.size w w' ∧ diapasonlaw26_RegisKnown.all8 w' v := by
  have hi : (Try.prog.info? 25).map (fun i => (i.zero, i.size, i.bytes)) = some (some (.agg #[.slice none 0 0, .slice none 0 0, .slice none 0 0, .int .i64 0]), 4, 80) := by kernel_rfl
  obtain ⟨ie, hie, hz, hs, _⟩ := info_parts hi
  obtain ⟨a0, b0, c0, rfl, g0, h0, i0⟩ := k0
  obtain ⟨a1, b1, c1, rfl, g1, h1, i1⟩ := k1
  obtain ⟨a2, b2, c2, rfl, g2, h2, i2⟩ := k2
  obtain ⟨a3, b3, c3, rfl, g3, h3, i3⟩ := k3
  obtain ⟨a4, b4, c4, rfl, g4, h4, i4⟩ := k4
  obtain ⟨a5, b5, c5, rfl, g5, h5, i5⟩ := k5
  obtain ⟨a6, b6, c6, rfl, g6, h6, i6⟩ := k6
  obtain ⟨a7, b7, c7, rfl, g7, h7, i7⟩ := k7
  refine ⟨_, _, diapasonlaw26_RegisKnown.xRow (cells := #[a0, b0, c0, .int .i64 (diapasonlaw26_RegisKnown.w 0).2.2.2, a1, b1, c1, .int .i64 (diapasonlaw26_RegisKnown.w 1).2.2.2, a2, b2, c2, .int .i64 (diapasonlaw26_RegisKnown.w 2).2.2.2, a3, b3, c3, .int .i64 (diapasonlaw26_RegisKnown.w 3).2.2.2, a4, b4, c4, .int .i64 (diapasonlaw26_RegisKnown.w 4).2.2.2, a5, b5, c5, .int .i64 (diapasonlaw26_RegisKnown.w 5).2.2.2, a6, b6, c6, .int .i64 (diapasonlaw26_RegisKnown.w 6).2.2.2, a7, b7, c7, .int .i64 (diapasonlaw26_RegisKnown.w 7).2.2.2]) ho Try.underlying53 hie hz (by rw [hs]; decide) (by rw [hs]; decide) (by rw [hs, hp]; exact diapasonlaw26_RegisKnown.fl8 _ _ _ _ _ _ _ _ _ _ _ _ _ _ _ _ _ _ _ _ _ _ _ _ _ _ _ _ _ _ _ _), below_alloc (Below.refl _ _) _, _, rfl, fun i hi => ?_⟩
  have hb := below_alloc (Below.refl w.heap.size w) (.cells #[a0, b0, c0, .int .i64 (diapasonlaw26_RegisKnown.w 0).2.2.2, a1, b1, c1, .int .i64 (diapasonlaw26_RegisKnown.w 1).2.2.2, a2, b2, c2, .int .i64 (diapasonlaw26_RegisKnown.w 2).2.2.2, a3, b3, c3, .int .i64 (diapasonlaw26_RegisKnown.w 3).2.2.2, a4, b4, c4, .int .i64 (diapasonlaw26_RegisKnown.w 4).2.2.2, a5, b5, c5, .int .i64 (diapasonlaw26_RegisKnown.w 5).2.2.2, a6, b6, c6, .int .i64 (diapasonlaw26_RegisKnown.w 6).2.2.2, a7, b7, c7, .int .i64 (diapasonlaw26_RegisKnown.w 7).2.2.2] 25)
  have hz := blk_new w (.cells #[a0, b0, c0, .int .i64 (diapasonlaw26_RegisKnown.w 0).2.2.2, a1, b1, c1, .int .i64 (diapasonlaw26_RegisKnown.w 1).2.2.2, a2, b2, c2, .int .i64 (diapasonlaw26_RegisKnown.w 2).2.2.2, a3, b3, c3, .int .i64 (diapasonlaw26_RegisKnown.w 3).2.2.2, a4, b4, c4, .int .i64 (diapasonlaw26_RegisKnown.w 4).2.2.2, a5, b5, c5, .int .i64 (diapasonlaw26_RegisKnown.w 5).2.2.2, a6, b6, c6, .int .i64 (diapasonlaw26_RegisKnown.w 6).2.2.2, a7, b7, c7, .int .i64 (diapasonlaw26_RegisKnown.w 7).2.2.2] 25)
  rw [diapasonlaw26_RegisKnown.add0]
  match i, hi with
  | 0, _ => exact ⟨a0, b0, c0, (blk_cell hz 0).trans rfl, (blk_cell hz 1).trans rfl, (blk_cell hz 2).trans rfl, (blk_cell hz 3).trans rfl, diapasonlaw26_RegisKnown.rowI_b hb g0, diapasonlaw26_RegisKnown.rowL_b hb h0, diapasonlaw26_RegisKnown.rowI_b hb i0⟩
  | 1, _ => exact ⟨a1, b1, c1, (blk_cell hz 4).trans rfl, (blk_cell hz 5).trans rfl, (blk_cell hz 6).trans rfl, (blk_cell hz 7).trans rfl, diapasonlaw26_RegisKnown.rowI_b hb g1, diapasonlaw26_RegisKnown.rowL_b hb h1, diapasonlaw26_RegisKnown.rowI_b hb i1⟩
  | 2, _ => exact ⟨a2, b2, c2, (blk_cell hz 8).trans rfl, (blk_cell hz 9).trans rfl, (blk_cell hz 10).trans rfl, (blk_cell hz 11).trans rfl, diapasonlaw26_RegisKnown.rowI_b hb g2, diapasonlaw26_RegisKnown.rowL_b hb h2, diapasonlaw26_RegisKnown.rowI_b hb i2⟩
  | 3, _ => exact ⟨a3, b3, c3, (blk_cell hz 12).trans rfl, (blk_cell hz 13).trans rfl, (blk_cell hz 14).trans rfl, (blk_cell hz 15).trans rfl, diapasonlaw26_RegisKnown.rowI_b hb g3, diapasonlaw26_RegisKnown.rowL_b hb h3, diapasonlaw26_RegisKnown.rowI_b hb i3⟩
  | 4, _ => exact ⟨a4, b4, c4, (blk_cell hz 16).trans rfl, (blk_cell hz 17).trans rfl, (blk_cell hz 18).trans rfl, (blk_cell hz 19).trans rfl, diapasonlaw26_RegisKnown.rowI_b hb g4, diapasonlaw26_RegisKnown.rowL_b hb h4, diapasonlaw26_RegisKnown.rowI_b hb i4⟩
  | 5, _ => exact ⟨a5, b5, c5, (blk_cell hz 20).trans rfl, (blk_cell hz 21).trans rfl, (blk_cell hz 22).trans rfl, (blk_cell hz 23).trans rfl, diapasonlaw26_RegisKnown.rowI_b hb g5, diapasonlaw26_RegisKnown.rowL_b hb h5, diapasonlaw26_RegisKnown.rowI_b hb i5⟩
  | 6, _ => exact ⟨a6, b6, c6, (blk_cell hz 24).trans rfl, (blk_cell hz 25).trans rfl, (blk_cell hz 26).trans rfl, (blk_cell hz 27).trans rfl, diapasonlaw26_RegisKnown.rowI_b hb g6, diapasonlaw26_RegisKnown.rowL_b hb h6, diapasonlaw26_RegisKnown.rowI_b hb i6⟩
  | 7, _ => exact ⟨a7, b7, c7, (blk_cell hz 28).trans rfl, (blk_cell hz 29).trans rfl, (blk_cell hz 30).trans rfl, (blk_cell hz 31).trans rfl, diapasonlaw26_RegisKnown.rowI_b hb g7, diapasonlaw26_RegisKnown.rowL_b hb h7, diapasonlaw26_RegisKnown.rowI_b hb i7⟩
def diapasonlaw26_RegisKnown.Sp (i : Nat) (w : World) (v : Value) : Prop := match i with
  | 0 => diapasonlaw26_RegisKnown.want w v (diapasonlaw26_RegisKnown.w 0)
  | 1 => diapasonlaw26_RegisKnown.rowI w v (List.replicate 17 0)
  | 2 => diapasonlaw26_RegisKnown.want w v (diapasonlaw26_RegisKnown.w 1)
  | 3 => diapasonlaw26_RegisKnown.rowI w v [-1]
  | 4 => diapasonlaw26_RegisKnown.want w v (diapasonlaw26_RegisKnown.w 2)
  | 5 => diapasonlaw26_RegisKnown.rowI w v [1048577]
  | 6 => diapasonlaw26_RegisKnown.want w v (diapasonlaw26_RegisKnown.w 3)
  | 7 => diapasonlaw26_RegisKnown.rowI w v [1]
  | 8 => diapasonlaw26_RegisKnown.want w v (diapasonlaw26_RegisKnown.w 4)
  | 9 => diapasonlaw26_RegisKnown.rowI w v [1]
  | 10 => diapasonlaw26_RegisKnown.rowI w v [1]
  | 11 => diapasonlaw26_RegisKnown.rowL w v [[1]]
  | 12 => diapasonlaw26_RegisKnown.want w v (diapasonlaw26_RegisKnown.w 5)
  | 13 => diapasonlaw26_RegisKnown.rowI w v [1]
  | 14 => diapasonlaw26_RegisKnown.rowI w v [1, 2]
  | 15 => diapasonlaw26_RegisKnown.rowL w v [[1, 2]]
  | 16 => diapasonlaw26_RegisKnown.rowI w v [0]
  | 17 => diapasonlaw26_RegisKnown.want w v (diapasonlaw26_RegisKnown.w 6)
  | 18 => diapasonlaw26_RegisKnown.rowI w v [1]
  | 19 => diapasonlaw26_RegisKnown.rowL w v (List.replicate 17 [])
  | 20 => diapasonlaw26_RegisKnown.rowI w v (List.replicate 17 0)
  | 21 => diapasonlaw26_RegisKnown.want w v (diapasonlaw26_RegisKnown.w 7)
  | 22 => diapasonlaw26_RegisKnown.all8 w v
  | 23 => v = .int .i64 8
  | 24 => v = .int .i64 0
  | _ => True
theorem diapasonlaw26_RegisKnown.Sp_b (i : Nat) (w w' : World) (v : Value) (hb : Below w.heap.size w w') (h : diapasonlaw26_RegisKnown.Sp i w v) : diapasonlaw26_RegisKnown.Sp i w' v := by
  unfold diapasonlaw26_RegisKnown.Sp at *
  split at h
  · exact diapasonlaw26_RegisKnown.want_b hb h
  · exact diapasonlaw26_RegisKnown.rowI_b hb h
  · exact diapasonlaw26_RegisKnown.want_b hb h
  · exact diapasonlaw26_RegisKnown.rowI_b hb h
  · exact diapasonlaw26_RegisKnown.want_b hb h
  · exact diapasonlaw26_RegisKnown.rowI_b hb h
  · exact diapasonlaw26_RegisKnown.want_b hb h
  · exact diapasonlaw26_RegisKnown.rowI_b hb h
  · exact diapasonlaw26_RegisKnown.want_b hb h
  · exact diapasonlaw26_RegisKnown.rowI_b hb h
  · exact diapasonlaw26_RegisKnown.rowI_b hb h
  · exact diapasonlaw26_RegisKnown.rowL_b hb h
  · exact diapasonlaw26_RegisKnown.want_b hb h
  · exact diapasonlaw26_RegisKnown.rowI_b hb h
  · exact diapasonlaw26_RegisKnown.rowI_b hb h
  · exact diapasonlaw26_RegisKnown.rowL_b hb h
  · exact diapasonlaw26_RegisKnown.rowI_b hb h
  · exact diapasonlaw26_RegisKnown.want_b hb h
  · exact diapasonlaw26_RegisKnown.rowI_b hb h
  · exact diapasonlaw26_RegisKnown.rowL_b hb h
  · exact diapasonlaw26_RegisKnown.rowI_b hb h
  · exact diapasonlaw26_RegisKnown.want_b hb h
  · exact diapasonlaw26_RegisKnown.all8_b hb h
  · exact h
  · exact h
  · trivial
set_option maxHeartbeats 8000000 in
set_option maxRecDepth 100000 in
theorem diapasonlaw26_RegisKnown.calls (k : Nat) (r : Bool) (w : World) (h : diapasonlaw26_RegisKnown.f k = some r) :
    Calls Try.prog 8 #[] w fun e w' => e = .returned (.bool r) ∧ Below w.heap.size w w' := by
  unfold diapasonlaw26_RegisKnown.f at h
  by_cases hok : diapasonlaw26_RegisKnown.okB k = true
  case neg => rw [if_neg hok] at h; cases h
  rw [if_pos hok] at h
  injection h with h
  subst h
  have OK := Aside0.mk (diapasonlaw26_RegisKnown.ok_of hok)
  clear hok
  have hu25 := Try.underlying25
  have hu28 := Try.underlying28
  go_enter Try.func8, Try.ntmps8
  go_wp2_with fail
  refine (diapasonlaw26_example.calls [10, 4] [[6, 0], [5, 4], [3, 1]] [2, 3, 1] 5 _ rfl).mono ?_
  rintro e w1 ⟨v0, v1, v2, rfl, h0, h1, h2, hb⟩
  obtain ⟨A0, c0, e0⟩ := Kd.R_slice h0
  have e0 : v0 = .slice A0 2 c0 := e0
  subst e0
  obtain ⟨A1, c1, e1⟩ := Kd.N_slice h1
  have e1 : v1 = .slice A1 3 c1 := e1
  subst e1
  obtain ⟨A2, c2, e2⟩ := Kd.R_slice h2
  have e2 : v2 = .slice A2 3 c2 := e2
  subst e2
  have r0 := Kd.R_reads' h0
  have r1 := Kd.N_reads' h1
  have r2 := Kd.R_reads' h2
  have hc0 : 2 ≤ c0 := r0.2.1
  have hc1 : 3 ≤ c1 := r1.2.1
  have hc2 : 3 ≤ c2 := r2.2.1
  have K0 := Aside0.mk (show Kd.C (Kd.int .i64) w1 A0 2 [10, 4] from r0.2.2)
  have K1 := Aside0.mk (show Kd.C (Kd.slice 3 (Kd.int .i64)) w1 A1 3 [[6, 0], [5, 4], [3, 1]] from r1.2.2)
  have K2 := Aside0.mk (show Kd.C (Kd.int .i64) w1 A2 3 [2, 3, 1] from r2.2.2)
  have HB1 := Aside0.mk hb
  clear h0 h1 h2 hb r0 r1 r2
  go_wp2_with fail
  have hz1 := blk_alloc (blk_new w1 (.cells #[.slice A0 2 c0, .slice A1 3 c1, .slice A2 3 c2, .int .i64 5] 25 (0, 0))) (.cells #[.int .i64 14, .int .i64 0, .int .i64 8, .int .i64 2, .int .i64 5, .int .i64 3, .int .i64 1, .int .i64 5] 50 (0, 0))
  have hz2 := blk_new (w1.alloc (.cells #[.slice A0 2 c0, .slice A1 3 c1, .slice A2 3 c2, .int .i64 5] 25 (0, 0))) (.cells #[.int .i64 14, .int .i64 0, .int .i64 8, .int .i64 2, .int .i64 5, .int .i64 3, .int .i64 1, .int .i64 5] 50 (0, 0))
  have hs2 : (w1.alloc (.cells #[.slice A0 2 c0, .slice A1 3 c1, .slice A2 3 c2, .int .i64 5] 25 (0, 0))).heap.size = w1.heap.size + 1 := by simp
  rw [hs2] at hz2
  have hb2 := below_alloc (below_alloc HB1.out (.cells #[.slice A0 2 c0, .slice A1 3 c1, .slice A2 3 c2, .int .i64 5] 25 (0, 0))) (.cells #[.int .i64 14, .int .i64 0, .int .i64 8, .int .i64 2, .int .i64 5, .int .i64 3, .int .i64 1, .int .i64 5] 50 (0, 0))
  have hq2 := below_alloc (below_alloc (Below.refl w1.heap.size w1) (.cells #[.slice A0 2 c0, .slice A1 3 c1, .slice A2 3 c2, .int .i64 5] 25 (0, 0))) (.cells #[.int .i64 14, .int .i64 0, .int .i64 8, .int .i64 2, .int .i64 5, .int .i64 3, .int .i64 1, .int .i64 5] 50 (0, 0))
  generalize (w1.alloc (.cells #[.slice A0 2 c0, .slice A1 3 c1, .slice A2 3 c2, .int .i64 5] 25 (0, 0))).alloc (.cells #[.int .i64 14, .int .i64 0, .int .i64 8, .int .i64 2, .int .i64 5, .int .i64 3, .int .i64 1, .int .i64 5] 50 (0, 0)) = W2 at hz1 hz2 hb2 hq2 ⊢
  have hx : ∀ i, i < 4 → W2.cell? ((⟨w1.heap.size + 1, 0, none⟩ : Addr).add (i * 2)) = some (.int .i64 (diapasonlaw26_RegisKnown.mi.getD i 0)) ∧ W2.cell? ⟨((⟨w1.heap.size + 1, 0, none⟩ : Addr).add (i * 2)).block, ((⟨w1.heap.size + 1, 0, none⟩ : Addr).add (i * 2)).off + 1, none⟩ = some (.int .i64 (diapasonlaw26_RegisKnown.wi.getD i 0)) := fun i hi => by
    rw [diapasonlaw26_RegisKnown.add0, blk_cell hz2, blk_cell hz2]
    match i, hi with
    | 0, _ => exact ⟨rfl, rfl⟩
    | 1, _ => exact ⟨rfl, rfl⟩
    | 2, _ => exact ⟨rfl, rfl⟩
    | 3, _ => exact ⟨rfl, rfl⟩
  have HX := Aside0.mk hx
  have HZ := Aside0.mk hz1
  have HB2 := Aside0.mk hb2
  have HQ2 := Aside0.mk hq2
  clear hx hz1 hz2 hs2 hb2 hq2
  generalize (⟨w1.heap.size + 1, 0, none⟩ : Addr) = ad2 at HX ⊢
  have hg1 : w1.heap.size ≤ w1.heap.size := Nat.le_refl _
  generalize hgg : w1.heap.size = g1 at HZ hg1 ⊢
  have hg1 : w1.heap.size ≤ g1 := by omega
  clear hgg
  go_loopw [27] (fun v27 wr => ∃ i : Nat, v27 = .int .i64 i ∧ i ≤ 4 ∧ Aside0 (Below W2.heap.size W2 wr)) (fun v27 _ => 4 - (intOf v27).toNat)
  case atStart => exact ⟨0, rfl, by omega, ⟨Below.refl _ _⟩⟩
  case round =>
    obtain ⟨i, rfl, hi, HB⟩ := hrel
    by_cases hlt : i < 4
    · obtain ⟨hx0, hx1⟩ := HX.out i hlt
      replace hx0 := (HB.out.cell (World.block_lt_of_cell? _ _ hx0)).trans hx0
      replace hx1 := (HB.out.cell (World.block_lt_of_cell? _ _ hx1)).trans hx1
      have HS := Aside0.mk (OK.out.stops i hlt)
      have HM := Aside0.mk (OK.out.misses i hlt)
      generalize diapasonlaw26_RegisKnown.mi.getD i 0 = mv at hx0 HM
      generalize diapasonlaw26_RegisKnown.wi.getD i 0 = nv at hx1 HM
      generalize diapasonlaw26_RegisKnown.sl.getD i [] = si at HS HM
      go_upto_region 5 with fail
      have hbx := blk_new wr (.cells #[.int .i64 mv, .int .i64 nv] 50 (0, 0))
      have hba := below_alloc HB.out (.cells #[.int .i64 mv, .int .i64 nv] 50 (0, 0))
      generalize wr.alloc (.cells #[.int .i64 mv, .int .i64 nv] 50 (0, 0)) = W5 at hbx hba ⊢
      generalize wr.heap.size = g5 at hbx ⊢
      have HX5 := Aside0.mk hbx
      have HB5 := Aside0.mk hba
      clear hbx hba hx0 hx1 HB
      go_cut [4, 5, 6] (fun v4 v5 v6 wx => v4 = .int .i64 mv ∧ v5 = .int .i64 nv ∧ v6 = .int .i64 0 ∧ Aside0 (Below W5.heap.size W5 wx))
      case first =>
        obtain ⟨e0, e1, e2, e3, _⟩ := diapasonlaw26_RegisKnown.cells (blk_below HZ.out HB5.out)
        go_region_with (first
          | (go_at_call 18
             refine (diapasonlaw26_stops.calls k 3 i si _ HS.out).mono ?_
             rintro e w3 ⟨v, rfl, hv, hb⟩
             obtain ⟨As, cs, rfl⟩ := Kd.R_slice hv
             have HV := Aside0.mk (Kd.R_reads' hv)
             have HB3 := Aside0.mk (below_step (below_drew (Below.refl _ _)) hb)
             have e0' := pw_cell_below HB3.out e0
             have e1' := pw_cell_below HB3.out e1
             have e2' := pw_cell_below HB3.out e2
             have e3' := pw_cell_below HB3.out e3
             clear hv hb)
          | (go_at_call 17
             refine (regis_Misses.calls k A0 c0 [10, 4] A1 c1 [[6, 0], [5, 4], [3, 1]] A2 c2 [2, 3, 1] 5 As cs si mv nv 0 _ (Kd.C_below K0.out (below_step HQ2.out (below_step HB5.out HB3.out))) hc0 (Kd.C_below K1.out (below_step HQ2.out (below_step HB5.out HB3.out))) hc1 (Kd.C_below K2.out (below_step HQ2.out (below_step HB5.out HB3.out))) hc2 HV.out.2.2 HV.out.2.1 HM.out).mono ?_
             rintro e w4 ⟨rfl, hb⟩
             have HB4 := Aside0.mk (below_step HB3.out hb)
             clear hb))
        all_goals (go_wp2; go_meet)
        all_goals exact ⟨rfl, rfl, rfl, HB4⟩
      case rest =>
        obtain ⟨rfl, rfl, rfl, HBx⟩ := hcut
        obtain ⟨b0, b1⟩ : wc.cell? ⟨g5, 0, none⟩ = some (.int .i64 mv) ∧ wc.cell? ⟨g5, 1, none⟩ = some (.int .i64 nv) := ⟨(blk_cell (blk_below HX5.out HBx.out) 0).trans rfl, (blk_cell (blk_below HX5.out HBx.out) 1).trans rfl⟩
        go_wp2
        go_roundw
        case rel => exact ⟨i + 1, by go_num, by omega, ⟨below_step HB5.out HBx.out⟩⟩
        case measure => simp [intOf]; omega
    · obtain rfl : i = 4 := by omega
      have hz := blk_below HZ.out HB.out
      obtain ⟨e0, e1, e2, e3, f3⟩ := diapasonlaw26_RegisKnown.cells hz
      have HZ6 := Aside0.mk (blk_put hz 3 (.int .i64 4) rfl)
      have HQ6 := Aside0.mk (below_set (j := 3) (v := .int .i64 4) (below_step HQ2.out HB.out) hg1)
      clear hz HZ HB HX HQ2
      go_upto_region 10 with fail
      generalize wr.setCell ⟨g1, 3, none⟩ (.int .i64 4) = W6 at HZ6 HQ6 ⊢
      clear e0 e1 e2 e3 f3
      obtain ⟨e0, e1, e2, e3, f3⟩ := diapasonlaw26_RegisKnown.cells HZ6.out
      go_wp2_with fail
      refine (regis_Best.calls k A0 c0 [10, 4] A1 c1 [[6, 0], [5, 4], [3, 1]] A2 c2 [2, 3, 1] 4 [1, 2] 3 4 0 _ (Kd.C_below K0.out HQ6.out) hc0 (Kd.C_below K1.out HQ6.out) hc1 (Kd.C_below K2.out HQ6.out) hc2 OK.out.best4).mono ?_
      rintro e w7 ⟨v, rfl, hv, hb⟩
      obtain ⟨Av, cv, ev⟩ := Kd.R_slice hv
      have ev : v = .slice Av 2 cv := ev
      subst ev
      obtain ⟨adv, eav, hv0⟩ := Kd.at_int (Kd.R_reads' hv).2.2 0 (by decide) (by decide)
      subst eav
      have hv0 : w7.cell? (adv.add 0) = some (.int .i64 1) := hv0
      have ha0 : adv.add 0 = adv := by simp [Addr.add]
      have hv1 : w7.cell? adv = some (.int .i64 1) := by rw [← ha0]; exact hv0
      have hz := blk_below HZ6.out hb
      have HZ7 := Aside0.mk hz
      have HQ7 := Aside0.mk (below_step HQ6.out hb)
      clear e0 e1 e2 e3 f3 hv hb HZ6 HQ6
      obtain ⟨e0, e1, e2, e3, f3⟩ := diapasonlaw26_RegisKnown.cells hz
      have f3' : (w7.alloc (.cells #[.slice (some adv) 2 cv, .int .i64 3, .int .i64 4] 28 (0, 0))).frozen? ⟨g1, 3, none⟩ = false := blk_frozen (blk_alloc hz _) 3
      have e3' := diapasonlaw26_RegisKnown.stay (.cells #[.slice (some adv) 2 cv, .int .i64 3, .int .i64 4] 28 (0, 0)) e3
      have hv0' := diapasonlaw26_RegisKnown.stay (.cells #[.slice (some adv) 2 cv, .int .i64 3, .int .i64 4] 28 (0, 0)) hv0
      have hv1' := diapasonlaw26_RegisKnown.stay (.cells #[.slice (some adv) 2 cv, .int .i64 3, .int .i64 4] 28 (0, 0)) hv1
      have HZ8 := Aside0.mk (blk_put (blk_alloc hz (.cells #[.slice (some adv) 2 cv, .int .i64 3, .int .i64 4] 28 (0, 0))) 3 (.int .i64 0) rfl)
      have HQ8 := Aside0.mk (below_set (j := 3) (v := .int .i64 0) (below_alloc HQ7.out (.cells #[.slice (some adv) 2 cv, .int .i64 3, .int .i64 4] 28 (0, 0))) hg1)
      have hne : w7.heap.size ≠ g1 := by have := blk_lt hz; omega
      have HC8 := Aside0.mk ((RowKit.Below.heap_setCell (w7.alloc (.cells #[.slice (some adv) 2 cv, .int .i64 3, .int .i64 4] 28 (0, 0))) ⟨g1, 3, none⟩ (.int .i64 0) w7.heap.size hne).trans (blk_new w7 (.cells #[.slice (some adv) 2 cv, .int .i64 3, .int .i64 4] 28 (0, 0))))
      clear hz
      go_upto_region 14 with fail
      generalize (w7.alloc (.cells #[.slice (some adv) 2 cv, .int .i64 3, .int .i64 4] 28 (0, 0))).setCell ⟨g1, 3, none⟩ (.int .i64 0) = W8 at HZ8 HQ8 HC8 ⊢
      have hg7 : w1.heap.size ≤ w7.heap.size := HQ7.out.size
      generalize w7.heap.size = g7 at HC8 hne hg7 ⊢
      clear e0 e1 e2 e3 f3 f3' e3' hv0 hv1 hv0' hv1' ha0 HZ7 HQ7
      obtain ⟨e0, e1, e2, e3, f3⟩ := diapasonlaw26_RegisKnown.cells HZ8.out
      go_wp2_with fail
      refine (regis_Best.calls k A0 c0 [10, 4] A1 c1 [[6, 0], [5, 4], [3, 1]] A2 c2 [2, 3, 1] 0 [] 14 0 0 _ (Kd.C_below K0.out HQ8.out) hc0 (Kd.C_below K1.out HQ8.out) hc1 (Kd.C_below K2.out HQ8.out) hc2 OK.out.best0).mono ?_
      rintro e w9 ⟨v, rfl, hv, hb⟩
      obtain ⟨Au, cu, ev⟩ := Kd.R_slice hv
      have ev : v = .slice Au 0 cu := ev
      subst ev
      have HZ9 := Aside0.mk (blk_below HZ8.out hb)
      have hC9 := blk_below HC8.out hb
      have HQ9 := Aside0.mk (below_step HQ8.out hb)
      clear e0 e1 e2 e3 f3 hv hb HZ8 HQ8 HC8
      have q0 := blk_cell hC9 0
      have q1 := blk_cell hC9 1
      have q2 := blk_cell hC9 2
      have p0 := blk_frozen hC9 0
      have p1 := blk_frozen hC9 1
      have p2 := blk_frozen hC9 2
      have hC10 := blk_put (blk_put (blk_put hC9 0 (.slice Au 0 cu) rfl) 1 (.int .i64 14) rfl) 2 (.int .i64 0) rfl
      have hQ10 := below_set (j := 2) (v := .int .i64 0) (below_set (j := 1) (v := .int .i64 14) (below_set (j := 0) (v := .slice Au 0 cu) HQ9.out hg7) hg7) hg7
      have hZ10 := (RowKit.Below.heap_setCell ((w9.setCell ⟨g7, 0, none⟩ (.slice Au 0 cu)).setCell ⟨g7, 1, none⟩ (.int .i64 14)) ⟨g7, 2, none⟩ (.int .i64 0) g1 (Ne.symm hne)).trans ((RowKit.Below.heap_setCell (w9.setCell ⟨g7, 0, none⟩ (.slice Au 0 cu)) ⟨g7, 1, none⟩ (.int .i64 14) g1 (Ne.symm hne)).trans ((RowKit.Below.heap_setCell w9 ⟨g7, 0, none⟩ (.slice Au 0 cu) g1 (Ne.symm hne)).trans HZ9.out))
      go_upto_region 15 with fail
      generalize ((w9.setCell ⟨g7, 0, none⟩ (.slice Au 0 cu)).setCell ⟨g7, 1, none⟩ (.int .i64 14)).setCell ⟨g7, 2, none⟩ (.int .i64 0) = W10 at hC10 hQ10 hZ10 ⊢
      clear q0 q1 q2 p0 p1 p2 hC9 HZ9 HQ9
      have q0 : W10.cell? ⟨g7, 0, none⟩ = some (.slice Au 0 cu) := (blk_cell hC10 0).trans rfl
      have q1 : W10.cell? ⟨g7, 1, none⟩ = some (.int .i64 14) := (blk_cell hC10 1).trans rfl
      have HZ10 := Aside0.mk hZ10
      have HQ10 := Aside0.mk hQ10
      clear hC10 hQ10 hZ10
      go_wp2_with fail
      have hbs := diapasonlaw26_RegisKnown.bds W10
      have hq11 := below_alloc (below_alloc (below_alloc (below_alloc (HQ10.out) (.cells #[.int .u8 1, .int .u8 1, .int .u8 1, .int .u8 1] 5 (0, 0))) (.cells #[.int .u8 0] 5 (0, 0))) (.cells #[.int .u8 3] 5 (0, 0))) (.cells #[.slice (some ⟨W10.heap.size, 0, none⟩) 4 4, .slice (some ⟨W10.heap.size + 1, 0, none⟩) 1 1, .slice (some ⟨W10.heap.size + 1 + 1, 0, none⟩) 1 1] 43 (0, 0))
      have hz11 := blk_alloc (blk_alloc (blk_alloc (blk_alloc (HZ10.out) (.cells #[.int .u8 1, .int .u8 1, .int .u8 1, .int .u8 1] 5 (0, 0))) (.cells #[.int .u8 0] 5 (0, 0))) (.cells #[.int .u8 3] 5 (0, 0))) (.cells #[.slice (some ⟨W10.heap.size, 0, none⟩) 4 4, .slice (some ⟨W10.heap.size + 1, 0, none⟩) 1 1, .slice (some ⟨W10.heap.size + 1 + 1, 0, none⟩) 1 1] 43 (0, 0))
      generalize ((((W10.alloc (.cells #[.int .u8 1, .int .u8 1, .int .u8 1, .int .u8 1] 5 (0, 0))).alloc (.cells #[.int .u8 0] 5 (0, 0))).alloc (.cells #[.int .u8 3] 5 (0, 0))).alloc (.cells #[.slice (some ⟨W10.heap.size, 0, none⟩) 4 4, .slice (some ⟨W10.heap.size + 1, 0, none⟩) 1 1, .slice (some ⟨W10.heap.size + 1 + 1, 0, none⟩) 1 1] 43 (0, 0))) = W11 at hbs hq11 hz11 ⊢
      generalize (⟨W10.heap.size + 1 + 1 + 1, 0, none⟩ : Addr) = ad11 at hbs ⊢
      have HS11 := Aside0.mk hbs
      have HQ11 := Aside0.mk hq11
      have HZ11 := Aside0.mk hz11
      clear hbs hq11 hz11 HZ10 HQ10 q0 q1
      go_loopw [110] (fun v110 wr => ∃ i : Nat, v110 = .int .i64 i ∧ i ≤ 3 ∧ Aside0 (Below W11.heap.size W11 wr)) (fun v110 _ => 3 - (intOf v110).toNat)
      case atStart => exact ⟨0, rfl, by omega, ⟨Below.refl _ _⟩⟩
      case round =>
        obtain ⟨i, rfl, hi, HB⟩ := hrel
        have HZr := Aside0.mk (blk_below HZ11.out HB.out)
        have HQr := Aside0.mk (below_step HQ11.out HB.out)
        obtain ⟨e0, e1, e2, e3, f3⟩ := diapasonlaw26_RegisKnown.cells HZr.out
        by_cases hlt : i < 3
        · obtain ⟨Ai, ci, hx, hle, hC⟩ := HS11.out i hlt
          replace hx := (HB.out.cell (World.block_lt_of_cell? _ _ hx)).trans hx
          have HCi := Aside0.mk (Kd.C_below hC HB.out)
          have hp := OK.out.bound i hlt
          generalize diapasonlaw26_RegisKnown.bd.getD i [] = bi at hx hle hp HCi
          have HP := Aside0.mk hp
          clear hp hC
          go_wp2_with (go_at_call 22; refine (regis_Bound.calls k A0 c0 [10, 4] A1 c1 [[6, 0], [5, 4], [3, 1]] A2 c2 [2, 3, 1] 0 Ai ci bi 0 2 _ (Kd.C_below K0.out HQr.out) hc0 (Kd.C_below K1.out HQr.out) hc1 (Kd.C_below K2.out HQr.out) hc2 HCi.out hle HP.out).mono ?_; rintro e w12 ⟨rfl, hb⟩; have HBn := Aside0.mk (below_step HB.out hb); clear hb)
          go_roundw
          case rel => exact ⟨i + 1, by go_num, by omega, HBn⟩
          case measure => simp [intOf]; omega
        · obtain rfl : i = 3 := by omega
          clear HS11 HQ11 HZ11 HB e0 e1 e2 e3 f3
          go_wp2_with fail
          have hbs := diapasonlaw26_RegisKnown.mss wr
          have hq12 := below_alloc (below_alloc (below_alloc (below_alloc (below_alloc (HQr.out) (.cells #[.int .i64 1, .int .i64 0] 3 (0, 0))) (.cells #[.int .i64 3] 3 (0, 0))) (.cells #[.int .i64 0, .int .i64 0] 3 (0, 0))) (.cells #[.int .i64 (-1)] 3 (0, 0))) (.cells #[.slice (some ⟨wr.heap.size, 0, none⟩) 2 2, .slice (some ⟨wr.heap.size + 1, 0, none⟩) 1 1, .slice (some ⟨wr.heap.size + 1 + 1, 0, none⟩) 2 2, .slice (some ⟨wr.heap.size + 1 + 1 + 1, 0, none⟩) 1 1] 22 (0, 0))
          have hz12 := blk_alloc (blk_alloc (blk_alloc (blk_alloc (blk_alloc (HZr.out) (.cells #[.int .i64 1, .int .i64 0] 3 (0, 0))) (.cells #[.int .i64 3] 3 (0, 0))) (.cells #[.int .i64 0, .int .i64 0] 3 (0, 0))) (.cells #[.int .i64 (-1)] 3 (0, 0))) (.cells #[.slice (some ⟨wr.heap.size, 0, none⟩) 2 2, .slice (some ⟨wr.heap.size + 1, 0, none⟩) 1 1, .slice (some ⟨wr.heap.size + 1 + 1, 0, none⟩) 2 2, .slice (some ⟨wr.heap.size + 1 + 1 + 1, 0, none⟩) 1 1] 22 (0, 0))
          generalize (((((wr.alloc (.cells #[.int .i64 1, .int .i64 0] 3 (0, 0))).alloc (.cells #[.int .i64 3] 3 (0, 0))).alloc (.cells #[.int .i64 0, .int .i64 0] 3 (0, 0))).alloc (.cells #[.int .i64 (-1)] 3 (0, 0))).alloc (.cells #[.slice (some ⟨wr.heap.size, 0, none⟩) 2 2, .slice (some ⟨wr.heap.size + 1, 0, none⟩) 1 1, .slice (some ⟨wr.heap.size + 1 + 1, 0, none⟩) 2 2, .slice (some ⟨wr.heap.size + 1 + 1 + 1, 0, none⟩) 1 1] 22 (0, 0))) = W12 at hbs hq12 hz12 ⊢
          generalize (⟨wr.heap.size + 1 + 1 + 1 + 1, 0, none⟩ : Addr) = ad12 at hbs ⊢
          have HS12 := Aside0.mk hbs
          have HQ12 := Aside0.mk hq12
          have HZ12 := Aside0.mk hz12
          clear hbs hq12 hz12 HZr HQr
          go_loopw [129] (fun v129 wr => ∃ i : Nat, v129 = .int .i64 i ∧ i ≤ 4 ∧ Aside0 (Below W12.heap.size W12 wr)) (fun v129 _ => 4 - (intOf v129).toNat)
          case atStart => exact ⟨0, rfl, by omega, ⟨Below.refl _ _⟩⟩
          case round =>
            obtain ⟨i, rfl, hi, HB⟩ := hrel
            have HZr := Aside0.mk (blk_below HZ12.out HB.out)
            have HQr := Aside0.mk (below_step HQ12.out HB.out)
            obtain ⟨e0, e1, e2, e3, f3⟩ := diapasonlaw26_RegisKnown.cells HZr.out
            by_cases hlt : i < 4
            · obtain ⟨Ai, ci, hx, hle, hC⟩ := HS12.out i hlt
              replace hx := (HB.out.cell (World.block_lt_of_cell? _ _ hx)).trans hx
              have HCi := Aside0.mk (Kd.C_below hC HB.out)
              have hp := OK.out.wrong i hlt
              generalize diapasonlaw26_RegisKnown.ms.getD i [] = bi at hx hle hp HCi
              have HP := Aside0.mk hp
              clear hp hC
              go_wp2_with (go_at_call 17; refine (regis_Misses.calls k A0 c0 [10, 4] A1 c1 [[6, 0], [5, 4], [3, 1]] A2 c2 [2, 3, 1] 0 Ai ci bi 0 0 2 _ (Kd.C_below K0.out HQr.out) hc0 (Kd.C_below K1.out HQr.out) hc1 (Kd.C_below K2.out HQr.out) hc2 HCi.out hle HP.out).mono ?_; rintro e w13 ⟨rfl, hb⟩; have HBn := Aside0.mk (below_step HB.out hb); clear hb)
              refine ⟨⟨_, _, _, _, _, _, _, _, _, _, _, _, _, _, _, _, _, _, _, ⟨i + 1, ?_, ?_, HBn⟩, rfl⟩, ?_⟩
              · go_num
              · omega
              · simp [intOf]; omega
            · obtain rfl : i = 4 := by omega
              clear HS12 HQ12 HZ12 HB e0 e1 e2 e3 f3
              go_upto_region 31 with fail
              refine Any.region_inv (b := 143) (n := 25) (by kernel_rfl) diapasonlaw26_RegisKnown.Sp diapasonlaw26_RegisKnown.Sp_b ?hb rfl (by kernel_rfl) ?hop ?done
              case hb => simp
              case hop =>
                intro i o ho
                have hi : i < 25 := (Array.getElem?_eq_some_iff.1 ho).1
                match i, hi, ho with
                | 0, _, ho =>
                  obtain rfl := Option.some.inj ho
                  refine ⟨rfl, rfl, fun a w hd => ?_⟩
                  exact diapasonlaw26_RegisKnown.opW (x := diapasonlaw26_RegisKnown.w 0) (ps := []) rfl (by simp) diapasonlaw26_RegisKnown.bt0 (diapasonlaw26_RegisKnown.nilI _) (diapasonlaw26_RegisKnown.nilL _) (diapasonlaw26_RegisKnown.nilI _)
                | 1, _, ho =>
                  obtain rfl := Option.some.inj ho
                  refine ⟨rfl, rfl, fun a w hd => ?_⟩
                  exact diapasonlaw26_RegisKnown.opMI rfl
                | 2, _, ho =>
                  obtain rfl := Option.some.inj ho
                  refine ⟨rfl, rfl, fun a w hd => ?_⟩
                  obtain ⟨v0, e0, s0⟩ := hd 1 (by decide) ⟨_, Array.mem_of_getElem? (i := 0) rfl, rfl, rfl⟩
                  have q0 : a.eval (.tmp 144) = v0 := diapasonlaw26_RegisKnown.ev e0
                  obtain ⟨A, c, f0, _, _⟩ := id s0
                  exact diapasonlaw26_RegisKnown.opW (x := diapasonlaw26_RegisKnown.w 1) (ps := [(0, v0)]) rfl (by simp [q0, show ∀ v, a.eval (.const v) = v from fun _ => rfl]) (diapasonlaw26_RegisKnown.bt1 v0 A _ c f0) s0 (diapasonlaw26_RegisKnown.nilL _) (diapasonlaw26_RegisKnown.nilI _)
                | 3, _, ho =>
                  obtain rfl := Option.some.inj ho
                  refine ⟨rfl, rfl, fun a w hd => ?_⟩
                  exact diapasonlaw26_RegisKnown.opI [-1] (ps := [(0, .int .i64 (-1))]) rfl rfl (by decide) (by decide) (by simp [Act.eval]) (by kernel_rfl)
                | 4, _, ho =>
                  obtain rfl := Option.some.inj ho
                  refine ⟨rfl, rfl, fun a w hd => ?_⟩
                  obtain ⟨v0, e0, s0⟩ := hd 3 (by decide) ⟨_, Array.mem_of_getElem? (i := 0) rfl, rfl, rfl⟩
                  have q0 : a.eval (.tmp 146) = v0 := diapasonlaw26_RegisKnown.ev e0
                  obtain ⟨A, c, f0, _, _⟩ := id s0
                  exact diapasonlaw26_RegisKnown.opW (x := diapasonlaw26_RegisKnown.w 2) (ps := [(0, v0)]) rfl (by simp [q0, show ∀ v, a.eval (.const v) = v from fun _ => rfl]) (diapasonlaw26_RegisKnown.bt1 v0 A _ c f0) s0 (diapasonlaw26_RegisKnown.nilL _) (diapasonlaw26_RegisKnown.nilI _)
                | 5, _, ho =>
                  obtain rfl := Option.some.inj ho
                  refine ⟨rfl, rfl, fun a w hd => ?_⟩
                  exact diapasonlaw26_RegisKnown.opI [1048577] (ps := [(0, .int .i64 1048577)]) rfl rfl (by decide) (by decide) (by simp [Act.eval]) (by kernel_rfl)
                | 6, _, ho =>
                  obtain rfl := Option.some.inj ho
                  refine ⟨rfl, rfl, fun a w hd => ?_⟩
                  obtain ⟨v0, e0, s0⟩ := hd 5 (by decide) ⟨_, Array.mem_of_getElem? (i := 0) rfl, rfl, rfl⟩
                  have q0 : a.eval (.tmp 148) = v0 := diapasonlaw26_RegisKnown.ev e0
                  obtain ⟨A, c, f0, _, _⟩ := id s0
                  exact diapasonlaw26_RegisKnown.opW (x := diapasonlaw26_RegisKnown.w 3) (ps := [(0, v0)]) rfl (by simp [q0, show ∀ v, a.eval (.const v) = v from fun _ => rfl]) (diapasonlaw26_RegisKnown.bt1 v0 A _ c f0) s0 (diapasonlaw26_RegisKnown.nilL _) (diapasonlaw26_RegisKnown.nilI _)
                | 7, _, ho =>
                  obtain rfl := Option.some.inj ho
                  refine ⟨rfl, rfl, fun a w hd => ?_⟩
                  exact diapasonlaw26_RegisKnown.opI [1] (ps := [(0, .int .i64 1)]) rfl rfl (by decide) (by decide) (by simp [Act.eval]) (by kernel_rfl)
                | 8, _, ho =>
                  obtain rfl := Option.some.inj ho
                  refine ⟨rfl, rfl, fun a w hd => ?_⟩
                  obtain ⟨v0, e0, s0⟩ := hd 7 (by decide) ⟨_, Array.mem_of_getElem? (i := 0) rfl, rfl, rfl⟩
                  have q0 : a.eval (.tmp 150) = v0 := diapasonlaw26_RegisKnown.ev e0
                  obtain ⟨A, c, f0, _, _⟩ := id s0
                  exact diapasonlaw26_RegisKnown.opW (x := diapasonlaw26_RegisKnown.w 4) (ps := [(0, v0), (3, .int .i64 (-1))]) rfl (by simp [q0, show ∀ v, a.eval (.const v) = v from fun _ => rfl]) (diapasonlaw26_RegisKnown.bt4 v0 A _ c f0) s0 (diapasonlaw26_RegisKnown.nilL _) (diapasonlaw26_RegisKnown.nilI _)
                | 9, _, ho =>
                  obtain rfl := Option.some.inj ho
                  refine ⟨rfl, rfl, fun a w hd => ?_⟩
                  exact diapasonlaw26_RegisKnown.opI [1] (ps := [(0, .int .i64 1)]) rfl rfl (by decide) (by decide) (by simp [Act.eval]) (by kernel_rfl)
                | 10, _, ho =>
                  obtain rfl := Option.some.inj ho
                  refine ⟨rfl, rfl, fun a w hd => ?_⟩
                  exact diapasonlaw26_RegisKnown.opI [1] (ps := [(0, .int .i64 1)]) rfl rfl (by decide) (by decide) (by simp [Act.eval]) (by kernel_rfl)
                | 11, _, ho =>
                  obtain rfl := Option.some.inj ho
                  refine ⟨rfl, rfl, fun a w hd => ?_⟩
                  obtain ⟨v0, e0, s0⟩ := hd 10 (by decide) ⟨_, Array.mem_of_getElem? (i := 0) rfl, rfl, rfl⟩
                  have q0 : a.eval (.tmp 153) = v0 := diapasonlaw26_RegisKnown.ev e0
                  exact diapasonlaw26_RegisKnown.opL rfl e0 s0
                | 12, _, ho =>
                  obtain rfl := Option.some.inj ho
                  refine ⟨rfl, rfl, fun a w hd => ?_⟩
                  obtain ⟨v0, e0, s0⟩ := hd 9 (by decide) ⟨_, Array.mem_of_getElem? (i := 0) rfl, rfl, rfl⟩
                  have q0 : a.eval (.tmp 152) = v0 := diapasonlaw26_RegisKnown.ev e0
                  obtain ⟨v1, e1, s1⟩ := hd 11 (by decide) ⟨_, Array.mem_of_getElem? (i := 1) rfl, rfl, rfl⟩
                  have q1 : a.eval (.tmp 154) = v1 := diapasonlaw26_RegisKnown.ev e1
                  obtain ⟨A, c, f0, _, _⟩ := id s0
                  obtain ⟨B, d, f1, _, _⟩ := id s1
                  exact diapasonlaw26_RegisKnown.opW (x := diapasonlaw26_RegisKnown.w 5) (ps := [(0, v0), (1, v1)]) rfl (by simp [q0, q1]) (diapasonlaw26_RegisKnown.bt2 v0 v1 A B _ c _ d f0 f1) s0 s1 (diapasonlaw26_RegisKnown.nilI _)
                | 13, _, ho =>
                  obtain rfl := Option.some.inj ho
                  refine ⟨rfl, rfl, fun a w hd => ?_⟩
                  exact diapasonlaw26_RegisKnown.opI [1] (ps := [(0, .int .i64 1)]) rfl rfl (by decide) (by decide) (by simp [Act.eval]) (by kernel_rfl)
                | 14, _, ho =>
                  obtain rfl := Option.some.inj ho
                  refine ⟨rfl, rfl, fun a w hd => ?_⟩
                  exact diapasonlaw26_RegisKnown.opI [1, 2] (ps := [(0, .int .i64 1), (1, .int .i64 2)]) rfl rfl (by decide) (by decide) (by simp [Act.eval]) (by kernel_rfl)
                | 15, _, ho =>
                  obtain rfl := Option.some.inj ho
                  refine ⟨rfl, rfl, fun a w hd => ?_⟩
                  obtain ⟨v0, e0, s0⟩ := hd 14 (by decide) ⟨_, Array.mem_of_getElem? (i := 0) rfl, rfl, rfl⟩
                  have q0 : a.eval (.tmp 157) = v0 := diapasonlaw26_RegisKnown.ev e0
                  exact diapasonlaw26_RegisKnown.opL rfl e0 s0
                | 16, _, ho =>
                  obtain rfl := Option.some.inj ho
                  refine ⟨rfl, rfl, fun a w hd => ?_⟩
                  exact diapasonlaw26_RegisKnown.opI [0] (ps := [(0, .int .i64 0)]) rfl rfl (by decide) (by decide) (by simp [Act.eval]) (by kernel_rfl)
                | 17, _, ho =>
                  obtain rfl := Option.some.inj ho
                  refine ⟨rfl, rfl, fun a w hd => ?_⟩
                  obtain ⟨v0, e0, s0⟩ := hd 13 (by decide) ⟨_, Array.mem_of_getElem? (i := 0) rfl, rfl, rfl⟩
                  have q0 : a.eval (.tmp 156) = v0 := diapasonlaw26_RegisKnown.ev e0
                  obtain ⟨v1, e1, s1⟩ := hd 15 (by decide) ⟨_, Array.mem_of_getElem? (i := 1) rfl, rfl, rfl⟩
                  have q1 : a.eval (.tmp 158) = v1 := diapasonlaw26_RegisKnown.ev e1
                  obtain ⟨v2, e2, s2⟩ := hd 16 (by decide) ⟨_, Array.mem_of_getElem? (i := 2) rfl, rfl, rfl⟩
                  have q2 : a.eval (.tmp 159) = v2 := diapasonlaw26_RegisKnown.ev e2
                  obtain ⟨A, c, f0, _, _⟩ := id s0
                  obtain ⟨B, d, f1, _, _⟩ := id s1
                  obtain ⟨D, q, f2, _, _⟩ := id s2
                  exact diapasonlaw26_RegisKnown.opW (x := diapasonlaw26_RegisKnown.w 6) (ps := [(0, v0), (1, v1), (2, v2)]) rfl (by simp [q0, q1, q2]) (diapasonlaw26_RegisKnown.bt3 v0 v1 v2 A B D _ c _ d _ q f0 f1 f2) s0 s1 s2
                | 18, _, ho =>
                  obtain rfl := Option.some.inj ho
                  refine ⟨rfl, rfl, fun a w hd => ?_⟩
                  exact diapasonlaw26_RegisKnown.opI [1] (ps := [(0, .int .i64 1)]) rfl rfl (by decide) (by decide) (by simp [Act.eval]) (by kernel_rfl)
                | 19, _, ho =>
                  obtain rfl := Option.some.inj ho
                  refine ⟨rfl, rfl, fun a w hd => ?_⟩
                  exact diapasonlaw26_RegisKnown.opML rfl
                | 20, _, ho =>
                  obtain rfl := Option.some.inj ho
                  refine ⟨rfl, rfl, fun a w hd => ?_⟩
                  exact diapasonlaw26_RegisKnown.opMI rfl
                | 21, _, ho =>
                  obtain rfl := Option.some.inj ho
                  refine ⟨rfl, rfl, fun a w hd => ?_⟩
                  obtain ⟨v0, e0, s0⟩ := hd 18 (by decide) ⟨_, Array.mem_of_getElem? (i := 0) rfl, rfl, rfl⟩
                  have q0 : a.eval (.tmp 161) = v0 := diapasonlaw26_RegisKnown.ev e0
                  obtain ⟨v1, e1, s1⟩ := hd 19 (by decide) ⟨_, Array.mem_of_getElem? (i := 1) rfl, rfl, rfl⟩
                  have q1 : a.eval (.tmp 162) = v1 := diapasonlaw26_RegisKnown.ev e1
                  obtain ⟨v2, e2, s2⟩ := hd 20 (by decide) ⟨_, Array.mem_of_getElem? (i := 2) rfl, rfl, rfl⟩
                  have q2 : a.eval (.tmp 163) = v2 := diapasonlaw26_RegisKnown.ev e2
                  obtain ⟨A, c, f0, _, _⟩ := id s0
                  obtain ⟨B, d, f1, _, _⟩ := id s1
                  obtain ⟨D, q, f2, _, _⟩ := id s2
                  exact diapasonlaw26_RegisKnown.opW (x := diapasonlaw26_RegisKnown.w 7) (ps := [(0, v0), (1, v1), (2, v2)]) rfl (by simp [q0, q1, q2]) (diapasonlaw26_RegisKnown.bt3 v0 v1 v2 A B D _ c _ d _ q f0 f1 f2) s0 s1 s2
                | 22, _, ho =>
                  obtain rfl := Option.some.inj ho
                  refine ⟨rfl, rfl, fun a w hd => ?_⟩
                  obtain ⟨v0, e0, s0⟩ := hd 0 (by decide) ⟨_, Array.mem_of_getElem? (i := 0) rfl, rfl, rfl⟩
                  have q0 : a.eval (.tmp 143) = v0 := diapasonlaw26_RegisKnown.ev e0
                  obtain ⟨v1, e1, s1⟩ := hd 2 (by decide) ⟨_, Array.mem_of_getElem? (i := 1) rfl, rfl, rfl⟩
                  have q1 : a.eval (.tmp 145) = v1 := diapasonlaw26_RegisKnown.ev e1
                  obtain ⟨v2, e2, s2⟩ := hd 4 (by decide) ⟨_, Array.mem_of_getElem? (i := 2) rfl, rfl, rfl⟩
                  have q2 : a.eval (.tmp 147) = v2 := diapasonlaw26_RegisKnown.ev e2
                  obtain ⟨v3, e3, s3⟩ := hd 6 (by decide) ⟨_, Array.mem_of_getElem? (i := 3) rfl, rfl, rfl⟩
                  have q3 : a.eval (.tmp 149) = v3 := diapasonlaw26_RegisKnown.ev e3
                  obtain ⟨v4, e4, s4⟩ := hd 8 (by decide) ⟨_, Array.mem_of_getElem? (i := 4) rfl, rfl, rfl⟩
                  have q4 : a.eval (.tmp 151) = v4 := diapasonlaw26_RegisKnown.ev e4
                  obtain ⟨v5, e5, s5⟩ := hd 12 (by decide) ⟨_, Array.mem_of_getElem? (i := 5) rfl, rfl, rfl⟩
                  have q5 : a.eval (.tmp 155) = v5 := diapasonlaw26_RegisKnown.ev e5
                  obtain ⟨v6, e6, s6⟩ := hd 17 (by decide) ⟨_, Array.mem_of_getElem? (i := 6) rfl, rfl, rfl⟩
                  have q6 : a.eval (.tmp 160) = v6 := diapasonlaw26_RegisKnown.ev e6
                  obtain ⟨v7, e7, s7⟩ := hd 21 (by decide) ⟨_, Array.mem_of_getElem? (i := 7) rfl, rfl, rfl⟩
                  have q7 : a.eval (.tmp 164) = v7 := diapasonlaw26_RegisKnown.ev e7
                  exact diapasonlaw26_RegisKnown.op8 rfl (by simp [q0, q1, q2, q3, q4, q5, q6, q7]) s0 s1 s2 s3 s4 s5 s6 s7
                | 23, _, ho =>
                  obtain rfl := Option.some.inj ho
                  refine ⟨rfl, rfl, fun a w hd => ?_⟩
                  obtain ⟨v0, e0, s0⟩ := hd 22 (by decide) ⟨_, Array.mem_of_getElem? (i := 0) rfl, rfl, rfl⟩
                  have q0 : a.eval (.tmp 165) = v0 := diapasonlaw26_RegisKnown.ev e0
                  obtain ⟨ad, f0, _⟩ := id s0
                  subst f0
                  refine ⟨.int .i64 8, w, ?_, Below.refl _ _, rfl⟩
                  simp [execOp, resolve, invoke, builtin, q0, Builtin.len_, Result.andThen]
                  rfl
                | 24, _, ho =>
                  obtain rfl := Option.some.inj ho
                  refine ⟨rfl, rfl, fun a w hd => ?_⟩
                  exact ⟨_, _, diapasonlaw26_RegisKnown.opMv rfl, Below.refl _ _, rfl⟩
              case done =>
                intro V w14 hV hBw
                have h22 : diapasonlaw26_RegisKnown.all8 w14 (V 22) := hV 22 (by decide)
                have h23 : V 23 = .int .i64 8 := hV 23 (by decide)
                have h24 : V 24 = .int .i64 0 := hV 24 (by decide)
                obtain ⟨ad14, e22, hx14⟩ := h22
                have H14 := Aside0.mk (below_step HB1.out (below_step HQr.out hBw))
                have HX14 := Aside0.mk hx14
                simp only [Any.fillN, List.setIfInBounds_toArray, List.set_cons_succ, List.set_cons_zero, h23, h24, e22]
                clear hV hBw h23 h24 e22 hx14 HZr HQr
                generalize V 0 = t0
                generalize V 1 = t1
                generalize V 2 = t2
                generalize V 3 = t3
                generalize V 4 = t4
                generalize V 5 = t5
                generalize V 6 = t6
                generalize V 7 = t7
                generalize V 8 = t8
                generalize V 9 = t9
                generalize V 10 = t10
                generalize V 11 = t11
                generalize V 12 = t12
                generalize V 13 = t13
                generalize V 14 = t14
                generalize V 15 = t15
                generalize V 16 = t16
                generalize V 17 = t17
                generalize V 18 = t18
                generalize V 19 = t19
                generalize V 20 = t20
                generalize V 21 = t21
                clear V
                go_wp2_with fail
                go_loopw [167] (fun v167 wr => ∃ i : Nat, v167 = .int .i64 i ∧ i ≤ 8 ∧ Aside0 (Below w14.heap.size w14 wr)) (fun v167 _ => 8 - (intOf v167).toNat)
                case atStart => exact ⟨0, rfl, by omega, ⟨Below.refl _ _⟩⟩
                case round =>
                  obtain ⟨i, rfl, hi, HB⟩ := hrel
                  by_cases hlt : i < 8
                  · obtain ⟨v0, v1, v2, x0, x1, x2, x3, h0, h1, h2⟩ := HX14.out i hlt
                    have hp := OK.out.check i hlt
                    generalize diapasonlaw26_RegisKnown.w i = x at x3 h0 h1 h2 hp
                    obtain ⟨y0, y1, y2, y3⟩ := x
                    simp only at x3 h0 h1 h2 hp
                    obtain ⟨B0, d0, rfl, l0, C0⟩ := h0
                    obtain ⟨B1, d1, rfl, l1, C1⟩ := h1
                    obtain ⟨B2, d2, rfl, l2, C2⟩ := h2
                    replace x0 := pw_cell_below HB.out x0
                    replace x1 := pw_cell_below HB.out x1
                    replace x2 := pw_cell_below HB.out x2
                    replace x3 := pw_cell_below HB.out x3
                    have D0 := Aside0.mk (Kd.C_below C0 HB.out)
                    have D1 := Aside0.mk (Kd.C_below C1 HB.out)
                    have D2 := Aside0.mk (Kd.C_below C2 HB.out)
                    have HP := Aside0.mk hp
                    clear hp C0 C1 C2
                    go_wp2_with (go_at_call 19; refine (regis_Check.calls k B0 d0 y0 B1 d1 y1 B2 d2 y2 y3 2 _ (Kd.C_alloc D0.out _) l0 (Kd.C_alloc D1.out _) l1 (Kd.C_alloc D2.out _) l2 HP.out).mono ?_; rintro e w15 ⟨rfl, hb⟩; have HBn := Aside0.mk (below_step (below_alloc HB.out _) hb); clear hb)
                    refine ⟨⟨_, _, _, _, _, _, _, _, _, _, ⟨i + 1, ?_, ?_, HBn⟩, rfl⟩, ?_⟩
                    · go_num
                    · omega
                    · simp [intOf]; omega
                  · obtain rfl : i = 8 := by omega
                    have H15 := Aside0.mk (below_step H14.out HB.out)
                    go_wp2_with fail
                    have hrow := diapasonlaw26_RegisKnown.rowC (q := .i64) (t := 3) [1048576] (blk_new wr (.cells #[.int .i64 1048576] 3 (0, 0))) rfl (by decide)
                    refine (regis_Check.calls k (some ⟨wr.heap.size, 0, none⟩) 1 [1048576] none 0 [] none 0 [] 1048576 0 _ hrow (Nat.le_refl _) ⟨rfl, by decide, fun h => absurd h (by decide)⟩ (Nat.le_refl _) ⟨rfl, by decide, fun h => absurd h (by decide)⟩ (Nat.le_refl _) OK.out.last).mono ?_
                    rintro e w16 ⟨rfl, hb⟩
                    have H16 := Aside0.mk (below_step (below_alloc H15.out _) hb)
                    clear hb hrow
                    go_wp2_with fail
                    refine (diapasonlaw26_works.calls k true _ OK.out.works).mono ?_
                    rintro e w17 ⟨rfl, hb⟩
                    have H17 := Aside0.mk (below_step H16.out hb)
                    clear hb
                    go_wp2
                    go_ret
                    exact ⟨rfl, H17.out⟩

/-- THE ONE PURE STATEMENT of diapasonlaw26_RegisKnown: yours. -/
def diapasonlaw26_RegisKnown.Pure : Prop := ∃ k, diapasonlaw26_RegisKnown.f k  = some true
theorem diapasonlaw26_RegisKnown.walk (P : diapasonlaw26_RegisKnown.Pure)  (w : World)   :
    Calls Try.prog 8 #[] w fun e w' => e = .returned (.bool true) ∧ Below w.heap.size w w' := by
  obtain ⟨k, h⟩ := P  
  refine (diapasonlaw26_RegisKnown.calls k  true w  h).mono ?_
  rintro e w' ⟨rfl, hd⟩
  exact ⟨rfl, hd⟩

end Go.Proofs.Ytbpamdgpfjaggaa.PRegisKnown
