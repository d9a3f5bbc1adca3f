-- Written by a program of this session (the kit's print, turned: wip/px).
import Derived.Test.YtgdbdjfmbccfoaaPRankEachx0
namespace Go.Proofs.Ytgdbdjfmbccfoaa.PRankEach
open Go.RowKit Go.Proofs.YtgdbdjfmbccfoaaW.PrintWords Go.Proofs.YtgdbdjfmbccfoaaW.PrintLast Go.Proofs.YtgdbdjfmbccfoaaW.PrintMore
attribute [local go_sem] max2_int min2_int max_two min_two max_three min_three max_four min_four   -- for this text's walks alone
set_option linter.unusedVariables false
set_option linter.unusedSimpArgs false

/-! ### diapasonlaw20_of: function 19 -/
mutual
def diapasonlaw20_of.l0 : Nat → Int → Int → Int → Int → Int → Int → ByteArray → Int → Int → Int → List Int → Int → Option (ByteArray × Int × Int × Int × List Int × Int)
  | 0, _, _, _, _, _, _, _, _, _, _, _, _ => none
  | k + 1, x4, x150000, x150001, x150002, x150003, x150004, x152000, x152001, x152002, x152003, x152004, x152005 => if x4 < 16 then (diapasonlaw20_of.j1 k x4 (decide ((x152004.length : Int) < 8)) x150000 x150001 x150002 x150003 x150004 x152000 x152001 x152002 x152003 x152004 x152005) else (diapasonlaw20_of.j1 k x4 false x150000 x150001 x150002 x150003 x150004 x152000 x152001 x152002 x152003 x152004 x152005)
def diapasonlaw20_of.j1 : Nat → Int → Bool → Int → Int → Int → Int → Int → ByteArray → Int → Int → Int → List Int → Int → Option (ByteArray × Int × Int × Int × List Int × Int)
  | 0, _, _, _, _, _, _, _, _, _, _, _, _, _ => none
  | k + 1, x4, x31, x150000, x150001, x150002, x150003, x150004, x152000, x152001, x152002, x152003, x152004, x152005 => if x31 = true then (if 0 ≤ x4 then (if (Go.bits .and .u16 (shr .u16 x150004 x4) 1) = 1 then (if (wrap64 ((wrap64 (x152001 + 1)) + (wrap64 (2 * x4)))) ≤ x152002 then (if x152004.length < 17592186044416 then (diapasonlaw20_of.l0 k (wrap64 (x4 + 1)) x150000 x150001 x150002 x150003 x150004 x152000 x152001 x152002 x152003 (x152004 ++ [wrap64 ((wrap64 (x152001 + 1)) + (wrap64 (2 * x4)))]) x152005) else (none)) else (diapasonlaw20_of.l0 k (wrap64 (x4 + 1)) x150000 x150001 x150002 x150003 x150004 x152000 x152001 x152002 x152003 x152004 x152005)) else (diapasonlaw20_of.l0 k (wrap64 (x4 + 1)) x150000 x150001 x150002 x150003 x150004 x152000 x152001 x152002 x152003 x152004 x152005)) else (none)) else (if (x152004.length : Int) > 0 then (some (x152000, x152001, x152002, x152003, x152004, wrap64 (Int.tmod x150003 25))) else (some (x152000, x152001, x152002, x152003, x152004, x152005)))
end
def diapasonlaw20_of.f (k : Nat) (a0_0 : Int) (a0_1 : Int) (a0_2 : Int) (a0_3 : Int) (a0_4 : Int) : Option (ByteArray × Int × Int × Int × List Int × Int) := diapasonlaw20_of.l0 k 0 a0_0 a0_1 a0_2 a0_3 a0_4 (⟨#[97]⟩ : ByteArray) (wrap64 (Int.tmod a0_0 20)) (wrap64 ((wrap64 (Int.tmod a0_0 20)) + (wrap64 (Int.tmod a0_1 40)))) (wrap64 ((wrap64 (Int.tmod a0_2 60)) - 30)) ([] : List Int) 0
theorem diapasonlaw20_of.mono_l : ∀ k, (∀ y0 y1 y2 y3 y4 y5 y6 y7 y8 y9 y10 y11, LeO (diapasonlaw20_of.l0 k y0 y1 y2 y3 y4 y5 y6 y7 y8 y9 y10 y11) (diapasonlaw20_of.l0 (k + 1) y0 y1 y2 y3 y4 y5 y6 y7 y8 y9 y10 y11)) ∧ (∀ y0 y1 y2 y3 y4 y5 y6 y7 y8 y9 y10 y11 y12, LeO (diapasonlaw20_of.j1 k y0 y1 y2 y3 y4 y5 y6 y7 y8 y9 y10 y11 y12) (diapasonlaw20_of.j1 (k + 1) y0 y1 y2 y3 y4 y5 y6 y7 y8 y9 y10 y11 y12))
  | 0 => ⟨fun _ _ _ _ _ _ _ _ _ _ _ _ r h => by simp [diapasonlaw20_of.l0] at h, fun _ _ _ _ _ _ _ _ _ _ _ _ _ r h => by simp [diapasonlaw20_of.j1] at h⟩
  | k + 1 => by
    obtain ⟨ih0, ih1⟩ := diapasonlaw20_of.mono_l k
    refine ⟨?_, ?_⟩
    · intro y0 y1 y2 y3 y4 y5 y6 y7 y8 y9 y10 y11
      unfold diapasonlaw20_of.l0
      repeat' first
      | (with_reducible exact ih0 _ _ _ _ _ _ _ _ _ _ _ _)
      | (with_reducible exact ih1 _ _ _ _ _ _ _ _ _ _ _ _ _)
      | (with_reducible exact LeO.refl _)
      | (with_reducible exact LeO.none _)
      | (with_reducible refine LeO.ite ?_ ?_)
      | (with_reducible refine LeO.bind ?_ (fun _ => ?_))
      | exact ih0 _ _ _ _ _ _ _ _ _ _ _ _
      | exact ih1 _ _ _ _ _ _ _ _ _ _ _ _ _
      | exact LeO.none _
      | refine LeO.ite ?_ ?_
      | refine LeO.bind ?_ (fun _ => ?_)
    · intro y0 y1 y2 y3 y4 y5 y6 y7 y8 y9 y10 y11 y12
      unfold diapasonlaw20_of.j1
      repeat' first
      | (with_reducible exact ih0 _ _ _ _ _ _ _ _ _ _ _ _)
      | (with_reducible exact ih1 _ _ _ _ _ _ _ _ _ _ _ _ _)
      | (with_reducible exact LeO.refl _)
      | (with_reducible exact LeO.none _)
      | (with_reducible refine LeO.ite ?_ ?_)
      | (with_reducible refine LeO.bind ?_ (fun _ => ?_))
      | exact ih0 _ _ _ _ _ _ _ _ _ _ _ _
      | exact ih1 _ _ _ _ _ _ _ _ _ _ _ _ _
      | exact LeO.none _
      | refine LeO.ite ?_ ?_
      | refine LeO.bind ?_ (fun _ => ?_)
theorem diapasonlaw20_of.mono : ∀ a0 a1 a2 a3 a4 k, LeO (diapasonlaw20_of.f k a0 a1 a2 a3 a4) (diapasonlaw20_of.f (k + 1) a0 a1 a2 a3 a4) := by
  intro a0 a1 a2 a3 a4 k
  obtain ⟨ih0, ih1⟩ := diapasonlaw20_of.mono_l k
  unfold diapasonlaw20_of.f
  repeat' first
      | (with_reducible exact ih0 _ _ _ _ _ _ _ _ _ _ _ _)
      | (with_reducible exact ih1 _ _ _ _ _ _ _ _ _ _ _ _ _)
      | (with_reducible exact LeO.refl _)
      | (with_reducible exact LeO.none _)
      | (with_reducible refine LeO.ite ?_ ?_)
      | (with_reducible refine LeO.bind ?_ (fun _ => ?_))
      | exact ih0 _ _ _ _ _ _ _ _ _ _ _ _
      | exact ih1 _ _ _ _ _ _ _ _ _ _ _ _ _
      | exact LeO.none _
      | refine LeO.ite ?_ ?_
      | refine LeO.bind ?_ (fun _ => ?_)
set_option maxHeartbeats 8000000 in
set_option maxRecDepth 100000 in
theorem diapasonlaw20_of.calls (k : Nat) (a0_0 : Int) (a0_1 : Int) (a0_2 : Int) (a0_3 : Int) (a0_4 : Int) (r1 : ByteArray) (r2 : Int) (r3 : Int) (r4 : Int) (r5 : List Int) (r6 : Int) (w : World) (h : diapasonlaw20_of.f k a0_0 a0_1 a0_2 a0_3 a0_4 = some (r1, r2, r3, r4, r5, r6)) :
    Calls Try.prog 19 #[.agg #[.int .u8 a0_0, .int .u8 a0_1, .int .u8 a0_2, .int .u8 a0_3, .int .u16 a0_4]] w fun e w' => ∃ v4_ : Value, e = .returned (.agg #[.string r1, .int .i64 r2, .int .i64 r3, .int .i64 r4, v4_, .int .i64 r6]) ∧ Kd.R (Kd.int .i64) 3 w' w.heap.size (fun _ => True) v4_ r5 ∧ Below w.heap.size w w' := by
  have hu40 := Try.underlying40
  have hu24 := Try.underlying24
  have HB := Aside0.mk (Below.refl w.heap.size w)
  have H : (diapasonlaw20_of.l0 k 0 a0_0 a0_1 a0_2 a0_3 a0_4 (⟨#[97]⟩ : ByteArray) (wrap64 (Int.tmod a0_0 20)) (wrap64 ((wrap64 (Int.tmod a0_0 20)) + (wrap64 (Int.tmod a0_1 40)))) (wrap64 ((wrap64 (Int.tmod a0_2 60)) - 30)) ([] : List Int) 0) = some (r1, r2, r3, r4, r5, r6) := h
  clear h
  have H' := Aside0.mk H
  clear H
  go_enter Try.func19, Try.ntmps19
  go_wp2_with (first | ((with_reducible refine gate_dst (N := 1) rfl ?_); (try (refine gate_guard (by rfl) ?_; dsimp only)); refine box_event ?hg (N := 1) ?hd (cs := #[.int .u8 a0_0, .int .u8 a0_1, .int .u8 a0_2, .int .u8 a0_3, .int .u16 a0_4]) (t := 40) ?hr ?_; (case hd => rfl); (case hg => rfl); (case hr => first | (go_simp; done) | (go_simp; rfl)); intro gb149 hg w2 hbox hb; have n0_ := Aside0.mk (below_step (by repeat (first | (with_reducible first | exact HB.out | apply below_alloc | apply pw_below_drewN | apply below_drew1) | exact HB.out)) hb); have n1_ := Aside0.mk (hbox); have n2_ := Aside0.mk ((by rw [hg]; exact (below_size (by repeat (first | (with_reducible first | exact HB.out | apply below_alloc | apply pw_below_drewN | apply below_drew1) | exact HB.out))) : w.heap.size ≤ gb149)); have n3_ := Aside0.mk ((by rw [hg]; exact (below_size (by repeat (first | (with_reducible first | exact HB.out | apply below_alloc | apply pw_below_drewN | apply below_drew1) | exact HB.out))) : w.heap.size ≤ gb149)); clear HB; have HB := n0_; have BK149 := n1_; have GW149 := n2_; have GE149 := n3_; clear n0_ n1_ n2_ n3_; clear hb hbox hg) | ((with_reducible refine gate_dst (N := 2) rfl ?_); (try (refine gate_guard (by rfl) ?_; dsimp only)); refine box_event ?hg (N := 2) ?hd (cs := #[.string (⟨#[]⟩ : ByteArray), .int .i64 0, .int .i64 0, .int .i64 0, .slice none 0 0, .int .i64 0]) (t := 24) ?hr ?_; (case hd => rfl); (case hg => rfl); (case hr => first | (go_simp; done) | (go_simp; rfl)); intro gb150 hg w3 hbox hb; have n0_ := Aside0.mk (blk_below (g := gb149) (o := .cells #[.int .u8 a0_0, .int .u8 a0_1, .int .u8 a0_2, .int .u8 a0_3, .int .u16 a0_4] 40 (0, 0)) (by (with_reducible repeat (first | refine blk_drewN ?_ _ | refine blk_drew ?_ | refine blk_alloc ?_ _)); exact BK149.out) hb); have n1_ := Aside0.mk (below_step (by repeat (first | (with_reducible first | exact HB.out | apply below_alloc | apply pw_below_drewN | apply below_drew1 | refine below_set ?_ GE149.out) | exact HB.out)) hb); have n2_ := Aside0.mk (hbox); have n3_ := Aside0.mk ((by rw [hg]; exact (below_size (by repeat (first | (with_reducible first | exact HB.out | apply below_alloc | apply pw_below_drewN | apply below_drew1 | refine below_set ?_ GE149.out) | exact HB.out))) : w.heap.size ≤ gb150)); have n4_ := Aside0.mk ((by rw [hg]; exact (below_size (by repeat (first | (with_reducible first | exact HB.out | apply below_alloc | apply pw_below_drewN | apply below_drew1 | refine below_set ?_ GE149.out) | exact HB.out))) : w.heap.size ≤ gb150)); have n5_ := Aside0.mk ((by rw [hg]; exact Nat.ne_of_lt (blk_lt (g := gb149) (o := .cells #[.int .u8 a0_0, .int .u8 a0_1, .int .u8 a0_2, .int .u8 a0_3, .int .u16 a0_4] 40 (0, 0)) (by (with_reducible repeat (first | refine blk_drewN ?_ _ | refine blk_drew ?_ | refine blk_alloc ?_ _)); exact BK149.out)) : gb149 ≠ gb150)); have n6_ := Aside0.mk ((by rw [hg]; exact Nat.ne_of_gt (blk_lt (g := gb149) (o := .cells #[.int .u8 a0_0, .int .u8 a0_1, .int .u8 a0_2, .int .u8 a0_3, .int .u16 a0_4] 40 (0, 0)) (by (with_reducible repeat (first | refine blk_drewN ?_ _ | refine blk_drew ?_ | refine blk_alloc ?_ _)); exact BK149.out)) : gb150 ≠ gb149)); clear BK149; clear HB; have BK149 := n0_; have HB := n1_; have BK150 := n2_; have GW150 := n3_; have GE150 := n4_; have NB149_150 := n5_; have NB150_149 := n6_; clear n0_ n1_ n2_ n3_ n4_ n5_ n6_; clear hb hbox hg; have hnb4 := NB149_150.out; have hnc4 := NB150_149.out; have hcz5_0 : w3.cell? ⟨gb149, 0, none⟩ = some (.int .u8 a0_0) := (blk_cell BK149.out 0).trans rfl; have hcz5_1 : w3.cell? ⟨gb149, 1, none⟩ = some (.int .u8 a0_1) := (blk_cell BK149.out 1).trans rfl; have hcz5_2 : w3.cell? ⟨gb149, 2, none⟩ = some (.int .u8 a0_2) := (blk_cell BK149.out 2).trans rfl; have hcz5_3 : w3.cell? ⟨gb149, 3, none⟩ = some (.int .u8 a0_3) := (blk_cell BK149.out 3).trans rfl; have hcz5_4 : w3.cell? ⟨gb149, 4, none⟩ = some (.int .u16 a0_4) := (blk_cell BK149.out 4).trans rfl; have hfz5_0 := blk_frozen BK149.out 0; have hfz5_1 := blk_frozen BK149.out 1; have hfz5_2 := blk_frozen BK149.out 2; have hfz5_3 := blk_frozen BK149.out 3; have hfz5_4 := blk_frozen BK149.out 4) | ((with_reducible refine gate_dst (N := 3) rfl ?_); (try (refine gate_guard (by rfl) ?_; dsimp only)); refine box_event ?hg (N := 3) ?hd (cs := #[.string (⟨#[]⟩ : ByteArray), .int .i64 0, .int .i64 0, .int .i64 0, .slice none 0 0, .int .i64 0]) (t := 24) ?hr ?_; (case hd => rfl); (case hg => rfl); (case hr => first | (go_simp; done) | (go_simp; rfl)); intro gb151 hg w6 hbox hb; have n0_ := Aside0.mk (blk_below (g := gb149) (o := .cells #[.int .u8 a0_0, .int .u8 a0_1, .int .u8 a0_2, .int .u8 a0_3, .int .u16 a0_4] 40 (0, 0)) (by (with_reducible repeat (first | refine blk_drewN ?_ _ | refine blk_drew ?_ | refine blk_alloc ?_ _)); exact BK149.out) hb); have n1_ := Aside0.mk (blk_below (g := gb150) (o := .cells #[.string (⟨#[]⟩ : ByteArray), .int .i64 0, .int .i64 0, .int .i64 0, .slice none 0 0, .int .i64 0] 24 (0, 0)) (by (with_reducible repeat (first | refine blk_drewN ?_ _ | refine blk_drew ?_ | refine blk_alloc ?_ _)); exact BK150.out) hb); have n2_ := Aside0.mk (below_step (by repeat (first | (with_reducible first | exact HB.out | apply below_alloc | apply pw_below_drewN | apply below_drew1 | refine below_set ?_ GE149.out | refine below_set ?_ GE150.out) | exact HB.out)) hb); have n3_ := Aside0.mk (hbox); have n4_ := Aside0.mk ((by rw [hg]; exact (below_size (by repeat (first | (with_reducible first | exact HB.out | apply below_alloc | apply pw_below_drewN | apply below_drew1 | refine below_set ?_ GE149.out | refine below_set ?_ GE150.out) | exact HB.out))) : w.heap.size ≤ gb151)); have n5_ := Aside0.mk ((by rw [hg]; exact (below_size (by repeat (first | (with_reducible first | exact HB.out | apply below_alloc | apply pw_below_drewN | apply below_drew1 | refine below_set ?_ GE149.out | refine below_set ?_ GE150.out) | exact HB.out))) : w.heap.size ≤ gb151)); have n6_ := Aside0.mk ((by rw [hg]; exact Nat.ne_of_lt (blk_lt (g := gb149) (o := .cells #[.int .u8 a0_0, .int .u8 a0_1, .int .u8 a0_2, .int .u8 a0_3, .int .u16 a0_4] 40 (0, 0)) (by (with_reducible repeat (first | refine blk_drewN ?_ _ | refine blk_drew ?_ | refine blk_alloc ?_ _)); exact BK149.out)) : gb149 ≠ gb151)); have n7_ := Aside0.mk ((by rw [hg]; exact Nat.ne_of_gt (blk_lt (g := gb149) (o := .cells #[.int .u8 a0_0, .int .u8 a0_1, .int .u8 a0_2, .int .u8 a0_3, .int .u16 a0_4] 40 (0, 0)) (by (with_reducible repeat (first | refine blk_drewN ?_ _ | refine blk_drew ?_ | refine blk_alloc ?_ _)); exact BK149.out)) : gb151 ≠ gb149)); have n8_ := Aside0.mk ((by rw [hg]; exact Nat.ne_of_lt (blk_lt (g := gb150) (o := .cells #[.string (⟨#[]⟩ : ByteArray), .int .i64 0, .int .i64 0, .int .i64 0, .slice none 0 0, .int .i64 0] 24 (0, 0)) (by (with_reducible repeat (first | refine blk_drewN ?_ _ | refine blk_drew ?_ | refine blk_alloc ?_ _)); exact BK150.out)) : gb150 ≠ gb151)); have n9_ := Aside0.mk ((by rw [hg]; exact Nat.ne_of_gt (blk_lt (g := gb150) (o := .cells #[.string (⟨#[]⟩ : ByteArray), .int .i64 0, .int .i64 0, .int .i64 0, .slice none 0 0, .int .i64 0] 24 (0, 0)) (by (with_reducible repeat (first | refine blk_drewN ?_ _ | refine blk_drew ?_ | refine blk_alloc ?_ _)); exact BK150.out)) : gb151 ≠ gb150)); clear BK149; clear BK150; clear HB; have BK149 := n0_; have BK150 := n1_; have HB := n2_; have BK151 := n3_; have GW151 := n4_; have GE151 := n5_; have NB149_151 := n6_; have NB151_149 := n7_; have NB150_151 := n8_; have NB151_150 := n9_; clear n0_ n1_ n2_ n3_ n4_ n5_ n6_ n7_ n8_ n9_; clear hb hbox hg; have hnb7 := NB151_149.out; have hnc7 := NB149_151.out; have hnb8 := NB151_150.out; have hnc8 := NB150_151.out; have hcz9_0 : w6.cell? ⟨gb151, 0, none⟩ = some (.string (⟨#[]⟩ : ByteArray)) := (blk_cell BK151.out 0).trans rfl; have hcz9_1 : w6.cell? ⟨gb151, 1, none⟩ = some (.int .i64 0) := (blk_cell BK151.out 1).trans rfl; have hcz9_2 : w6.cell? ⟨gb151, 2, none⟩ = some (.int .i64 0) := (blk_cell BK151.out 2).trans rfl; have hcz9_3 : w6.cell? ⟨gb151, 3, none⟩ = some (.int .i64 0) := (blk_cell BK151.out 3).trans rfl; have hcz9_4 : w6.cell? ⟨gb151, 4, none⟩ = some (.slice none 0 0) := (blk_cell BK151.out 4).trans rfl; have hcz9_5 : w6.cell? ⟨gb151, 5, none⟩ = some (.int .i64 0) := (blk_cell BK151.out 5).trans rfl; have hfz9_0 := blk_frozen BK151.out 0; have hfz9_1 := blk_frozen BK151.out 1; have hfz9_2 := blk_frozen BK151.out 2; have hfz9_3 := blk_frozen BK151.out 3; have hfz9_4 := blk_frozen BK151.out 4; have hfz9_5 := blk_frozen BK151.out 5; have hcz10_0 : w6.cell? ⟨gb149, 0, none⟩ = some (.int .u8 a0_0) := (blk_cell BK149.out 0).trans rfl; have hcz10_1 : w6.cell? ⟨gb149, 1, none⟩ = some (.int .u8 a0_1) := (blk_cell BK149.out 1).trans rfl; have hcz10_2 : w6.cell? ⟨gb149, 2, none⟩ = some (.int .u8 a0_2) := (blk_cell BK149.out 2).trans rfl; have hcz10_3 : w6.cell? ⟨gb149, 3, none⟩ = some (.int .u8 a0_3) := (blk_cell BK149.out 3).trans rfl; have hcz10_4 : w6.cell? ⟨gb149, 4, none⟩ = some (.int .u16 a0_4) := (blk_cell BK149.out 4).trans rfl; have hfz10_0 := blk_frozen BK149.out 0; have hfz10_1 := blk_frozen BK149.out 1; have hfz10_2 := blk_frozen BK149.out 2; have hfz10_3 := blk_frozen BK149.out 3; have hfz10_4 := blk_frozen BK149.out 4))
  go_loopg [4] k (fun kq v4 w' => ∃ (x4_1 : Int) (x152004_1 : List Int) (u152004 : Value), v4 = .int .i64 x4_1 ∧ Aside0 (diapasonlaw20_of.l0 kq x4_1 a0_0 a0_1 a0_2 a0_3 a0_4 (⟨#[97]⟩ : ByteArray) (wrap64 (Int.tmod a0_0 20)) (wrap64 ((wrap64 (Int.tmod a0_0 20)) + (wrap64 (Int.tmod a0_1 40)))) (wrap64 ((wrap64 (Int.tmod a0_2 60)) - 30)) x152004_1 0 = some (r1, r2, r3, r4, r5, r6)) ∧ Aside0 (kq ≤ k) ∧ Aside0 (Kd.R (Kd.int .i64) 3 w' w.heap.size (fun _ => True) u152004 x152004_1) ∧ Aside0 (w'.heap[gb149]? = some (.cells #[.int .u8 a0_0, .int .u8 a0_1, .int .u8 a0_2, .int .u8 a0_3, .int .u16 a0_4] 40 (0, 0))) ∧ Aside0 (w'.heap[gb150]? = some (.cells #[.string (⟨#[]⟩ : ByteArray), .int .i64 0, .int .i64 0, .int .i64 0, (.slice none 0 0), .int .i64 0] 24 (0, 0))) ∧ Aside0 (w'.heap[gb151]? = some (.cells #[.string (⟨#[97]⟩ : ByteArray), .int .i64 (wrap64 (Int.tmod a0_0 20)), .int .i64 (wrap64 ((wrap64 (Int.tmod a0_0 20)) + (wrap64 (Int.tmod a0_1 40)))), .int .i64 (wrap64 ((wrap64 (Int.tmod a0_2 60)) - 30)), u152004, .int .i64 0] 24 (0, 0))) ∧ Aside0 (Below w.heap.size w w'))
  case atStart => exact ⟨(0), (([] : List Int)), (.slice none 0 0), (by first | rfl | (simp; done) | (simp [*]; done)), H', ⟨Nat.le_refl _⟩, ⟨by first | exact Kd.R_nil _ _ _ _ _ | exact Kd.N_nil _ _ _ _ _ | exact Kd.V_nil _ _ _ _ _ | exact Kd.Q_nil _ _ _ _ _ | exact Kd.S_nil _ _ _ _ _⟩, ⟨by (with_reducible repeat (first | refine blk_drewN ?_ _ | refine blk_drew ?_ | refine blk_alloc ?_ _)); refine blk_far ?_ NB149_151.out _; (with_reducible repeat (first | refine blk_drewN ?_ _ | refine blk_drew ?_ | refine blk_alloc ?_ _)); refine blk_far ?_ NB149_151.out _; (with_reducible repeat (first | refine blk_drewN ?_ _ | refine blk_drew ?_ | refine blk_alloc ?_ _)); refine blk_far ?_ NB149_151.out _; (with_reducible repeat (first | refine blk_drewN ?_ _ | refine blk_drew ?_ | refine blk_alloc ?_ _)); refine blk_far ?_ NB149_151.out _; (with_reducible repeat (first | refine blk_drewN ?_ _ | refine blk_drew ?_ | refine blk_alloc ?_ _)); refine blk_far ?_ NB149_151.out _; (with_reducible repeat (first | refine blk_drewN ?_ _ | refine blk_drew ?_ | refine blk_alloc ?_ _)); refine blk_far ?_ NB149_151.out _; (with_reducible repeat (first | refine blk_drewN ?_ _ | refine blk_drew ?_ | refine blk_alloc ?_ _)); refine blk_far ?_ NB149_151.out _; (with_reducible repeat (first | refine blk_drewN ?_ _ | refine blk_drew ?_ | refine blk_alloc ?_ _)); exact BK149.out⟩, ⟨by (with_reducible repeat (first | refine blk_drewN ?_ _ | refine blk_drew ?_ | refine blk_alloc ?_ _)); refine blk_far ?_ NB150_151.out _; (with_reducible repeat (first | refine blk_drewN ?_ _ | refine blk_drew ?_ | refine blk_alloc ?_ _)); refine blk_far ?_ NB150_151.out _; (with_reducible repeat (first | refine blk_drewN ?_ _ | refine blk_drew ?_ | refine blk_alloc ?_ _)); refine blk_far ?_ NB150_151.out _; (with_reducible repeat (first | refine blk_drewN ?_ _ | refine blk_drew ?_ | refine blk_alloc ?_ _)); refine blk_far ?_ NB150_151.out _; (with_reducible repeat (first | refine blk_drewN ?_ _ | refine blk_drew ?_ | refine blk_alloc ?_ _)); refine blk_far ?_ NB150_151.out _; (with_reducible repeat (first | refine blk_drewN ?_ _ | refine blk_drew ?_ | refine blk_alloc ?_ _)); refine blk_far ?_ NB150_151.out _; (with_reducible repeat (first | refine blk_drewN ?_ _ | refine blk_drew ?_ | refine blk_alloc ?_ _)); refine blk_far ?_ NB150_151.out _; (with_reducible repeat (first | refine blk_drewN ?_ _ | refine blk_drew ?_ | refine blk_alloc ?_ _)); exact BK150.out⟩, ⟨by (with_reducible repeat (first | refine blk_drewN ?_ _ | refine blk_drew ?_ | refine blk_alloc ?_ _)); refine blk_put (cs := #[.string (⟨#[97]⟩ : ByteArray), .int .i64 (wrap64 (Int.tmod a0_0 20)), .int .i64 0, .int .i64 (wrap64 ((wrap64 (Int.tmod a0_2 60)) - 30)), .slice none 0 0, .int .i64 0]) ?_ 2 _ rfl; (with_reducible repeat (first | refine blk_drewN ?_ _ | refine blk_drew ?_ | refine blk_alloc ?_ _)); refine blk_put (cs := #[.string (⟨#[97]⟩ : ByteArray), .int .i64 (wrap64 (Int.tmod a0_0 20)), .int .i64 0, .int .i64 (wrap64 ((wrap64 (Int.tmod a0_2 60)) - 30)), .slice none 0 0, .int .i64 0]) ?_ 5 _ rfl; (with_reducible repeat (first | refine blk_drewN ?_ _ | refine blk_drew ?_ | refine blk_alloc ?_ _)); refine blk_put (cs := #[.string (⟨#[97]⟩ : ByteArray), .int .i64 (wrap64 (Int.tmod a0_0 20)), .int .i64 0, .int .i64 (wrap64 ((wrap64 (Int.tmod a0_2 60)) - 30)), .slice none 0 0, .int .i64 0]) ?_ 4 _ rfl; (with_reducible repeat (first | refine blk_drewN ?_ _ | refine blk_drew ?_ | refine blk_alloc ?_ _)); refine blk_put (cs := #[.string (⟨#[97]⟩ : ByteArray), .int .i64 (wrap64 (Int.tmod a0_0 20)), .int .i64 0, .int .i64 0, .slice none 0 0, .int .i64 0]) ?_ 3 _ rfl; (with_reducible repeat (first | refine blk_drewN ?_ _ | refine blk_drew ?_ | refine blk_alloc ?_ _)); refine blk_put (cs := #[.string (⟨#[97]⟩ : ByteArray), .int .i64 (wrap64 (Int.tmod a0_0 20)), .int .i64 0, .int .i64 0, .slice none 0 0, .int .i64 0]) ?_ 2 _ rfl; (with_reducible repeat (first | refine blk_drewN ?_ _ | refine blk_drew ?_ | refine blk_alloc ?_ _)); refine blk_put (cs := #[.string (⟨#[97]⟩ : ByteArray), .int .i64 0, .int .i64 0, .int .i64 0, .slice none 0 0, .int .i64 0]) ?_ 1 _ rfl; (with_reducible repeat (first | refine blk_drewN ?_ _ | refine blk_drew ?_ | refine blk_alloc ?_ _)); refine blk_put (cs := #[.string (⟨#[]⟩ : ByteArray), .int .i64 0, .int .i64 0, .int .i64 0, .slice none 0 0, .int .i64 0]) ?_ 0 _ rfl; (with_reducible repeat (first | refine blk_drewN ?_ _ | refine blk_drew ?_ | refine blk_alloc ?_ _)); exact BK151.out⟩, ⟨by repeat (first | (with_reducible first | exact HB.out | apply below_alloc | apply pw_below_drewN | apply below_drew1 | refine below_set ?_ GE149.out | refine below_set ?_ GE150.out | refine below_set ?_ GE151.out) | exact HB.out)⟩⟩
  case round =>
    clear H'
    try clear c1
    try clear p2
    try clear c4
    try clear p6
    try clear c7
    try clear c8
    try clear hcz10_0
    try clear hcz10_1
    try clear hcz10_2
    try clear hcz10_3
    try clear hcz10_4
    try clear hcz5_0
    try clear hcz5_1
    try clear hcz5_2
    try clear hcz5_3
    try clear hcz5_4
    try clear hcz9_0
    try clear hcz9_1
    try clear hcz9_2
    try clear hcz9_3
    try clear hcz9_4
    try clear hcz9_5
    try clear hfz10_0
    try clear hfz10_1
    try clear hfz10_2
    try clear hfz10_3
    try clear hfz10_4
    try clear hfz5_0
    try clear hfz5_1
    try clear hfz5_2
    try clear hfz5_3
    try clear hfz5_4
    try clear hfz9_0
    try clear hfz9_1
    try clear hfz9_2
    try clear hfz9_3
    try clear hfz9_4
    try clear hfz9_5
    obtain ⟨x4_1, x152004_1, u152004, rfl, HA, HK1, HO_152004, BK149, BK150, BK151, HB⟩ := hrel
    cases gk with
    | zero => exact absurd HA.out (by simp [diapasonlaw20_of.l0])
    | succ k1 =>
      have H := HA.out
      clear HA
      simp only [diapasonlaw20_of.l0] at H
      have HC11 := Aside0.mk H
      clear H
      go_upto_region 4 with (fail)
      go_cut [31] (fun v31 wc => ∃ (kq : Nat) (x31_10 : Bool), v31 = .bool x31_10 ∧ Aside0 (diapasonlaw20_of.j1 kq x4_1 x31_10 a0_0 a0_1 a0_2 a0_3 a0_4 (⟨#[97]⟩ : ByteArray) (wrap64 (Int.tmod a0_0 20)) (wrap64 ((wrap64 (Int.tmod a0_0 20)) + (wrap64 (Int.tmod a0_1 40)))) (wrap64 ((wrap64 (Int.tmod a0_2 60)) - 30)) x152004_1 0 = some (r1, r2, r3, r4, r5, r6)) ∧ Aside0 (kq ≤ k1) ∧ Aside0 (Kd.R (Kd.int .i64) 3 wc w.heap.size (fun _ => True) u152004 x152004_1) ∧ Aside0 (wc.heap[gb149]? = some (.cells #[.int .u8 a0_0, .int .u8 a0_1, .int .u8 a0_2, .int .u8 a0_3, .int .u16 a0_4] 40 (0, 0))) ∧ Aside0 (wc.heap[gb150]? = some (.cells #[.string (⟨#[]⟩ : ByteArray), .int .i64 0, .int .i64 0, .int .i64 0, (.slice none 0 0), .int .i64 0] 24 (0, 0))) ∧ Aside0 (wc.heap[gb151]? = some (.cells #[.string (⟨#[97]⟩ : ByteArray), .int .i64 (wrap64 (Int.tmod a0_0 20)), .int .i64 (wrap64 ((wrap64 (Int.tmod a0_0 20)) + (wrap64 (Int.tmod a0_1 40)))), .int .i64 (wrap64 ((wrap64 (Int.tmod a0_2 60)) - 30)), u152004, .int .i64 0] 24 (0, 0))) ∧ Aside0 (Below w.heap.size w wc))
      case first =>
        have H := HC11.out
        clear HC11
        by_cases c12 : x4_1 < 16
        · rw [if_pos c12] at H
          have c12b0 : decide (x4_1 < 16) = true := decide_eq_true c12
          clear c12
          (first | rw [c12b0] | (simp only [i64_w, i32_w]; rw [c12b0]) | skip)
          have H' := Aside0.mk H
          clear H
          have hnb13 := NB151_149.out
          have hnc13 := NB149_151.out
          have hnb14 := NB151_150.out
          have hnc14 := NB150_151.out
          have hcz15_0 : wr.cell? ⟨gb151, 0, none⟩ = some (.string (⟨#[97]⟩ : ByteArray)) := (blk_cell BK151.out 0).trans rfl
          have hcz15_1 : wr.cell? ⟨gb151, 1, none⟩ = some (.int .i64 (wrap64 (Int.tmod a0_0 20))) := (blk_cell BK151.out 1).trans rfl
          have hcz15_2 : wr.cell? ⟨gb151, 2, none⟩ = some (.int .i64 (wrap64 ((wrap64 (Int.tmod a0_0 20)) + (wrap64 (Int.tmod a0_1 40))))) := (blk_cell BK151.out 2).trans rfl
          have hcz15_3 : wr.cell? ⟨gb151, 3, none⟩ = some (.int .i64 (wrap64 ((wrap64 (Int.tmod a0_2 60)) - 30))) := (blk_cell BK151.out 3).trans rfl
          have hcz15_4 : wr.cell? ⟨gb151, 4, none⟩ = some (u152004) := (blk_cell BK151.out 4).trans rfl
          have hcz15_5 : wr.cell? ⟨gb151, 5, none⟩ = some (.int .i64 0) := (blk_cell BK151.out 5).trans rfl
          have hfz15_0 := blk_frozen BK151.out 0
          have hfz15_1 := blk_frozen BK151.out 1
          have hfz15_2 := blk_frozen BK151.out 2
          have hfz15_3 := blk_frozen BK151.out 3
          have hfz15_4 := blk_frozen BK151.out 4
          have hfz15_5 := blk_frozen BK151.out 5
          obtain ⟨Ao16, co16, eo16⟩ := Kd.R_slice HO_152004.out
          subst eo16
          go_wp2
          go_meet
          case rel => exact ⟨_, (decide ((x152004_1.length : Int) < 8)), (by first | rfl | (simp; done) | (simp [*]; done)), H', ⟨by have := HK1.out; first | omega | exact Nat.le_refl _⟩, ⟨by (with_reducible repeat (first | apply Kd.R_alloc | apply Kd.R_drewN | apply Kd.R_drew)); exact HO_152004.out⟩, ⟨by (with_reducible repeat (first | refine blk_drewN ?_ _ | refine blk_drew ?_ | refine blk_alloc ?_ _)); exact BK149.out⟩, ⟨by (with_reducible repeat (first | refine blk_drewN ?_ _ | refine blk_drew ?_ | refine blk_alloc ?_ _)); exact BK150.out⟩, ⟨by (with_reducible repeat (first | refine blk_drewN ?_ _ | refine blk_drew ?_ | refine blk_alloc ?_ _)); exact BK151.out⟩, ⟨by repeat (first | (with_reducible first | exact HB.out | apply below_alloc | apply pw_below_drewN | apply below_drew1 | refine below_set ?_ GE149.out | refine below_set ?_ GE150.out | refine below_set ?_ GE151.out) | exact HB.out)⟩⟩
        · rw [if_neg c12] at H
          have c12b0 : decide (x4_1 < 16) = false := decide_eq_false c12
          clear c12
          (first | rw [c12b0] | (simp only [i64_w, i32_w]; rw [c12b0]) | skip)
          have H' := Aside0.mk H
          clear H
          go_wp2
          go_meet
          case rel => exact ⟨_, (false), (by first | rfl | (simp; done) | (simp [*]; done)), H', ⟨by have := HK1.out; first | omega | exact Nat.le_refl _⟩, ⟨by (with_reducible repeat (first | apply Kd.R_alloc | apply Kd.R_drewN | apply Kd.R_drew)); exact HO_152004.out⟩, ⟨by (with_reducible repeat (first | refine blk_drewN ?_ _ | refine blk_drew ?_ | refine blk_alloc ?_ _)); exact BK149.out⟩, ⟨by (with_reducible repeat (first | refine blk_drewN ?_ _ | refine blk_drew ?_ | refine blk_alloc ?_ _)); exact BK150.out⟩, ⟨by (with_reducible repeat (first | refine blk_drewN ?_ _ | refine blk_drew ?_ | refine blk_alloc ?_ _)); exact BK151.out⟩, ⟨by repeat (first | (with_reducible first | exact HB.out | apply below_alloc | apply pw_below_drewN | apply below_drew1 | refine below_set ?_ GE149.out | refine below_set ?_ GE150.out | refine below_set ?_ GE151.out) | exact HB.out)⟩⟩
      case rest =>
        clear HC11
        try clear c1
        try clear p2
        try clear c4
        try clear p6
        try clear c7
        try clear c8
        try clear c12
        try clear c12b0
        try clear c13
        try clear c14
        try clear hcz10_0
        try clear hcz10_1
        try clear hcz10_2
        try clear hcz10_3
        try clear hcz10_4
        try clear hcz15_0
        try clear hcz15_1
        try clear hcz15_2
        try clear hcz15_3
        try clear hcz15_4
        try clear hcz15_5
        try clear hcz5_0
        try clear hcz5_1
        try clear hcz5_2
        try clear hcz5_3
        try clear hcz5_4
        try clear hcz9_0
        try clear hcz9_1
        try clear hcz9_2
        try clear hcz9_3
        try clear hcz9_4
        try clear hcz9_5
        try clear hfz10_0
        try clear hfz10_1
        try clear hfz10_2
        try clear hfz10_3
        try clear hfz10_4
        try clear hfz15_0
        try clear hfz15_1
        try clear hfz15_2
        try clear hfz15_3
        try clear hfz15_4
        try clear hfz15_5
        try clear hfz5_0
        try clear hfz5_1
        try clear hfz5_2
        try clear hfz5_3
        try clear hfz5_4
        try clear hfz9_0
        try clear hfz9_1
        try clear hfz9_2
        try clear hfz9_3
        try clear hfz9_4
        try clear hfz9_5
        try clear p2
        try clear p6
        obtain ⟨kq, x31_10, rfl, HA, HJ10, HO_152004, BK149, BK150, BK151, HB⟩ := hcut
        cases kq with
        | zero => exact absurd HA.out (by simp [diapasonlaw20_of.j1])
        | succ kj10 =>
          have H := HA.out
          clear HA
          simp only [diapasonlaw20_of.j1] at H
          by_cases c17 : x31_10 = true
          · subst c17
            have H1 : (if 0 ≤ x4_1 then (if (Go.bits .and .u16 (shr .u16 a0_4 x4_1) 1) = 1 then (if (wrap64 ((wrap64 ((wrap64 (Int.tmod a0_0 20)) + 1)) + (wrap64 (2 * x4_1)))) ≤ (wrap64 ((wrap64 (Int.tmod a0_0 20)) + (wrap64 (Int.tmod a0_1 40)))) then (if x152004_1.length < 17592186044416 then (diapasonlaw20_of.l0 kj10 (wrap64 (x4_1 + 1)) a0_0 a0_1 a0_2 a0_3 a0_4 (⟨#[97]⟩ : ByteArray) (wrap64 (Int.tmod a0_0 20)) (wrap64 ((wrap64 (Int.tmod a0_0 20)) + (wrap64 (Int.tmod a0_1 40)))) (wrap64 ((wrap64 (Int.tmod a0_2 60)) - 30)) (x152004_1 ++ [wrap64 ((wrap64 ((wrap64 (Int.tmod a0_0 20)) + 1)) + (wrap64 (2 * x4_1)))]) 0) else (none)) else (diapasonlaw20_of.l0 kj10 (wrap64 (x4_1 + 1)) a0_0 a0_1 a0_2 a0_3 a0_4 (⟨#[97]⟩ : ByteArray) (wrap64 (Int.tmod a0_0 20)) (wrap64 ((wrap64 (Int.tmod a0_0 20)) + (wrap64 (Int.tmod a0_1 40)))) (wrap64 ((wrap64 (Int.tmod a0_2 60)) - 30)) x152004_1 0)) else (diapasonlaw20_of.l0 kj10 (wrap64 (x4_1 + 1)) a0_0 a0_1 a0_2 a0_3 a0_4 (⟨#[97]⟩ : ByteArray) (wrap64 (Int.tmod a0_0 20)) (wrap64 ((wrap64 (Int.tmod a0_0 20)) + (wrap64 (Int.tmod a0_1 40)))) (wrap64 ((wrap64 (Int.tmod a0_2 60)) - 30)) x152004_1 0)) else (none)) = some (r1, r2, r3, r4, r5, r6) := by rw [if_pos rfl] at H; exact H
            clear H
            have H := H1
            clear H1
            by_cases c18 : 0 ≤ x4_1
            · rw [if_pos c18] at H
              have c18b0 := eq_true c18
              have c18b1 : decide (0 ≤ x4_1) = true := decide_eq_true c18
              clear c18
              obtain ⟨ji19, hji19⟩ : ∃ j_ : Int, (shr .u16 a0_4 x4_1) = j_ := ⟨_, rfl⟩
              replace H : (if (Go.bits .and .u16 (ji19) 1) = 1 then (if (wrap64 ((wrap64 ((wrap64 (Int.tmod a0_0 20)) + 1)) + (wrap64 (2 * x4_1)))) ≤ (wrap64 ((wrap64 (Int.tmod a0_0 20)) + (wrap64 (Int.tmod a0_1 40)))) then (if x152004_1.length < 17592186044416 then (diapasonlaw20_of.l0 kj10 (wrap64 (x4_1 + 1)) a0_0 a0_1 a0_2 a0_3 a0_4 (⟨#[97]⟩ : ByteArray) (wrap64 (Int.tmod a0_0 20)) (wrap64 ((wrap64 (Int.tmod a0_0 20)) + (wrap64 (Int.tmod a0_1 40)))) (wrap64 ((wrap64 (Int.tmod a0_2 60)) - 30)) (x152004_1 ++ [wrap64 ((wrap64 ((wrap64 (Int.tmod a0_0 20)) + 1)) + (wrap64 (2 * x4_1)))]) 0) else (none)) else (diapasonlaw20_of.l0 kj10 (wrap64 (x4_1 + 1)) a0_0 a0_1 a0_2 a0_3 a0_4 (⟨#[97]⟩ : ByteArray) (wrap64 (Int.tmod a0_0 20)) (wrap64 ((wrap64 (Int.tmod a0_0 20)) + (wrap64 (Int.tmod a0_1 40)))) (wrap64 ((wrap64 (Int.tmod a0_2 60)) - 30)) x152004_1 0)) else (diapasonlaw20_of.l0 kj10 (wrap64 (x4_1 + 1)) a0_0 a0_1 a0_2 a0_3 a0_4 (⟨#[97]⟩ : ByteArray) (wrap64 (Int.tmod a0_0 20)) (wrap64 ((wrap64 (Int.tmod a0_0 20)) + (wrap64 (Int.tmod a0_1 40)))) (wrap64 ((wrap64 (Int.tmod a0_2 60)) - 30)) x152004_1 0)) = some (r1, r2, r3, r4, r5, r6) := by first | (rw [hji19] at H; exact H) | (simp only [hji19] at H ⊢; exact H)
              have hji19_ : (a0_4 / 2 ^ min x4_1.toNat 16) = ji19 := hji19
              have hji19z : x4_1 ≤ 16 → (a0_4 / 2 ^ x4_1.toNat) = ji19 := shr_small hji19
              by_cases c20 : (Go.bits .and .u16 (ji19) 1) = 1
              · rw [if_pos c20] at H
                have c20b0 : ((Go.bits .and .u16 (ji19) 1) == 1) = true := beq_iff_eq.mpr c20
                have c20b1 : ((Go.bits .and .u16 (ji19) 1) != 1) = false := bne_eq_false_iff_eq.mpr c20
                clear c20
                by_cases c21 : (wrap64 ((wrap64 ((wrap64 (Int.tmod a0_0 20)) + 1)) + (wrap64 (2 * x4_1)))) ≤ (wrap64 ((wrap64 (Int.tmod a0_0 20)) + (wrap64 (Int.tmod a0_1 40))))
                · rw [if_pos c21] at H
                  have c21b0 : decide ((wrap64 ((wrap64 ((wrap64 (Int.tmod a0_0 20)) + 1)) + (wrap64 (2 * x4_1)))) ≤ (wrap64 ((wrap64 (Int.tmod a0_0 20)) + (wrap64 (Int.tmod a0_1 40))))) = true := decide_eq_true c21
                  clear c21
                  by_cases c22 : x152004_1.length < 17592186044416
                  · rw [if_pos c22] at H
                    have LMc22 := Aside0.mk c22
                    clear c22
                    obtain ⟨y152, hy152⟩ : ∃ y_ : List Int, y_ = (x152004_1 ++ [wrap64 ((wrap64 ((wrap64 (Int.tmod a0_0 20)) + 1)) + (wrap64 (2 * x4_1)))]) := ⟨_, rfl⟩
                    replace H : (diapasonlaw20_of.l0 kj10 (wrap64 (x4_1 + 1)) a0_0 a0_1 a0_2 a0_3 a0_4 (⟨#[97]⟩ : ByteArray) (wrap64 (Int.tmod a0_0 20)) (wrap64 ((wrap64 (Int.tmod a0_0 20)) + (wrap64 (Int.tmod a0_1 40)))) (wrap64 ((wrap64 (Int.tmod a0_2 60)) - 30)) y152 0) = some (r1, r2, r3, r4, r5, r6) := by first | (rw [hy152]; with_reducible exact H) | (have H2_ := (Option.bind_some _ _).symm.trans H; rw [hy152]; with_reducible exact H2_) | (have H2_ := (Option.bind_some _ _).symm.trans H; with_reducible exact H2_) | with_reducible exact H | (rw [hy152]; exact H) | exact H
                    have Ny152 := Aside0.mk hy152
                    clear hy152
                    have H' := Aside0.mk H
                    clear H
                    have hnb23 := NB151_149.out
                    have hnc23 := NB149_151.out
                    have hnb24 := NB151_150.out
                    have hnc24 := NB150_151.out
                    have hcz25_0 : wc.cell? ⟨gb151, 0, none⟩ = some (.string (⟨#[97]⟩ : ByteArray)) := (blk_cell BK151.out 0).trans rfl
                    have hcz25_1 : wc.cell? ⟨gb151, 1, none⟩ = some (.int .i64 (wrap64 (Int.tmod a0_0 20))) := (blk_cell BK151.out 1).trans rfl
                    have hcz25_2 : wc.cell? ⟨gb151, 2, none⟩ = some (.int .i64 (wrap64 ((wrap64 (Int.tmod a0_0 20)) + (wrap64 (Int.tmod a0_1 40))))) := (blk_cell BK151.out 2).trans rfl
                    have hcz25_3 : wc.cell? ⟨gb151, 3, none⟩ = some (.int .i64 (wrap64 ((wrap64 (Int.tmod a0_2 60)) - 30))) := (blk_cell BK151.out 3).trans rfl
                    have hcz25_4 : wc.cell? ⟨gb151, 4, none⟩ = some (u152004) := (blk_cell BK151.out 4).trans rfl
                    have hcz25_5 : wc.cell? ⟨gb151, 5, none⟩ = some (.int .i64 0) := (blk_cell BK151.out 5).trans rfl
                    have hfz25_0 := blk_frozen BK151.out 0
                    have hfz25_1 := blk_frozen BK151.out 1
                    have hfz25_2 := blk_frozen BK151.out 2
                    have hfz25_3 := blk_frozen BK151.out 3
                    have hfz25_4 := blk_frozen BK151.out 4
                    have hfz25_5 := blk_frozen BK151.out 5
                    have hnb26 := NB149_150.out
                    have hnc26 := NB150_149.out
                    have hcz27_0 : wc.cell? ⟨gb149, 0, none⟩ = some (.int .u8 a0_0) := (blk_cell BK149.out 0).trans rfl
                    have hcz27_1 : wc.cell? ⟨gb149, 1, none⟩ = some (.int .u8 a0_1) := (blk_cell BK149.out 1).trans rfl
                    have hcz27_2 : wc.cell? ⟨gb149, 2, none⟩ = some (.int .u8 a0_2) := (blk_cell BK149.out 2).trans rfl
                    have hcz27_3 : wc.cell? ⟨gb149, 3, none⟩ = some (.int .u8 a0_3) := (blk_cell BK149.out 3).trans rfl
                    have hcz27_4 : wc.cell? ⟨gb149, 4, none⟩ = some (.int .u16 a0_4) := (blk_cell BK149.out 4).trans rfl
                    have hfz27_0 := blk_frozen BK149.out 0
                    have hfz27_1 := blk_frozen BK149.out 1
                    have hfz27_2 := blk_frozen BK149.out 2
                    have hfz27_3 := blk_frozen BK149.out 3
                    have hfz27_4 := blk_frozen BK149.out 4
                    go_wp2_with (first | ((with_reducible refine gate_builtin (b := .append) (xs := #[.tmp 53, .tmp 55]) rfl ?_); (try (refine gate_guard (by rfl) ?_; dsimp only)); at_builtin; refine Kd.R_append (Kd.int .i64) (w0 := w) w.heap.size rfl (.tmp 53) (.tmp 55) 22 3 (.int .i64 0) 8 rfl Try.underlying22 info3 rfl (by decide) (by omega) u152004 x152004_1 (wrap64 ((wrap64 ((wrap64 (Int.tmod a0_0 20)) + 1)) + (wrap64 (2 * x4_1)))) [.int .i64 (wrap64 ((wrap64 ((wrap64 (Int.tmod a0_0 20)) + 1)) + (wrap64 (2 * x4_1))))] (fun _ => True) (fun _ => False) rfl rfl ?aP (fun _ hk => hk.elim) ?aF ?aO ?aB ?aS ?aL ?_; (case aP => exact rfl); (case aB => exact (by repeat (first | (with_reducible first | exact HB.out | apply below_alloc | apply pw_below_drewN | apply below_drew1 | refine below_set ?_ GE149.out | refine below_set ?_ GE150.out | refine below_set ?_ GE151.out) | exact HB.out))); (case aF => exact (fun _ _ => trivial)); (case aO => exact (by (with_reducible repeat (first | apply Kd.R_alloc | apply Kd.R_drewN | apply Kd.R_drew)); exact HO_152004.out)); (case aS => exact (below_size (by repeat (first | (with_reducible first | exact HB.out | apply below_alloc | apply pw_below_drewN | apply below_drew1 | refine below_set ?_ GE149.out | refine below_set ?_ GE150.out | refine below_set ?_ GE151.out) | exact HB.out)))); (case aL => have := LMc22.out; omega); intro v153 w28 ho hb hg hat; rw [← Ny152.out] at ho; have n0_ := Aside0.mk (blk_grown (g := gb149) (o := .cells #[.int .u8 a0_0, .int .u8 a0_1, .int .u8 a0_2, .int .u8 a0_3, .int .u16 a0_4] 40 (0, 0)) (by (with_reducible repeat (first | refine blk_drewN ?_ _ | refine blk_drew ?_ | refine blk_alloc ?_ _)); exact BK149.out) hg (Kd.R_ne HO_152004.out BK149.out (by decide))); have n1_ := Aside0.mk (blk_grown (g := gb150) (o := .cells #[.string (⟨#[]⟩ : ByteArray), .int .i64 0, .int .i64 0, .int .i64 0, .slice none 0 0, .int .i64 0] 24 (0, 0)) (by (with_reducible repeat (first | refine blk_drewN ?_ _ | refine blk_drew ?_ | refine blk_alloc ?_ _)); exact BK150.out) hg (Kd.R_ne HO_152004.out BK150.out (by decide))); have n2_ := Aside0.mk (blk_grown (g := gb151) (o := .cells #[.string (⟨#[97]⟩ : ByteArray), .int .i64 (wrap64 (Int.tmod a0_0 20)), .int .i64 (wrap64 ((wrap64 (Int.tmod a0_0 20)) + (wrap64 (Int.tmod a0_1 40)))), .int .i64 (wrap64 ((wrap64 (Int.tmod a0_2 60)) - 30)), u152004, .int .i64 0] 24 (0, 0)) (by (with_reducible repeat (first | refine blk_drewN ?_ _ | refine blk_drew ?_ | refine blk_alloc ?_ _)); exact BK151.out) hg (Kd.R_ne HO_152004.out BK151.out (by decide))); have n3_ := Aside0.mk (hb); have n4_ := Aside0.mk (ho); clear BK149; clear BK150; clear BK151; clear HB; clear HO_152004; have BK149 := n0_; have BK150 := n1_; have BK151 := n2_; have HB := n3_; have HO154 := n4_; clear n0_ n1_ n2_ n3_ n4_; clear ho hb hg hat; obtain ⟨Ao29, co29, eo29⟩ := Kd.R_slice HO154.out; subst eo29; have hcz30_0 : w28.cell? ⟨gb151, 0, none⟩ = some (.string (⟨#[97]⟩ : ByteArray)) := (blk_cell BK151.out 0).trans rfl; have hcz30_1 : w28.cell? ⟨gb151, 1, none⟩ = some (.int .i64 (wrap64 (Int.tmod a0_0 20))) := (blk_cell BK151.out 1).trans rfl; have hcz30_2 : w28.cell? ⟨gb151, 2, none⟩ = some (.int .i64 (wrap64 ((wrap64 (Int.tmod a0_0 20)) + (wrap64 (Int.tmod a0_1 40))))) := (blk_cell BK151.out 2).trans rfl; have hcz30_3 : w28.cell? ⟨gb151, 3, none⟩ = some (.int .i64 (wrap64 ((wrap64 (Int.tmod a0_2 60)) - 30))) := (blk_cell BK151.out 3).trans rfl; have hcz30_4 : w28.cell? ⟨gb151, 4, none⟩ = some (u152004) := (blk_cell BK151.out 4).trans rfl; have hcz30_5 : w28.cell? ⟨gb151, 5, none⟩ = some (.int .i64 0) := (blk_cell BK151.out 5).trans rfl; have hfz30_0 := blk_frozen BK151.out 0; have hfz30_1 := blk_frozen BK151.out 1; have hfz30_2 := blk_frozen BK151.out 2; have hfz30_3 := blk_frozen BK151.out 3; have hfz30_4 := blk_frozen BK151.out 4; have hfz30_5 := blk_frozen BK151.out 5))
                    go_roundg kj10
                    case measure => have := HK1.out; have := HJ10.out; omega
                    case rel => exact ⟨(wrap64 (x4_1 + 1)), (y152), (.slice Ao29 y152.length co29), (by first | rfl | (simp; done) | (simp [*]; done)), H', ⟨by have := HK1.out; have := HJ10.out; omega⟩, ⟨by (with_reducible repeat (first | apply Kd.R_alloc | apply Kd.R_drewN | apply Kd.R_drew)); exact Kd.R_mono (Kd.R_far (p := ⟨gb151, 4, none⟩) (Kd.R_types HO154.out BK151.out (by decide)) (fun _ hk => hk.2) (.slice Ao29 y152.length co29)) (fun _ hk => trivial)⟩, ⟨by (with_reducible repeat (first | refine blk_drewN ?_ _ | refine blk_drew ?_ | refine blk_alloc ?_ _)); refine blk_far ?_ NB149_151.out _; (with_reducible repeat (first | refine blk_drewN ?_ _ | refine blk_drew ?_ | refine blk_alloc ?_ _)); exact BK149.out⟩, ⟨by (with_reducible repeat (first | refine blk_drewN ?_ _ | refine blk_drew ?_ | refine blk_alloc ?_ _)); refine blk_far ?_ NB150_151.out _; (with_reducible repeat (first | refine blk_drewN ?_ _ | refine blk_drew ?_ | refine blk_alloc ?_ _)); exact BK150.out⟩, ⟨by (with_reducible repeat (first | refine blk_drewN ?_ _ | refine blk_drew ?_ | refine blk_alloc ?_ _)); refine blk_put (cs := #[.string (⟨#[97]⟩ : ByteArray), .int .i64 (wrap64 (Int.tmod a0_0 20)), .int .i64 (wrap64 ((wrap64 (Int.tmod a0_0 20)) + (wrap64 (Int.tmod a0_1 40)))), .int .i64 (wrap64 ((wrap64 (Int.tmod a0_2 60)) - 30)), u152004, .int .i64 0]) ?_ 4 _ rfl; (with_reducible repeat (first | refine blk_drewN ?_ _ | refine blk_drew ?_ | refine blk_alloc ?_ _)); exact BK151.out⟩, ⟨by repeat (first | (with_reducible first | exact HB.out | apply below_alloc | apply pw_below_drewN | apply below_drew1 | refine below_set ?_ GE149.out | refine below_set ?_ GE150.out | refine below_set ?_ GE151.out) | exact HB.out)⟩⟩
                  · rw [if_neg c22] at H
                    exact absurd H (by simp)
                · rw [if_neg c21] at H
                  have c21b0 : decide ((wrap64 ((wrap64 ((wrap64 (Int.tmod a0_0 20)) + 1)) + (wrap64 (2 * x4_1)))) ≤ (wrap64 ((wrap64 (Int.tmod a0_0 20)) + (wrap64 (Int.tmod a0_1 40))))) = false := decide_eq_false c21
                  clear c21
                  have H' := Aside0.mk H
                  clear H
                  have hnb31 := NB151_149.out
                  have hnc31 := NB149_151.out
                  have hnb32 := NB151_150.out
                  have hnc32 := NB150_151.out
                  have hcz33_0 : wc.cell? ⟨gb151, 0, none⟩ = some (.string (⟨#[97]⟩ : ByteArray)) := (blk_cell BK151.out 0).trans rfl
                  have hcz33_1 : wc.cell? ⟨gb151, 1, none⟩ = some (.int .i64 (wrap64 (Int.tmod a0_0 20))) := (blk_cell BK151.out 1).trans rfl
                  have hcz33_2 : wc.cell? ⟨gb151, 2, none⟩ = some (.int .i64 (wrap64 ((wrap64 (Int.tmod a0_0 20)) + (wrap64 (Int.tmod a0_1 40))))) := (blk_cell BK151.out 2).trans rfl
                  have hcz33_3 : wc.cell? ⟨gb151, 3, none⟩ = some (.int .i64 (wrap64 ((wrap64 (Int.tmod a0_2 60)) - 30))) := (blk_cell BK151.out 3).trans rfl
                  have hcz33_4 : wc.cell? ⟨gb151, 4, none⟩ = some (u152004) := (blk_cell BK151.out 4).trans rfl
                  have hcz33_5 : wc.cell? ⟨gb151, 5, none⟩ = some (.int .i64 0) := (blk_cell BK151.out 5).trans rfl
                  have hfz33_0 := blk_frozen BK151.out 0
                  have hfz33_1 := blk_frozen BK151.out 1
                  have hfz33_2 := blk_frozen BK151.out 2
                  have hfz33_3 := blk_frozen BK151.out 3
                  have hfz33_4 := blk_frozen BK151.out 4
                  have hfz33_5 := blk_frozen BK151.out 5
                  have hnb34 := NB149_150.out
                  have hnc34 := NB150_149.out
                  have hcz35_0 : wc.cell? ⟨gb149, 0, none⟩ = some (.int .u8 a0_0) := (blk_cell BK149.out 0).trans rfl
                  have hcz35_1 : wc.cell? ⟨gb149, 1, none⟩ = some (.int .u8 a0_1) := (blk_cell BK149.out 1).trans rfl
                  have hcz35_2 : wc.cell? ⟨gb149, 2, none⟩ = some (.int .u8 a0_2) := (blk_cell BK149.out 2).trans rfl
                  have hcz35_3 : wc.cell? ⟨gb149, 3, none⟩ = some (.int .u8 a0_3) := (blk_cell BK149.out 3).trans rfl
                  have hcz35_4 : wc.cell? ⟨gb149, 4, none⟩ = some (.int .u16 a0_4) := (blk_cell BK149.out 4).trans rfl
                  have hfz35_0 := blk_frozen BK149.out 0
                  have hfz35_1 := blk_frozen BK149.out 1
                  have hfz35_2 := blk_frozen BK149.out 2
                  have hfz35_3 := blk_frozen BK149.out 3
                  have hfz35_4 := blk_frozen BK149.out 4
                  go_wp2
                  go_roundg kj10
                  case measure => have := HK1.out; have := HJ10.out; omega
                  case rel => exact ⟨(wrap64 (x4_1 + 1)), (x152004_1), (u152004), (by first | rfl | (simp; done) | (simp [*]; done)), H', ⟨by have := HK1.out; have := HJ10.out; omega⟩, ⟨by (with_reducible repeat (first | apply Kd.R_alloc | apply Kd.R_drewN | apply Kd.R_drew)); exact HO_152004.out⟩, ⟨by (with_reducible repeat (first | refine blk_drewN ?_ _ | refine blk_drew ?_ | refine blk_alloc ?_ _)); exact BK149.out⟩, ⟨by (with_reducible repeat (first | refine blk_drewN ?_ _ | refine blk_drew ?_ | refine blk_alloc ?_ _)); exact BK150.out⟩, ⟨by (with_reducible repeat (first | refine blk_drewN ?_ _ | refine blk_drew ?_ | refine blk_alloc ?_ _)); exact BK151.out⟩, ⟨by repeat (first | (with_reducible first | exact HB.out | apply below_alloc | apply pw_below_drewN | apply below_drew1 | refine below_set ?_ GE149.out | refine below_set ?_ GE150.out | refine below_set ?_ GE151.out) | exact HB.out)⟩⟩
              · rw [if_neg c20] at H
                have c20b0 : ((Go.bits .and .u16 (ji19) 1) == 1) = false := beq_eq_false_iff_ne.mpr c20
                have c20b1 : ((Go.bits .and .u16 (ji19) 1) != 1) = true := bne_iff_ne.mpr c20
                have H' := Aside0.mk H
                clear H
                have hnb36 := NB151_149.out
                have hnc36 := NB149_151.out
                have hnb37 := NB151_150.out
                have hnc37 := NB150_151.out
                have hcz38_0 : wc.cell? ⟨gb151, 0, none⟩ = some (.string (⟨#[97]⟩ : ByteArray)) := (blk_cell BK151.out 0).trans rfl
                have hcz38_1 : wc.cell? ⟨gb151, 1, none⟩ = some (.int .i64 (wrap64 (Int.tmod a0_0 20))) := (blk_cell BK151.out 1).trans rfl
                have hcz38_2 : wc.cell? ⟨gb151, 2, none⟩ = some (.int .i64 (wrap64 ((wrap64 (Int.tmod a0_0 20)) + (wrap64 (Int.tmod a0_1 40))))) := (blk_cell BK151.out 2).trans rfl
                have hcz38_3 : wc.cell? ⟨gb151, 3, none⟩ = some (.int .i64 (wrap64 ((wrap64 (Int.tmod a0_2 60)) - 30))) := (blk_cell BK151.out 3).trans rfl
                have hcz38_4 : wc.cell? ⟨gb151, 4, none⟩ = some (u152004) := (blk_cell BK151.out 4).trans rfl
                have hcz38_5 : wc.cell? ⟨gb151, 5, none⟩ = some (.int .i64 0) := (blk_cell BK151.out 5).trans rfl
                have hfz38_0 := blk_frozen BK151.out 0
                have hfz38_1 := blk_frozen BK151.out 1
                have hfz38_2 := blk_frozen BK151.out 2
                have hfz38_3 := blk_frozen BK151.out 3
                have hfz38_4 := blk_frozen BK151.out 4
                have hfz38_5 := blk_frozen BK151.out 5
                have hnb39 := NB149_150.out
                have hnc39 := NB150_149.out
                have hcz40_0 : wc.cell? ⟨gb149, 0, none⟩ = some (.int .u8 a0_0) := (blk_cell BK149.out 0).trans rfl
                have hcz40_1 : wc.cell? ⟨gb149, 1, none⟩ = some (.int .u8 a0_1) := (blk_cell BK149.out 1).trans rfl
                have hcz40_2 : wc.cell? ⟨gb149, 2, none⟩ = some (.int .u8 a0_2) := (blk_cell BK149.out 2).trans rfl
                have hcz40_3 : wc.cell? ⟨gb149, 3, none⟩ = some (.int .u8 a0_3) := (blk_cell BK149.out 3).trans rfl
                have hcz40_4 : wc.cell? ⟨gb149, 4, none⟩ = some (.int .u16 a0_4) := (blk_cell BK149.out 4).trans rfl
                have hfz40_0 := blk_frozen BK149.out 0
                have hfz40_1 := blk_frozen BK149.out 1
                have hfz40_2 := blk_frozen BK149.out 2
                have hfz40_3 := blk_frozen BK149.out 3
                have hfz40_4 := blk_frozen BK149.out 4
                go_wp2
                go_roundg kj10
                case measure => have := HK1.out; have := HJ10.out; omega
                case rel => exact ⟨(wrap64 (x4_1 + 1)), (x152004_1), (u152004), (by first | rfl | (simp; done) | (simp [*]; done)), H', ⟨by have := HK1.out; have := HJ10.out; omega⟩, ⟨by (with_reducible repeat (first | apply Kd.R_alloc | apply Kd.R_drewN | apply Kd.R_drew)); exact HO_152004.out⟩, ⟨by (with_reducible repeat (first | refine blk_drewN ?_ _ | refine blk_drew ?_ | refine blk_alloc ?_ _)); exact BK149.out⟩, ⟨by (with_reducible repeat (first | refine blk_drewN ?_ _ | refine blk_drew ?_ | refine blk_alloc ?_ _)); exact BK150.out⟩, ⟨by (with_reducible repeat (first | refine blk_drewN ?_ _ | refine blk_drew ?_ | refine blk_alloc ?_ _)); exact BK151.out⟩, ⟨by repeat (first | (with_reducible first | exact HB.out | apply below_alloc | apply pw_below_drewN | apply below_drew1 | refine below_set ?_ GE149.out | refine below_set ?_ GE150.out | refine below_set ?_ GE151.out) | exact HB.out)⟩⟩
            · rw [if_neg c18] at H
              exact absurd H (by simp)
          · replace c17 := Bool.eq_false_iff.mpr c17
            subst c17
            have H1 : (if (x152004_1.length : Int) > 0 then (some ((⟨#[97]⟩ : ByteArray), (wrap64 (Int.tmod a0_0 20)), (wrap64 ((wrap64 (Int.tmod a0_0 20)) + (wrap64 (Int.tmod a0_1 40)))), (wrap64 ((wrap64 (Int.tmod a0_2 60)) - 30)), x152004_1, wrap64 (Int.tmod a0_3 25))) else (some ((⟨#[97]⟩ : ByteArray), (wrap64 (Int.tmod a0_0 20)), (wrap64 ((wrap64 (Int.tmod a0_0 20)) + (wrap64 (Int.tmod a0_1 40)))), (wrap64 ((wrap64 (Int.tmod a0_2 60)) - 30)), x152004_1, 0))) = some (r1, r2, r3, r4, r5, r6) := by rw [if_neg (show ¬ (false = true) by decide)] at H; exact H
            clear H
            have H := H1
            clear H1
            by_cases c41 : (x152004_1.length : Int) > 0
            · rw [if_pos c41] at H
              have c41b0 : decide (0 < (x152004_1.length : Int)) = true := decide_eq_true c41
              have c41b1 : decide (0 < x152004_1.length) = true := decide_eq_true (by omega)
              clear c41
              simp only [Option.some.injEq, Prod.mk.injEq] at H
              obtain ⟨rfl, rfl, rfl, rfl, rfl, rfl⟩ := H
              have hnb42 := NB151_149.out
              have hnc42 := NB149_151.out
              have hnb43 := NB151_150.out
              have hnc43 := NB150_151.out
              have hcz44_0 : wc.cell? ⟨gb151, 0, none⟩ = some (.string (⟨#[97]⟩ : ByteArray)) := (blk_cell BK151.out 0).trans rfl
              have hcz44_1 : wc.cell? ⟨gb151, 1, none⟩ = some (.int .i64 (wrap64 (Int.tmod a0_0 20))) := (blk_cell BK151.out 1).trans rfl
              have hcz44_2 : wc.cell? ⟨gb151, 2, none⟩ = some (.int .i64 (wrap64 ((wrap64 (Int.tmod a0_0 20)) + (wrap64 (Int.tmod a0_1 40))))) := (blk_cell BK151.out 2).trans rfl
              have hcz44_3 : wc.cell? ⟨gb151, 3, none⟩ = some (.int .i64 (wrap64 ((wrap64 (Int.tmod a0_2 60)) - 30))) := (blk_cell BK151.out 3).trans rfl
              have hcz44_4 : wc.cell? ⟨gb151, 4, none⟩ = some (u152004) := (blk_cell BK151.out 4).trans rfl
              have hcz44_5 : wc.cell? ⟨gb151, 5, none⟩ = some (.int .i64 0) := (blk_cell BK151.out 5).trans rfl
              have hfz44_0 := blk_frozen BK151.out 0
              have hfz44_1 := blk_frozen BK151.out 1
              have hfz44_2 := blk_frozen BK151.out 2
              have hfz44_3 := blk_frozen BK151.out 3
              have hfz44_4 := blk_frozen BK151.out 4
              have hfz44_5 := blk_frozen BK151.out 5
              obtain ⟨Ao45, co45, eo45⟩ := Kd.R_slice HO_152004.out
              subst eo45
              have hnb46 := NB149_150.out
              have hnc46 := NB150_149.out
              have hcz47_0 : wc.cell? ⟨gb149, 0, none⟩ = some (.int .u8 a0_0) := (blk_cell BK149.out 0).trans rfl
              have hcz47_1 : wc.cell? ⟨gb149, 1, none⟩ = some (.int .u8 a0_1) := (blk_cell BK149.out 1).trans rfl
              have hcz47_2 : wc.cell? ⟨gb149, 2, none⟩ = some (.int .u8 a0_2) := (blk_cell BK149.out 2).trans rfl
              have hcz47_3 : wc.cell? ⟨gb149, 3, none⟩ = some (.int .u8 a0_3) := (blk_cell BK149.out 3).trans rfl
              have hcz47_4 : wc.cell? ⟨gb149, 4, none⟩ = some (.int .u16 a0_4) := (blk_cell BK149.out 4).trans rfl
              have hfz47_0 := blk_frozen BK149.out 0
              have hfz47_1 := blk_frozen BK149.out 1
              have hfz47_2 := blk_frozen BK149.out 2
              have hfz47_3 := blk_frozen BK149.out 3
              have hfz47_4 := blk_frozen BK149.out 4
              have hcz48_0 : wc.cell? ⟨gb150, 0, none⟩ = some (.string (⟨#[]⟩ : ByteArray)) := (blk_cell BK150.out 0).trans rfl
              have hcz48_1 : wc.cell? ⟨gb150, 1, none⟩ = some (.int .i64 0) := (blk_cell BK150.out 1).trans rfl
              have hcz48_2 : wc.cell? ⟨gb150, 2, none⟩ = some (.int .i64 0) := (blk_cell BK150.out 2).trans rfl
              have hcz48_3 : wc.cell? ⟨gb150, 3, none⟩ = some (.int .i64 0) := (blk_cell BK150.out 3).trans rfl
              have hcz48_4 : wc.cell? ⟨gb150, 4, none⟩ = some (.slice none 0 0) := (blk_cell BK150.out 4).trans rfl
              have hcz48_5 : wc.cell? ⟨gb150, 5, none⟩ = some (.int .i64 0) := (blk_cell BK150.out 5).trans rfl
              have hfz48_0 := blk_frozen BK150.out 0
              have hfz48_1 := blk_frozen BK150.out 1
              have hfz48_2 := blk_frozen BK150.out 2
              have hfz48_3 := blk_frozen BK150.out 3
              have hfz48_4 := blk_frozen BK150.out 4
              have hfz48_5 := blk_frozen BK150.out 5
              go_wp2
              refine bodyPost_ret (results_cell_row rfl _ _ gb150 24 #[.string (⟨#[97]⟩ : ByteArray), .int .i64 (wrap64 (Int.tmod a0_0 20)), .int .i64 (wrap64 ((wrap64 (Int.tmod a0_0 20)) + (wrap64 (Int.tmod a0_1 40)))), .int .i64 (wrap64 ((wrap64 (Int.tmod a0_2 60)) - 30)), .slice Ao45 x152004_1.length co45, .int .i64 (wrap64 (Int.tmod a0_3 25))] (0, 0) _ rfl (by (with_reducible repeat (first | refine blk_drewN ?_ _ | refine blk_drew ?_ | refine blk_alloc ?_ _)); refine blk_put (cs := #[.string (⟨#[97]⟩ : ByteArray), .int .i64 (wrap64 (Int.tmod a0_0 20)), .int .i64 (wrap64 ((wrap64 (Int.tmod a0_0 20)) + (wrap64 (Int.tmod a0_1 40)))), .int .i64 (wrap64 ((wrap64 (Int.tmod a0_2 60)) - 30)), .slice Ao45 x152004_1.length co45, .int .i64 0]) ?_ 5 _ rfl; (with_reducible repeat (first | refine blk_drewN ?_ _ | refine blk_drew ?_ | refine blk_alloc ?_ _)); refine blk_put (cs := #[.string (⟨#[97]⟩ : ByteArray), .int .i64 (wrap64 (Int.tmod a0_0 20)), .int .i64 (wrap64 ((wrap64 (Int.tmod a0_0 20)) + (wrap64 (Int.tmod a0_1 40)))), .int .i64 (wrap64 ((wrap64 (Int.tmod a0_2 60)) - 30)), .slice none 0 0, .int .i64 0]) ?_ 4 _ rfl; (with_reducible repeat (first | refine blk_drewN ?_ _ | refine blk_drew ?_ | refine blk_alloc ?_ _)); refine blk_put (cs := #[.string (⟨#[97]⟩ : ByteArray), .int .i64 (wrap64 (Int.tmod a0_0 20)), .int .i64 (wrap64 ((wrap64 (Int.tmod a0_0 20)) + (wrap64 (Int.tmod a0_1 40)))), .int .i64 0, .slice none 0 0, .int .i64 0]) ?_ 3 _ rfl; (with_reducible repeat (first | refine blk_drewN ?_ _ | refine blk_drew ?_ | refine blk_alloc ?_ _)); refine blk_put (cs := #[.string (⟨#[97]⟩ : ByteArray), .int .i64 (wrap64 (Int.tmod a0_0 20)), .int .i64 0, .int .i64 0, .slice none 0 0, .int .i64 0]) ?_ 2 _ rfl; (with_reducible repeat (first | refine blk_drewN ?_ _ | refine blk_drew ?_ | refine blk_alloc ?_ _)); refine blk_put (cs := #[.string (⟨#[97]⟩ : ByteArray), .int .i64 0, .int .i64 0, .int .i64 0, .slice none 0 0, .int .i64 0]) ?_ 1 _ rfl; (with_reducible repeat (first | refine blk_drewN ?_ _ | refine blk_drew ?_ | refine blk_alloc ?_ _)); refine blk_put (cs := #[.string (⟨#[]⟩ : ByteArray), .int .i64 0, .int .i64 0, .int .i64 0, .slice none 0 0, .int .i64 0]) ?_ 0 _ rfl; (with_reducible repeat (first | refine blk_drewN ?_ _ | refine blk_drew ?_ | refine blk_alloc ?_ _)); refine blk_far ?_ NB150_151.out _; (with_reducible repeat (first | refine blk_drewN ?_ _ | refine blk_drew ?_ | refine blk_alloc ?_ _)); exact BK150.out) Try.underlying24 rfl (by kernel_rfl)) rfl ?_
              exact ⟨_, by first | rfl | (simp [errW_none, errW_some] <;> rfl) | (simp [*, errW_none, errW_some] <;> rfl), by (with_reducible repeat (first | apply Kd.R_alloc | apply Kd.R_drewN | apply Kd.R_drew)); exact Kd.R_mono (Kd.R_far (p := ⟨gb150, 5, none⟩) (Kd.R_far (p := ⟨gb150, 4, none⟩) (Kd.R_far (p := ⟨gb150, 3, none⟩) (Kd.R_far (p := ⟨gb150, 2, none⟩) (Kd.R_far (p := ⟨gb150, 1, none⟩) (Kd.R_far (p := ⟨gb150, 0, none⟩) (Kd.R_far (p := ⟨gb151, 5, none⟩) (Kd.R_types (Kd.R_types HO_152004.out BK151.out (by decide)) BK150.out (by decide)) (fun _ hk => hk.1.2) (.int .i64 (wrap64 (Int.tmod a0_3 25)))) (fun _ hk => hk.2) (.string (⟨#[97]⟩ : ByteArray))) (fun _ hk => hk.2) (.int .i64 (wrap64 (Int.tmod a0_0 20)))) (fun _ hk => hk.2) (.int .i64 (wrap64 ((wrap64 (Int.tmod a0_0 20)) + (wrap64 (Int.tmod a0_1 40)))))) (fun _ hk => hk.2) (.int .i64 (wrap64 ((wrap64 (Int.tmod a0_2 60)) - 30)))) (fun _ hk => hk.2) (.slice Ao45 x152004_1.length co45)) (fun _ hk => hk.2) (.int .i64 (wrap64 (Int.tmod a0_3 25)))) (fun _ hk => trivial), by repeat (first | (with_reducible first | exact HB.out | apply below_alloc | apply pw_below_drewN | apply below_drew1 | refine below_set ?_ GE149.out | refine below_set ?_ GE150.out | refine below_set ?_ GE151.out) | exact HB.out)⟩
            · rw [if_neg c41] at H
              have c41b0 : decide (0 < (x152004_1.length : Int)) = false := decide_eq_false c41
              have c41b1 : decide (0 < x152004_1.length) = false := decide_eq_false (by omega)
              clear c41
              simp only [Option.some.injEq, Prod.mk.injEq] at H
              obtain ⟨rfl, rfl, rfl, rfl, rfl, rfl⟩ := H
              have hnb49 := NB151_149.out
              have hnc49 := NB149_151.out
              have hnb50 := NB151_150.out
              have hnc50 := NB150_151.out
              have hcz51_0 : wc.cell? ⟨gb151, 0, none⟩ = some (.string (⟨#[97]⟩ : ByteArray)) := (blk_cell BK151.out 0).trans rfl
              have hcz51_1 : wc.cell? ⟨gb151, 1, none⟩ = some (.int .i64 (wrap64 (Int.tmod a0_0 20))) := (blk_cell BK151.out 1).trans rfl
              have hcz51_2 : wc.cell? ⟨gb151, 2, none⟩ = some (.int .i64 (wrap64 ((wrap64 (Int.tmod a0_0 20)) + (wrap64 (Int.tmod a0_1 40))))) := (blk_cell BK151.out 2).trans rfl
              have hcz51_3 : wc.cell? ⟨gb151, 3, none⟩ = some (.int .i64 (wrap64 ((wrap64 (Int.tmod a0_2 60)) - 30))) := (blk_cell BK151.out 3).trans rfl
              have hcz51_4 : wc.cell? ⟨gb151, 4, none⟩ = some (u152004) := (blk_cell BK151.out 4).trans rfl
              have hcz51_5 : wc.cell? ⟨gb151, 5, none⟩ = some (.int .i64 0) := (blk_cell BK151.out 5).trans rfl
              have hfz51_0 := blk_frozen BK151.out 0
              have hfz51_1 := blk_frozen BK151.out 1
              have hfz51_2 := blk_frozen BK151.out 2
              have hfz51_3 := blk_frozen BK151.out 3
              have hfz51_4 := blk_frozen BK151.out 4
              have hfz51_5 := blk_frozen BK151.out 5
              obtain ⟨Ao52, co52, eo52⟩ := Kd.R_slice HO_152004.out
              subst eo52
              have hnb53 := NB150_149.out
              have hnc53 := NB149_150.out
              have hcz54_0 : wc.cell? ⟨gb150, 0, none⟩ = some (.string (⟨#[]⟩ : ByteArray)) := (blk_cell BK150.out 0).trans rfl
              have hcz54_1 : wc.cell? ⟨gb150, 1, none⟩ = some (.int .i64 0) := (blk_cell BK150.out 1).trans rfl
              have hcz54_2 : wc.cell? ⟨gb150, 2, none⟩ = some (.int .i64 0) := (blk_cell BK150.out 2).trans rfl
              have hcz54_3 : wc.cell? ⟨gb150, 3, none⟩ = some (.int .i64 0) := (blk_cell BK150.out 3).trans rfl
              have hcz54_4 : wc.cell? ⟨gb150, 4, none⟩ = some (.slice none 0 0) := (blk_cell BK150.out 4).trans rfl
              have hcz54_5 : wc.cell? ⟨gb150, 5, none⟩ = some (.int .i64 0) := (blk_cell BK150.out 5).trans rfl
              have hfz54_0 := blk_frozen BK150.out 0
              have hfz54_1 := blk_frozen BK150.out 1
              have hfz54_2 := blk_frozen BK150.out 2
              have hfz54_3 := blk_frozen BK150.out 3
              have hfz54_4 := blk_frozen BK150.out 4
              have hfz54_5 := blk_frozen BK150.out 5
              go_wp2
              refine bodyPost_ret (results_cell_row rfl _ _ gb150 24 #[.string (⟨#[97]⟩ : ByteArray), .int .i64 (wrap64 (Int.tmod a0_0 20)), .int .i64 (wrap64 ((wrap64 (Int.tmod a0_0 20)) + (wrap64 (Int.tmod a0_1 40)))), .int .i64 (wrap64 ((wrap64 (Int.tmod a0_2 60)) - 30)), .slice Ao52 x152004_1.length co52, .int .i64 0] (0, 0) _ rfl (by (with_reducible repeat (first | refine blk_drewN ?_ _ | refine blk_drew ?_ | refine blk_alloc ?_ _)); refine blk_put (cs := #[.string (⟨#[97]⟩ : ByteArray), .int .i64 (wrap64 (Int.tmod a0_0 20)), .int .i64 (wrap64 ((wrap64 (Int.tmod a0_0 20)) + (wrap64 (Int.tmod a0_1 40)))), .int .i64 (wrap64 ((wrap64 (Int.tmod a0_2 60)) - 30)), .slice Ao52 x152004_1.length co52, .int .i64 0]) ?_ 5 _ rfl; (with_reducible repeat (first | refine blk_drewN ?_ _ | refine blk_drew ?_ | refine blk_alloc ?_ _)); refine blk_put (cs := #[.string (⟨#[97]⟩ : ByteArray), .int .i64 (wrap64 (Int.tmod a0_0 20)), .int .i64 (wrap64 ((wrap64 (Int.tmod a0_0 20)) + (wrap64 (Int.tmod a0_1 40)))), .int .i64 (wrap64 ((wrap64 (Int.tmod a0_2 60)) - 30)), .slice none 0 0, .int .i64 0]) ?_ 4 _ rfl; (with_reducible repeat (first | refine blk_drewN ?_ _ | refine blk_drew ?_ | refine blk_alloc ?_ _)); refine blk_put (cs := #[.string (⟨#[97]⟩ : ByteArray), .int .i64 (wrap64 (Int.tmod a0_0 20)), .int .i64 (wrap64 ((wrap64 (Int.tmod a0_0 20)) + (wrap64 (Int.tmod a0_1 40)))), .int .i64 0, .slice none 0 0, .int .i64 0]) ?_ 3 _ rfl; (with_reducible repeat (first | refine blk_drewN ?_ _ | refine blk_drew ?_ | refine blk_alloc ?_ _)); refine blk_put (cs := #[.string (⟨#[97]⟩ : ByteArray), .int .i64 (wrap64 (Int.tmod a0_0 20)), .int .i64 0, .int .i64 0, .slice none 0 0, .int .i64 0]) ?_ 2 _ rfl; (with_reducible repeat (first | refine blk_drewN ?_ _ | refine blk_drew ?_ | refine blk_alloc ?_ _)); refine blk_put (cs := #[.string (⟨#[97]⟩ : ByteArray), .int .i64 0, .int .i64 0, .int .i64 0, .slice none 0 0, .int .i64 0]) ?_ 1 _ rfl; (with_reducible repeat (first | refine blk_drewN ?_ _ | refine blk_drew ?_ | refine blk_alloc ?_ _)); refine blk_put (cs := #[.string (⟨#[]⟩ : ByteArray), .int .i64 0, .int .i64 0, .int .i64 0, .slice none 0 0, .int .i64 0]) ?_ 0 _ rfl; (with_reducible repeat (first | refine blk_drewN ?_ _ | refine blk_drew ?_ | refine blk_alloc ?_ _)); exact BK150.out) Try.underlying24 rfl (by kernel_rfl)) rfl ?_
              exact ⟨_, by first | rfl | (simp [errW_none, errW_some] <;> rfl) | (simp [*, errW_none, errW_some] <;> rfl), by (with_reducible repeat (first | apply Kd.R_alloc | apply Kd.R_drewN | apply Kd.R_drew)); exact Kd.R_mono (Kd.R_far (p := ⟨gb150, 5, none⟩) (Kd.R_far (p := ⟨gb150, 4, none⟩) (Kd.R_far (p := ⟨gb150, 3, none⟩) (Kd.R_far (p := ⟨gb150, 2, none⟩) (Kd.R_far (p := ⟨gb150, 1, none⟩) (Kd.R_far (p := ⟨gb150, 0, none⟩) (Kd.R_types HO_152004.out BK150.out (by decide)) (fun _ hk => hk.2) (.string (⟨#[97]⟩ : ByteArray))) (fun _ hk => hk.2) (.int .i64 (wrap64 (Int.tmod a0_0 20)))) (fun _ hk => hk.2) (.int .i64 (wrap64 ((wrap64 (Int.tmod a0_0 20)) + (wrap64 (Int.tmod a0_1 40)))))) (fun _ hk => hk.2) (.int .i64 (wrap64 ((wrap64 (Int.tmod a0_2 60)) - 30)))) (fun _ hk => hk.2) (.slice Ao52 x152004_1.length co52)) (fun _ hk => hk.2) (.int .i64 0)) (fun _ hk => trivial), by repeat (first | (with_reducible first | exact HB.out | apply below_alloc | apply pw_below_drewN | apply below_drew1 | refine below_set ?_ GE149.out | refine below_set ?_ GE150.out | refine below_set ?_ GE151.out) | exact HB.out)⟩

end Go.Proofs.Ytgdbdjfmbccfoaa.PRankEach
