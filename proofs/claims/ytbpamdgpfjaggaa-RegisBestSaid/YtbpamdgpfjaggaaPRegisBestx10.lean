-- Written by a program of this session (the kit's print, turned: wip/px).
import Derived.Test.YtbpamdgpfjaggaaPRegisBestx0
import Derived.Test.YtbpamdgpfjaggaaPRegisBestx6
import Derived.Test.YtbpamdgpfjaggaaPRegisBestx7
import Derived.Test.YtbpamdgpfjaggaaPRegisBestx8
import Derived.Test.YtbpamdgpfjaggaaPRegisBestx9
import Derived.Test.YtbpamdgpfjaggaaSq
namespace Go.Proofs.Ytbpamdgpfjaggaa.PRegisBest
open Go.Proofs.Ytbpamdgpfjaggaa.Sq
open Go.RowKit Go.Proofs.YtbpamdgpfjaggaaW.PrintWords Go.Proofs.YtbpamdgpfjaggaaW.PrintLast Go.Proofs.YtbpamdgpfjaggaaW.PrintMore
attribute [local go_sem] max2_int min2_int max_two min_two max_three min_three max_four min_four   -- for this text's walks alone
set_option linter.unusedVariables false
set_option linter.unusedSimpArgs false

/-! ### diapasonref26_Best: function 11 -/
def diapasonref26_Best.l0 : Nat → Int → Int → List Int → List (List Int) → List Int → Int → List Int → Int → Int → Option (List Int × Int × Int × Int)
  | 0, _, _, _, _, _, _, _, _, _ => none
  | k + 1, x4, x6, x178000, x178001, x178002, x178003, x184000, x184001, x184002 => if 0 ≤ x4 then (if x6 < (shl .i64 1 x4) then ((diapasonref26_Stops.f k x4 x6).bind fun t184 => ((diapasonref26_Choice.f k x178000 x178001 x178002 x178003 t184).bind fun bt187 => (if bt187.2.2 ≤ x178003 then ((diapasonref26_Better.f k t184 bt187.2.1 bt187.2.2 x184000 x184001 x184002).bind fun t191 => (if t191 = true then (diapasonref26_Best.l0 k x4 (wrap64 (x6 + 1)) x178000 x178001 x178002 x178003 t184 bt187.2.1 bt187.2.2) else (diapasonref26_Best.l0 k x4 (wrap64 (x6 + 1)) x178000 x178001 x178002 x178003 x184000 x184001 x184002))) else (diapasonref26_Best.l0 k x4 (wrap64 (x6 + 1)) x178000 x178001 x178002 x178003 x184000 x184001 x184002)))) else (some (x184000, x184001, x184002, 0))) else (none)
def diapasonref26_Best.f (k : Nat) (l0_0 : List Int) (l0_1 : List (List Int)) (l0_2 : List Int) (a0_3 : Int) : Option (List Int × Int × Int × Int) := (diapasonref26_May.f k l0_0 l0_1 l0_2 a0_3).bind fun t179 => (if t179 = true then ((diapasonref26_Choice.f k l0_0 l0_1 l0_2 a0_3 ([] : List Int)).bind fun bt180 => (diapasonref26_Best.l0 k (l0_1.length : Int) 1 l0_0 l0_1 l0_2 a0_3 ([] : List Int) bt180.2.1 bt180.2.2)) else (some (([] : List Int), 0, 0, 2)))
theorem diapasonref26_Best.mono_l : ∀ k, (∀ y0 y1 y2 y3 y4 y5 y6 y7 y8, LeO (diapasonref26_Best.l0 k y0 y1 y2 y3 y4 y5 y6 y7 y8) (diapasonref26_Best.l0 (k + 1) y0 y1 y2 y3 y4 y5 y6 y7 y8))
  | 0 => fun _ _ _ _ _ _ _ _ _ r h => by simp [diapasonref26_Best.l0] at h
  | k + 1 => by
    have ih0 := diapasonref26_Best.mono_l k
    · intro y0 y1 y2 y3 y4 y5 y6 y7 y8
      unfold diapasonref26_Best.l0
      repeat' first
      | (with_reducible exact ih0 _ _ _ _ _ _ _ _ _)
      | (with_reducible exact diapasonref26_Better.mono _ _ _ _ _ _ _)
      | (with_reducible exact diapasonref26_Choice.mono _ _ _ _ _ _)
      | (with_reducible exact diapasonref26_May.mono _ _ _ _ _)
      | (with_reducible exact diapasonref26_Stops.mono _ _ _)
      | (with_reducible exact LeO.refl _)
      | (with_reducible exact LeO.none _)
      | (with_reducible refine LeO.ite ?_ ?_)
      | (with_reducible refine LeO.bind ?_ (fun _ => ?_))
      | exact ih0 _ _ _ _ _ _ _ _ _
      | exact diapasonref26_Better.mono _ _ _ _ _ _ _
      | exact diapasonref26_Choice.mono _ _ _ _ _ _
      | exact diapasonref26_May.mono _ _ _ _ _
      | exact diapasonref26_Stops.mono _ _ _
      | exact LeO.none _
      | refine LeO.ite ?_ ?_
      | refine LeO.bind ?_ (fun _ => ?_)
theorem diapasonref26_Best.mono : ∀ a0 a1 a2 a3 k, LeO (diapasonref26_Best.f k a0 a1 a2 a3) (diapasonref26_Best.f (k + 1) a0 a1 a2 a3) := by
  intro a0 a1 a2 a3 k
  have ih0 := diapasonref26_Best.mono_l k
  unfold diapasonref26_Best.f
  repeat' first
      | (with_reducible exact ih0 _ _ _ _ _ _ _ _ _)
      | (with_reducible exact diapasonref26_Better.mono _ _ _ _ _ _ _)
      | (with_reducible exact diapasonref26_Choice.mono _ _ _ _ _ _)
      | (with_reducible exact diapasonref26_May.mono _ _ _ _ _)
      | (with_reducible exact diapasonref26_Stops.mono _ _ _)
      | (with_reducible exact LeO.refl _)
      | (with_reducible exact LeO.none _)
      | (with_reducible refine LeO.ite ?_ ?_)
      | (with_reducible refine LeO.bind ?_ (fun _ => ?_))
      | exact ih0 _ _ _ _ _ _ _ _ _
      | exact diapasonref26_Better.mono _ _ _ _ _ _ _
      | exact diapasonref26_Choice.mono _ _ _ _ _ _
      | exact diapasonref26_May.mono _ _ _ _ _
      | exact diapasonref26_Stops.mono _ _ _
      | exact LeO.none _
      | refine LeO.ite ?_ ?_
      | refine LeO.bind ?_ (fun _ => ?_)
set_option maxHeartbeats 40000000 in
set_option maxRecDepth 100000 in
theorem diapasonref26_Best.calls (k : Nat) (A0_0 : Option Addr) (c0_0 : Nat) (l0_0 : List Int) (A0_1 : Option Addr) (c0_1 : Nat) (l0_1 : List (List Int)) (A0_2 : Option Addr) (c0_2 : Nat) (l0_2 : List Int) (a0_3 : Int) (r1 : List Int) (r2 : Int) (r3 : Int) (r4 : Int) (w : World) (hr0_0 : Kd.C (Kd.int .i64) w A0_0 l0_0.length l0_0) (hc0_0 : l0_0.length ≤ c0_0) (hr0_1 : Kd.C (Kd.slice 3 (Kd.int .i64)) w A0_1 l0_1.length l0_1) (hc0_1 : l0_1.length ≤ c0_1) (hr0_2 : Kd.C (Kd.int .i64) w A0_2 l0_2.length l0_2) (hc0_2 : l0_2.length ≤ c0_2) (h : diapasonref26_Best.f k l0_0 l0_1 l0_2 a0_3 = some (r1, r2, r3, r4)) :
    Calls Try.prog 11 #[.agg #[.slice A0_0 l0_0.length c0_0, .slice A0_1 l0_1.length c0_1, .slice A0_2 l0_2.length c0_2, .int .i64 a0_3]] w fun e w' => ∃ v0_ : Value, e = .returned (.tuple #[.agg #[v0_, .int .i64 r2, .int .i64 r3], .int .i64 r4]) ∧ Kd.R (Kd.int .i64) 3 w' w.heap.size (fun _ => True) v0_ r1 ∧ Below w.heap.size w w' := by
  have hu25 := Try.underlying25
  have hu28 := Try.underlying28
  have HR0_0 := am hr0_0
  have HC0_0 := am hc0_0
  clear hr0_0 hc0_0
  have HR0_1 := am hr0_1
  have HC0_1 := am hc0_1
  clear hr0_1 hc0_1
  have HR0_2 := am hr0_2
  have HC0_2 := am hc0_2
  clear hr0_2 hc0_2
  have HB := am (Below.refl w.heap.size w)
  have H : ((diapasonref26_May.f k l0_0 l0_1 l0_2 a0_3).bind fun t179 => (if t179 = true then ((diapasonref26_Choice.f k l0_0 l0_1 l0_2 a0_3 ([] : List Int)).bind fun bt180 => (diapasonref26_Best.l0 k (l0_1.length : Int) 1 l0_0 l0_1 l0_2 a0_3 ([] : List Int) bt180.2.1 bt180.2.2)) else (some (([] : List Int), 0, 0, 2)))) = some (r1, r2, r3, r4) := h
  clear h
  replace H := Option.bind_eq_some_iff.mp H
  obtain ⟨t179, A20, H⟩ := H
  replace H : (if t179 = true then ((diapasonref26_Choice.f k l0_0 l0_1 l0_2 a0_3 ([] : List Int)).bind fun bt180 => (diapasonref26_Best.l0 k (l0_1.length : Int) 1 l0_0 l0_1 l0_2 a0_3 ([] : List Int) bt180.2.1 bt180.2.2)) else (some (([] : List Int), 0, 0, 2))) = some (r1, r2, r3, r4) := H
  have A2 := am A20
  clear A20
  by_cases c3 : t179 = true
  · subst c3
    have H1 : ((diapasonref26_Choice.f k l0_0 l0_1 l0_2 a0_3 ([] : List Int)).bind fun bt180 => (diapasonref26_Best.l0 k (l0_1.length : Int) 1 l0_0 l0_1 l0_2 a0_3 ([] : List Int) bt180.2.1 bt180.2.2)) = some (r1, r2, r3, r4) := by rw [if_pos rfl] at H; exact H
    clear H
    have H := H1
    clear H1
    replace H := Option.bind_eq_some_iff.mp H
    obtain ⟨⟨t180, t181, t182⟩, A40, H⟩ := H
    replace H : (diapasonref26_Best.l0 k (l0_1.length : Int) 1 l0_0 l0_1 l0_2 a0_3 ([] : List Int) t181 t182) = some (r1, r2, r3, r4) := H
    have A4 := am A40
    clear A40
    have H' := am H
    clear H
    go_enter Try.func11, Try.ntmps11
    go_wp2_with (first | ((with_reducible refine gate_dst (N := 1) rfl ?_); refine box_event ?hg (N := 1) ?hd (cs := #[.slice A0_0 l0_0.length c0_0, .slice A0_1 l0_1.length c0_1, .slice A0_2 l0_2.length c0_2, .int .i64 a0_3]) (t := 25) ?hr ?_; (case hd => rfl); (case hg => rfl); (case hr => first | (go_simp; done) | (go_simp; rfl)); intro gb177 hg w5 hbox hb; have n0_ := am (below_step (by repeat (first | (with_reducible first | exact HB.out | apply b1|apply b2|apply b3) | exact HB.out)) hb); have n1_ := am (hbox); have n2_ := am ((by rw [hg]; exact (below_size (by repeat (first | (with_reducible first | exact HB.out | apply b1|apply b2|apply b3) | exact HB.out))) : w.heap.size ≤ gb177)); have n3_ := am ((by rw [hg]; exact (below_size (by repeat (first | (with_reducible first | exact HB.out | apply b1|apply b2|apply b3) | exact HB.out))) : w.heap.size ≤ gb177)); clear HB; have HB := n0_; have BK177 := n1_; have GW177 := n2_; have GE177 := n3_; clear n0_ n1_ n2_ n3_; clear hb hbox hg) | ((with_reducible refine gate_dst (N := 2) rfl ?_); refine box_event ?hg (N := 2) ?hd (cs := #[.slice none 0 0, .int .i64 0, .int .i64 0]) (t := 28) ?hr ?_; (case hd => rfl); (case hg => rfl); (case hr => first | (go_simp; done) | (go_simp; rfl)); intro gb178 hg w6 hbox hb; have n0_ := am (blk_below (g := gb177) (o := .cells #[.slice A0_0 l0_0.length c0_0, .slice A0_1 l0_1.length c0_1, .slice A0_2 l0_2.length c0_2, .int .i64 a0_3] 25 (0, 0)) (by (with_reducible repeat first|apply q1|apply q2|apply q3); exact BK177.out) hb); have n1_ := am (below_step (by repeat (first | (with_reducible first | exact HB.out | apply b1|apply b2|apply b3 | refine below_set ?_ GE177.out) | exact HB.out)) hb); have n2_ := am (hbox); have n3_ := am ((by rw [hg]; exact (below_size (by repeat (first | (with_reducible first | exact HB.out | apply b1|apply b2|apply b3 | refine below_set ?_ GE177.out) | exact HB.out))) : w.heap.size ≤ gb178)); have n4_ := am ((by rw [hg]; exact (below_size (by repeat (first | (with_reducible first | exact HB.out | apply b1|apply b2|apply b3 | refine below_set ?_ GE177.out) | exact HB.out))) : w.heap.size ≤ gb178)); have n5_ := am ((by rw [hg]; exact Nat.ne_of_lt (blk_lt (g := gb177) (o := .cells #[.slice A0_0 l0_0.length c0_0, .slice A0_1 l0_1.length c0_1, .slice A0_2 l0_2.length c0_2, .int .i64 a0_3] 25 (0, 0)) (by (with_reducible repeat first|apply q1|apply q2|apply q3); exact BK177.out)) : gb177 ≠ gb178)); have n6_ := am ((by rw [hg]; exact Nat.ne_of_gt (blk_lt (g := gb177) (o := .cells #[.slice A0_0 l0_0.length c0_0, .slice A0_1 l0_1.length c0_1, .slice A0_2 l0_2.length c0_2, .int .i64 a0_3] 25 (0, 0)) (by (with_reducible repeat first|apply q1|apply q2|apply q3); exact BK177.out)) : gb178 ≠ gb177)); clear BK177; clear HB; have BK177 := n0_; have HB := n1_; have BK178 := n2_; have GW178 := n3_; have GE178 := n4_; have NB177_178 := n5_; have NB178_177 := n6_; clear n0_ n1_ n2_ n3_ n4_ n5_ n6_; clear hb hbox hg; have hnb7 := NB177_178.out; have hnc7 := NB178_177.out; obtain ⟨hcz8_0, hcz8_1, hcz8_2, hcz8_3⟩ := c4 BK177.out; obtain ⟨hfz8_0, hfz8_1, hfz8_2, hfz8_3⟩ := z4 BK177.out) | ((with_reducible refine gate_callee (f := 29) rfl ?_); refine goesL_ (some 9) rfl rfl Try.func29 (by kernel_rfl) rfl #[.agg #[.slice A0_0 l0_0.length c0_0, .slice A0_1 l0_1.length c0_1, .slice A0_2 l0_2.length c0_2, .int .i64 a0_3]] rfl (by (try simp only [List.map_toArray, List.map_cons, List.map_nil]); first | done | rfl | (simp only [List.length_drop, List.length_take]; rfl)) ?_; (with_reducible refine (diapasonref26_May.calls k _ _ l0_0 _ _ l0_1 _ _ l0_2 a0_3 true _ ?side1 ?side2 ?side3 ?side4 ?side5 ?side6 A2.out).mono ?_); (case side1 => repeat (first | exact (Kd.C_below HR0_0.out HB.out) | (with_reducible refine Kd.C_alloc ?_ _) | (with_reducible refine Kd.C_drewN ?_ _) | (with_reducible refine Kd.C_drew ?_))); (case side2 => exact HC0_0.out); (case side3 => repeat (first | exact (Kd.C_below HR0_1.out HB.out) | (with_reducible refine Kd.C_alloc ?_ _) | (with_reducible refine Kd.C_drewN ?_ _) | (with_reducible refine Kd.C_drew ?_))); (case side4 => exact HC0_1.out); (case side5 => repeat (first | exact (Kd.C_below HR0_2.out HB.out) | (with_reducible refine Kd.C_alloc ?_ _) | (with_reducible refine Kd.C_drewN ?_ _) | (with_reducible refine Kd.C_drew ?_))); (case side6 => exact HC0_2.out); rintro e w9 ⟨rfl, hb⟩; refine ⟨_, rfl, ?_⟩; have n0_ := am (blk_below (g := gb177) (o := .cells #[.slice A0_0 l0_0.length c0_0, .slice A0_1 l0_1.length c0_1, .slice A0_2 l0_2.length c0_2, .int .i64 a0_3] 25 (0, 0)) (by (with_reducible repeat first|apply q1|apply q2|apply q3); exact BK177.out) hb); have n1_ := am (blk_below (g := gb178) (o := .cells #[.slice none 0 0, .int .i64 0, .int .i64 0] 28 (0, 0)) (by (with_reducible repeat first|apply q1|apply q2|apply q3); exact BK178.out) hb); have n2_ := am (below_step (by repeat (first | (with_reducible first | exact HB.out | apply b1|apply b2|apply b3 | refine below_set ?_ GE177.out | refine below_set ?_ GE178.out) | exact HB.out)) hb); clear BK177; clear BK178; clear HB; have BK177 := n0_; have BK178 := n1_; have HB := n2_; clear n0_ n1_ n2_; (try clear hb);(try clear hb2);(try clear hk);(try clear hi); obtain ⟨hcz10_0, hcz10_1, hcz10_2, hcz10_3⟩ := c4 BK177.out; obtain ⟨hfz10_0, hfz10_1, hfz10_2, hfz10_3⟩ := z4 BK177.out) | ((with_reducible refine gate_callee (f := 30) rfl ?_); refine goesL_ (some 16) rfl rfl Try.func30 (by kernel_rfl) rfl #[.agg #[.slice A0_0 l0_0.length c0_0, .slice A0_1 l0_1.length c0_1, .slice A0_2 l0_2.length c0_2, .int .i64 a0_3], .slice none 0 0] rfl (by (try simp only [List.map_toArray, List.map_cons, List.map_nil]); first | done | rfl | (simp only [List.length_drop, List.length_take]; rfl)) ?_; (refine (diapasonref26_Choice.calls k _ _ l0_0 _ _ l0_1 _ _ l0_2 a0_3 _ _ ([] : List Int) t180 t181 t182 _ ?side1 ?side2 ?side3 ?side4 ?side5 ?side6 ?side7 ?side8 A4.out).mono ?_); (case side1 => repeat (first | exact (Kd.C_below HR0_0.out HB.out) | (with_reducible refine Kd.C_alloc ?_ _) | (with_reducible refine Kd.C_drewN ?_ _) | (with_reducible refine Kd.C_drew ?_))); (case side2 => exact HC0_0.out); (case side3 => repeat (first | exact (Kd.C_below HR0_1.out HB.out) | (with_reducible refine Kd.C_alloc ?_ _) | (with_reducible refine Kd.C_drewN ?_ _) | (with_reducible refine Kd.C_drew ?_))); (case side4 => exact HC0_1.out); (case side5 => repeat (first | exact (Kd.C_below HR0_2.out HB.out) | (with_reducible refine Kd.C_alloc ?_ _) | (with_reducible refine Kd.C_drewN ?_ _) | (with_reducible refine Kd.C_drew ?_))); (case side6 => exact HC0_2.out); (case side7 => exact Kd.C_nil _ _); (case side8 => exact Nat.le_refl _); rintro e w11 ⟨rfl, hb⟩; refine ⟨_, rfl, ?_⟩; have n0_ := am (blk_below (g := gb177) (o := .cells #[.slice A0_0 l0_0.length c0_0, .slice A0_1 l0_1.length c0_1, .slice A0_2 l0_2.length c0_2, .int .i64 a0_3] 25 (0, 0)) (by (with_reducible repeat first|apply q1|apply q2|apply q3); exact BK177.out) hb); have n1_ := am (blk_below (g := gb178) (o := .cells #[.slice none 0 0, .int .i64 0, .int .i64 0] 28 (0, 0)) (by (with_reducible repeat first|apply q1|apply q2|apply q3); exact BK178.out) hb); have n2_ := am (below_step (by repeat (first | (with_reducible first | exact HB.out | apply b1|apply b2|apply b3 | refine below_set ?_ GE177.out | refine below_set ?_ GE178.out) | exact HB.out)) hb); clear BK177; clear BK178; clear HB; have BK177 := n0_; have BK178 := n1_; have HB := n2_; clear n0_ n1_ n2_; (try clear hb);(try clear hb2);(try clear hk);(try clear hi)) | ((with_reducible refine gate_dst (N := 5) rfl ?_); refine box_event ?hg (N := 5) ?hd (cs := #[.slice none 0 0, .int .i64 0, .int .i64 0]) (t := 28) ?hr ?_; (case hd => rfl); (case hg => rfl); (case hr => first | (go_simp; done) | (go_simp; rfl)); intro gb183 hg w12 hbox hb; have n0_ := am (blk_below (g := gb177) (o := .cells #[.slice A0_0 l0_0.length c0_0, .slice A0_1 l0_1.length c0_1, .slice A0_2 l0_2.length c0_2, .int .i64 a0_3] 25 (0, 0)) (by (with_reducible repeat first|apply q1|apply q2|apply q3); exact BK177.out) hb); have n1_ := am (blk_below (g := gb178) (o := .cells #[.slice none 0 0, .int .i64 0, .int .i64 0] 28 (0, 0)) (by (with_reducible repeat first|apply q1|apply q2|apply q3); exact BK178.out) hb); have n2_ := am (below_step (by repeat (first | (with_reducible first | exact HB.out | apply b1|apply b2|apply b3 | refine below_set ?_ GE177.out | refine below_set ?_ GE178.out) | exact HB.out)) hb); have n3_ := am (hbox); have n4_ := am ((by rw [hg]; exact (below_size (by repeat (first | (with_reducible first | exact HB.out | apply b1|apply b2|apply b3 | refine below_set ?_ GE177.out | refine below_set ?_ GE178.out) | exact HB.out))) : w.heap.size ≤ gb183)); have n5_ := am ((by rw [hg]; exact (below_size (by repeat (first | (with_reducible first | exact HB.out | apply b1|apply b2|apply b3 | refine below_set ?_ GE177.out | refine below_set ?_ GE178.out) | exact HB.out))) : w.heap.size ≤ gb183)); have n6_ := am ((by rw [hg]; exact Nat.ne_of_lt (blk_lt (g := gb177) (o := .cells #[.slice A0_0 l0_0.length c0_0, .slice A0_1 l0_1.length c0_1, .slice A0_2 l0_2.length c0_2, .int .i64 a0_3] 25 (0, 0)) (by (with_reducible repeat first|apply q1|apply q2|apply q3); exact BK177.out)) : gb177 ≠ gb183)); have n7_ := am ((by rw [hg]; exact Nat.ne_of_gt (blk_lt (g := gb177) (o := .cells #[.slice A0_0 l0_0.length c0_0, .slice A0_1 l0_1.length c0_1, .slice A0_2 l0_2.length c0_2, .int .i64 a0_3] 25 (0, 0)) (by (with_reducible repeat first|apply q1|apply q2|apply q3); exact BK177.out)) : gb183 ≠ gb177)); have n8_ := am ((by rw [hg]; exact Nat.ne_of_lt (blk_lt (g := gb178) (o := .cells #[.slice none 0 0, .int .i64 0, .int .i64 0] 28 (0, 0)) (by (with_reducible repeat first|apply q1|apply q2|apply q3); exact BK178.out)) : gb178 ≠ gb183)); have n9_ := am ((by rw [hg]; exact Nat.ne_of_gt (blk_lt (g := gb178) (o := .cells #[.slice none 0 0, .int .i64 0, .int .i64 0] 28 (0, 0)) (by (with_reducible repeat first|apply q1|apply q2|apply q3); exact BK178.out)) : gb183 ≠ gb178)); clear BK177; clear BK178; clear HB; have BK177 := n0_; have BK178 := n1_; have HB := n2_; have BK183 := n3_; have GW183 := n4_; have GE183 := n5_; have NB177_183 := n6_; have NB183_177 := n7_; have NB178_183 := n8_; have NB183_178 := n9_; clear n0_ n1_ n2_ n3_ n4_ n5_ n6_ n7_ n8_ n9_; clear hb hbox hg; have hnb13 := NB183_177.out; have hnc13 := NB177_183.out; have hnb14 := NB183_178.out; have hnc14 := NB178_183.out; obtain ⟨hcz15_0, hcz15_1, hcz15_2⟩ := c3 BK183.out; obtain ⟨hfz15_0, hfz15_1, hfz15_2⟩ := z3 BK183.out))
    go_loopg [6] k (fun kq v6 w' => ∃ (x6_1 : Int) (x184000_1 : List Int) (x184001_1 : Int) (x184002_1 : Int) (u184000 : Value), v6 = .int .i64 x6_1 ∧ Aside0 (diapasonref26_Best.l0 kq (l0_1.length : Int) x6_1 l0_0 l0_1 l0_2 a0_3 x184000_1 x184001_1 x184002_1 = some (r1, r2, r3, r4)) ∧ Aside0 (kq ≤ k) ∧ Aside0 (Kd.R (Kd.int .i64) 3 w' w.heap.size (fun _ => True) u184000 x184000_1) ∧ Aside0 (w'.heap[gb177]? = some (.cells #[(.slice A0_0 l0_0.length c0_0), (.slice A0_1 l0_1.length c0_1), (.slice A0_2 l0_2.length c0_2), .int .i64 a0_3] 25 (0, 0))) ∧ Aside0 (w'.heap[gb178]? = some (.cells #[(.slice none 0 0), .int .i64 0, .int .i64 0] 28 (0, 0))) ∧ Aside0 (w'.heap[gb183]? = some (.cells #[u184000, .int .i64 x184001_1, .int .i64 x184002_1] 28 (0, 0))) ∧ Aside0 (Below w.heap.size w w'))
    case atStart => exact ⟨(1), (([] : List Int)), (t181), (t182), (.slice none 0 0), (by first | rfl | (simp; done) | (simp [*]; done)), H', ⟨Nat.le_refl _⟩, ⟨by first | exact Kd.R_nil _ _ _ _ _ | exact Kd.N_nil _ _ _ _ _ | exact Kd.V_nil _ _ _ _ _ | exact Kd.Q_nil _ _ _ _ _ | exact Kd.S_nil _ _ _ _ _⟩, ⟨by (with_reducible repeat first|apply q1|apply q2|apply q3); refine blk_far ?_ NB177_183.out _; (with_reducible repeat first|apply q1|apply q2|apply q3); refine blk_far ?_ NB177_183.out _; (with_reducible repeat first|apply q1|apply q2|apply q3); refine blk_far ?_ NB177_183.out _; (with_reducible repeat first|apply q1|apply q2|apply q3); exact BK177.out⟩, ⟨by (with_reducible repeat first|apply q1|apply q2|apply q3); refine blk_far ?_ NB178_183.out _; (with_reducible repeat first|apply q1|apply q2|apply q3); refine blk_far ?_ NB178_183.out _; (with_reducible repeat first|apply q1|apply q2|apply q3); refine blk_far ?_ NB178_183.out _; (with_reducible repeat first|apply q1|apply q2|apply q3); exact BK178.out⟩, ⟨by (with_reducible repeat first|apply q1|apply q2|apply q3); refine blk_put (cs := #[.slice none 0 0, .int .i64 t181, .int .i64 0]) ?_ 2 _ rfl; (with_reducible repeat first|apply q1|apply q2|apply q3); refine blk_put (cs := #[.slice none 0 0, .int .i64 0, .int .i64 0]) ?_ 1 _ rfl; (with_reducible repeat first|apply q1|apply q2|apply q3); refine blk_put (cs := #[.slice none 0 0, .int .i64 0, .int .i64 0]) ?_ 0 _ rfl; (with_reducible repeat first|apply q1|apply q2|apply q3); exact BK183.out⟩, ⟨by repeat (first | (with_reducible first | exact HB.out | apply b1|apply b2|apply b3 | refine below_set ?_ GE177.out | refine below_set ?_ GE178.out | refine below_set ?_ GE183.out) | exact HB.out)⟩⟩
    case round =>
      clear H'
      try clear c1
      try clear c2
      try clear p2
      try clear c3
      try clear c7
      try clear c11
      try clear c13
      try clear c14
      try clear hcz10_0
      try clear hcz10_1
      try clear hcz10_2
      try clear hcz10_3
      try clear hcz15_0
      try clear hcz15_1
      try clear hcz15_2
      try clear hcz8_0
      try clear hcz8_1
      try clear hcz8_2
      try clear hcz8_3
      try clear hfz10_0
      try clear hfz10_1
      try clear hfz10_2
      try clear hfz10_3
      try clear hfz15_0
      try clear hfz15_1
      try clear hfz15_2
      try clear hfz8_0
      try clear hfz8_1
      try clear hfz8_2
      try clear hfz8_3
      obtain ⟨x6_1, x184000_1, x184001_1, x184002_1, u184000, rfl, HA, HK1, HO_184000, BK177, BK178, BK183, HB⟩ := hrel
      cases gk with
      | zero => exact absurd HA.out (by simp [diapasonref26_Best.l0])
      | succ k1 =>
        have H := HA.out
        clear HA
        simp only [diapasonref26_Best.l0] at H
        by_cases c16 : 0 ≤ (l0_1.length : Int)
        · rw [if_pos c16] at H
          have c16b0 := eq_true c16
          have c16b1 : decide (0 ≤ (l0_1.length : Int)) = true := decide_eq_true c16
          clear c16
          obtain ⟨ji17, hji17⟩ : ∃ j_ : Int, (shl .i64 1 (l0_1.length : Int)) = j_ := ⟨_, rfl⟩
          replace H : (if x6_1 < (ji17) then ((diapasonref26_Stops.f k1 (l0_1.length : Int) x6_1).bind fun t184 => ((diapasonref26_Choice.f k1 l0_0 l0_1 l0_2 a0_3 t184).bind fun bt187 => (if bt187.2.2 ≤ a0_3 then ((diapasonref26_Better.f k1 t184 bt187.2.1 bt187.2.2 x184000_1 x184001_1 x184002_1).bind fun t191 => (if t191 = true then (diapasonref26_Best.l0 k1 (l0_1.length : Int) (wrap64 (x6_1 + 1)) l0_0 l0_1 l0_2 a0_3 t184 bt187.2.1 bt187.2.2) else (diapasonref26_Best.l0 k1 (l0_1.length : Int) (wrap64 (x6_1 + 1)) l0_0 l0_1 l0_2 a0_3 x184000_1 x184001_1 x184002_1))) else (diapasonref26_Best.l0 k1 (l0_1.length : Int) (wrap64 (x6_1 + 1)) l0_0 l0_1 l0_2 a0_3 x184000_1 x184001_1 x184002_1)))) else (some (x184000_1, x184001_1, x184002_1, 0))) = some (r1, r2, r3, r4) := by first | (rw [hji17] at H; exact H) | (simp only [hji17] at H ⊢; exact H)
          have hji17_ : (IntKind.i64.wrap (1 * 2 ^ min (l0_1.length : Int).toNat 64)) = ji17 := hji17
          have hji17z : (l0_1.length : Int) ≤ 64 → (IntKind.i64.wrap (1 * 2 ^ (l0_1.length : Int).toNat)) = ji17 := shl_small hji17
          have hji17p : (IntKind.i64.wrap (1 * 2 ^ min l0_1.length 64)) = ji17 := hji17_
          have hji17q : (l0_1.length : Int) ≤ 64 → (IntKind.i64.wrap (1 * 2 ^ l0_1.length)) = ji17 := hji17z
          have hji17r : (IntKind.i64.wrap (2 ^ min l0_1.length 64)) = ji17 := by have h_ := hji17p; rw [Int.one_mul] at h_; exact h_
          have hji17s : (l0_1.length : Int) ≤ 64 → (IntKind.i64.wrap (2 ^ l0_1.length)) = ji17 := fun hle_ => by have h_ := hji17q hle_; rw [Int.one_mul] at h_; exact h_
          have hji17u : (IntKind.i64.wrap (2 ^ min (l0_1.length : Int).toNat 64)) = ji17 := by have h_ := hji17_; rw [Int.one_mul] at h_; exact h_
          have hji17v : (l0_1.length : Int) ≤ 64 → (IntKind.i64.wrap (2 ^ (l0_1.length : Int).toNat)) = ji17 := fun hle_ => by have h_ := hji17z hle_; rw [Int.one_mul] at h_; exact h_
          have hji17y : (wrap64 (1 * 2 ^ min (l0_1.length : Int).toNat 64)) = ji17 := (i64_w _).symm.trans hji17_
          have hji17x : (l0_1.length : Int) ≤ 64 → (wrap64 (1 * 2 ^ (l0_1.length : Int).toNat)) = ji17 := fun h_ => (i64_w _).symm.trans (hji17z h_)
          by_cases c18 : x6_1 < (ji17)
          · rw [if_pos c18] at H
            have c18b0 : decide (x6_1 < (ji17)) = true := decide_eq_true c18
            clear c18
            replace H := Option.bind_eq_some_iff.mp H
            obtain ⟨t184, A190, H⟩ := H
            replace H : ((diapasonref26_Choice.f k1 l0_0 l0_1 l0_2 a0_3 t184).bind fun bt187 => (if bt187.2.2 ≤ a0_3 then ((diapasonref26_Better.f k1 t184 bt187.2.1 bt187.2.2 x184000_1 x184001_1 x184002_1).bind fun t191 => (if t191 = true then (diapasonref26_Best.l0 k1 (l0_1.length : Int) (wrap64 (x6_1 + 1)) l0_0 l0_1 l0_2 a0_3 t184 bt187.2.1 bt187.2.2) else (diapasonref26_Best.l0 k1 (l0_1.length : Int) (wrap64 (x6_1 + 1)) l0_0 l0_1 l0_2 a0_3 x184000_1 x184001_1 x184002_1))) else (diapasonref26_Best.l0 k1 (l0_1.length : Int) (wrap64 (x6_1 + 1)) l0_0 l0_1 l0_2 a0_3 x184000_1 x184001_1 x184002_1))) = some (r1, r2, r3, r4) := H
            have A19 := am A190
            clear A190
            replace H := Option.bind_eq_some_iff.mp H
            obtain ⟨⟨t187, t188, t189⟩, A200, H⟩ := H
            replace H : (if t189 ≤ a0_3 then ((diapasonref26_Better.f k1 t184 t188 t189 x184000_1 x184001_1 x184002_1).bind fun t191 => (if t191 = true then (diapasonref26_Best.l0 k1 (l0_1.length : Int) (wrap64 (x6_1 + 1)) l0_0 l0_1 l0_2 a0_3 t184 t188 t189) else (diapasonref26_Best.l0 k1 (l0_1.length : Int) (wrap64 (x6_1 + 1)) l0_0 l0_1 l0_2 a0_3 x184000_1 x184001_1 x184002_1))) else (diapasonref26_Best.l0 k1 (l0_1.length : Int) (wrap64 (x6_1 + 1)) l0_0 l0_1 l0_2 a0_3 x184000_1 x184001_1 x184002_1)) = some (r1, r2, r3, r4) := H
            have A20 := am A200
            clear A200
            by_cases c21 : t189 ≤ a0_3
            · rw [if_pos c21] at H
              have c21b0 : decide (t189 ≤ a0_3) = true := decide_eq_true c21
              clear c21
              replace H := Option.bind_eq_some_iff.mp H
              obtain ⟨t191, A220, H⟩ := H
              replace H : (if t191 = true then (diapasonref26_Best.l0 k1 (l0_1.length : Int) (wrap64 (x6_1 + 1)) l0_0 l0_1 l0_2 a0_3 t184 t188 t189) else (diapasonref26_Best.l0 k1 (l0_1.length : Int) (wrap64 (x6_1 + 1)) l0_0 l0_1 l0_2 a0_3 x184000_1 x184001_1 x184002_1)) = some (r1, r2, r3, r4) := H
              have A22 := am A220
              clear A220
              by_cases c23 : t191 = true
              · subst c23
                have H1 : (diapasonref26_Best.l0 k1 (l0_1.length : Int) (wrap64 (x6_1 + 1)) l0_0 l0_1 l0_2 a0_3 t184 t188 t189) = some (r1, r2, r3, r4) := by rw [if_pos rfl] at H; exact H
                clear H
                have H := H1
                clear H1
                have H' := am H
                clear H
                try go_wp2
                have n0_ := am (Kd.R_drew HO_184000.out)
                have n1_ := am (blk_drew BK177.out)
                have n2_ := am (blk_drew BK178.out)
                have n3_ := am (blk_drew BK183.out)
                have n4_ := am (below_drew1 HB.out)
                clear HO_184000
                clear BK177
                clear BK178
                clear BK183
                clear HB
                have HO_184000 := n0_
                have BK177 := n1_
                have BK178 := n2_
                have BK183 := n3_
                have HB := n4_
                clear n0_ n1_ n2_ n3_ n4_
                refine start_ (n := 7) (S := fun w' => w'.cell? ⟨gb177, 0, none⟩ = some (.slice A0_0 l0_0.length c0_0) ∧ w'.cell? ⟨gb177, 1, none⟩ = some (.slice A0_1 l0_1.length c0_1) ∧ w'.cell? ⟨gb177, 2, none⟩ = some (.slice A0_2 l0_2.length c0_2) ∧ w'.cell? ⟨gb177, 3, none⟩ = some (.int .i64 a0_3)) (ds := []) #[false, false, false, false, false, false, false] (by kernel_rfl) rfl rfl ⟨(blk_cell BK177.out 0).trans rfl, (blk_cell BK177.out 1).trans rfl, (blk_cell BK177.out 2).trans rfl, (blk_cell BK177.out 3).trans rfl⟩ (fun hHeld => ?_)
                generalize wr.drew = w24 at HO_184000 BK177 BK178 BK183 HB hHeld ⊢
                refine pure_ (i := 1) (N := some 24) (v := ?_) (a' := ?_) #[false, true, false, false, false, false, false] rfl rfl (by kernel_rfl) (fun _ _ _ h => h) (Or.inl ⟨by rfl, ?_⟩) ?_ ?_
                rotate_left
                · intro w'
                  go_simp
                  with_reducible rfl
                rotate_left
                · simp only [Act.put, List.setIfInBounds_toArray, List.set_cons_zero, List.set_cons_succ, i64_w, i32_w]
                  rfl
                refine pure_ (i := 2) (N := some 25) (v := ?_) (a' := ?_) #[false, true, true, false, false, false, false] rfl rfl (by kernel_rfl) (fun _ _ _ h => h) (Or.inl ⟨by rfl, ?_⟩) ?_ ?_
                rotate_left
                · intro w'
                  go_simp
                  with_reducible rfl
                rotate_left
                · simp only [Act.put, List.setIfInBounds_toArray, List.set_cons_zero, List.set_cons_succ, i64_w, i32_w]
                  rfl
                refine take_ (i := 0) (N := some 23) (v := ?_) (a' := ?_) #[true, true, true, false, false, false, false] rfl rfl (by kernel_rfl) (fun _ _ _ h => h) (Or.inl ⟨by rfl, ?_⟩) hHeld ?_ ?_
                rotate_left
                · rintro w' ⟨s0, s1, s2, s3⟩
                  go_simp
                  with_reducible rfl
                rotate_left
                · simp only [Act.put, List.setIfInBounds_toArray, List.set_cons_zero, List.set_cons_succ, i64_w, i32_w]
                  rfl
                refine join_ (σ := Value × Nat) 1 #[true, true, true, true, true, true, false] (fun s_ => [(26, s_.1), (27, .agg #[s_.1, .int .i64 t188, .int .i64 t189]), (7, .pointer (some ⟨s_.2, 0, none⟩))]) (fun s_ w' => (w'.cell? ⟨gb177, 0, none⟩ = some (.slice A0_0 l0_0.length c0_0) ∧ w'.cell? ⟨gb177, 1, none⟩ = some (.slice A0_1 l0_1.length c0_1) ∧ w'.cell? ⟨gb177, 2, none⟩ = some (.slice A0_2 l0_2.length c0_2) ∧ w'.cell? ⟨gb177, 3, none⟩ = some (.int .i64 a0_3)) ∧ (Kd.R (Kd.int .i64) 3 w' w.heap.size (fun k_ => some k_ ≠ (u184000 : Value).ownBlock) s_.1 t184) ∧ (Kd.R (Kd.int .i64) 3 w' w.heap.size (fun k_ => some k_ ≠ (s_.1 : Value).ownBlock) u184000 x184000_1) ∧ (w'.heap[gb177]? = some (.cells #[.slice A0_0 l0_0.length c0_0, .slice A0_1 l0_1.length c0_1, .slice A0_2 l0_2.length c0_2, .int .i64 a0_3] 25 (0, 0))) ∧ (w'.heap[gb178]? = some (.cells #[.slice none 0 0, .int .i64 0, .int .i64 0] 28 (0, 0))) ∧ (w'.heap[gb183]? = some (.cells #[u184000, .int .i64 x184001_1, .int .i64 x184002_1] 28 (0, 0))) ∧ (w'.heap[s_.2]? = some (.cells #[.slice none 0 0, .int .i64 0, .int .i64 0] 28 (0, 0))) ∧ (w.heap.size ≤ s_.2) ∧ (w.heap.size ≤ s_.2) ∧ (gb177 ≠ s_.2) ∧ (s_.2 ≠ gb177) ∧ (gb178 ≠ s_.2) ∧ (s_.2 ≠ gb178) ∧ (gb183 ≠ s_.2) ∧ (s_.2 ≠ gb183) ∧ (Below w.heap.size w w')) ?_ ?_
                rotate_left
                · intro hCont
                  refine two_ (i := 3) (j := 5) (Ni := some 26) (Nj := some 7) #[true, true, true, true, false, false, false] #[true, true, true, false, false, true, false] rfl rfl rfl rfl (by kernel_rfl) (by decide) (by decide) (fun K hK => ?_) (fun K hK => ?_)
                  · skip
                    refine goes_ Try.func31 (by kernel_rfl) rfl #[.int .i64 (l0_1.length : Int), .int .i64 x6_1] (by rfl) rfl rfl (by (try simp only [List.map_toArray, List.map_cons, List.map_nil]); first | done | rfl | (simp only [List.length_drop, List.length_take]; rfl)) ?_
                    with_reducible refine (diapasonref26_Stops.calls k1 (l0_1.length : Int) x6_1 t184 _ A19.out).mono ?_
                    rintro e w25 ⟨v185, rfl, ho0, hb⟩
                    refine ⟨_, rfl, ?_⟩
                    have n0_ := am (Kd.R_elder' (by (with_reducible repeat first|apply Kd.R_alloc|apply Kd.R_drewN|apply Kd.R_drew); exact HO_184000.out) (Kd.R_base ho0) hb)
                    have n1_ := am (Kd.R_lower (Kd.R_new' ho0 (Kd.R_lt (by (with_reducible repeat first|apply Kd.R_alloc|apply Kd.R_drewN|apply Kd.R_drew); exact HO_184000.out))) (below_size (by repeat (first | (with_reducible first | exact HB.out | apply b1|apply b2|apply b3 | refine below_set ?_ GE177.out | refine below_set ?_ GE178.out | refine below_set ?_ GE183.out) | exact HB.out))))
                    have n2_ := am (blk_below (g := gb177) (o := .cells #[.slice A0_0 l0_0.length c0_0, .slice A0_1 l0_1.length c0_1, .slice A0_2 l0_2.length c0_2, .int .i64 a0_3] 25 (0, 0)) (by (with_reducible repeat first|apply q1|apply q2|apply q3); exact BK177.out) hb)
                    have n3_ := am (blk_below (g := gb178) (o := .cells #[.slice none 0 0, .int .i64 0, .int .i64 0] 28 (0, 0)) (by (with_reducible repeat first|apply q1|apply q2|apply q3); exact BK178.out) hb)
                    have n4_ := am (blk_below (g := gb183) (o := .cells #[u184000, .int .i64 x184001_1, .int .i64 x184002_1] 28 (0, 0)) (by (with_reducible repeat first|apply q1|apply q2|apply q3); exact BK183.out) hb)
                    have n5_ := am (below_step (by repeat (first | (with_reducible first | exact HB.out | apply b1|apply b2|apply b3 | refine below_set ?_ GE177.out | refine below_set ?_ GE178.out | refine below_set ?_ GE183.out) | exact HB.out)) hb)
                    clear HO_184000
                    clear BK177
                    clear BK178
                    clear BK183
                    clear HB
                    have HO_184000 := n0_
                    have HO186 := n1_
                    have BK177 := n2_
                    have BK178 := n3_
                    have BK183 := n4_
                    have HB := n5_
                    clear n0_ n1_ n2_ n3_ n4_ n5_
                    (try clear hb)
                    (try clear hb2)
                    (try clear hk)
                    (try clear hi)
                    (try clear ho0)
                    obtain ⟨Ao26, co26, eo26⟩ := Kd.R_slice HO186.out
                    (first | subst eo26 | (injection eo26 with f1_ f2_ f3_; have f4_ := f1_.symm; have f5_ := f3_.symm; clear f1_ f2_ f3_; subst f4_; subst f5_))
                    refine hK.out _ _ ⟨(blk_cell BK177.out 0).trans rfl, (blk_cell BK177.out 1).trans rfl, (blk_cell BK177.out 2).trans rfl, (blk_cell BK177.out 3).trans rfl⟩ (fun hHeld => ?_)
                    clear hK K
                    refine norm_ (a' := ?_) ?_ ?_
                    rotate_left
                    · show Act.put _ (some 26) _ = _
                      simp only [Act.put, List.setIfInBounds_toArray, List.set_cons_zero, List.set_cons_succ, i64_w, i32_w]
                      rfl
                    refine two_ (i := 4) (j := 5) (Ni := some 27) (Nj := some 7) #[true, true, true, true, true, false, false] #[true, true, true, true, false, true, false] rfl rfl rfl rfl (by kernel_rfl) (by decide) (by decide) (fun K hK => ?_) (fun K hK => ?_)
                    · skip
                      refine goes_ Try.func30 (by kernel_rfl) rfl #[.agg #[.slice A0_0 l0_0.length c0_0, .slice A0_1 l0_1.length c0_1, .slice A0_2 l0_2.length c0_2, .int .i64 a0_3], .slice Ao26 t184.length co26] (by rfl) rfl rfl (by (try simp only [List.map_toArray, List.map_cons, List.map_nil]); first | done | rfl | (simp only [List.length_drop, List.length_take]; rfl)) ?_
                      with_reducible refine (diapasonref26_Choice.calls k1 _ _ l0_0 _ _ l0_1 _ _ l0_2 a0_3 _ _ t184 t187 t188 t189 _ ?side1 ?side2 ?side3 ?side4 ?side5 ?side6 ?side7 ?side8 A20.out).mono ?_
                      (case side1 => repeat (first | exact (Kd.C_below HR0_0.out HB.out) | (with_reducible refine Kd.C_alloc ?_ _) | (with_reducible refine Kd.C_drewN ?_ _) | (with_reducible refine Kd.C_drew ?_)))
                      (case side2 => exact HC0_0.out)
                      (case side3 => repeat (first | exact (Kd.C_below HR0_1.out HB.out) | (with_reducible refine Kd.C_alloc ?_ _) | (with_reducible refine Kd.C_drewN ?_ _) | (with_reducible refine Kd.C_drew ?_)))
                      (case side4 => exact HC0_1.out)
                      (case side5 => repeat (first | exact (Kd.C_below HR0_2.out HB.out) | (with_reducible refine Kd.C_alloc ?_ _) | (with_reducible refine Kd.C_drewN ?_ _) | (with_reducible refine Kd.C_drew ?_)))
                      (case side6 => exact HC0_2.out)
                      (case side7 => repeat (first | exact (Kd.R_reads' HO186.out).2.2 | (with_reducible refine Kd.C_alloc ?_ _) | (with_reducible refine Kd.C_drewN ?_ _) | (with_reducible refine Kd.C_drew ?_)))
                      (case side8 => exact (Kd.R_reads' HO186.out).2.1)
                      rintro e w27 ⟨rfl, hb⟩
                      refine ⟨_, rfl, ?_⟩
                      have n0_ := am (Kd.R_below (by (with_reducible repeat first|apply Kd.R_alloc|apply Kd.R_drewN|apply Kd.R_drew); exact HO_184000.out) hb)
                      have n1_ := am (Kd.R_below (by (with_reducible repeat first|apply Kd.R_alloc|apply Kd.R_drewN|apply Kd.R_drew); exact HO186.out) hb)
                      have n2_ := am (blk_below (g := gb177) (o := .cells #[.slice A0_0 l0_0.length c0_0, .slice A0_1 l0_1.length c0_1, .slice A0_2 l0_2.length c0_2, .int .i64 a0_3] 25 (0, 0)) (by (with_reducible repeat first|apply q1|apply q2|apply q3); exact BK177.out) hb)
                      have n3_ := am (blk_below (g := gb178) (o := .cells #[.slice none 0 0, .int .i64 0, .int .i64 0] 28 (0, 0)) (by (with_reducible repeat first|apply q1|apply q2|apply q3); exact BK178.out) hb)
                      have n4_ := am (blk_below (g := gb183) (o := .cells #[u184000, .int .i64 x184001_1, .int .i64 x184002_1] 28 (0, 0)) (by (with_reducible repeat first|apply q1|apply q2|apply q3); exact BK183.out) hb)
                      have n5_ := am (below_step (by repeat (first | (with_reducible first | exact HB.out | apply b1|apply b2|apply b3 | refine below_set ?_ GE177.out | refine below_set ?_ GE178.out | refine below_set ?_ GE183.out) | exact HB.out)) hb)
                      clear HO_184000
                      clear HO186
                      clear BK177
                      clear BK178
                      clear BK183
                      clear HB
                      have HO_184000 := n0_
                      have HO186 := n1_
                      have BK177 := n2_
                      have BK178 := n3_
                      have BK183 := n4_
                      have HB := n5_
                      clear n0_ n1_ n2_ n3_ n4_ n5_
                      (try clear hb)
                      (try clear hb2)
                      (try clear hk)
                      (try clear hi)
                      refine hK.out _ _ ⟨(blk_cell BK177.out 0).trans rfl, (blk_cell BK177.out 1).trans rfl, (blk_cell BK177.out 2).trans rfl, (blk_cell BK177.out 3).trans rfl⟩ (fun hHeld => ?_)
                      clear hK K
                      refine norm_ (a' := ?_) ?_ ?_
                      rotate_left
                      · show Act.put _ (some 27) _ = _
                        simp only [Act.put, List.setIfInBounds_toArray, List.set_cons_zero, List.set_cons_succ, i64_w, i32_w]
                        rfl
                      refine one_ (i := 5) (N := some 7) #[true, true, true, true, true, true, false] rfl rfl (by kernel_rfl) (by decide) (fun K hK => ?_)
                      refine box_step ?hg (N := 7) ?hd (cs := #[.slice none 0 0, .int .i64 0, .int .i64 0]) (t := 28) ?hr ?_; (case hd => rfl); (case hg => rfl); (case hr => first | (go_simp; done) | (go_simp; rfl))
                      intro gb190 hg w28 hbox hb
                      have n0_ := am (Kd.R_below (by (with_reducible repeat first|apply Kd.R_alloc|apply Kd.R_drewN|apply Kd.R_drew); exact HO_184000.out) hb)
                      have n1_ := am (Kd.R_below (by (with_reducible repeat first|apply Kd.R_alloc|apply Kd.R_drewN|apply Kd.R_drew); exact HO186.out) hb)
                      have n2_ := am (blk_below (g := gb177) (o := .cells #[.slice A0_0 l0_0.length c0_0, .slice A0_1 l0_1.length c0_1, .slice A0_2 l0_2.length c0_2, .int .i64 a0_3] 25 (0, 0)) (by (with_reducible repeat first|apply q1|apply q2|apply q3); exact BK177.out) hb)
                      have n3_ := am (blk_below (g := gb178) (o := .cells #[.slice none 0 0, .int .i64 0, .int .i64 0] 28 (0, 0)) (by (with_reducible repeat first|apply q1|apply q2|apply q3); exact BK178.out) hb)
                      have n4_ := am (blk_below (g := gb183) (o := .cells #[u184000, .int .i64 x184001_1, .int .i64 x184002_1] 28 (0, 0)) (by (with_reducible repeat first|apply q1|apply q2|apply q3); exact BK183.out) hb)
                      have n5_ := am (below_step (by repeat (first | (with_reducible first | exact HB.out | apply b1|apply b2|apply b3 | refine below_set ?_ GE177.out | refine below_set ?_ GE178.out | refine below_set ?_ GE183.out) | exact HB.out)) hb)
                      have n6_ := am (hbox)
                      have n7_ := am ((by rw [hg]; exact (below_size (by repeat (first | (with_reducible first | exact HB.out | apply b1|apply b2|apply b3 | refine below_set ?_ GE177.out | refine below_set ?_ GE178.out | refine below_set ?_ GE183.out) | exact HB.out))) : w.heap.size ≤ gb190))
                      have n8_ := am ((by rw [hg]; exact (below_size (by repeat (first | (with_reducible first | exact HB.out | apply b1|apply b2|apply b3 | refine below_set ?_ GE177.out | refine below_set ?_ GE178.out | refine below_set ?_ GE183.out) | exact HB.out))) : w.heap.size ≤ gb190))
                      have n9_ := am ((by rw [hg]; exact Nat.ne_of_lt (blk_lt (g := gb177) (o := .cells #[.slice A0_0 l0_0.length c0_0, .slice A0_1 l0_1.length c0_1, .slice A0_2 l0_2.length c0_2, .int .i64 a0_3] 25 (0, 0)) (by (with_reducible repeat first|apply q1|apply q2|apply q3); exact BK177.out)) : gb177 ≠ gb190))
                      have n10_ := am ((by rw [hg]; exact Nat.ne_of_gt (blk_lt (g := gb177) (o := .cells #[.slice A0_0 l0_0.length c0_0, .slice A0_1 l0_1.length c0_1, .slice A0_2 l0_2.length c0_2, .int .i64 a0_3] 25 (0, 0)) (by (with_reducible repeat first|apply q1|apply q2|apply q3); exact BK177.out)) : gb190 ≠ gb177))
                      have n11_ := am ((by rw [hg]; exact Nat.ne_of_lt (blk_lt (g := gb178) (o := .cells #[.slice none 0 0, .int .i64 0, .int .i64 0] 28 (0, 0)) (by (with_reducible repeat first|apply q1|apply q2|apply q3); exact BK178.out)) : gb178 ≠ gb190))
                      have n12_ := am ((by rw [hg]; exact Nat.ne_of_gt (blk_lt (g := gb178) (o := .cells #[.slice none 0 0, .int .i64 0, .int .i64 0] 28 (0, 0)) (by (with_reducible repeat first|apply q1|apply q2|apply q3); exact BK178.out)) : gb190 ≠ gb178))
                      have n13_ := am ((by rw [hg]; exact Nat.ne_of_lt (blk_lt (g := gb183) (o := .cells #[u184000, .int .i64 x184001_1, .int .i64 x184002_1] 28 (0, 0)) (by (with_reducible repeat first|apply q1|apply q2|apply q3); exact BK183.out)) : gb183 ≠ gb190))
                      have n14_ := am ((by rw [hg]; exact Nat.ne_of_gt (blk_lt (g := gb183) (o := .cells #[u184000, .int .i64 x184001_1, .int .i64 x184002_1] 28 (0, 0)) (by (with_reducible repeat first|apply q1|apply q2|apply q3); exact BK183.out)) : gb190 ≠ gb183))
                      clear HO_184000
                      clear HO186
                      clear BK177
                      clear BK178
                      clear BK183
                      clear HB
                      have HO_184000 := n0_
                      have HO186 := n1_
                      have BK177 := n2_
                      have BK178 := n3_
                      have BK183 := n4_
                      have HB := n5_
                      have BK190 := n6_
                      have GW190 := n7_
                      have GE190 := n8_
                      have NB177_190 := n9_
                      have NB190_177 := n10_
                      have NB178_190 := n11_
                      have NB190_178 := n12_
                      have NB183_190 := n13_
                      have NB190_183 := n14_
                      clear n0_ n1_ n2_ n3_ n4_ n5_ n6_ n7_ n8_ n9_ n10_ n11_ n12_ n13_ n14_
                      clear hb hbox hg
                      refine hK.out _ _ ⟨(blk_cell BK177.out 0).trans rfl, (blk_cell BK177.out 1).trans rfl, (blk_cell BK177.out 2).trans rfl, (blk_cell BK177.out 3).trans rfl⟩ (fun hHeld => ?_)
                      clear hK K
                      refine norm_ (a' := ?_) ?_ ?_
                      rotate_left
                      · show Act.put _ (some 7) _ = _
                        simp only [Act.put, List.setIfInBounds_toArray, List.set_cons_zero, List.set_cons_succ, i64_w, i32_w]
                        rfl
                      exact norm_ (by simp only [putAll, Act.put, List.setIfInBounds_toArray, List.set_cons_zero, List.set_cons_succ]) (hCont (.slice Ao26 t184.length co26, gb190) _ ⟨hHeld, (by (with_reducible repeat first|apply Kd.R_alloc|apply Kd.R_drewN|apply Kd.R_drew); exact Kd.R_mono HO186.out (fun _ hk => hk.2)), (by (with_reducible repeat first|apply Kd.R_alloc|apply Kd.R_drewN|apply Kd.R_drew); exact Kd.R_mono HO_184000.out (fun _ hk => hk.2)), (by (with_reducible repeat first|apply q1|apply q2|apply q3); exact BK177.out), (by (with_reducible repeat first|apply q1|apply q2|apply q3); exact BK178.out), (by (with_reducible repeat first|apply q1|apply q2|apply q3); exact BK183.out), (by (with_reducible repeat first|apply q1|apply q2|apply q3); exact BK190.out), GW190.out, GE190.out, NB177_190.out, NB190_177.out, NB178_190.out, NB190_178.out, NB183_190.out, NB190_183.out, (by repeat (first | (with_reducible first | exact HB.out | apply b1|apply b2|apply b3 | refine below_set ?_ GE177.out | refine below_set ?_ GE178.out | refine below_set ?_ GE183.out | refine below_set ?_ GE190.out) | exact HB.out))⟩)
                    · skip
                      refine box_step ?hg (N := 7) ?hd (cs := #[.slice none 0 0, .int .i64 0, .int .i64 0]) (t := 28) ?hr ?_; (case hd => rfl); (case hg => rfl); (case hr => first | (go_simp; done) | (go_simp; rfl))
                      intro gb190 hg w26 hbox hb
                      have n0_ := am (Kd.R_below (by (with_reducible repeat first|apply Kd.R_alloc|apply Kd.R_drewN|apply Kd.R_drew); exact HO_184000.out) hb)
                      have n1_ := am (Kd.R_below (by (with_reducible repeat first|apply Kd.R_alloc|apply Kd.R_drewN|apply Kd.R_drew); exact HO186.out) hb)
                      have n2_ := am (blk_below (g := gb177) (o := .cells #[.slice A0_0 l0_0.length c0_0, .slice A0_1 l0_1.length c0_1, .slice A0_2 l0_2.length c0_2, .int .i64 a0_3] 25 (0, 0)) (by (with_reducible repeat first|apply q1|apply q2|apply q3); exact BK177.out) hb)
                      have n3_ := am (blk_below (g := gb178) (o := .cells #[.slice none 0 0, .int .i64 0, .int .i64 0] 28 (0, 0)) (by (with_reducible repeat first|apply q1|apply q2|apply q3); exact BK178.out) hb)
                      have n4_ := am (blk_below (g := gb183) (o := .cells #[u184000, .int .i64 x184001_1, .int .i64 x184002_1] 28 (0, 0)) (by (with_reducible repeat first|apply q1|apply q2|apply q3); exact BK183.out) hb)
                      have n5_ := am (below_step (by repeat (first | (with_reducible first | exact HB.out | apply b1|apply b2|apply b3 | refine below_set ?_ GE177.out | refine below_set ?_ GE178.out | refine below_set ?_ GE183.out) | exact HB.out)) hb)
                      have n6_ := am (hbox)
                      have n7_ := am ((by rw [hg]; exact (below_size (by repeat (first | (with_reducible first | exact HB.out | apply b1|apply b2|apply b3 | refine below_set ?_ GE177.out | refine below_set ?_ GE178.out | refine below_set ?_ GE183.out) | exact HB.out))) : w.heap.size ≤ gb190))
                      have n8_ := am ((by rw [hg]; exact (below_size (by repeat (first | (with_reducible first | exact HB.out | apply b1|apply b2|apply b3 | refine below_set ?_ GE177.out | refine below_set ?_ GE178.out | refine below_set ?_ GE183.out) | exact HB.out))) : w.heap.size ≤ gb190))
                      have n9_ := am ((by rw [hg]; exact Nat.ne_of_lt (blk_lt (g := gb177) (o := .cells #[.slice A0_0 l0_0.length c0_0, .slice A0_1 l0_1.length c0_1, .slice A0_2 l0_2.length c0_2, .int .i64 a0_3] 25 (0, 0)) (by (with_reducible repeat first|apply q1|apply q2|apply q3); exact BK177.out)) : gb177 ≠ gb190))
                      have n10_ := am ((by rw [hg]; exact Nat.ne_of_gt (blk_lt (g := gb177) (o := .cells #[.slice A0_0 l0_0.length c0_0, .slice A0_1 l0_1.length c0_1, .slice A0_2 l0_2.length c0_2, .int .i64 a0_3] 25 (0, 0)) (by (with_reducible repeat first|apply q1|apply q2|apply q3); exact BK177.out)) : gb190 ≠ gb177))
                      have n11_ := am ((by rw [hg]; exact Nat.ne_of_lt (blk_lt (g := gb178) (o := .cells #[.slice none 0 0, .int .i64 0, .int .i64 0] 28 (0, 0)) (by (with_reducible repeat first|apply q1|apply q2|apply q3); exact BK178.out)) : gb178 ≠ gb190))
                      have n12_ := am ((by rw [hg]; exact Nat.ne_of_gt (blk_lt (g := gb178) (o := .cells #[.slice none 0 0, .int .i64 0, .int .i64 0] 28 (0, 0)) (by (with_reducible repeat first|apply q1|apply q2|apply q3); exact BK178.out)) : gb190 ≠ gb178))
                      have n13_ := am ((by rw [hg]; exact Nat.ne_of_lt (blk_lt (g := gb183) (o := .cells #[u184000, .int .i64 x184001_1, .int .i64 x184002_1] 28 (0, 0)) (by (with_reducible repeat first|apply q1|apply q2|apply q3); exact BK183.out)) : gb183 ≠ gb190))
                      have n14_ := am ((by rw [hg]; exact Nat.ne_of_gt (blk_lt (g := gb183) (o := .cells #[u184000, .int .i64 x184001_1, .int .i64 x184002_1] 28 (0, 0)) (by (with_reducible repeat first|apply q1|apply q2|apply q3); exact BK183.out)) : gb190 ≠ gb183))
                      clear HO_184000
                      clear HO186
                      clear BK177
                      clear BK178
                      clear BK183
                      clear HB
                      have HO_184000 := n0_
                      have HO186 := n1_
                      have BK177 := n2_
                      have BK178 := n3_
                      have BK183 := n4_
                      have HB := n5_
                      have BK190 := n6_
                      have GW190 := n7_
                      have GE190 := n8_
                      have NB177_190 := n9_
                      have NB190_177 := n10_
                      have NB178_190 := n11_
                      have NB190_178 := n12_
                      have NB183_190 := n13_
                      have NB190_183 := n14_
                      clear n0_ n1_ n2_ n3_ n4_ n5_ n6_ n7_ n8_ n9_ n10_ n11_ n12_ n13_ n14_
                      clear hb hbox hg
                      obtain ⟨Ao27, co27, eo27⟩ := Kd.R_slice HO186.out
                      (first | subst eo27 | (injection eo27 with f1_ f2_ f3_; have f4_ := f1_.symm; have f5_ := f3_.symm; clear f1_ f2_ f3_; subst f4_; subst f5_))
                      refine hK.out _ _ ⟨(blk_cell BK177.out 0).trans rfl, (blk_cell BK177.out 1).trans rfl, (blk_cell BK177.out 2).trans rfl, (blk_cell BK177.out 3).trans rfl⟩ (fun hHeld => ?_)
                      clear hK K
                      refine norm_ (a' := ?_) ?_ ?_
                      rotate_left
                      · show Act.put _ (some 7) _ = _
                        simp only [Act.put, List.setIfInBounds_toArray, List.set_cons_zero, List.set_cons_succ, i64_w, i32_w]
                        rfl
                      refine one_ (i := 4) (N := some 27) #[true, true, true, true, true, true, false] rfl rfl (by kernel_rfl) (by decide) (fun K hK => ?_)
                      refine goes_ Try.func30 (by kernel_rfl) rfl #[.agg #[.slice A0_0 l0_0.length c0_0, .slice A0_1 l0_1.length c0_1, .slice A0_2 l0_2.length c0_2, .int .i64 a0_3], .slice Ao27 t184.length co27] (by rfl) rfl rfl (by (try simp only [List.map_toArray, List.map_cons, List.map_nil]); first | done | rfl | (simp only [List.length_drop, List.length_take]; rfl)) ?_
                      with_reducible refine (diapasonref26_Choice.calls k1 _ _ l0_0 _ _ l0_1 _ _ l0_2 a0_3 _ _ t184 t187 t188 t189 _ ?side1 ?side2 ?side3 ?side4 ?side5 ?side6 ?side7 ?side8 A20.out).mono ?_
                      (case side1 => repeat (first | exact (Kd.C_below HR0_0.out HB.out) | (with_reducible refine Kd.C_alloc ?_ _) | (with_reducible refine Kd.C_drewN ?_ _) | (with_reducible refine Kd.C_drew ?_)))
                      (case side2 => exact HC0_0.out)
                      (case side3 => repeat (first | exact (Kd.C_below HR0_1.out HB.out) | (with_reducible refine Kd.C_alloc ?_ _) | (with_reducible refine Kd.C_drewN ?_ _) | (with_reducible refine Kd.C_drew ?_)))
                      (case side4 => exact HC0_1.out)
                      (case side5 => repeat (first | exact (Kd.C_below HR0_2.out HB.out) | (with_reducible refine Kd.C_alloc ?_ _) | (with_reducible refine Kd.C_drewN ?_ _) | (with_reducible refine Kd.C_drew ?_)))
                      (case side6 => exact HC0_2.out)
                      (case side7 => repeat (first | exact (Kd.R_reads' HO186.out).2.2 | (with_reducible refine Kd.C_alloc ?_ _) | (with_reducible refine Kd.C_drewN ?_ _) | (with_reducible refine Kd.C_drew ?_)))
                      (case side8 => exact (Kd.R_reads' HO186.out).2.1)
                      rintro e w28 ⟨rfl, hb⟩
                      refine ⟨_, rfl, ?_⟩
                      have n0_ := am (Kd.R_below (by (with_reducible repeat first|apply Kd.R_alloc|apply Kd.R_drewN|apply Kd.R_drew); exact HO_184000.out) hb)
                      have n1_ := am (Kd.R_below (by (with_reducible repeat first|apply Kd.R_alloc|apply Kd.R_drewN|apply Kd.R_drew); exact HO186.out) hb)
                      have n2_ := am (blk_below (g := gb177) (o := .cells #[.slice A0_0 l0_0.length c0_0, .slice A0_1 l0_1.length c0_1, .slice A0_2 l0_2.length c0_2, .int .i64 a0_3] 25 (0, 0)) (by (with_reducible repeat first|apply q1|apply q2|apply q3); exact BK177.out) hb)
                      have n3_ := am (blk_below (g := gb178) (o := .cells #[.slice none 0 0, .int .i64 0, .int .i64 0] 28 (0, 0)) (by (with_reducible repeat first|apply q1|apply q2|apply q3); exact BK178.out) hb)
                      have n4_ := am (blk_below (g := gb183) (o := .cells #[u184000, .int .i64 x184001_1, .int .i64 x184002_1] 28 (0, 0)) (by (with_reducible repeat first|apply q1|apply q2|apply q3); exact BK183.out) hb)
                      have n5_ := am (blk_below (g := gb190) (o := .cells #[.slice none 0 0, .int .i64 0, .int .i64 0] 28 (0, 0)) (by (with_reducible repeat first|apply q1|apply q2|apply q3); exact BK190.out) hb)
                      have n6_ := am (below_step (by repeat (first | (with_reducible first | exact HB.out | apply b1|apply b2|apply b3 | refine below_set ?_ GE177.out | refine below_set ?_ GE178.out | refine below_set ?_ GE183.out | refine below_set ?_ GE190.out) | exact HB.out)) hb)
                      clear HO_184000
                      clear HO186
                      clear BK177
                      clear BK178
                      clear BK183
                      clear BK190
                      clear HB
                      have HO_184000 := n0_
                      have HO186 := n1_
                      have BK177 := n2_
                      have BK178 := n3_
                      have BK183 := n4_
                      have BK190 := n5_
                      have HB := n6_
                      clear n0_ n1_ n2_ n3_ n4_ n5_ n6_
                      (try clear hb)
                      (try clear hb2)
                      (try clear hk)
                      (try clear hi)
                      refine hK.out _ _ ⟨(blk_cell BK177.out 0).trans rfl, (blk_cell BK177.out 1).trans rfl, (blk_cell BK177.out 2).trans rfl, (blk_cell BK177.out 3).trans rfl⟩ (fun hHeld => ?_)
                      clear hK K
                      refine norm_ (a' := ?_) ?_ ?_
                      rotate_left
                      · show Act.put _ (some 27) _ = _
                        simp only [Act.put, List.setIfInBounds_toArray, List.set_cons_zero, List.set_cons_succ, i64_w, i32_w]
                        rfl
                      exact norm_ (by simp only [putAll, Act.put, List.setIfInBounds_toArray, List.set_cons_zero, List.set_cons_succ]) (hCont (.slice Ao27 t184.length co27, gb190) _ ⟨hHeld, (by (with_reducible repeat first|apply Kd.R_alloc|apply Kd.R_drewN|apply Kd.R_drew); exact Kd.R_mono HO186.out (fun _ hk => hk.2)), (by (with_reducible repeat first|apply Kd.R_alloc|apply Kd.R_drewN|apply Kd.R_drew); exact Kd.R_mono HO_184000.out (fun _ hk => hk.2)), (by (with_reducible repeat first|apply q1|apply q2|apply q3); exact BK177.out), (by (with_reducible repeat first|apply q1|apply q2|apply q3); exact BK178.out), (by (with_reducible repeat first|apply q1|apply q2|apply q3); exact BK183.out), (by (with_reducible repeat first|apply q1|apply q2|apply q3); exact BK190.out), GW190.out, GE190.out, NB177_190.out, NB190_177.out, NB178_190.out, NB190_178.out, NB183_190.out, NB190_183.out, (by repeat (first | (with_reducible first | exact HB.out | apply b1|apply b2|apply b3 | refine below_set ?_ GE177.out | refine below_set ?_ GE178.out | refine below_set ?_ GE183.out | refine below_set ?_ GE190.out) | exact HB.out))⟩)
                  · skip
                    refine box_step ?hg (N := 7) ?hd (cs := #[.slice none 0 0, .int .i64 0, .int .i64 0]) (t := 28) ?hr ?_; (case hd => rfl); (case hg => rfl); (case hr => first | (go_simp; done) | (go_simp; rfl))
                    intro gb190 hg w25 hbox hb
                    have n0_ := am (Kd.R_below (by (with_reducible repeat first|apply Kd.R_alloc|apply Kd.R_drewN|apply Kd.R_drew); exact HO_184000.out) hb)
                    have n1_ := am (blk_below (g := gb177) (o := .cells #[.slice A0_0 l0_0.length c0_0, .slice A0_1 l0_1.length c0_1, .slice A0_2 l0_2.length c0_2, .int .i64 a0_3] 25 (0, 0)) (by (with_reducible repeat first|apply q1|apply q2|apply q3); exact BK177.out) hb)
                    have n2_ := am (blk_below (g := gb178) (o := .cells #[.slice none 0 0, .int .i64 0, .int .i64 0] 28 (0, 0)) (by (with_reducible repeat first|apply q1|apply q2|apply q3); exact BK178.out) hb)
                    have n3_ := am (blk_below (g := gb183) (o := .cells #[u184000, .int .i64 x184001_1, .int .i64 x184002_1] 28 (0, 0)) (by (with_reducible repeat first|apply q1|apply q2|apply q3); exact BK183.out) hb)
                    have n4_ := am (below_step (by repeat (first | (with_reducible first | exact HB.out | apply b1|apply b2|apply b3 | refine below_set ?_ GE177.out | refine below_set ?_ GE178.out | refine below_set ?_ GE183.out) | exact HB.out)) hb)
                    have n5_ := am (hbox)
                    have n6_ := am ((by rw [hg]; exact (below_size (by repeat (first | (with_reducible first | exact HB.out | apply b1|apply b2|apply b3 | refine below_set ?_ GE177.out | refine below_set ?_ GE178.out | refine below_set ?_ GE183.out) | exact HB.out))) : w.heap.size ≤ gb190))
                    have n7_ := am ((by rw [hg]; exact (below_size (by repeat (first | (with_reducible first | exact HB.out | apply b1|apply b2|apply b3 | refine below_set ?_ GE177.out | refine below_set ?_ GE178.out | refine below_set ?_ GE183.out) | exact HB.out))) : w.heap.size ≤ gb190))
                    have n8_ := am ((by rw [hg]; exact Nat.ne_of_lt (blk_lt (g := gb177) (o := .cells #[.slice A0_0 l0_0.length c0_0, .slice A0_1 l0_1.length c0_1, .slice A0_2 l0_2.length c0_2, .int .i64 a0_3] 25 (0, 0)) (by (with_reducible repeat first|apply q1|apply q2|apply q3); exact BK177.out)) : gb177 ≠ gb190))
                    have n9_ := am ((by rw [hg]; exact Nat.ne_of_gt (blk_lt (g := gb177) (o := .cells #[.slice A0_0 l0_0.length c0_0, .slice A0_1 l0_1.length c0_1, .slice A0_2 l0_2.length c0_2, .int .i64 a0_3] 25 (0, 0)) (by (with_reducible repeat first|apply q1|apply q2|apply q3); exact BK177.out)) : gb190 ≠ gb177))
                    have n10_ := am ((by rw [hg]; exact Nat.ne_of_lt (blk_lt (g := gb178) (o := .cells #[.slice none 0 0, .int .i64 0, .int .i64 0] 28 (0, 0)) (by (with_reducible repeat first|apply q1|apply q2|apply q3); exact BK178.out)) : gb178 ≠ gb190))
                    have n11_ := am ((by rw [hg]; exact Nat.ne_of_gt (blk_lt (g := gb178) (o := .cells #[.slice none 0 0, .int .i64 0, .int .i64 0] 28 (0, 0)) (by (with_reducible repeat first|apply q1|apply q2|apply q3); exact BK178.out)) : gb190 ≠ gb178))
                    have n12_ := am ((by rw [hg]; exact Nat.ne_of_lt (blk_lt (g := gb183) (o := .cells #[u184000, .int .i64 x184001_1, .int .i64 x184002_1] 28 (0, 0)) (by (with_reducible repeat first|apply q1|apply q2|apply q3); exact BK183.out)) : gb183 ≠ gb190))
                    have n13_ := am ((by rw [hg]; exact Nat.ne_of_gt (blk_lt (g := gb183) (o := .cells #[u184000, .int .i64 x184001_1, .int .i64 x184002_1] 28 (0, 0)) (by (with_reducible repeat first|apply q1|apply q2|apply q3); exact BK183.out)) : gb190 ≠ gb183))
                    clear HO_184000
                    clear BK177
                    clear BK178
                    clear BK183
                    clear HB
                    have HO_184000 := n0_
                    have BK177 := n1_
                    have BK178 := n2_
                    have BK183 := n3_
                    have HB := n4_
                    have BK190 := n5_
                    have GW190 := n6_
                    have GE190 := n7_
                    have NB177_190 := n8_
                    have NB190_177 := n9_
                    have NB178_190 := n10_
                    have NB190_178 := n11_
                    have NB183_190 := n12_
                    have NB190_183 := n13_
                    clear n0_ n1_ n2_ n3_ n4_ n5_ n6_ n7_ n8_ n9_ n10_ n11_ n12_ n13_
                    clear hb hbox hg
                    refine hK.out _ _ ⟨(blk_cell BK177.out 0).trans rfl, (blk_cell BK177.out 1).trans rfl, (blk_cell BK177.out 2).trans rfl, (blk_cell BK177.out 3).trans rfl⟩ (fun hHeld => ?_)
                    clear hK K
                    refine norm_ (a' := ?_) ?_ ?_
                    rotate_left
                    · show Act.put _ (some 7) _ = _
                      simp only [Act.put, List.setIfInBounds_toArray, List.set_cons_zero, List.set_cons_succ, i64_w, i32_w]
                      rfl
                    refine one_ (i := 3) (N := some 26) #[true, true, true, true, false, true, false] rfl rfl (by kernel_rfl) (by decide) (fun K hK => ?_)
                    refine goes_ Try.func31 (by kernel_rfl) rfl #[.int .i64 (l0_1.length : Int), .int .i64 x6_1] (by rfl) rfl rfl (by (try simp only [List.map_toArray, List.map_cons, List.map_nil]); first | done | rfl | (simp only [List.length_drop, List.length_take]; rfl)) ?_
                    with_reducible refine (diapasonref26_Stops.calls k1 (l0_1.length : Int) x6_1 t184 _ A19.out).mono ?_
                    rintro e w26 ⟨v185, rfl, ho0, hb⟩
                    refine ⟨_, rfl, ?_⟩
                    have n0_ := am (Kd.R_elder' (by (with_reducible repeat first|apply Kd.R_alloc|apply Kd.R_drewN|apply Kd.R_drew); exact HO_184000.out) (Kd.R_base ho0) hb)
                    have n1_ := am (Kd.R_lower (Kd.R_new' ho0 (Kd.R_lt (by (with_reducible repeat first|apply Kd.R_alloc|apply Kd.R_drewN|apply Kd.R_drew); exact HO_184000.out))) (below_size (by repeat (first | (with_reducible first | exact HB.out | apply b1|apply b2|apply b3 | refine below_set ?_ GE177.out | refine below_set ?_ GE178.out | refine below_set ?_ GE183.out | refine below_set ?_ GE190.out) | exact HB.out))))
                    have n2_ := am (blk_below (g := gb177) (o := .cells #[.slice A0_0 l0_0.length c0_0, .slice A0_1 l0_1.length c0_1, .slice A0_2 l0_2.length c0_2, .int .i64 a0_3] 25 (0, 0)) (by (with_reducible repeat first|apply q1|apply q2|apply q3); exact BK177.out) hb)
                    have n3_ := am (blk_below (g := gb178) (o := .cells #[.slice none 0 0, .int .i64 0, .int .i64 0] 28 (0, 0)) (by (with_reducible repeat first|apply q1|apply q2|apply q3); exact BK178.out) hb)
                    have n4_ := am (blk_below (g := gb183) (o := .cells #[u184000, .int .i64 x184001_1, .int .i64 x184002_1] 28 (0, 0)) (by (with_reducible repeat first|apply q1|apply q2|apply q3); exact BK183.out) hb)
                    have n5_ := am (blk_below (g := gb190) (o := .cells #[.slice none 0 0, .int .i64 0, .int .i64 0] 28 (0, 0)) (by (with_reducible repeat first|apply q1|apply q2|apply q3); exact BK190.out) hb)
                    have n6_ := am (below_step (by repeat (first | (with_reducible first | exact HB.out | apply b1|apply b2|apply b3 | refine below_set ?_ GE177.out | refine below_set ?_ GE178.out | refine below_set ?_ GE183.out | refine below_set ?_ GE190.out) | exact HB.out)) hb)
                    clear HO_184000
                    clear BK177
                    clear BK178
                    clear BK183
                    clear BK190
                    clear HB
                    have HO_184000 := n0_
                    have HO186 := n1_
                    have BK177 := n2_
                    have BK178 := n3_
                    have BK183 := n4_
                    have BK190 := n5_
                    have HB := n6_
                    clear n0_ n1_ n2_ n3_ n4_ n5_ n6_
                    (try clear hb)
                    (try clear hb2)
                    (try clear hk)
                    (try clear hi)
                    (try clear ho0)
                    obtain ⟨Ao27, co27, eo27⟩ := Kd.R_slice HO186.out
                    (first | subst eo27 | (injection eo27 with f1_ f2_ f3_; have f4_ := f1_.symm; have f5_ := f3_.symm; clear f1_ f2_ f3_; subst f4_; subst f5_))
                    refine hK.out _ _ ⟨(blk_cell BK177.out 0).trans rfl, (blk_cell BK177.out 1).trans rfl, (blk_cell BK177.out 2).trans rfl, (blk_cell BK177.out 3).trans rfl⟩ (fun hHeld => ?_)
                    clear hK K
                    refine norm_ (a' := ?_) ?_ ?_
                    rotate_left
                    · show Act.put _ (some 26) _ = _
                      simp only [Act.put, List.setIfInBounds_toArray, List.set_cons_zero, List.set_cons_succ, i64_w, i32_w]
                      rfl
                    refine one_ (i := 4) (N := some 27) #[true, true, true, true, true, true, false] rfl rfl (by kernel_rfl) (by decide) (fun K hK => ?_)
                    refine goes_ Try.func30 (by kernel_rfl) rfl #[.agg #[.slice A0_0 l0_0.length c0_0, .slice A0_1 l0_1.length c0_1, .slice A0_2 l0_2.length c0_2, .int .i64 a0_3], .slice Ao27 t184.length co27] (by rfl) rfl rfl (by (try simp only [List.map_toArray, List.map_cons, List.map_nil]); first | done | rfl | (simp only [List.length_drop, List.length_take]; rfl)) ?_
                    with_reducible refine (diapasonref26_Choice.calls k1 _ _ l0_0 _ _ l0_1 _ _ l0_2 a0_3 _ _ t184 t187 t188 t189 _ ?side1 ?side2 ?side3 ?side4 ?side5 ?side6 ?side7 ?side8 A20.out).mono ?_
                    (case side1 => repeat (first | exact (Kd.C_below HR0_0.out HB.out) | (with_reducible refine Kd.C_alloc ?_ _) | (with_reducible refine Kd.C_drewN ?_ _) | (with_reducible refine Kd.C_drew ?_)))
                    (case side2 => exact HC0_0.out)
                    (case side3 => repeat (first | exact (Kd.C_below HR0_1.out HB.out) | (with_reducible refine Kd.C_alloc ?_ _) | (with_reducible refine Kd.C_drewN ?_ _) | (with_reducible refine Kd.C_drew ?_)))
                    (case side4 => exact HC0_1.out)
                    (case side5 => repeat (first | exact (Kd.C_below HR0_2.out HB.out) | (with_reducible refine Kd.C_alloc ?_ _) | (with_reducible refine Kd.C_drewN ?_ _) | (with_reducible refine Kd.C_drew ?_)))
                    (case side6 => exact HC0_2.out)
                    (case side7 => repeat (first | exact (Kd.R_reads' HO186.out).2.2 | (with_reducible refine Kd.C_alloc ?_ _) | (with_reducible refine Kd.C_drewN ?_ _) | (with_reducible refine Kd.C_drew ?_)))
                    (case side8 => exact (Kd.R_reads' HO186.out).2.1)
                    rintro e w28 ⟨rfl, hb⟩
                    refine ⟨_, rfl, ?_⟩
                    have n0_ := am (Kd.R_below (by (with_reducible repeat first|apply Kd.R_alloc|apply Kd.R_drewN|apply Kd.R_drew); exact HO_184000.out) hb)
                    have n1_ := am (Kd.R_below (by (with_reducible repeat first|apply Kd.R_alloc|apply Kd.R_drewN|apply Kd.R_drew); exact HO186.out) hb)
                    have n2_ := am (blk_below (g := gb177) (o := .cells #[.slice A0_0 l0_0.length c0_0, .slice A0_1 l0_1.length c0_1, .slice A0_2 l0_2.length c0_2, .int .i64 a0_3] 25 (0, 0)) (by (with_reducible repeat first|apply q1|apply q2|apply q3); exact BK177.out) hb)
                    have n3_ := am (blk_below (g := gb178) (o := .cells #[.slice none 0 0, .int .i64 0, .int .i64 0] 28 (0, 0)) (by (with_reducible repeat first|apply q1|apply q2|apply q3); exact BK178.out) hb)
                    have n4_ := am (blk_below (g := gb183) (o := .cells #[u184000, .int .i64 x184001_1, .int .i64 x184002_1] 28 (0, 0)) (by (with_reducible repeat first|apply q1|apply q2|apply q3); exact BK183.out) hb)
                    have n5_ := am (blk_below (g := gb190) (o := .cells #[.slice none 0 0, .int .i64 0, .int .i64 0] 28 (0, 0)) (by (with_reducible repeat first|apply q1|apply q2|apply q3); exact BK190.out) hb)
                    have n6_ := am (below_step (by repeat (first | (with_reducible first | exact HB.out | apply b1|apply b2|apply b3 | refine below_set ?_ GE177.out | refine below_set ?_ GE178.out | refine below_set ?_ GE183.out | refine below_set ?_ GE190.out) | exact HB.out)) hb)
                    clear HO_184000
                    clear HO186
                    clear BK177
                    clear BK178
                    clear BK183
                    clear BK190
                    clear HB
                    have HO_184000 := n0_
                    have HO186 := n1_
                    have BK177 := n2_
                    have BK178 := n3_
                    have BK183 := n4_
                    have BK190 := n5_
                    have HB := n6_
                    clear n0_ n1_ n2_ n3_ n4_ n5_ n6_
                    (try clear hb)
                    (try clear hb2)
                    (try clear hk)
                    (try clear hi)
                    refine hK.out _ _ ⟨(blk_cell BK177.out 0).trans rfl, (blk_cell BK177.out 1).trans rfl, (blk_cell BK177.out 2).trans rfl, (blk_cell BK177.out 3).trans rfl⟩ (fun hHeld => ?_)
                    clear hK K
                    refine norm_ (a' := ?_) ?_ ?_
                    rotate_left
                    · show Act.put _ (some 27) _ = _
                      simp only [Act.put, List.setIfInBounds_toArray, List.set_cons_zero, List.set_cons_succ, i64_w, i32_w]
                      rfl
                    exact norm_ (by simp only [putAll, Act.put, List.setIfInBounds_toArray, List.set_cons_zero, List.set_cons_succ]) (hCont (.slice Ao27 t184.length co27, gb190) _ ⟨hHeld, (by (with_reducible repeat first|apply Kd.R_alloc|apply Kd.R_drewN|apply Kd.R_drew); exact Kd.R_mono HO186.out (fun _ hk => hk.2)), (by (with_reducible repeat first|apply Kd.R_alloc|apply Kd.R_drewN|apply Kd.R_drew); exact Kd.R_mono HO_184000.out (fun _ hk => hk.2)), (by (with_reducible repeat first|apply q1|apply q2|apply q3); exact BK177.out), (by (with_reducible repeat first|apply q1|apply q2|apply q3); exact BK178.out), (by (with_reducible repeat first|apply q1|apply q2|apply q3); exact BK183.out), (by (with_reducible repeat first|apply q1|apply q2|apply q3); exact BK190.out), GW190.out, GE190.out, NB177_190.out, NB190_177.out, NB178_190.out, NB190_178.out, NB183_190.out, NB190_183.out, (by repeat (first | (with_reducible first | exact HB.out | apply b1|apply b2|apply b3 | refine below_set ?_ GE177.out | refine below_set ?_ GE178.out | refine below_set ?_ GE183.out | refine below_set ?_ GE190.out) | exact HB.out))⟩)
                rintro ⟨v185, gb190⟩ w29 ⟨hS_, h0_, h1_, h2_, h3_, h4_, h5_, h6_, h7_, h8_, h9_, h10_, h11_, h12_, h13_, h14_⟩
                have n0_ : Aside0 (Kd.R (Kd.int .i64) 3 w29 w.heap.size (fun k_ => some k_ ≠ (u184000 : Value).ownBlock) v185 t184) := ⟨h0_⟩
                have n1_ : Aside0 (Kd.R (Kd.int .i64) 3 w29 w.heap.size (fun k_ => some k_ ≠ (v185 : Value).ownBlock) u184000 x184000_1) := ⟨h1_⟩
                have n2_ : Aside0 (w29.heap[gb177]? = some (.cells #[.slice A0_0 l0_0.length c0_0, .slice A0_1 l0_1.length c0_1, .slice A0_2 l0_2.length c0_2, .int .i64 a0_3] 25 (0, 0))) := ⟨h2_⟩
                have n3_ : Aside0 (w29.heap[gb178]? = some (.cells #[.slice none 0 0, .int .i64 0, .int .i64 0] 28 (0, 0))) := ⟨h3_⟩
                have n4_ : Aside0 (w29.heap[gb183]? = some (.cells #[u184000, .int .i64 x184001_1, .int .i64 x184002_1] 28 (0, 0))) := ⟨h4_⟩
                have n5_ : Aside0 (w29.heap[gb190]? = some (.cells #[.slice none 0 0, .int .i64 0, .int .i64 0] 28 (0, 0))) := ⟨h5_⟩
                have n6_ : Aside0 (w.heap.size ≤ gb190) := ⟨h6_⟩
                have n7_ : Aside0 (w.heap.size ≤ gb190) := ⟨h7_⟩
                have n8_ : Aside0 (gb177 ≠ gb190) := ⟨h8_⟩
                have n9_ : Aside0 (gb190 ≠ gb177) := ⟨h9_⟩
                have n10_ : Aside0 (gb178 ≠ gb190) := ⟨h10_⟩
                have n11_ : Aside0 (gb190 ≠ gb178) := ⟨h11_⟩
                have n12_ : Aside0 (gb183 ≠ gb190) := ⟨h12_⟩
                have n13_ : Aside0 (gb190 ≠ gb183) := ⟨h13_⟩
                have n14_ : Aside0 (Below w.heap.size w w29) := ⟨h14_⟩
                clear HO_184000
                clear BK177
                clear BK178
                clear BK183
                clear HB
                clear h0_ h1_ h2_ h3_ h4_ h5_ h6_ h7_ h8_ h9_ h10_ h11_ h12_ h13_ h14_
                have HO186 := n0_
                have HO_184000 := n1_
                have BK177 := n2_
                have BK178 := n3_
                have BK183 := n4_
                have BK190 := n5_
                have GW190 := n6_
                have GE190 := n7_
                have NB177_190 := n8_
                have NB190_177 := n9_
                have NB178_190 := n10_
                have NB190_178 := n11_
                have NB183_190 := n12_
                have NB190_183 := n13_
                have HB := n14_
                clear n0_ n1_ n2_ n3_ n4_ n5_ n6_ n7_ n8_ n9_ n10_ n11_ n12_ n13_ n14_
                have hHeld : w29.cell? ⟨gb177, 0, none⟩ = some (.slice A0_0 l0_0.length c0_0) ∧ w29.cell? ⟨gb177, 1, none⟩ = some (.slice A0_1 l0_1.length c0_1) ∧ w29.cell? ⟨gb177, 2, none⟩ = some (.slice A0_2 l0_2.length c0_2) ∧ w29.cell? ⟨gb177, 3, none⟩ = some (.int .i64 a0_3) := hS_
                obtain ⟨Ao30, co30, eo30⟩ := Kd.R_slice HO186.out
                (first | subst eo30 | (injection eo30 with f1_ f2_ f3_; have f4_ := f1_.symm; have f5_ := f3_.symm; clear f1_ f2_ f3_; subst f4_; subst f5_))
                refine norm_ (a' := ?_) ?_ ?_
                rotate_left
                · simp only [putAll, Act.put, List.setIfInBounds_toArray, List.set_cons_zero, List.set_cons_succ]
                  rfl
                refine one_ (i := 6) (N := none) #[true, true, true, true, true, true, true] rfl rfl (by kernel_rfl) (by decide) (fun K hK => ?_)
                have hs31 : w29.cell? ⟨gb190, 0, none⟩ = some (.slice none 0 0) := (blk_cell BK190.out 0).trans rfl
                have hfs31 := blk_frozen BK190.out 0
                have hns31_0 := NB177_190.out
                have hns31_1 := NB178_190.out
                have hns31_2 := NB183_190.out
                have hms31_0 := NB190_177.out
                have hms31_1 := NB190_178.out
                have hms31_2 := NB190_183.out
                have hs32 : w29.cell? ⟨gb190, 1, none⟩ = some (.int .i64 0) := (blk_cell BK190.out 1).trans rfl
                have hfs32 := blk_frozen BK190.out 1
                have hns32_0 := NB177_190.out
                have hns32_1 := NB178_190.out
                have hns32_2 := NB183_190.out
                have hms32_0 := NB190_177.out
                have hms32_1 := NB190_178.out
                have hms32_2 := NB190_183.out
                have hs33 : w29.cell? ⟨gb190, 2, none⟩ = some (.int .i64 0) := (blk_cell BK190.out 2).trans rfl
                have hfs33 := blk_frozen BK190.out 2
                have hns33_0 := NB177_190.out
                have hns33_1 := NB178_190.out
                have hns33_2 := NB183_190.out
                have hms33_0 := NB190_177.out
                have hms33_1 := NB190_178.out
                have hms33_2 := NB190_183.out
                refine skip_ (w1 := ?_) (by rfl) rfl ?_ ?_
                rotate_left
                · go_simp
                  rfl
                refine hK.out _ _ ⟨((cell_far (p := ⟨gb190, _, none⟩) NB177_190.out _).trans (((cell_far (p := ⟨gb190, _, none⟩) NB177_190.out _).trans (((cell_far (p := ⟨gb190, _, none⟩) NB177_190.out _).trans (hHeld.1)))))), ((cell_far (p := ⟨gb190, _, none⟩) NB177_190.out _).trans (((cell_far (p := ⟨gb190, _, none⟩) NB177_190.out _).trans (((cell_far (p := ⟨gb190, _, none⟩) NB177_190.out _).trans (hHeld.2.1)))))), ((cell_far (p := ⟨gb190, _, none⟩) NB177_190.out _).trans (((cell_far (p := ⟨gb190, _, none⟩) NB177_190.out _).trans (((cell_far (p := ⟨gb190, _, none⟩) NB177_190.out _).trans (hHeld.2.2.1)))))), ((cell_far (p := ⟨gb190, _, none⟩) NB177_190.out _).trans (((cell_far (p := ⟨gb190, _, none⟩) NB177_190.out _).trans (((cell_far (p := ⟨gb190, _, none⟩) NB177_190.out _).trans (hHeld.2.2.2))))))⟩ (fun hHeld => ?_)
                clear hK K
                refine done_ (by kernel_rfl) ?_
                have hnb34 := NB190_177.out
                have hnc34 := NB177_190.out
                have hnb35 := NB190_178.out
                have hnc35 := NB178_190.out
                have hnb36 := NB190_183.out
                have hnc36 := NB183_190.out
                obtain ⟨hcz37_0, hcz37_1, hcz37_2⟩ := c3 BK190.out
                obtain ⟨hfz37_0, hfz37_1, hfz37_2⟩ := z3 BK190.out
                have hnb38 := NB177_178.out
                have hnc38 := NB178_177.out
                have hnb39 := NB177_183.out
                have hnc39 := NB183_177.out
                obtain ⟨hcz40_0, hcz40_1, hcz40_2, hcz40_3⟩ := c4 BK177.out
                obtain ⟨hfz40_0, hfz40_1, hfz40_2, hfz40_3⟩ := z4 BK177.out
                have hnb41 := NB183_178.out
                have hnc41 := NB178_183.out
                obtain ⟨hcz42_0, hcz42_1, hcz42_2⟩ := c3 BK183.out
                obtain ⟨hfz42_0, hfz42_1, hfz42_2⟩ := z3 BK183.out
                obtain ⟨Ao43, co43, eo43⟩ := Kd.R_slice HO_184000.out
                subst eo43
                try go_wp2_with (first | (go_at_call 15; (with_reducible refine (diapasonref26_Better.calls k1 _ _ t184 t188 t189 _ _ x184000_1 x184001_1 x184002_1 true _ ?side1 ?side2 ?side3 ?side4 A22.out).mono ?_); (case side1 => refine (Kd.R_reads' (e := 3) (base := w.heap.size) (ok := fun k_ => some k_ ≠ (.slice Ao43 x184000_1.length co43 : Value).ownBlock) (n := t184.length) (c := co30) ?_).2.2; exact (by (with_reducible repeat first|apply Kd.R_alloc|apply Kd.R_drewN|apply Kd.R_drew); exact (Kd.R_mono (Kd.R_far (p := ⟨gb190, 2, none⟩) (Kd.R_far (p := ⟨gb190, 1, none⟩) (Kd.R_far (p := ⟨gb190, 0, none⟩) (Kd.R_types HO186.out BK190.out (by decide)) (fun _ hk => hk.2) (.slice Ao30 t184.length co30)) (fun _ hk => hk.2) (.int .i64 t188)) (fun _ hk => hk.2) (.int .i64 t189)) (fun _ h_ => h_.1)))); (case side2 => exact (Kd.R_reads' HO186.out).2.1); (case side3 => refine (Kd.R_reads' (e := 3) (base := w.heap.size) (ok := fun k_ => some k_ ≠ (.slice Ao30 t184.length co30 : Value).ownBlock) (n := x184000_1.length) (c := co43) ?_).2.2; exact (by (with_reducible repeat first|apply Kd.R_alloc|apply Kd.R_drewN|apply Kd.R_drew); exact (Kd.R_mono (Kd.R_far (p := ⟨gb190, 2, none⟩) (Kd.R_far (p := ⟨gb190, 1, none⟩) (Kd.R_far (p := ⟨gb190, 0, none⟩) (Kd.R_types HO_184000.out BK190.out (by decide)) (fun _ hk => hk.2) (.slice Ao30 t184.length co30)) (fun _ hk => hk.2) (.int .i64 t188)) (fun _ hk => hk.2) (.int .i64 t189)) (fun _ h_ => h_.1)))); (case side4 => exact (Kd.R_reads' HO_184000.out).2.1); rintro e w44 ⟨rfl, hb⟩; have n0_ := am (Kd.R_below (by (with_reducible repeat first|apply Kd.R_alloc|apply Kd.R_drewN|apply Kd.R_drew); exact (Kd.R_mono (Kd.R_far (p := ⟨gb190, 2, none⟩) (Kd.R_far (p := ⟨gb190, 1, none⟩) (Kd.R_far (p := ⟨gb190, 0, none⟩) (Kd.R_types HO_184000.out BK190.out (by decide)) (fun _ hk => hk.2) (.slice Ao30 t184.length co30)) (fun _ hk => hk.2) (.int .i64 t188)) (fun _ hk => hk.2) (.int .i64 t189)) (fun _ h_ => h_.1))) hb); have n1_ := am (Kd.R_below (by (with_reducible repeat first|apply Kd.R_alloc|apply Kd.R_drewN|apply Kd.R_drew); exact (Kd.R_mono (Kd.R_far (p := ⟨gb190, 2, none⟩) (Kd.R_far (p := ⟨gb190, 1, none⟩) (Kd.R_far (p := ⟨gb190, 0, none⟩) (Kd.R_types HO186.out BK190.out (by decide)) (fun _ hk => hk.2) (.slice Ao30 t184.length co30)) (fun _ hk => hk.2) (.int .i64 t188)) (fun _ hk => hk.2) (.int .i64 t189)) (fun _ h_ => h_.1))) hb); have n2_ := am (blk_below (g := gb177) (o := .cells #[.slice A0_0 l0_0.length c0_0, .slice A0_1 l0_1.length c0_1, .slice A0_2 l0_2.length c0_2, .int .i64 a0_3] 25 (0, 0)) (by (with_reducible repeat first|apply q1|apply q2|apply q3); refine blk_far ?_ NB177_190.out _; (with_reducible repeat first|apply q1|apply q2|apply q3); refine blk_far ?_ NB177_190.out _; (with_reducible repeat first|apply q1|apply q2|apply q3); refine blk_far ?_ NB177_190.out _; (with_reducible repeat first|apply q1|apply q2|apply q3); exact BK177.out) hb); have n3_ := am (blk_below (g := gb178) (o := .cells #[.slice none 0 0, .int .i64 0, .int .i64 0] 28 (0, 0)) (by (with_reducible repeat first|apply q1|apply q2|apply q3); refine blk_far ?_ NB178_190.out _; (with_reducible repeat first|apply q1|apply q2|apply q3); refine blk_far ?_ NB178_190.out _; (with_reducible repeat first|apply q1|apply q2|apply q3); refine blk_far ?_ NB178_190.out _; (with_reducible repeat first|apply q1|apply q2|apply q3); exact BK178.out) hb); have n4_ := am (blk_below (g := gb183) (o := .cells #[.slice Ao43 x184000_1.length co43, .int .i64 x184001_1, .int .i64 x184002_1] 28 (0, 0)) (by (with_reducible repeat first|apply q1|apply q2|apply q3); refine blk_far ?_ NB183_190.out _; (with_reducible repeat first|apply q1|apply q2|apply q3); refine blk_far ?_ NB183_190.out _; (with_reducible repeat first|apply q1|apply q2|apply q3); refine blk_far ?_ NB183_190.out _; (with_reducible repeat first|apply q1|apply q2|apply q3); exact BK183.out) hb); have n5_ := am (blk_below (g := gb190) (o := .cells #[.slice Ao30 t184.length co30, .int .i64 t188, .int .i64 t189] 28 (0, 0)) (by (with_reducible repeat first|apply q1|apply q2|apply q3); refine blk_put (cs := #[.slice Ao30 t184.length co30, .int .i64 t188, .int .i64 0]) ?_ 2 _ rfl; (with_reducible repeat first|apply q1|apply q2|apply q3); refine blk_put (cs := #[.slice Ao30 t184.length co30, .int .i64 0, .int .i64 0]) ?_ 1 _ rfl; (with_reducible repeat first|apply q1|apply q2|apply q3); refine blk_put (cs := #[.slice none 0 0, .int .i64 0, .int .i64 0]) ?_ 0 _ rfl; (with_reducible repeat first|apply q1|apply q2|apply q3); exact BK190.out) hb); have n6_ := am (below_step (by repeat (first | (with_reducible first | exact HB.out | apply b1|apply b2|apply b3 | refine below_set ?_ GE177.out | refine below_set ?_ GE178.out | refine below_set ?_ GE183.out | refine below_set ?_ GE190.out) | exact HB.out)) hb); clear HO_184000; clear HO186; clear BK177; clear BK178; clear BK183; clear BK190; clear HB; have HO_184000 := n0_; have HO186 := n1_; have BK177 := n2_; have BK178 := n3_; have BK183 := n4_; have BK190 := n5_; have HB := n6_; clear n0_ n1_ n2_ n3_ n4_ n5_ n6_; (try clear hb);(try clear hb2);(try clear hk);(try clear hi); obtain ⟨hcz45_0, hcz45_1, hcz45_2⟩ := c3 BK190.out; obtain ⟨hfz45_0, hfz45_1, hfz45_2⟩ := z3 BK190.out; obtain ⟨hcz46_0, hcz46_1, hcz46_2⟩ := c3 BK183.out; obtain ⟨hfz46_0, hfz46_1, hfz46_2⟩ := z3 BK183.out))
                go_roundg k1
                case measure => have := HK1.out; omega
                case rel => exact ⟨(wrap64 (x6_1 + 1)), (t184), (t188), (t189), (.slice Ao30 t184.length co30), (by first | rfl | (simp; done) | (simp [*]; done)), H', ⟨by have := HK1.out; omega⟩, ⟨by (with_reducible repeat first|apply Kd.R_alloc|apply Kd.R_drewN|apply Kd.R_drew); exact Kd.R_mono (Kd.R_far (p := ⟨gb183, 2, none⟩) (Kd.R_far (p := ⟨gb183, 1, none⟩) (Kd.R_far (p := ⟨gb183, 0, none⟩) (Kd.R_types HO186.out BK183.out (by decide)) (fun _ hk => hk.2) (.slice Ao30 t184.length co30)) (fun _ hk => hk.2) (.int .i64 t188)) (fun _ hk => hk.2) (.int .i64 t189)) (fun _ hk => trivial)⟩, ⟨by (with_reducible repeat first|apply q1|apply q2|apply q3); refine blk_far ?_ NB177_183.out _; (with_reducible repeat first|apply q1|apply q2|apply q3); refine blk_far ?_ NB177_183.out _; (with_reducible repeat first|apply q1|apply q2|apply q3); refine blk_far ?_ NB177_183.out _; (with_reducible repeat first|apply q1|apply q2|apply q3); exact BK177.out⟩, ⟨by (with_reducible repeat first|apply q1|apply q2|apply q3); refine blk_far ?_ NB178_183.out _; (with_reducible repeat first|apply q1|apply q2|apply q3); refine blk_far ?_ NB178_183.out _; (with_reducible repeat first|apply q1|apply q2|apply q3); refine blk_far ?_ NB178_183.out _; (with_reducible repeat first|apply q1|apply q2|apply q3); exact BK178.out⟩, ⟨by (with_reducible repeat first|apply q1|apply q2|apply q3); refine blk_put (cs := #[.slice Ao30 t184.length co30, .int .i64 t188, .int .i64 x184002_1]) ?_ 2 _ rfl; (with_reducible repeat first|apply q1|apply q2|apply q3); refine blk_put (cs := #[.slice Ao30 t184.length co30, .int .i64 x184001_1, .int .i64 x184002_1]) ?_ 1 _ rfl; (with_reducible repeat first|apply q1|apply q2|apply q3); refine blk_put (cs := #[.slice Ao43 x184000_1.length co43, .int .i64 x184001_1, .int .i64 x184002_1]) ?_ 0 _ rfl; (with_reducible repeat first|apply q1|apply q2|apply q3); exact BK183.out⟩, ⟨by repeat (first | (with_reducible first | exact HB.out | apply b1|apply b2|apply b3 | refine below_set ?_ GE177.out | refine below_set ?_ GE178.out | refine below_set ?_ GE183.out | refine below_set ?_ GE190.out) | exact HB.out)⟩⟩
              · replace c23 := Bool.eq_false_iff.mpr c23
                subst c23
                have H1 : (diapasonref26_Best.l0 k1 (l0_1.length : Int) (wrap64 (x6_1 + 1)) l0_0 l0_1 l0_2 a0_3 x184000_1 x184001_1 x184002_1) = some (r1, r2, r3, r4) := by rw [if_neg (show ¬ (false = true) by decide)] at H; exact H
                clear H
                have H := H1
                clear H1
                have H' := am H
                clear H
                try go_wp2
                have n0_ := am (Kd.R_drew HO_184000.out)
                have n1_ := am (blk_drew BK177.out)
                have n2_ := am (blk_drew BK178.out)
                have n3_ := am (blk_drew BK183.out)
                have n4_ := am (below_drew1 HB.out)
                clear HO_184000
                clear BK177
                clear BK178
                clear BK183
                clear HB
                have HO_184000 := n0_
                have BK177 := n1_
                have BK178 := n2_
                have BK183 := n3_
                have HB := n4_
                clear n0_ n1_ n2_ n3_ n4_
                refine start_ (n := 7) (S := fun w' => w'.cell? ⟨gb177, 0, none⟩ = some (.slice A0_0 l0_0.length c0_0) ∧ w'.cell? ⟨gb177, 1, none⟩ = some (.slice A0_1 l0_1.length c0_1) ∧ w'.cell? ⟨gb177, 2, none⟩ = some (.slice A0_2 l0_2.length c0_2) ∧ w'.cell? ⟨gb177, 3, none⟩ = some (.int .i64 a0_3)) (ds := []) #[false, false, false, false, false, false, false] (by kernel_rfl) rfl rfl ⟨(blk_cell BK177.out 0).trans rfl, (blk_cell BK177.out 1).trans rfl, (blk_cell BK177.out 2).trans rfl, (blk_cell BK177.out 3).trans rfl⟩ (fun hHeld => ?_)
                generalize wr.drew = w47 at HO_184000 BK177 BK178 BK183 HB hHeld ⊢
                refine pure_ (i := 1) (N := some 24) (v := ?_) (a' := ?_) #[false, true, false, false, false, false, false] rfl rfl (by kernel_rfl) (fun _ _ _ h => h) (Or.inl ⟨by rfl, ?_⟩) ?_ ?_
                rotate_left
                · intro w'
                  go_simp
                  with_reducible rfl
                rotate_left
                · simp only [Act.put, List.setIfInBounds_toArray, List.set_cons_zero, List.set_cons_succ, i64_w, i32_w]
                  rfl
                refine pure_ (i := 2) (N := some 25) (v := ?_) (a' := ?_) #[false, true, true, false, false, false, false] rfl rfl (by kernel_rfl) (fun _ _ _ h => h) (Or.inl ⟨by rfl, ?_⟩) ?_ ?_
                rotate_left
                · intro w'
                  go_simp
                  with_reducible rfl
                rotate_left
                · simp only [Act.put, List.setIfInBounds_toArray, List.set_cons_zero, List.set_cons_succ, i64_w, i32_w]
                  rfl
                refine take_ (i := 0) (N := some 23) (v := ?_) (a' := ?_) #[true, true, true, false, false, false, false] rfl rfl (by kernel_rfl) (fun _ _ _ h => h) (Or.inl ⟨by rfl, ?_⟩) hHeld ?_ ?_
                rotate_left
                · rintro w' ⟨s0, s1, s2, s3⟩
                  go_simp
                  with_reducible rfl
                rotate_left
                · simp only [Act.put, List.setIfInBounds_toArray, List.set_cons_zero, List.set_cons_succ, i64_w, i32_w]
                  rfl
                refine join_ (σ := Value × Nat) 1 #[true, true, true, true, true, true, false] (fun s_ => [(26, s_.1), (27, .agg #[s_.1, .int .i64 t188, .int .i64 t189]), (7, .pointer (some ⟨s_.2, 0, none⟩))]) (fun s_ w' => (w'.cell? ⟨gb177, 0, none⟩ = some (.slice A0_0 l0_0.length c0_0) ∧ w'.cell? ⟨gb177, 1, none⟩ = some (.slice A0_1 l0_1.length c0_1) ∧ w'.cell? ⟨gb177, 2, none⟩ = some (.slice A0_2 l0_2.length c0_2) ∧ w'.cell? ⟨gb177, 3, none⟩ = some (.int .i64 a0_3)) ∧ (Kd.R (Kd.int .i64) 3 w' w.heap.size (fun k_ => some k_ ≠ (u184000 : Value).ownBlock) s_.1 t184) ∧ (Kd.R (Kd.int .i64) 3 w' w.heap.size (fun k_ => some k_ ≠ (s_.1 : Value).ownBlock) u184000 x184000_1) ∧ (w'.heap[gb177]? = some (.cells #[.slice A0_0 l0_0.length c0_0, .slice A0_1 l0_1.length c0_1, .slice A0_2 l0_2.length c0_2, .int .i64 a0_3] 25 (0, 0))) ∧ (w'.heap[gb178]? = some (.cells #[.slice none 0 0, .int .i64 0, .int .i64 0] 28 (0, 0))) ∧ (w'.heap[gb183]? = some (.cells #[u184000, .int .i64 x184001_1, .int .i64 x184002_1] 28 (0, 0))) ∧ (w'.heap[s_.2]? = some (.cells #[.slice none 0 0, .int .i64 0, .int .i64 0] 28 (0, 0))) ∧ (w.heap.size ≤ s_.2) ∧ (w.heap.size ≤ s_.2) ∧ (gb177 ≠ s_.2) ∧ (s_.2 ≠ gb177) ∧ (gb178 ≠ s_.2) ∧ (s_.2 ≠ gb178) ∧ (gb183 ≠ s_.2) ∧ (s_.2 ≠ gb183) ∧ (Below w.heap.size w w')) ?_ ?_
                rotate_left
                · intro hCont
                  refine two_ (i := 3) (j := 5) (Ni := some 26) (Nj := some 7) #[true, true, true, true, false, false, false] #[true, true, true, false, false, true, false] rfl rfl rfl rfl (by kernel_rfl) (by decide) (by decide) (fun K hK => ?_) (fun K hK => ?_)
                  · skip
                    refine goes_ Try.func31 (by kernel_rfl) rfl #[.int .i64 (l0_1.length : Int), .int .i64 x6_1] (by rfl) rfl rfl (by (try simp only [List.map_toArray, List.map_cons, List.map_nil]); first | done | rfl | (simp only [List.length_drop, List.length_take]; rfl)) ?_
                    with_reducible refine (diapasonref26_Stops.calls k1 (l0_1.length : Int) x6_1 t184 _ A19.out).mono ?_
                    rintro e w48 ⟨v185, rfl, ho0, hb⟩
                    refine ⟨_, rfl, ?_⟩
                    have n0_ := am (Kd.R_elder' (by (with_reducible repeat first|apply Kd.R_alloc|apply Kd.R_drewN|apply Kd.R_drew); exact HO_184000.out) (Kd.R_base ho0) hb)
                    have n1_ := am (Kd.R_lower (Kd.R_new' ho0 (Kd.R_lt (by (with_reducible repeat first|apply Kd.R_alloc|apply Kd.R_drewN|apply Kd.R_drew); exact HO_184000.out))) (below_size (by repeat (first | (with_reducible first | exact HB.out | apply b1|apply b2|apply b3 | refine below_set ?_ GE177.out | refine below_set ?_ GE178.out | refine below_set ?_ GE183.out) | exact HB.out))))
                    have n2_ := am (blk_below (g := gb177) (o := .cells #[.slice A0_0 l0_0.length c0_0, .slice A0_1 l0_1.length c0_1, .slice A0_2 l0_2.length c0_2, .int .i64 a0_3] 25 (0, 0)) (by (with_reducible repeat first|apply q1|apply q2|apply q3); exact BK177.out) hb)
                    have n3_ := am (blk_below (g := gb178) (o := .cells #[.slice none 0 0, .int .i64 0, .int .i64 0] 28 (0, 0)) (by (with_reducible repeat first|apply q1|apply q2|apply q3); exact BK178.out) hb)
                    have n4_ := am (blk_below (g := gb183) (o := .cells #[u184000, .int .i64 x184001_1, .int .i64 x184002_1] 28 (0, 0)) (by (with_reducible repeat first|apply q1|apply q2|apply q3); exact BK183.out) hb)
                    have n5_ := am (below_step (by repeat (first | (with_reducible first | exact HB.out | apply b1|apply b2|apply b3 | refine below_set ?_ GE177.out | refine below_set ?_ GE178.out | refine below_set ?_ GE183.out) | exact HB.out)) hb)
                    clear HO_184000
                    clear BK177
                    clear BK178
                    clear BK183
                    clear HB
                    have HO_184000 := n0_
                    have HO186 := n1_
                    have BK177 := n2_
                    have BK178 := n3_
                    have BK183 := n4_
                    have HB := n5_
                    clear n0_ n1_ n2_ n3_ n4_ n5_
                    (try clear hb)
                    (try clear hb2)
                    (try clear hk)
                    (try clear hi)
                    (try clear ho0)
                    obtain ⟨Ao49, co49, eo49⟩ := Kd.R_slice HO186.out
                    (first | subst eo49 | (injection eo49 with f1_ f2_ f3_; have f4_ := f1_.symm; have f5_ := f3_.symm; clear f1_ f2_ f3_; subst f4_; subst f5_))
                    refine hK.out _ _ ⟨(blk_cell BK177.out 0).trans rfl, (blk_cell BK177.out 1).trans rfl, (blk_cell BK177.out 2).trans rfl, (blk_cell BK177.out 3).trans rfl⟩ (fun hHeld => ?_)
                    clear hK K
                    refine norm_ (a' := ?_) ?_ ?_
                    rotate_left
                    · show Act.put _ (some 26) _ = _
                      simp only [Act.put, List.setIfInBounds_toArray, List.set_cons_zero, List.set_cons_succ, i64_w, i32_w]
                      rfl
                    refine two_ (i := 4) (j := 5) (Ni := some 27) (Nj := some 7) #[true, true, true, true, true, false, false] #[true, true, true, true, false, true, false] rfl rfl rfl rfl (by kernel_rfl) (by decide) (by decide) (fun K hK => ?_) (fun K hK => ?_)
                    · skip
                      refine goes_ Try.func30 (by kernel_rfl) rfl #[.agg #[.slice A0_0 l0_0.length c0_0, .slice A0_1 l0_1.length c0_1, .slice A0_2 l0_2.length c0_2, .int .i64 a0_3], .slice Ao49 t184.length co49] (by rfl) rfl rfl (by (try simp only [List.map_toArray, List.map_cons, List.map_nil]); first | done | rfl | (simp only [List.length_drop, List.length_take]; rfl)) ?_
                      with_reducible refine (diapasonref26_Choice.calls k1 _ _ l0_0 _ _ l0_1 _ _ l0_2 a0_3 _ _ t184 t187 t188 t189 _ ?side1 ?side2 ?side3 ?side4 ?side5 ?side6 ?side7 ?side8 A20.out).mono ?_
                      (case side1 => repeat (first | exact (Kd.C_below HR0_0.out HB.out) | (with_reducible refine Kd.C_alloc ?_ _) | (with_reducible refine Kd.C_drewN ?_ _) | (with_reducible refine Kd.C_drew ?_)))
                      (case side2 => exact HC0_0.out)
                      (case side3 => repeat (first | exact (Kd.C_below HR0_1.out HB.out) | (with_reducible refine Kd.C_alloc ?_ _) | (with_reducible refine Kd.C_drewN ?_ _) | (with_reducible refine Kd.C_drew ?_)))
                      (case side4 => exact HC0_1.out)
                      (case side5 => repeat (first | exact (Kd.C_below HR0_2.out HB.out) | (with_reducible refine Kd.C_alloc ?_ _) | (with_reducible refine Kd.C_drewN ?_ _) | (with_reducible refine Kd.C_drew ?_)))
                      (case side6 => exact HC0_2.out)
                      (case side7 => repeat (first | exact (Kd.R_reads' HO186.out).2.2 | (with_reducible refine Kd.C_alloc ?_ _) | (with_reducible refine Kd.C_drewN ?_ _) | (with_reducible refine Kd.C_drew ?_)))
                      (case side8 => exact (Kd.R_reads' HO186.out).2.1)
                      rintro e w50 ⟨rfl, hb⟩
                      refine ⟨_, rfl, ?_⟩
                      have n0_ := am (Kd.R_below (by (with_reducible repeat first|apply Kd.R_alloc|apply Kd.R_drewN|apply Kd.R_drew); exact HO_184000.out) hb)
                      have n1_ := am (Kd.R_below (by (with_reducible repeat first|apply Kd.R_alloc|apply Kd.R_drewN|apply Kd.R_drew); exact HO186.out) hb)
                      have n2_ := am (blk_below (g := gb177) (o := .cells #[.slice A0_0 l0_0.length c0_0, .slice A0_1 l0_1.length c0_1, .slice A0_2 l0_2.length c0_2, .int .i64 a0_3] 25 (0, 0)) (by (with_reducible repeat first|apply q1|apply q2|apply q3); exact BK177.out) hb)
                      have n3_ := am (blk_below (g := gb178) (o := .cells #[.slice none 0 0, .int .i64 0, .int .i64 0] 28 (0, 0)) (by (with_reducible repeat first|apply q1|apply q2|apply q3); exact BK178.out) hb)
                      have n4_ := am (blk_below (g := gb183) (o := .cells #[u184000, .int .i64 x184001_1, .int .i64 x184002_1] 28 (0, 0)) (by (with_reducible repeat first|apply q1|apply q2|apply q3); exact BK183.out) hb)
                      have n5_ := am (below_step (by repeat (first | (with_reducible first | exact HB.out | apply b1|apply b2|apply b3 | refine below_set ?_ GE177.out | refine below_set ?_ GE178.out | refine below_set ?_ GE183.out) | exact HB.out)) hb)
                      clear HO_184000
                      clear HO186
                      clear BK177
                      clear BK178
                      clear BK183
                      clear HB
                      have HO_184000 := n0_
                      have HO186 := n1_
                      have BK177 := n2_
                      have BK178 := n3_
                      have BK183 := n4_
                      have HB := n5_
                      clear n0_ n1_ n2_ n3_ n4_ n5_
                      (try clear hb)
                      (try clear hb2)
                      (try clear hk)
                      (try clear hi)
                      refine hK.out _ _ ⟨(blk_cell BK177.out 0).trans rfl, (blk_cell BK177.out 1).trans rfl, (blk_cell BK177.out 2).trans rfl, (blk_cell BK177.out 3).trans rfl⟩ (fun hHeld => ?_)
                      clear hK K
                      refine norm_ (a' := ?_) ?_ ?_
                      rotate_left
                      · show Act.put _ (some 27) _ = _
                        simp only [Act.put, List.setIfInBounds_toArray, List.set_cons_zero, List.set_cons_succ, i64_w, i32_w]
                        rfl
                      refine one_ (i := 5) (N := some 7) #[true, true, true, true, true, true, false] rfl rfl (by kernel_rfl) (by decide) (fun K hK => ?_)
                      refine box_step ?hg (N := 7) ?hd (cs := #[.slice none 0 0, .int .i64 0, .int .i64 0]) (t := 28) ?hr ?_; (case hd => rfl); (case hg => rfl); (case hr => first | (go_simp; done) | (go_simp; rfl))
                      intro gb190 hg w51 hbox hb
                      have n0_ := am (Kd.R_below (by (with_reducible repeat first|apply Kd.R_alloc|apply Kd.R_drewN|apply Kd.R_drew); exact HO_184000.out) hb)
                      have n1_ := am (Kd.R_below (by (with_reducible repeat first|apply Kd.R_alloc|apply Kd.R_drewN|apply Kd.R_drew); exact HO186.out) hb)
                      have n2_ := am (blk_below (g := gb177) (o := .cells #[.slice A0_0 l0_0.length c0_0, .slice A0_1 l0_1.length c0_1, .slice A0_2 l0_2.length c0_2, .int .i64 a0_3] 25 (0, 0)) (by (with_reducible repeat first|apply q1|apply q2|apply q3); exact BK177.out) hb)
                      have n3_ := am (blk_below (g := gb178) (o := .cells #[.slice none 0 0, .int .i64 0, .int .i64 0] 28 (0, 0)) (by (with_reducible repeat first|apply q1|apply q2|apply q3); exact BK178.out) hb)
                      have n4_ := am (blk_below (g := gb183) (o := .cells #[u184000, .int .i64 x184001_1, .int .i64 x184002_1] 28 (0, 0)) (by (with_reducible repeat first|apply q1|apply q2|apply q3); exact BK183.out) hb)
                      have n5_ := am (below_step (by repeat (first | (with_reducible first | exact HB.out | apply b1|apply b2|apply b3 | refine below_set ?_ GE177.out | refine below_set ?_ GE178.out | refine below_set ?_ GE183.out) | exact HB.out)) hb)
                      have n6_ := am (hbox)
                      have n7_ := am ((by rw [hg]; exact (below_size (by repeat (first | (with_reducible first | exact HB.out | apply b1|apply b2|apply b3 | refine below_set ?_ GE177.out | refine below_set ?_ GE178.out | refine below_set ?_ GE183.out) | exact HB.out))) : w.heap.size ≤ gb190))
                      have n8_ := am ((by rw [hg]; exact (below_size (by repeat (first | (with_reducible first | exact HB.out | apply b1|apply b2|apply b3 | refine below_set ?_ GE177.out | refine below_set ?_ GE178.out | refine below_set ?_ GE183.out) | exact HB.out))) : w.heap.size ≤ gb190))
                      have n9_ := am ((by rw [hg]; exact Nat.ne_of_lt (blk_lt (g := gb177) (o := .cells #[.slice A0_0 l0_0.length c0_0, .slice A0_1 l0_1.length c0_1, .slice A0_2 l0_2.length c0_2, .int .i64 a0_3] 25 (0, 0)) (by (with_reducible repeat first|apply q1|apply q2|apply q3); exact BK177.out)) : gb177 ≠ gb190))
                      have n10_ := am ((by rw [hg]; exact Nat.ne_of_gt (blk_lt (g := gb177) (o := .cells #[.slice A0_0 l0_0.length c0_0, .slice A0_1 l0_1.length c0_1, .slice A0_2 l0_2.length c0_2, .int .i64 a0_3] 25 (0, 0)) (by (with_reducible repeat first|apply q1|apply q2|apply q3); exact BK177.out)) : gb190 ≠ gb177))
                      have n11_ := am ((by rw [hg]; exact Nat.ne_of_lt (blk_lt (g := gb178) (o := .cells #[.slice none 0 0, .int .i64 0, .int .i64 0] 28 (0, 0)) (by (with_reducible repeat first|apply q1|apply q2|apply q3); exact BK178.out)) : gb178 ≠ gb190))
                      have n12_ := am ((by rw [hg]; exact Nat.ne_of_gt (blk_lt (g := gb178) (o := .cells #[.slice none 0 0, .int .i64 0, .int .i64 0] 28 (0, 0)) (by (with_reducible repeat first|apply q1|apply q2|apply q3); exact BK178.out)) : gb190 ≠ gb178))
                      have n13_ := am ((by rw [hg]; exact Nat.ne_of_lt (blk_lt (g := gb183) (o := .cells #[u184000, .int .i64 x184001_1, .int .i64 x184002_1] 28 (0, 0)) (by (with_reducible repeat first|apply q1|apply q2|apply q3); exact BK183.out)) : gb183 ≠ gb190))
                      have n14_ := am ((by rw [hg]; exact Nat.ne_of_gt (blk_lt (g := gb183) (o := .cells #[u184000, .int .i64 x184001_1, .int .i64 x184002_1] 28 (0, 0)) (by (with_reducible repeat first|apply q1|apply q2|apply q3); exact BK183.out)) : gb190 ≠ gb183))
                      clear HO_184000
                      clear HO186
                      clear BK177
                      clear BK178
                      clear BK183
                      clear HB
                      have HO_184000 := n0_
                      have HO186 := n1_
                      have BK177 := n2_
                      have BK178 := n3_
                      have BK183 := n4_
                      have HB := n5_
                      have BK190 := n6_
                      have GW190 := n7_
                      have GE190 := n8_
                      have NB177_190 := n9_
                      have NB190_177 := n10_
                      have NB178_190 := n11_
                      have NB190_178 := n12_
                      have NB183_190 := n13_
                      have NB190_183 := n14_
                      clear n0_ n1_ n2_ n3_ n4_ n5_ n6_ n7_ n8_ n9_ n10_ n11_ n12_ n13_ n14_
                      clear hb hbox hg
                      refine hK.out _ _ ⟨(blk_cell BK177.out 0).trans rfl, (blk_cell BK177.out 1).trans rfl, (blk_cell BK177.out 2).trans rfl, (blk_cell BK177.out 3).trans rfl⟩ (fun hHeld => ?_)
                      clear hK K
                      refine norm_ (a' := ?_) ?_ ?_
                      rotate_left
                      · show Act.put _ (some 7) _ = _
                        simp only [Act.put, List.setIfInBounds_toArray, List.set_cons_zero, List.set_cons_succ, i64_w, i32_w]
                        rfl
                      exact norm_ (by simp only [putAll, Act.put, List.setIfInBounds_toArray, List.set_cons_zero, List.set_cons_succ]) (hCont (.slice Ao49 t184.length co49, gb190) _ ⟨hHeld, (by (with_reducible repeat first|apply Kd.R_alloc|apply Kd.R_drewN|apply Kd.R_drew); exact Kd.R_mono HO186.out (fun _ hk => hk.2)), (by (with_reducible repeat first|apply Kd.R_alloc|apply Kd.R_drewN|apply Kd.R_drew); exact Kd.R_mono HO_184000.out (fun _ hk => hk.2)), (by (with_reducible repeat first|apply q1|apply q2|apply q3); exact BK177.out), (by (with_reducible repeat first|apply q1|apply q2|apply q3); exact BK178.out), (by (with_reducible repeat first|apply q1|apply q2|apply q3); exact BK183.out), (by (with_reducible repeat first|apply q1|apply q2|apply q3); exact BK190.out), GW190.out, GE190.out, NB177_190.out, NB190_177.out, NB178_190.out, NB190_178.out, NB183_190.out, NB190_183.out, (by repeat (first | (with_reducible first | exact HB.out | apply b1|apply b2|apply b3 | refine below_set ?_ GE177.out | refine below_set ?_ GE178.out | refine below_set ?_ GE183.out | refine below_set ?_ GE190.out) | exact HB.out))⟩)
                    · skip
                      refine box_step ?hg (N := 7) ?hd (cs := #[.slice none 0 0, .int .i64 0, .int .i64 0]) (t := 28) ?hr ?_; (case hd => rfl); (case hg => rfl); (case hr => first | (go_simp; done) | (go_simp; rfl))
                      intro gb190 hg w49 hbox hb
                      have n0_ := am (Kd.R_below (by (with_reducible repeat first|apply Kd.R_alloc|apply Kd.R_drewN|apply Kd.R_drew); exact HO_184000.out) hb)
                      have n1_ := am (Kd.R_below (by (with_reducible repeat first|apply Kd.R_alloc|apply Kd.R_drewN|apply Kd.R_drew); exact HO186.out) hb)
                      have n2_ := am (blk_below (g := gb177) (o := .cells #[.slice A0_0 l0_0.length c0_0, .slice A0_1 l0_1.length c0_1, .slice A0_2 l0_2.length c0_2, .int .i64 a0_3] 25 (0, 0)) (by (with_reducible repeat first|apply q1|apply q2|apply q3); exact BK177.out) hb)
                      have n3_ := am (blk_below (g := gb178) (o := .cells #[.slice none 0 0, .int .i64 0, .int .i64 0] 28 (0, 0)) (by (with_reducible repeat first|apply q1|apply q2|apply q3); exact BK178.out) hb)
                      have n4_ := am (blk_below (g := gb183) (o := .cells #[u184000, .int .i64 x184001_1, .int .i64 x184002_1] 28 (0, 0)) (by (with_reducible repeat first|apply q1|apply q2|apply q3); exact BK183.out) hb)
                      have n5_ := am (below_step (by repeat (first | (with_reducible first | exact HB.out | apply b1|apply b2|apply b3 | refine below_set ?_ GE177.out | refine below_set ?_ GE178.out | refine below_set ?_ GE183.out) | exact HB.out)) hb)
                      have n6_ := am (hbox)
                      have n7_ := am ((by rw [hg]; exact (below_size (by repeat (first | (with_reducible first | exact HB.out | apply b1|apply b2|apply b3 | refine below_set ?_ GE177.out | refine below_set ?_ GE178.out | refine below_set ?_ GE183.out) | exact HB.out))) : w.heap.size ≤ gb190))
                      have n8_ := am ((by rw [hg]; exact (below_size (by repeat (first | (with_reducible first | exact HB.out | apply b1|apply b2|apply b3 | refine below_set ?_ GE177.out | refine below_set ?_ GE178.out | refine below_set ?_ GE183.out) | exact HB.out))) : w.heap.size ≤ gb190))
                      have n9_ := am ((by rw [hg]; exact Nat.ne_of_lt (blk_lt (g := gb177) (o := .cells #[.slice A0_0 l0_0.length c0_0, .slice A0_1 l0_1.length c0_1, .slice A0_2 l0_2.length c0_2, .int .i64 a0_3] 25 (0, 0)) (by (with_reducible repeat first|apply q1|apply q2|apply q3); exact BK177.out)) : gb177 ≠ gb190))
                      have n10_ := am ((by rw [hg]; exact Nat.ne_of_gt (blk_lt (g := gb177) (o := .cells #[.slice A0_0 l0_0.length c0_0, .slice A0_1 l0_1.length c0_1, .slice A0_2 l0_2.length c0_2, .int .i64 a0_3] 25 (0, 0)) (by (with_reducible repeat first|apply q1|apply q2|apply q3); exact BK177.out)) : gb190 ≠ gb177))
                      have n11_ := am ((by rw [hg]; exact Nat.ne_of_lt (blk_lt (g := gb178) (o := .cells #[.slice none 0 0, .int .i64 0, .int .i64 0] 28 (0, 0)) (by (with_reducible repeat first|apply q1|apply q2|apply q3); exact BK178.out)) : gb178 ≠ gb190))
                      have n12_ := am ((by rw [hg]; exact Nat.ne_of_gt (blk_lt (g := gb178) (o := .cells #[.slice none 0 0, .int .i64 0, .int .i64 0] 28 (0, 0)) (by (with_reducible repeat first|apply q1|apply q2|apply q3); exact BK178.out)) : gb190 ≠ gb178))
                      have n13_ := am ((by rw [hg]; exact Nat.ne_of_lt (blk_lt (g := gb183) (o := .cells #[u184000, .int .i64 x184001_1, .int .i64 x184002_1] 28 (0, 0)) (by (with_reducible repeat first|apply q1|apply q2|apply q3); exact BK183.out)) : gb183 ≠ gb190))
                      have n14_ := am ((by rw [hg]; exact Nat.ne_of_gt (blk_lt (g := gb183) (o := .cells #[u184000, .int .i64 x184001_1, .int .i64 x184002_1] 28 (0, 0)) (by (with_reducible repeat first|apply q1|apply q2|apply q3); exact BK183.out)) : gb190 ≠ gb183))
                      clear HO_184000
                      clear HO186
                      clear BK177
                      clear BK178
                      clear BK183
                      clear HB
                      have HO_184000 := n0_
                      have HO186 := n1_
                      have BK177 := n2_
                      have BK178 := n3_
                      have BK183 := n4_
                      have HB := n5_
                      have BK190 := n6_
                      have GW190 := n7_
                      have GE190 := n8_
                      have NB177_190 := n9_
                      have NB190_177 := n10_
                      have NB178_190 := n11_
                      have NB190_178 := n12_
                      have NB183_190 := n13_
                      have NB190_183 := n14_
                      clear n0_ n1_ n2_ n3_ n4_ n5_ n6_ n7_ n8_ n9_ n10_ n11_ n12_ n13_ n14_
                      clear hb hbox hg
                      obtain ⟨Ao50, co50, eo50⟩ := Kd.R_slice HO186.out
                      (first | subst eo50 | (injection eo50 with f1_ f2_ f3_; have f4_ := f1_.symm; have f5_ := f3_.symm; clear f1_ f2_ f3_; subst f4_; subst f5_))
                      refine hK.out _ _ ⟨(blk_cell BK177.out 0).trans rfl, (blk_cell BK177.out 1).trans rfl, (blk_cell BK177.out 2).trans rfl, (blk_cell BK177.out 3).trans rfl⟩ (fun hHeld => ?_)
                      clear hK K
                      refine norm_ (a' := ?_) ?_ ?_
                      rotate_left
                      · show Act.put _ (some 7) _ = _
                        simp only [Act.put, List.setIfInBounds_toArray, List.set_cons_zero, List.set_cons_succ, i64_w, i32_w]
                        rfl
                      refine one_ (i := 4) (N := some 27) #[true, true, true, true, true, true, false] rfl rfl (by kernel_rfl) (by decide) (fun K hK => ?_)
                      refine goes_ Try.func30 (by kernel_rfl) rfl #[.agg #[.slice A0_0 l0_0.length c0_0, .slice A0_1 l0_1.length c0_1, .slice A0_2 l0_2.length c0_2, .int .i64 a0_3], .slice Ao50 t184.length co50] (by rfl) rfl rfl (by (try simp only [List.map_toArray, List.map_cons, List.map_nil]); first | done | rfl | (simp only [List.length_drop, List.length_take]; rfl)) ?_
                      with_reducible refine (diapasonref26_Choice.calls k1 _ _ l0_0 _ _ l0_1 _ _ l0_2 a0_3 _ _ t184 t187 t188 t189 _ ?side1 ?side2 ?side3 ?side4 ?side5 ?side6 ?side7 ?side8 A20.out).mono ?_
                      (case side1 => repeat (first | exact (Kd.C_below HR0_0.out HB.out) | (with_reducible refine Kd.C_alloc ?_ _) | (with_reducible refine Kd.C_drewN ?_ _) | (with_reducible refine Kd.C_drew ?_)))
                      (case side2 => exact HC0_0.out)
                      (case side3 => repeat (first | exact (Kd.C_below HR0_1.out HB.out) | (with_reducible refine Kd.C_alloc ?_ _) | (with_reducible refine Kd.C_drewN ?_ _) | (with_reducible refine Kd.C_drew ?_)))
                      (case side4 => exact HC0_1.out)
                      (case side5 => repeat (first | exact (Kd.C_below HR0_2.out HB.out) | (with_reducible refine Kd.C_alloc ?_ _) | (with_reducible refine Kd.C_drewN ?_ _) | (with_reducible refine Kd.C_drew ?_)))
                      (case side6 => exact HC0_2.out)
                      (case side7 => repeat (first | exact (Kd.R_reads' HO186.out).2.2 | (with_reducible refine Kd.C_alloc ?_ _) | (with_reducible refine Kd.C_drewN ?_ _) | (with_reducible refine Kd.C_drew ?_)))
                      (case side8 => exact (Kd.R_reads' HO186.out).2.1)
                      rintro e w51 ⟨rfl, hb⟩
                      refine ⟨_, rfl, ?_⟩
                      have n0_ := am (Kd.R_below (by (with_reducible repeat first|apply Kd.R_alloc|apply Kd.R_drewN|apply Kd.R_drew); exact HO_184000.out) hb)
                      have n1_ := am (Kd.R_below (by (with_reducible repeat first|apply Kd.R_alloc|apply Kd.R_drewN|apply Kd.R_drew); exact HO186.out) hb)
                      have n2_ := am (blk_below (g := gb177) (o := .cells #[.slice A0_0 l0_0.length c0_0, .slice A0_1 l0_1.length c0_1, .slice A0_2 l0_2.length c0_2, .int .i64 a0_3] 25 (0, 0)) (by (with_reducible repeat first|apply q1|apply q2|apply q3); exact BK177.out) hb)
                      have n3_ := am (blk_below (g := gb178) (o := .cells #[.slice none 0 0, .int .i64 0, .int .i64 0] 28 (0, 0)) (by (with_reducible repeat first|apply q1|apply q2|apply q3); exact BK178.out) hb)
                      have n4_ := am (blk_below (g := gb183) (o := .cells #[u184000, .int .i64 x184001_1, .int .i64 x184002_1] 28 (0, 0)) (by (with_reducible repeat first|apply q1|apply q2|apply q3); exact BK183.out) hb)
                      have n5_ := am (blk_below (g := gb190) (o := .cells #[.slice none 0 0, .int .i64 0, .int .i64 0] 28 (0, 0)) (by (with_reducible repeat first|apply q1|apply q2|apply q3); exact BK190.out) hb)
                      have n6_ := am (below_step (by repeat (first | (with_reducible first | exact HB.out | apply b1|apply b2|apply b3 | refine below_set ?_ GE177.out | refine below_set ?_ GE178.out | refine below_set ?_ GE183.out | refine below_set ?_ GE190.out) | exact HB.out)) hb)
                      clear HO_184000
                      clear HO186
                      clear BK177
                      clear BK178
                      clear BK183
                      clear BK190
                      clear HB
                      have HO_184000 := n0_
                      have HO186 := n1_
                      have BK177 := n2_
                      have BK178 := n3_
                      have BK183 := n4_
                      have BK190 := n5_
                      have HB := n6_
                      clear n0_ n1_ n2_ n3_ n4_ n5_ n6_
                      (try clear hb)
                      (try clear hb2)
                      (try clear hk)
                      (try clear hi)
                      refine hK.out _ _ ⟨(blk_cell BK177.out 0).trans rfl, (blk_cell BK177.out 1).trans rfl, (blk_cell BK177.out 2).trans rfl, (blk_cell BK177.out 3).trans rfl⟩ (fun hHeld => ?_)
                      clear hK K
                      refine norm_ (a' := ?_) ?_ ?_
                      rotate_left
                      · show Act.put _ (some 27) _ = _
                        simp only [Act.put, List.setIfInBounds_toArray, List.set_cons_zero, List.set_cons_succ, i64_w, i32_w]
                        rfl
                      exact norm_ (by simp only [putAll, Act.put, List.setIfInBounds_toArray, List.set_cons_zero, List.set_cons_succ]) (hCont (.slice Ao50 t184.length co50, gb190) _ ⟨hHeld, (by (with_reducible repeat first|apply Kd.R_alloc|apply Kd.R_drewN|apply Kd.R_drew); exact Kd.R_mono HO186.out (fun _ hk => hk.2)), (by (with_reducible repeat first|apply Kd.R_alloc|apply Kd.R_drewN|apply Kd.R_drew); exact Kd.R_mono HO_184000.out (fun _ hk => hk.2)), (by (with_reducible repeat first|apply q1|apply q2|apply q3); exact BK177.out), (by (with_reducible repeat first|apply q1|apply q2|apply q3); exact BK178.out), (by (with_reducible repeat first|apply q1|apply q2|apply q3); exact BK183.out), (by (with_reducible repeat first|apply q1|apply q2|apply q3); exact BK190.out), GW190.out, GE190.out, NB177_190.out, NB190_177.out, NB178_190.out, NB190_178.out, NB183_190.out, NB190_183.out, (by repeat (first | (with_reducible first | exact HB.out | apply b1|apply b2|apply b3 | refine below_set ?_ GE177.out | refine below_set ?_ GE178.out | refine below_set ?_ GE183.out | refine below_set ?_ GE190.out) | exact HB.out))⟩)
                  · skip
                    refine box_step ?hg (N := 7) ?hd (cs := #[.slice none 0 0, .int .i64 0, .int .i64 0]) (t := 28) ?hr ?_; (case hd => rfl); (case hg => rfl); (case hr => first | (go_simp; done) | (go_simp; rfl))
                    intro gb190 hg w48 hbox hb
                    have n0_ := am (Kd.R_below (by (with_reducible repeat first|apply Kd.R_alloc|apply Kd.R_drewN|apply Kd.R_drew); exact HO_184000.out) hb)
                    have n1_ := am (blk_below (g := gb177) (o := .cells #[.slice A0_0 l0_0.length c0_0, .slice A0_1 l0_1.length c0_1, .slice A0_2 l0_2.length c0_2, .int .i64 a0_3] 25 (0, 0)) (by (with_reducible repeat first|apply q1|apply q2|apply q3); exact BK177.out) hb)
                    have n2_ := am (blk_below (g := gb178) (o := .cells #[.slice none 0 0, .int .i64 0, .int .i64 0] 28 (0, 0)) (by (with_reducible repeat first|apply q1|apply q2|apply q3); exact BK178.out) hb)
                    have n3_ := am (blk_below (g := gb183) (o := .cells #[u184000, .int .i64 x184001_1, .int .i64 x184002_1] 28 (0, 0)) (by (with_reducible repeat first|apply q1|apply q2|apply q3); exact BK183.out) hb)
                    have n4_ := am (below_step (by repeat (first | (with_reducible first | exact HB.out | apply b1|apply b2|apply b3 | refine below_set ?_ GE177.out | refine below_set ?_ GE178.out | refine below_set ?_ GE183.out) | exact HB.out)) hb)
                    have n5_ := am (hbox)
                    have n6_ := am ((by rw [hg]; exact (below_size (by repeat (first | (with_reducible first | exact HB.out | apply b1|apply b2|apply b3 | refine below_set ?_ GE177.out | refine below_set ?_ GE178.out | refine below_set ?_ GE183.out) | exact HB.out))) : w.heap.size ≤ gb190))
                    have n7_ := am ((by rw [hg]; exact (below_size (by repeat (first | (with_reducible first | exact HB.out | apply b1|apply b2|apply b3 | refine below_set ?_ GE177.out | refine below_set ?_ GE178.out | refine below_set ?_ GE183.out) | exact HB.out))) : w.heap.size ≤ gb190))
                    have n8_ := am ((by rw [hg]; exact Nat.ne_of_lt (blk_lt (g := gb177) (o := .cells #[.slice A0_0 l0_0.length c0_0, .slice A0_1 l0_1.length c0_1, .slice A0_2 l0_2.length c0_2, .int .i64 a0_3] 25 (0, 0)) (by (with_reducible repeat first|apply q1|apply q2|apply q3); exact BK177.out)) : gb177 ≠ gb190))
                    have n9_ := am ((by rw [hg]; exact Nat.ne_of_gt (blk_lt (g := gb177) (o := .cells #[.slice A0_0 l0_0.length c0_0, .slice A0_1 l0_1.length c0_1, .slice A0_2 l0_2.length c0_2, .int .i64 a0_3] 25 (0, 0)) (by (with_reducible repeat first|apply q1|apply q2|apply q3); exact BK177.out)) : gb190 ≠ gb177))
                    have n10_ := am ((by rw [hg]; exact Nat.ne_of_lt (blk_lt (g := gb178) (o := .cells #[.slice none 0 0, .int .i64 0, .int .i64 0] 28 (0, 0)) (by (with_reducible repeat first|apply q1|apply q2|apply q3); exact BK178.out)) : gb178 ≠ gb190))
                    have n11_ := am ((by rw [hg]; exact Nat.ne_of_gt (blk_lt (g := gb178) (o := .cells #[.slice none 0 0, .int .i64 0, .int .i64 0] 28 (0, 0)) (by (with_reducible repeat first|apply q1|apply q2|apply q3); exact BK178.out)) : gb190 ≠ gb178))
                    have n12_ := am ((by rw [hg]; exact Nat.ne_of_lt (blk_lt (g := gb183) (o := .cells #[u184000, .int .i64 x184001_1, .int .i64 x184002_1] 28 (0, 0)) (by (with_reducible repeat first|apply q1|apply q2|apply q3); exact BK183.out)) : gb183 ≠ gb190))
                    have n13_ := am ((by rw [hg]; exact Nat.ne_of_gt (blk_lt (g := gb183) (o := .cells #[u184000, .int .i64 x184001_1, .int .i64 x184002_1] 28 (0, 0)) (by (with_reducible repeat first|apply q1|apply q2|apply q3); exact BK183.out)) : gb190 ≠ gb183))
                    clear HO_184000
                    clear BK177
                    clear BK178
                    clear BK183
                    clear HB
                    have HO_184000 := n0_
                    have BK177 := n1_
                    have BK178 := n2_
                    have BK183 := n3_
                    have HB := n4_
                    have BK190 := n5_
                    have GW190 := n6_
                    have GE190 := n7_
                    have NB177_190 := n8_
                    have NB190_177 := n9_
                    have NB178_190 := n10_
                    have NB190_178 := n11_
                    have NB183_190 := n12_
                    have NB190_183 := n13_
                    clear n0_ n1_ n2_ n3_ n4_ n5_ n6_ n7_ n8_ n9_ n10_ n11_ n12_ n13_
                    clear hb hbox hg
                    refine hK.out _ _ ⟨(blk_cell BK177.out 0).trans rfl, (blk_cell BK177.out 1).trans rfl, (blk_cell BK177.out 2).trans rfl, (blk_cell BK177.out 3).trans rfl⟩ (fun hHeld => ?_)
                    clear hK K
                    refine norm_ (a' := ?_) ?_ ?_
                    rotate_left
                    · show Act.put _ (some 7) _ = _
                      simp only [Act.put, List.setIfInBounds_toArray, List.set_cons_zero, List.set_cons_succ, i64_w, i32_w]
                      rfl
                    refine one_ (i := 3) (N := some 26) #[true, true, true, true, false, true, false] rfl rfl (by kernel_rfl) (by decide) (fun K hK => ?_)
                    refine goes_ Try.func31 (by kernel_rfl) rfl #[.int .i64 (l0_1.length : Int), .int .i64 x6_1] (by rfl) rfl rfl (by (try simp only [List.map_toArray, List.map_cons, List.map_nil]); first | done | rfl | (simp only [List.length_drop, List.length_take]; rfl)) ?_
                    with_reducible refine (diapasonref26_Stops.calls k1 (l0_1.length : Int) x6_1 t184 _ A19.out).mono ?_
                    rintro e w49 ⟨v185, rfl, ho0, hb⟩
                    refine ⟨_, rfl, ?_⟩
                    have n0_ := am (Kd.R_elder' (by (with_reducible repeat first|apply Kd.R_alloc|apply Kd.R_drewN|apply Kd.R_drew); exact HO_184000.out) (Kd.R_base ho0) hb)
                    have n1_ := am (Kd.R_lower (Kd.R_new' ho0 (Kd.R_lt (by (with_reducible repeat first|apply Kd.R_alloc|apply Kd.R_drewN|apply Kd.R_drew); exact HO_184000.out))) (below_size (by repeat (first | (with_reducible first | exact HB.out | apply b1|apply b2|apply b3 | refine below_set ?_ GE177.out | refine below_set ?_ GE178.out | refine below_set ?_ GE183.out | refine below_set ?_ GE190.out) | exact HB.out))))
                    have n2_ := am (blk_below (g := gb177) (o := .cells #[.slice A0_0 l0_0.length c0_0, .slice A0_1 l0_1.length c0_1, .slice A0_2 l0_2.length c0_2, .int .i64 a0_3] 25 (0, 0)) (by (with_reducible repeat first|apply q1|apply q2|apply q3); exact BK177.out) hb)
                    have n3_ := am (blk_below (g := gb178) (o := .cells #[.slice none 0 0, .int .i64 0, .int .i64 0] 28 (0, 0)) (by (with_reducible repeat first|apply q1|apply q2|apply q3); exact BK178.out) hb)
                    have n4_ := am (blk_below (g := gb183) (o := .cells #[u184000, .int .i64 x184001_1, .int .i64 x184002_1] 28 (0, 0)) (by (with_reducible repeat first|apply q1|apply q2|apply q3); exact BK183.out) hb)
                    have n5_ := am (blk_below (g := gb190) (o := .cells #[.slice none 0 0, .int .i64 0, .int .i64 0] 28 (0, 0)) (by (with_reducible repeat first|apply q1|apply q2|apply q3); exact BK190.out) hb)
                    have n6_ := am (below_step (by repeat (first | (with_reducible first | exact HB.out | apply b1|apply b2|apply b3 | refine below_set ?_ GE177.out | refine below_set ?_ GE178.out | refine below_set ?_ GE183.out | refine below_set ?_ GE190.out) | exact HB.out)) hb)
                    clear HO_184000
                    clear BK177
                    clear BK178
                    clear BK183
                    clear BK190
                    clear HB
                    have HO_184000 := n0_
                    have HO186 := n1_
                    have BK177 := n2_
                    have BK178 := n3_
                    have BK183 := n4_
                    have BK190 := n5_
                    have HB := n6_
                    clear n0_ n1_ n2_ n3_ n4_ n5_ n6_
                    (try clear hb)
                    (try clear hb2)
                    (try clear hk)
                    (try clear hi)
                    (try clear ho0)
                    obtain ⟨Ao50, co50, eo50⟩ := Kd.R_slice HO186.out
                    (first | subst eo50 | (injection eo50 with f1_ f2_ f3_; have f4_ := f1_.symm; have f5_ := f3_.symm; clear f1_ f2_ f3_; subst f4_; subst f5_))
                    refine hK.out _ _ ⟨(blk_cell BK177.out 0).trans rfl, (blk_cell BK177.out 1).trans rfl, (blk_cell BK177.out 2).trans rfl, (blk_cell BK177.out 3).trans rfl⟩ (fun hHeld => ?_)
                    clear hK K
                    refine norm_ (a' := ?_) ?_ ?_
                    rotate_left
                    · show Act.put _ (some 26) _ = _
                      simp only [Act.put, List.setIfInBounds_toArray, List.set_cons_zero, List.set_cons_succ, i64_w, i32_w]
                      rfl
                    refine one_ (i := 4) (N := some 27) #[true, true, true, true, true, true, false] rfl rfl (by kernel_rfl) (by decide) (fun K hK => ?_)
                    refine goes_ Try.func30 (by kernel_rfl) rfl #[.agg #[.slice A0_0 l0_0.length c0_0, .slice A0_1 l0_1.length c0_1, .slice A0_2 l0_2.length c0_2, .int .i64 a0_3], .slice Ao50 t184.length co50] (by rfl) rfl rfl (by (try simp only [List.map_toArray, List.map_cons, List.map_nil]); first | done | rfl | (simp only [List.length_drop, List.length_take]; rfl)) ?_
                    with_reducible refine (diapasonref26_Choice.calls k1 _ _ l0_0 _ _ l0_1 _ _ l0_2 a0_3 _ _ t184 t187 t188 t189 _ ?side1 ?side2 ?side3 ?side4 ?side5 ?side6 ?side7 ?side8 A20.out).mono ?_
                    (case side1 => repeat (first | exact (Kd.C_below HR0_0.out HB.out) | (with_reducible refine Kd.C_alloc ?_ _) | (with_reducible refine Kd.C_drewN ?_ _) | (with_reducible refine Kd.C_drew ?_)))
                    (case side2 => exact HC0_0.out)
                    (case side3 => repeat (first | exact (Kd.C_below HR0_1.out HB.out) | (with_reducible refine Kd.C_alloc ?_ _) | (with_reducible refine Kd.C_drewN ?_ _) | (with_reducible refine Kd.C_drew ?_)))
                    (case side4 => exact HC0_1.out)
                    (case side5 => repeat (first | exact (Kd.C_below HR0_2.out HB.out) | (with_reducible refine Kd.C_alloc ?_ _) | (with_reducible refine Kd.C_drewN ?_ _) | (with_reducible refine Kd.C_drew ?_)))
                    (case side6 => exact HC0_2.out)
                    (case side7 => repeat (first | exact (Kd.R_reads' HO186.out).2.2 | (with_reducible refine Kd.C_alloc ?_ _) | (with_reducible refine Kd.C_drewN ?_ _) | (with_reducible refine Kd.C_drew ?_)))
                    (case side8 => exact (Kd.R_reads' HO186.out).2.1)
                    rintro e w51 ⟨rfl, hb⟩
                    refine ⟨_, rfl, ?_⟩
                    have n0_ := am (Kd.R_below (by (with_reducible repeat first|apply Kd.R_alloc|apply Kd.R_drewN|apply Kd.R_drew); exact HO_184000.out) hb)
                    have n1_ := am (Kd.R_below (by (with_reducible repeat first|apply Kd.R_alloc|apply Kd.R_drewN|apply Kd.R_drew); exact HO186.out) hb)
                    have n2_ := am (blk_below (g := gb177) (o := .cells #[.slice A0_0 l0_0.length c0_0, .slice A0_1 l0_1.length c0_1, .slice A0_2 l0_2.length c0_2, .int .i64 a0_3] 25 (0, 0)) (by (with_reducible repeat first|apply q1|apply q2|apply q3); exact BK177.out) hb)
                    have n3_ := am (blk_below (g := gb178) (o := .cells #[.slice none 0 0, .int .i64 0, .int .i64 0] 28 (0, 0)) (by (with_reducible repeat first|apply q1|apply q2|apply q3); exact BK178.out) hb)
                    have n4_ := am (blk_below (g := gb183) (o := .cells #[u184000, .int .i64 x184001_1, .int .i64 x184002_1] 28 (0, 0)) (by (with_reducible repeat first|apply q1|apply q2|apply q3); exact BK183.out) hb)
                    have n5_ := am (blk_below (g := gb190) (o := .cells #[.slice none 0 0, .int .i64 0, .int .i64 0] 28 (0, 0)) (by (with_reducible repeat first|apply q1|apply q2|apply q3); exact BK190.out) hb)
                    have n6_ := am (below_step (by repeat (first | (with_reducible first | exact HB.out | apply b1|apply b2|apply b3 | refine below_set ?_ GE177.out | refine below_set ?_ GE178.out | refine below_set ?_ GE183.out | refine below_set ?_ GE190.out) | exact HB.out)) hb)
                    clear HO_184000
                    clear HO186
                    clear BK177
                    clear BK178
                    clear BK183
                    clear BK190
                    clear HB
                    have HO_184000 := n0_
                    have HO186 := n1_
                    have BK177 := n2_
                    have BK178 := n3_
                    have BK183 := n4_
                    have BK190 := n5_
                    have HB := n6_
                    clear n0_ n1_ n2_ n3_ n4_ n5_ n6_
                    (try clear hb)
                    (try clear hb2)
                    (try clear hk)
                    (try clear hi)
                    refine hK.out _ _ ⟨(blk_cell BK177.out 0).trans rfl, (blk_cell BK177.out 1).trans rfl, (blk_cell BK177.out 2).trans rfl, (blk_cell BK177.out 3).trans rfl⟩ (fun hHeld => ?_)
                    clear hK K
                    refine norm_ (a' := ?_) ?_ ?_
                    rotate_left
                    · show Act.put _ (some 27) _ = _
                      simp only [Act.put, List.setIfInBounds_toArray, List.set_cons_zero, List.set_cons_succ, i64_w, i32_w]
                      rfl
                    exact norm_ (by simp only [putAll, Act.put, List.setIfInBounds_toArray, List.set_cons_zero, List.set_cons_succ]) (hCont (.slice Ao50 t184.length co50, gb190) _ ⟨hHeld, (by (with_reducible repeat first|apply Kd.R_alloc|apply Kd.R_drewN|apply Kd.R_drew); exact Kd.R_mono HO186.out (fun _ hk => hk.2)), (by (with_reducible repeat first|apply Kd.R_alloc|apply Kd.R_drewN|apply Kd.R_drew); exact Kd.R_mono HO_184000.out (fun _ hk => hk.2)), (by (with_reducible repeat first|apply q1|apply q2|apply q3); exact BK177.out), (by (with_reducible repeat first|apply q1|apply q2|apply q3); exact BK178.out), (by (with_reducible repeat first|apply q1|apply q2|apply q3); exact BK183.out), (by (with_reducible repeat first|apply q1|apply q2|apply q3); exact BK190.out), GW190.out, GE190.out, NB177_190.out, NB190_177.out, NB178_190.out, NB190_178.out, NB183_190.out, NB190_183.out, (by repeat (first | (with_reducible first | exact HB.out | apply b1|apply b2|apply b3 | refine below_set ?_ GE177.out | refine below_set ?_ GE178.out | refine below_set ?_ GE183.out | refine below_set ?_ GE190.out) | exact HB.out))⟩)
                rintro ⟨v185, gb190⟩ w52 ⟨hS_, h0_, h1_, h2_, h3_, h4_, h5_, h6_, h7_, h8_, h9_, h10_, h11_, h12_, h13_, h14_⟩
                have n0_ : Aside0 (Kd.R (Kd.int .i64) 3 w52 w.heap.size (fun k_ => some k_ ≠ (u184000 : Value).ownBlock) v185 t184) := ⟨h0_⟩
                have n1_ : Aside0 (Kd.R (Kd.int .i64) 3 w52 w.heap.size (fun k_ => some k_ ≠ (v185 : Value).ownBlock) u184000 x184000_1) := ⟨h1_⟩
                have n2_ : Aside0 (w52.heap[gb177]? = some (.cells #[.slice A0_0 l0_0.length c0_0, .slice A0_1 l0_1.length c0_1, .slice A0_2 l0_2.length c0_2, .int .i64 a0_3] 25 (0, 0))) := ⟨h2_⟩
                have n3_ : Aside0 (w52.heap[gb178]? = some (.cells #[.slice none 0 0, .int .i64 0, .int .i64 0] 28 (0, 0))) := ⟨h3_⟩
                have n4_ : Aside0 (w52.heap[gb183]? = some (.cells #[u184000, .int .i64 x184001_1, .int .i64 x184002_1] 28 (0, 0))) := ⟨h4_⟩
                have n5_ : Aside0 (w52.heap[gb190]? = some (.cells #[.slice none 0 0, .int .i64 0, .int .i64 0] 28 (0, 0))) := ⟨h5_⟩
                have n6_ : Aside0 (w.heap.size ≤ gb190) := ⟨h6_⟩
                have n7_ : Aside0 (w.heap.size ≤ gb190) := ⟨h7_⟩
                have n8_ : Aside0 (gb177 ≠ gb190) := ⟨h8_⟩
                have n9_ : Aside0 (gb190 ≠ gb177) := ⟨h9_⟩
                have n10_ : Aside0 (gb178 ≠ gb190) := ⟨h10_⟩
                have n11_ : Aside0 (gb190 ≠ gb178) := ⟨h11_⟩
                have n12_ : Aside0 (gb183 ≠ gb190) := ⟨h12_⟩
                have n13_ : Aside0 (gb190 ≠ gb183) := ⟨h13_⟩
                have n14_ : Aside0 (Below w.heap.size w w52) := ⟨h14_⟩
                clear HO_184000
                clear BK177
                clear BK178
                clear BK183
                clear HB
                clear h0_ h1_ h2_ h3_ h4_ h5_ h6_ h7_ h8_ h9_ h10_ h11_ h12_ h13_ h14_
                have HO186 := n0_
                have HO_184000 := n1_
                have BK177 := n2_
                have BK178 := n3_
                have BK183 := n4_
                have BK190 := n5_
                have GW190 := n6_
                have GE190 := n7_
                have NB177_190 := n8_
                have NB190_177 := n9_
                have NB178_190 := n10_
                have NB190_178 := n11_
                have NB183_190 := n12_
                have NB190_183 := n13_
                have HB := n14_
                clear n0_ n1_ n2_ n3_ n4_ n5_ n6_ n7_ n8_ n9_ n10_ n11_ n12_ n13_ n14_
                have hHeld : w52.cell? ⟨gb177, 0, none⟩ = some (.slice A0_0 l0_0.length c0_0) ∧ w52.cell? ⟨gb177, 1, none⟩ = some (.slice A0_1 l0_1.length c0_1) ∧ w52.cell? ⟨gb177, 2, none⟩ = some (.slice A0_2 l0_2.length c0_2) ∧ w52.cell? ⟨gb177, 3, none⟩ = some (.int .i64 a0_3) := hS_
                obtain ⟨Ao53, co53, eo53⟩ := Kd.R_slice HO186.out
                (first | subst eo53 | (injection eo53 with f1_ f2_ f3_; have f4_ := f1_.symm; have f5_ := f3_.symm; clear f1_ f2_ f3_; subst f4_; subst f5_))
                refine norm_ (a' := ?_) ?_ ?_
                rotate_left
                · simp only [putAll, Act.put, List.setIfInBounds_toArray, List.set_cons_zero, List.set_cons_succ]
                  rfl
                refine one_ (i := 6) (N := none) #[true, true, true, true, true, true, true] rfl rfl (by kernel_rfl) (by decide) (fun K hK => ?_)
                have hs54 : w52.cell? ⟨gb190, 0, none⟩ = some (.slice none 0 0) := (blk_cell BK190.out 0).trans rfl
                have hfs54 := blk_frozen BK190.out 0
                have hns54_0 := NB177_190.out
                have hns54_1 := NB178_190.out
                have hns54_2 := NB183_190.out
                have hms54_0 := NB190_177.out
                have hms54_1 := NB190_178.out
                have hms54_2 := NB190_183.out
                have hs55 : w52.cell? ⟨gb190, 1, none⟩ = some (.int .i64 0) := (blk_cell BK190.out 1).trans rfl
                have hfs55 := blk_frozen BK190.out 1
                have hns55_0 := NB177_190.out
                have hns55_1 := NB178_190.out
                have hns55_2 := NB183_190.out
                have hms55_0 := NB190_177.out
                have hms55_1 := NB190_178.out
                have hms55_2 := NB190_183.out
                have hs56 : w52.cell? ⟨gb190, 2, none⟩ = some (.int .i64 0) := (blk_cell BK190.out 2).trans rfl
                have hfs56 := blk_frozen BK190.out 2
                have hns56_0 := NB177_190.out
                have hns56_1 := NB178_190.out
                have hns56_2 := NB183_190.out
                have hms56_0 := NB190_177.out
                have hms56_1 := NB190_178.out
                have hms56_2 := NB190_183.out
                refine skip_ (w1 := ?_) (by rfl) rfl ?_ ?_
                rotate_left
                · go_simp
                  rfl
                refine hK.out _ _ ⟨((cell_far (p := ⟨gb190, _, none⟩) NB177_190.out _).trans (((cell_far (p := ⟨gb190, _, none⟩) NB177_190.out _).trans (((cell_far (p := ⟨gb190, _, none⟩) NB177_190.out _).trans (hHeld.1)))))), ((cell_far (p := ⟨gb190, _, none⟩) NB177_190.out _).trans (((cell_far (p := ⟨gb190, _, none⟩) NB177_190.out _).trans (((cell_far (p := ⟨gb190, _, none⟩) NB177_190.out _).trans (hHeld.2.1)))))), ((cell_far (p := ⟨gb190, _, none⟩) NB177_190.out _).trans (((cell_far (p := ⟨gb190, _, none⟩) NB177_190.out _).trans (((cell_far (p := ⟨gb190, _, none⟩) NB177_190.out _).trans (hHeld.2.2.1)))))), ((cell_far (p := ⟨gb190, _, none⟩) NB177_190.out _).trans (((cell_far (p := ⟨gb190, _, none⟩) NB177_190.out _).trans (((cell_far (p := ⟨gb190, _, none⟩) NB177_190.out _).trans (hHeld.2.2.2))))))⟩ (fun hHeld => ?_)
                clear hK K
                refine done_ (by kernel_rfl) ?_
                have hnb57 := NB190_177.out
                have hnc57 := NB177_190.out
                have hnb58 := NB190_178.out
                have hnc58 := NB178_190.out
                have hnb59 := NB190_183.out
                have hnc59 := NB183_190.out
                obtain ⟨hcz60_0, hcz60_1, hcz60_2⟩ := c3 BK190.out
                obtain ⟨hfz60_0, hfz60_1, hfz60_2⟩ := z3 BK190.out
                have hnb61 := NB177_178.out
                have hnc61 := NB178_177.out
                have hnb62 := NB177_183.out
                have hnc62 := NB183_177.out
                obtain ⟨hcz63_0, hcz63_1, hcz63_2, hcz63_3⟩ := c4 BK177.out
                obtain ⟨hfz63_0, hfz63_1, hfz63_2, hfz63_3⟩ := z4 BK177.out
                have hnb64 := NB183_178.out
                have hnc64 := NB178_183.out
                obtain ⟨hcz65_0, hcz65_1, hcz65_2⟩ := c3 BK183.out
                obtain ⟨hfz65_0, hfz65_1, hfz65_2⟩ := z3 BK183.out
                obtain ⟨Ao66, co66, eo66⟩ := Kd.R_slice HO_184000.out
                subst eo66
                try go_wp2_with (first | (go_at_call 15; (with_reducible refine (diapasonref26_Better.calls k1 _ _ t184 t188 t189 _ _ x184000_1 x184001_1 x184002_1 false _ ?side1 ?side2 ?side3 ?side4 A22.out).mono ?_); (case side1 => refine (Kd.R_reads' (e := 3) (base := w.heap.size) (ok := fun k_ => some k_ ≠ (.slice Ao66 x184000_1.length co66 : Value).ownBlock) (n := t184.length) (c := co53) ?_).2.2; exact (by (with_reducible repeat first|apply Kd.R_alloc|apply Kd.R_drewN|apply Kd.R_drew); exact (Kd.R_mono (Kd.R_far (p := ⟨gb190, 2, none⟩) (Kd.R_far (p := ⟨gb190, 1, none⟩) (Kd.R_far (p := ⟨gb190, 0, none⟩) (Kd.R_types HO186.out BK190.out (by decide)) (fun _ hk => hk.2) (.slice Ao53 t184.length co53)) (fun _ hk => hk.2) (.int .i64 t188)) (fun _ hk => hk.2) (.int .i64 t189)) (fun _ h_ => h_.1)))); (case side2 => exact (Kd.R_reads' HO186.out).2.1); (case side3 => refine (Kd.R_reads' (e := 3) (base := w.heap.size) (ok := fun k_ => some k_ ≠ (.slice Ao53 t184.length co53 : Value).ownBlock) (n := x184000_1.length) (c := co66) ?_).2.2; exact (by (with_reducible repeat first|apply Kd.R_alloc|apply Kd.R_drewN|apply Kd.R_drew); exact (Kd.R_mono (Kd.R_far (p := ⟨gb190, 2, none⟩) (Kd.R_far (p := ⟨gb190, 1, none⟩) (Kd.R_far (p := ⟨gb190, 0, none⟩) (Kd.R_types HO_184000.out BK190.out (by decide)) (fun _ hk => hk.2) (.slice Ao53 t184.length co53)) (fun _ hk => hk.2) (.int .i64 t188)) (fun _ hk => hk.2) (.int .i64 t189)) (fun _ h_ => h_.1)))); (case side4 => exact (Kd.R_reads' HO_184000.out).2.1); rintro e w67 ⟨rfl, hb⟩; have n0_ := am (Kd.R_below (by (with_reducible repeat first|apply Kd.R_alloc|apply Kd.R_drewN|apply Kd.R_drew); exact (Kd.R_mono (Kd.R_far (p := ⟨gb190, 2, none⟩) (Kd.R_far (p := ⟨gb190, 1, none⟩) (Kd.R_far (p := ⟨gb190, 0, none⟩) (Kd.R_types HO_184000.out BK190.out (by decide)) (fun _ hk => hk.2) (.slice Ao53 t184.length co53)) (fun _ hk => hk.2) (.int .i64 t188)) (fun _ hk => hk.2) (.int .i64 t189)) (fun _ h_ => h_.1))) hb); have n1_ := am (Kd.R_below (by (with_reducible repeat first|apply Kd.R_alloc|apply Kd.R_drewN|apply Kd.R_drew); exact (Kd.R_mono (Kd.R_far (p := ⟨gb190, 2, none⟩) (Kd.R_far (p := ⟨gb190, 1, none⟩) (Kd.R_far (p := ⟨gb190, 0, none⟩) (Kd.R_types HO186.out BK190.out (by decide)) (fun _ hk => hk.2) (.slice Ao53 t184.length co53)) (fun _ hk => hk.2) (.int .i64 t188)) (fun _ hk => hk.2) (.int .i64 t189)) (fun _ h_ => h_.1))) hb); have n2_ := am (blk_below (g := gb177) (o := .cells #[.slice A0_0 l0_0.length c0_0, .slice A0_1 l0_1.length c0_1, .slice A0_2 l0_2.length c0_2, .int .i64 a0_3] 25 (0, 0)) (by (with_reducible repeat first|apply q1|apply q2|apply q3); refine blk_far ?_ NB177_190.out _; (with_reducible repeat first|apply q1|apply q2|apply q3); refine blk_far ?_ NB177_190.out _; (with_reducible repeat first|apply q1|apply q2|apply q3); refine blk_far ?_ NB177_190.out _; (with_reducible repeat first|apply q1|apply q2|apply q3); exact BK177.out) hb); have n3_ := am (blk_below (g := gb178) (o := .cells #[.slice none 0 0, .int .i64 0, .int .i64 0] 28 (0, 0)) (by (with_reducible repeat first|apply q1|apply q2|apply q3); refine blk_far ?_ NB178_190.out _; (with_reducible repeat first|apply q1|apply q2|apply q3); refine blk_far ?_ NB178_190.out _; (with_reducible repeat first|apply q1|apply q2|apply q3); refine blk_far ?_ NB178_190.out _; (with_reducible repeat first|apply q1|apply q2|apply q3); exact BK178.out) hb); have n4_ := am (blk_below (g := gb183) (o := .cells #[.slice Ao66 x184000_1.length co66, .int .i64 x184001_1, .int .i64 x184002_1] 28 (0, 0)) (by (with_reducible repeat first|apply q1|apply q2|apply q3); refine blk_far ?_ NB183_190.out _; (with_reducible repeat first|apply q1|apply q2|apply q3); refine blk_far ?_ NB183_190.out _; (with_reducible repeat first|apply q1|apply q2|apply q3); refine blk_far ?_ NB183_190.out _; (with_reducible repeat first|apply q1|apply q2|apply q3); exact BK183.out) hb); have n5_ := am (blk_below (g := gb190) (o := .cells #[.slice Ao53 t184.length co53, .int .i64 t188, .int .i64 t189] 28 (0, 0)) (by (with_reducible repeat first|apply q1|apply q2|apply q3); refine blk_put (cs := #[.slice Ao53 t184.length co53, .int .i64 t188, .int .i64 0]) ?_ 2 _ rfl; (with_reducible repeat first|apply q1|apply q2|apply q3); refine blk_put (cs := #[.slice Ao53 t184.length co53, .int .i64 0, .int .i64 0]) ?_ 1 _ rfl; (with_reducible repeat first|apply q1|apply q2|apply q3); refine blk_put (cs := #[.slice none 0 0, .int .i64 0, .int .i64 0]) ?_ 0 _ rfl; (with_reducible repeat first|apply q1|apply q2|apply q3); exact BK190.out) hb); have n6_ := am (below_step (by repeat (first | (with_reducible first | exact HB.out | apply b1|apply b2|apply b3 | refine below_set ?_ GE177.out | refine below_set ?_ GE178.out | refine below_set ?_ GE183.out | refine below_set ?_ GE190.out) | exact HB.out)) hb); clear HO_184000; clear HO186; clear BK177; clear BK178; clear BK183; clear BK190; clear HB; have HO_184000 := n0_; have HO186 := n1_; have BK177 := n2_; have BK178 := n3_; have BK183 := n4_; have BK190 := n5_; have HB := n6_; clear n0_ n1_ n2_ n3_ n4_ n5_ n6_; (try clear hb);(try clear hb2);(try clear hk);(try clear hi)))
                go_roundg k1
                case measure => have := HK1.out; omega
                case rel => exact ⟨(wrap64 (x6_1 + 1)), (x184000_1), (x184001_1), (x184002_1), (.slice Ao66 x184000_1.length co66), (by first | rfl | (simp; done) | (simp [*]; done)), H', ⟨by have := HK1.out; omega⟩, ⟨by (with_reducible repeat first|apply Kd.R_alloc|apply Kd.R_drewN|apply Kd.R_drew); exact Kd.R_mono HO_184000.out (fun _ hk => trivial)⟩, ⟨by (with_reducible repeat first|apply q1|apply q2|apply q3); exact BK177.out⟩, ⟨by (with_reducible repeat first|apply q1|apply q2|apply q3); exact BK178.out⟩, ⟨by (with_reducible repeat first|apply q1|apply q2|apply q3); exact BK183.out⟩, ⟨by repeat (first | (with_reducible first | exact HB.out | apply b1|apply b2|apply b3 | refine below_set ?_ GE177.out | refine below_set ?_ GE178.out | refine below_set ?_ GE183.out | refine below_set ?_ GE190.out) | exact HB.out)⟩⟩
            · rw [if_neg c21] at H
              have c21b0 : decide (t189 ≤ a0_3) = false := decide_eq_false c21
              clear c21
              have H' := am H
              clear H
              try go_wp2
              have n0_ := am (Kd.R_drew HO_184000.out)
              have n1_ := am (blk_drew BK177.out)
              have n2_ := am (blk_drew BK178.out)
              have n3_ := am (blk_drew BK183.out)
              have n4_ := am (below_drew1 HB.out)
              clear HO_184000
              clear BK177
              clear BK178
              clear BK183
              clear HB
              have HO_184000 := n0_
              have BK177 := n1_
              have BK178 := n2_
              have BK183 := n3_
              have HB := n4_
              clear n0_ n1_ n2_ n3_ n4_
              refine start_ (n := 7) (S := fun w' => w'.cell? ⟨gb177, 0, none⟩ = some (.slice A0_0 l0_0.length c0_0) ∧ w'.cell? ⟨gb177, 1, none⟩ = some (.slice A0_1 l0_1.length c0_1) ∧ w'.cell? ⟨gb177, 2, none⟩ = some (.slice A0_2 l0_2.length c0_2) ∧ w'.cell? ⟨gb177, 3, none⟩ = some (.int .i64 a0_3)) (ds := []) #[false, false, false, false, false, false, false] (by kernel_rfl) rfl rfl ⟨(blk_cell BK177.out 0).trans rfl, (blk_cell BK177.out 1).trans rfl, (blk_cell BK177.out 2).trans rfl, (blk_cell BK177.out 3).trans rfl⟩ (fun hHeld => ?_)
              generalize wr.drew = w68 at HO_184000 BK177 BK178 BK183 HB hHeld ⊢
              refine pure_ (i := 1) (N := some 24) (v := ?_) (a' := ?_) #[false, true, false, false, false, false, false] rfl rfl (by kernel_rfl) (fun _ _ _ h => h) (Or.inl ⟨by rfl, ?_⟩) ?_ ?_
              rotate_left
              · intro w'
                go_simp
                with_reducible rfl
              rotate_left
              · simp only [Act.put, List.setIfInBounds_toArray, List.set_cons_zero, List.set_cons_succ, i64_w, i32_w]
                rfl
              refine pure_ (i := 2) (N := some 25) (v := ?_) (a' := ?_) #[false, true, true, false, false, false, false] rfl rfl (by kernel_rfl) (fun _ _ _ h => h) (Or.inl ⟨by rfl, ?_⟩) ?_ ?_
              rotate_left
              · intro w'
                go_simp
                with_reducible rfl
              rotate_left
              · simp only [Act.put, List.setIfInBounds_toArray, List.set_cons_zero, List.set_cons_succ, i64_w, i32_w]
                rfl
              refine take_ (i := 0) (N := some 23) (v := ?_) (a' := ?_) #[true, true, true, false, false, false, false] rfl rfl (by kernel_rfl) (fun _ _ _ h => h) (Or.inl ⟨by rfl, ?_⟩) hHeld ?_ ?_
              rotate_left
              · rintro w' ⟨s0, s1, s2, s3⟩
                go_simp
                with_reducible rfl
              rotate_left
              · simp only [Act.put, List.setIfInBounds_toArray, List.set_cons_zero, List.set_cons_succ, i64_w, i32_w]
                rfl
              refine join_ (σ := Value × Nat) 1 #[true, true, true, true, true, true, false] (fun s_ => [(26, s_.1), (27, .agg #[s_.1, .int .i64 t188, .int .i64 t189]), (7, .pointer (some ⟨s_.2, 0, none⟩))]) (fun s_ w' => (w'.cell? ⟨gb177, 0, none⟩ = some (.slice A0_0 l0_0.length c0_0) ∧ w'.cell? ⟨gb177, 1, none⟩ = some (.slice A0_1 l0_1.length c0_1) ∧ w'.cell? ⟨gb177, 2, none⟩ = some (.slice A0_2 l0_2.length c0_2) ∧ w'.cell? ⟨gb177, 3, none⟩ = some (.int .i64 a0_3)) ∧ (Kd.R (Kd.int .i64) 3 w' w.heap.size (fun k_ => some k_ ≠ (u184000 : Value).ownBlock) s_.1 t184) ∧ (Kd.R (Kd.int .i64) 3 w' w.heap.size (fun k_ => some k_ ≠ (s_.1 : Value).ownBlock) u184000 x184000_1) ∧ (w'.heap[gb177]? = some (.cells #[.slice A0_0 l0_0.length c0_0, .slice A0_1 l0_1.length c0_1, .slice A0_2 l0_2.length c0_2, .int .i64 a0_3] 25 (0, 0))) ∧ (w'.heap[gb178]? = some (.cells #[.slice none 0 0, .int .i64 0, .int .i64 0] 28 (0, 0))) ∧ (w'.heap[gb183]? = some (.cells #[u184000, .int .i64 x184001_1, .int .i64 x184002_1] 28 (0, 0))) ∧ (w'.heap[s_.2]? = some (.cells #[.slice none 0 0, .int .i64 0, .int .i64 0] 28 (0, 0))) ∧ (w.heap.size ≤ s_.2) ∧ (w.heap.size ≤ s_.2) ∧ (gb177 ≠ s_.2) ∧ (s_.2 ≠ gb177) ∧ (gb178 ≠ s_.2) ∧ (s_.2 ≠ gb178) ∧ (gb183 ≠ s_.2) ∧ (s_.2 ≠ gb183) ∧ (Below w.heap.size w w')) ?_ ?_
              rotate_left
              · intro hCont
                refine two_ (i := 3) (j := 5) (Ni := some 26) (Nj := some 7) #[true, true, true, true, false, false, false] #[true, true, true, false, false, true, false] rfl rfl rfl rfl (by kernel_rfl) (by decide) (by decide) (fun K hK => ?_) (fun K hK => ?_)
                · skip
                  refine goes_ Try.func31 (by kernel_rfl) rfl #[.int .i64 (l0_1.length : Int), .int .i64 x6_1] (by rfl) rfl rfl (by (try simp only [List.map_toArray, List.map_cons, List.map_nil]); first | done | rfl | (simp only [List.length_drop, List.length_take]; rfl)) ?_
                  with_reducible refine (diapasonref26_Stops.calls k1 (l0_1.length : Int) x6_1 t184 _ A19.out).mono ?_
                  rintro e w69 ⟨v185, rfl, ho0, hb⟩
                  refine ⟨_, rfl, ?_⟩
                  have n0_ := am (Kd.R_elder' (by (with_reducible repeat first|apply Kd.R_alloc|apply Kd.R_drewN|apply Kd.R_drew); exact HO_184000.out) (Kd.R_base ho0) hb)
                  have n1_ := am (Kd.R_lower (Kd.R_new' ho0 (Kd.R_lt (by (with_reducible repeat first|apply Kd.R_alloc|apply Kd.R_drewN|apply Kd.R_drew); exact HO_184000.out))) (below_size (by repeat (first | (with_reducible first | exact HB.out | apply b1|apply b2|apply b3 | refine below_set ?_ GE177.out | refine below_set ?_ GE178.out | refine below_set ?_ GE183.out) | exact HB.out))))
                  have n2_ := am (blk_below (g := gb177) (o := .cells #[.slice A0_0 l0_0.length c0_0, .slice A0_1 l0_1.length c0_1, .slice A0_2 l0_2.length c0_2, .int .i64 a0_3] 25 (0, 0)) (by (with_reducible repeat first|apply q1|apply q2|apply q3); exact BK177.out) hb)
                  have n3_ := am (blk_below (g := gb178) (o := .cells #[.slice none 0 0, .int .i64 0, .int .i64 0] 28 (0, 0)) (by (with_reducible repeat first|apply q1|apply q2|apply q3); exact BK178.out) hb)
                  have n4_ := am (blk_below (g := gb183) (o := .cells #[u184000, .int .i64 x184001_1, .int .i64 x184002_1] 28 (0, 0)) (by (with_reducible repeat first|apply q1|apply q2|apply q3); exact BK183.out) hb)
                  have n5_ := am (below_step (by repeat (first | (with_reducible first | exact HB.out | apply b1|apply b2|apply b3 | refine below_set ?_ GE177.out | refine below_set ?_ GE178.out | refine below_set ?_ GE183.out) | exact HB.out)) hb)
                  clear HO_184000
                  clear BK177
                  clear BK178
                  clear BK183
                  clear HB
                  have HO_184000 := n0_
                  have HO186 := n1_
                  have BK177 := n2_
                  have BK178 := n3_
                  have BK183 := n4_
                  have HB := n5_
                  clear n0_ n1_ n2_ n3_ n4_ n5_
                  (try clear hb)
                  (try clear hb2)
                  (try clear hk)
                  (try clear hi)
                  (try clear ho0)
                  obtain ⟨Ao70, co70, eo70⟩ := Kd.R_slice HO186.out
                  (first | subst eo70 | (injection eo70 with f1_ f2_ f3_; have f4_ := f1_.symm; have f5_ := f3_.symm; clear f1_ f2_ f3_; subst f4_; subst f5_))
                  refine hK.out _ _ ⟨(blk_cell BK177.out 0).trans rfl, (blk_cell BK177.out 1).trans rfl, (blk_cell BK177.out 2).trans rfl, (blk_cell BK177.out 3).trans rfl⟩ (fun hHeld => ?_)
                  clear hK K
                  refine norm_ (a' := ?_) ?_ ?_
                  rotate_left
                  · show Act.put _ (some 26) _ = _
                    simp only [Act.put, List.setIfInBounds_toArray, List.set_cons_zero, List.set_cons_succ, i64_w, i32_w]
                    rfl
                  refine two_ (i := 4) (j := 5) (Ni := some 27) (Nj := some 7) #[true, true, true, true, true, false, false] #[true, true, true, true, false, true, false] rfl rfl rfl rfl (by kernel_rfl) (by decide) (by decide) (fun K hK => ?_) (fun K hK => ?_)
                  · skip
                    refine goes_ Try.func30 (by kernel_rfl) rfl #[.agg #[.slice A0_0 l0_0.length c0_0, .slice A0_1 l0_1.length c0_1, .slice A0_2 l0_2.length c0_2, .int .i64 a0_3], .slice Ao70 t184.length co70] (by rfl) rfl rfl (by (try simp only [List.map_toArray, List.map_cons, List.map_nil]); first | done | rfl | (simp only [List.length_drop, List.length_take]; rfl)) ?_
                    with_reducible refine (diapasonref26_Choice.calls k1 _ _ l0_0 _ _ l0_1 _ _ l0_2 a0_3 _ _ t184 t187 t188 t189 _ ?side1 ?side2 ?side3 ?side4 ?side5 ?side6 ?side7 ?side8 A20.out).mono ?_
                    (case side1 => repeat (first | exact (Kd.C_below HR0_0.out HB.out) | (with_reducible refine Kd.C_alloc ?_ _) | (with_reducible refine Kd.C_drewN ?_ _) | (with_reducible refine Kd.C_drew ?_)))
                    (case side2 => exact HC0_0.out)
                    (case side3 => repeat (first | exact (Kd.C_below HR0_1.out HB.out) | (with_reducible refine Kd.C_alloc ?_ _) | (with_reducible refine Kd.C_drewN ?_ _) | (with_reducible refine Kd.C_drew ?_)))
                    (case side4 => exact HC0_1.out)
                    (case side5 => repeat (first | exact (Kd.C_below HR0_2.out HB.out) | (with_reducible refine Kd.C_alloc ?_ _) | (with_reducible refine Kd.C_drewN ?_ _) | (with_reducible refine Kd.C_drew ?_)))
                    (case side6 => exact HC0_2.out)
                    (case side7 => repeat (first | exact (Kd.R_reads' HO186.out).2.2 | (with_reducible refine Kd.C_alloc ?_ _) | (with_reducible refine Kd.C_drewN ?_ _) | (with_reducible refine Kd.C_drew ?_)))
                    (case side8 => exact (Kd.R_reads' HO186.out).2.1)
                    rintro e w71 ⟨rfl, hb⟩
                    refine ⟨_, rfl, ?_⟩
                    have n0_ := am (Kd.R_below (by (with_reducible repeat first|apply Kd.R_alloc|apply Kd.R_drewN|apply Kd.R_drew); exact HO_184000.out) hb)
                    have n1_ := am (Kd.R_below (by (with_reducible repeat first|apply Kd.R_alloc|apply Kd.R_drewN|apply Kd.R_drew); exact HO186.out) hb)
                    have n2_ := am (blk_below (g := gb177) (o := .cells #[.slice A0_0 l0_0.length c0_0, .slice A0_1 l0_1.length c0_1, .slice A0_2 l0_2.length c0_2, .int .i64 a0_3] 25 (0, 0)) (by (with_reducible repeat first|apply q1|apply q2|apply q3); exact BK177.out) hb)
                    have n3_ := am (blk_below (g := gb178) (o := .cells #[.slice none 0 0, .int .i64 0, .int .i64 0] 28 (0, 0)) (by (with_reducible repeat first|apply q1|apply q2|apply q3); exact BK178.out) hb)
                    have n4_ := am (blk_below (g := gb183) (o := .cells #[u184000, .int .i64 x184001_1, .int .i64 x184002_1] 28 (0, 0)) (by (with_reducible repeat first|apply q1|apply q2|apply q3); exact BK183.out) hb)
                    have n5_ := am (below_step (by repeat (first | (with_reducible first | exact HB.out | apply b1|apply b2|apply b3 | refine below_set ?_ GE177.out | refine below_set ?_ GE178.out | refine below_set ?_ GE183.out) | exact HB.out)) hb)
                    clear HO_184000
                    clear HO186
                    clear BK177
                    clear BK178
                    clear BK183
                    clear HB
                    have HO_184000 := n0_
                    have HO186 := n1_
                    have BK177 := n2_
                    have BK178 := n3_
                    have BK183 := n4_
                    have HB := n5_
                    clear n0_ n1_ n2_ n3_ n4_ n5_
                    (try clear hb)
                    (try clear hb2)
                    (try clear hk)
                    (try clear hi)
                    refine hK.out _ _ ⟨(blk_cell BK177.out 0).trans rfl, (blk_cell BK177.out 1).trans rfl, (blk_cell BK177.out 2).trans rfl, (blk_cell BK177.out 3).trans rfl⟩ (fun hHeld => ?_)
                    clear hK K
                    refine norm_ (a' := ?_) ?_ ?_
                    rotate_left
                    · show Act.put _ (some 27) _ = _
                      simp only [Act.put, List.setIfInBounds_toArray, List.set_cons_zero, List.set_cons_succ, i64_w, i32_w]
                      rfl
                    refine one_ (i := 5) (N := some 7) #[true, true, true, true, true, true, false] rfl rfl (by kernel_rfl) (by decide) (fun K hK => ?_)
                    refine box_step ?hg (N := 7) ?hd (cs := #[.slice none 0 0, .int .i64 0, .int .i64 0]) (t := 28) ?hr ?_; (case hd => rfl); (case hg => rfl); (case hr => first | (go_simp; done) | (go_simp; rfl))
                    intro gb190 hg w72 hbox hb
                    have n0_ := am (Kd.R_below (by (with_reducible repeat first|apply Kd.R_alloc|apply Kd.R_drewN|apply Kd.R_drew); exact HO_184000.out) hb)
                    have n1_ := am (Kd.R_below (by (with_reducible repeat first|apply Kd.R_alloc|apply Kd.R_drewN|apply Kd.R_drew); exact HO186.out) hb)
                    have n2_ := am (blk_below (g := gb177) (o := .cells #[.slice A0_0 l0_0.length c0_0, .slice A0_1 l0_1.length c0_1, .slice A0_2 l0_2.length c0_2, .int .i64 a0_3] 25 (0, 0)) (by (with_reducible repeat first|apply q1|apply q2|apply q3); exact BK177.out) hb)
                    have n3_ := am (blk_below (g := gb178) (o := .cells #[.slice none 0 0, .int .i64 0, .int .i64 0] 28 (0, 0)) (by (with_reducible repeat first|apply q1|apply q2|apply q3); exact BK178.out) hb)
                    have n4_ := am (blk_below (g := gb183) (o := .cells #[u184000, .int .i64 x184001_1, .int .i64 x184002_1] 28 (0, 0)) (by (with_reducible repeat first|apply q1|apply q2|apply q3); exact BK183.out) hb)
                    have n5_ := am (below_step (by repeat (first | (with_reducible first | exact HB.out | apply b1|apply b2|apply b3 | refine below_set ?_ GE177.out | refine below_set ?_ GE178.out | refine below_set ?_ GE183.out) | exact HB.out)) hb)
                    have n6_ := am (hbox)
                    have n7_ := am ((by rw [hg]; exact (below_size (by repeat (first | (with_reducible first | exact HB.out | apply b1|apply b2|apply b3 | refine below_set ?_ GE177.out | refine below_set ?_ GE178.out | refine below_set ?_ GE183.out) | exact HB.out))) : w.heap.size ≤ gb190))
                    have n8_ := am ((by rw [hg]; exact (below_size (by repeat (first | (with_reducible first | exact HB.out | apply b1|apply b2|apply b3 | refine below_set ?_ GE177.out | refine below_set ?_ GE178.out | refine below_set ?_ GE183.out) | exact HB.out))) : w.heap.size ≤ gb190))
                    have n9_ := am ((by rw [hg]; exact Nat.ne_of_lt (blk_lt (g := gb177) (o := .cells #[.slice A0_0 l0_0.length c0_0, .slice A0_1 l0_1.length c0_1, .slice A0_2 l0_2.length c0_2, .int .i64 a0_3] 25 (0, 0)) (by (with_reducible repeat first|apply q1|apply q2|apply q3); exact BK177.out)) : gb177 ≠ gb190))
                    have n10_ := am ((by rw [hg]; exact Nat.ne_of_gt (blk_lt (g := gb177) (o := .cells #[.slice A0_0 l0_0.length c0_0, .slice A0_1 l0_1.length c0_1, .slice A0_2 l0_2.length c0_2, .int .i64 a0_3] 25 (0, 0)) (by (with_reducible repeat first|apply q1|apply q2|apply q3); exact BK177.out)) : gb190 ≠ gb177))
                    have n11_ := am ((by rw [hg]; exact Nat.ne_of_lt (blk_lt (g := gb178) (o := .cells #[.slice none 0 0, .int .i64 0, .int .i64 0] 28 (0, 0)) (by (with_reducible repeat first|apply q1|apply q2|apply q3); exact BK178.out)) : gb178 ≠ gb190))
                    have n12_ := am ((by rw [hg]; exact Nat.ne_of_gt (blk_lt (g := gb178) (o := .cells #[.slice none 0 0, .int .i64 0, .int .i64 0] 28 (0, 0)) (by (with_reducible repeat first|apply q1|apply q2|apply q3); exact BK178.out)) : gb190 ≠ gb178))
                    have n13_ := am ((by rw [hg]; exact Nat.ne_of_lt (blk_lt (g := gb183) (o := .cells #[u184000, .int .i64 x184001_1, .int .i64 x184002_1] 28 (0, 0)) (by (with_reducible repeat first|apply q1|apply q2|apply q3); exact BK183.out)) : gb183 ≠ gb190))
                    have n14_ := am ((by rw [hg]; exact Nat.ne_of_gt (blk_lt (g := gb183) (o := .cells #[u184000, .int .i64 x184001_1, .int .i64 x184002_1] 28 (0, 0)) (by (with_reducible repeat first|apply q1|apply q2|apply q3); exact BK183.out)) : gb190 ≠ gb183))
                    clear HO_184000
                    clear HO186
                    clear BK177
                    clear BK178
                    clear BK183
                    clear HB
                    have HO_184000 := n0_
                    have HO186 := n1_
                    have BK177 := n2_
                    have BK178 := n3_
                    have BK183 := n4_
                    have HB := n5_
                    have BK190 := n6_
                    have GW190 := n7_
                    have GE190 := n8_
                    have NB177_190 := n9_
                    have NB190_177 := n10_
                    have NB178_190 := n11_
                    have NB190_178 := n12_
                    have NB183_190 := n13_
                    have NB190_183 := n14_
                    clear n0_ n1_ n2_ n3_ n4_ n5_ n6_ n7_ n8_ n9_ n10_ n11_ n12_ n13_ n14_
                    clear hb hbox hg
                    refine hK.out _ _ ⟨(blk_cell BK177.out 0).trans rfl, (blk_cell BK177.out 1).trans rfl, (blk_cell BK177.out 2).trans rfl, (blk_cell BK177.out 3).trans rfl⟩ (fun hHeld => ?_)
                    clear hK K
                    refine norm_ (a' := ?_) ?_ ?_
                    rotate_left
                    · show Act.put _ (some 7) _ = _
                      simp only [Act.put, List.setIfInBounds_toArray, List.set_cons_zero, List.set_cons_succ, i64_w, i32_w]
                      rfl
                    exact norm_ (by simp only [putAll, Act.put, List.setIfInBounds_toArray, List.set_cons_zero, List.set_cons_succ]) (hCont (.slice Ao70 t184.length co70, gb190) _ ⟨hHeld, (by (with_reducible repeat first|apply Kd.R_alloc|apply Kd.R_drewN|apply Kd.R_drew); exact Kd.R_mono HO186.out (fun _ hk => hk.2)), (by (with_reducible repeat first|apply Kd.R_alloc|apply Kd.R_drewN|apply Kd.R_drew); exact Kd.R_mono HO_184000.out (fun _ hk => hk.2)), (by (with_reducible repeat first|apply q1|apply q2|apply q3); exact BK177.out), (by (with_reducible repeat first|apply q1|apply q2|apply q3); exact BK178.out), (by (with_reducible repeat first|apply q1|apply q2|apply q3); exact BK183.out), (by (with_reducible repeat first|apply q1|apply q2|apply q3); exact BK190.out), GW190.out, GE190.out, NB177_190.out, NB190_177.out, NB178_190.out, NB190_178.out, NB183_190.out, NB190_183.out, (by repeat (first | (with_reducible first | exact HB.out | apply b1|apply b2|apply b3 | refine below_set ?_ GE177.out | refine below_set ?_ GE178.out | refine below_set ?_ GE183.out | refine below_set ?_ GE190.out) | exact HB.out))⟩)
                  · skip
                    refine box_step ?hg (N := 7) ?hd (cs := #[.slice none 0 0, .int .i64 0, .int .i64 0]) (t := 28) ?hr ?_; (case hd => rfl); (case hg => rfl); (case hr => first | (go_simp; done) | (go_simp; rfl))
                    intro gb190 hg w70 hbox hb
                    have n0_ := am (Kd.R_below (by (with_reducible repeat first|apply Kd.R_alloc|apply Kd.R_drewN|apply Kd.R_drew); exact HO_184000.out) hb)
                    have n1_ := am (Kd.R_below (by (with_reducible repeat first|apply Kd.R_alloc|apply Kd.R_drewN|apply Kd.R_drew); exact HO186.out) hb)
                    have n2_ := am (blk_below (g := gb177) (o := .cells #[.slice A0_0 l0_0.length c0_0, .slice A0_1 l0_1.length c0_1, .slice A0_2 l0_2.length c0_2, .int .i64 a0_3] 25 (0, 0)) (by (with_reducible repeat first|apply q1|apply q2|apply q3); exact BK177.out) hb)
                    have n3_ := am (blk_below (g := gb178) (o := .cells #[.slice none 0 0, .int .i64 0, .int .i64 0] 28 (0, 0)) (by (with_reducible repeat first|apply q1|apply q2|apply q3); exact BK178.out) hb)
                    have n4_ := am (blk_below (g := gb183) (o := .cells #[u184000, .int .i64 x184001_1, .int .i64 x184002_1] 28 (0, 0)) (by (with_reducible repeat first|apply q1|apply q2|apply q3); exact BK183.out) hb)
                    have n5_ := am (below_step (by repeat (first | (with_reducible first | exact HB.out | apply b1|apply b2|apply b3 | refine below_set ?_ GE177.out | refine below_set ?_ GE178.out | refine below_set ?_ GE183.out) | exact HB.out)) hb)
                    have n6_ := am (hbox)
                    have n7_ := am ((by rw [hg]; exact (below_size (by repeat (first | (with_reducible first | exact HB.out | apply b1|apply b2|apply b3 | refine below_set ?_ GE177.out | refine below_set ?_ GE178.out | refine below_set ?_ GE183.out) | exact HB.out))) : w.heap.size ≤ gb190))
                    have n8_ := am ((by rw [hg]; exact (below_size (by repeat (first | (with_reducible first | exact HB.out | apply b1|apply b2|apply b3 | refine below_set ?_ GE177.out | refine below_set ?_ GE178.out | refine below_set ?_ GE183.out) | exact HB.out))) : w.heap.size ≤ gb190))
                    have n9_ := am ((by rw [hg]; exact Nat.ne_of_lt (blk_lt (g := gb177) (o := .cells #[.slice A0_0 l0_0.length c0_0, .slice A0_1 l0_1.length c0_1, .slice A0_2 l0_2.length c0_2, .int .i64 a0_3] 25 (0, 0)) (by (with_reducible repeat first|apply q1|apply q2|apply q3); exact BK177.out)) : gb177 ≠ gb190))
                    have n10_ := am ((by rw [hg]; exact Nat.ne_of_gt (blk_lt (g := gb177) (o := .cells #[.slice A0_0 l0_0.length c0_0, .slice A0_1 l0_1.length c0_1, .slice A0_2 l0_2.length c0_2, .int .i64 a0_3] 25 (0, 0)) (by (with_reducible repeat first|apply q1|apply q2|apply q3); exact BK177.out)) : gb190 ≠ gb177))
                    have n11_ := am ((by rw [hg]; exact Nat.ne_of_lt (blk_lt (g := gb178) (o := .cells #[.slice none 0 0, .int .i64 0, .int .i64 0] 28 (0, 0)) (by (with_reducible repeat first|apply q1|apply q2|apply q3); exact BK178.out)) : gb178 ≠ gb190))
                    have n12_ := am ((by rw [hg]; exact Nat.ne_of_gt (blk_lt (g := gb178) (o := .cells #[.slice none 0 0, .int .i64 0, .int .i64 0] 28 (0, 0)) (by (with_reducible repeat first|apply q1|apply q2|apply q3); exact BK178.out)) : gb190 ≠ gb178))
                    have n13_ := am ((by rw [hg]; exact Nat.ne_of_lt (blk_lt (g := gb183) (o := .cells #[u184000, .int .i64 x184001_1, .int .i64 x184002_1] 28 (0, 0)) (by (with_reducible repeat first|apply q1|apply q2|apply q3); exact BK183.out)) : gb183 ≠ gb190))
                    have n14_ := am ((by rw [hg]; exact Nat.ne_of_gt (blk_lt (g := gb183) (o := .cells #[u184000, .int .i64 x184001_1, .int .i64 x184002_1] 28 (0, 0)) (by (with_reducible repeat first|apply q1|apply q2|apply q3); exact BK183.out)) : gb190 ≠ gb183))
                    clear HO_184000
                    clear HO186
                    clear BK177
                    clear BK178
                    clear BK183
                    clear HB
                    have HO_184000 := n0_
                    have HO186 := n1_
                    have BK177 := n2_
                    have BK178 := n3_
                    have BK183 := n4_
                    have HB := n5_
                    have BK190 := n6_
                    have GW190 := n7_
                    have GE190 := n8_
                    have NB177_190 := n9_
                    have NB190_177 := n10_
                    have NB178_190 := n11_
                    have NB190_178 := n12_
                    have NB183_190 := n13_
                    have NB190_183 := n14_
                    clear n0_ n1_ n2_ n3_ n4_ n5_ n6_ n7_ n8_ n9_ n10_ n11_ n12_ n13_ n14_
                    clear hb hbox hg
                    obtain ⟨Ao71, co71, eo71⟩ := Kd.R_slice HO186.out
                    (first | subst eo71 | (injection eo71 with f1_ f2_ f3_; have f4_ := f1_.symm; have f5_ := f3_.symm; clear f1_ f2_ f3_; subst f4_; subst f5_))
                    refine hK.out _ _ ⟨(blk_cell BK177.out 0).trans rfl, (blk_cell BK177.out 1).trans rfl, (blk_cell BK177.out 2).trans rfl, (blk_cell BK177.out 3).trans rfl⟩ (fun hHeld => ?_)
                    clear hK K
                    refine norm_ (a' := ?_) ?_ ?_
                    rotate_left
                    · show Act.put _ (some 7) _ = _
                      simp only [Act.put, List.setIfInBounds_toArray, List.set_cons_zero, List.set_cons_succ, i64_w, i32_w]
                      rfl
                    refine one_ (i := 4) (N := some 27) #[true, true, true, true, true, true, false] rfl rfl (by kernel_rfl) (by decide) (fun K hK => ?_)
                    refine goes_ Try.func30 (by kernel_rfl) rfl #[.agg #[.slice A0_0 l0_0.length c0_0, .slice A0_1 l0_1.length c0_1, .slice A0_2 l0_2.length c0_2, .int .i64 a0_3], .slice Ao71 t184.length co71] (by rfl) rfl rfl (by (try simp only [List.map_toArray, List.map_cons, List.map_nil]); first | done | rfl | (simp only [List.length_drop, List.length_take]; rfl)) ?_
                    with_reducible refine (diapasonref26_Choice.calls k1 _ _ l0_0 _ _ l0_1 _ _ l0_2 a0_3 _ _ t184 t187 t188 t189 _ ?side1 ?side2 ?side3 ?side4 ?side5 ?side6 ?side7 ?side8 A20.out).mono ?_
                    (case side1 => repeat (first | exact (Kd.C_below HR0_0.out HB.out) | (with_reducible refine Kd.C_alloc ?_ _) | (with_reducible refine Kd.C_drewN ?_ _) | (with_reducible refine Kd.C_drew ?_)))
                    (case side2 => exact HC0_0.out)
                    (case side3 => repeat (first | exact (Kd.C_below HR0_1.out HB.out) | (with_reducible refine Kd.C_alloc ?_ _) | (with_reducible refine Kd.C_drewN ?_ _) | (with_reducible refine Kd.C_drew ?_)))
                    (case side4 => exact HC0_1.out)
                    (case side5 => repeat (first | exact (Kd.C_below HR0_2.out HB.out) | (with_reducible refine Kd.C_alloc ?_ _) | (with_reducible refine Kd.C_drewN ?_ _) | (with_reducible refine Kd.C_drew ?_)))
                    (case side6 => exact HC0_2.out)
                    (case side7 => repeat (first | exact (Kd.R_reads' HO186.out).2.2 | (with_reducible refine Kd.C_alloc ?_ _) | (with_reducible refine Kd.C_drewN ?_ _) | (with_reducible refine Kd.C_drew ?_)))
                    (case side8 => exact (Kd.R_reads' HO186.out).2.1)
                    rintro e w72 ⟨rfl, hb⟩
                    refine ⟨_, rfl, ?_⟩
                    have n0_ := am (Kd.R_below (by (with_reducible repeat first|apply Kd.R_alloc|apply Kd.R_drewN|apply Kd.R_drew); exact HO_184000.out) hb)
                    have n1_ := am (Kd.R_below (by (with_reducible repeat first|apply Kd.R_alloc|apply Kd.R_drewN|apply Kd.R_drew); exact HO186.out) hb)
                    have n2_ := am (blk_below (g := gb177) (o := .cells #[.slice A0_0 l0_0.length c0_0, .slice A0_1 l0_1.length c0_1, .slice A0_2 l0_2.length c0_2, .int .i64 a0_3] 25 (0, 0)) (by (with_reducible repeat first|apply q1|apply q2|apply q3); exact BK177.out) hb)
                    have n3_ := am (blk_below (g := gb178) (o := .cells #[.slice none 0 0, .int .i64 0, .int .i64 0] 28 (0, 0)) (by (with_reducible repeat first|apply q1|apply q2|apply q3); exact BK178.out) hb)
                    have n4_ := am (blk_below (g := gb183) (o := .cells #[u184000, .int .i64 x184001_1, .int .i64 x184002_1] 28 (0, 0)) (by (with_reducible repeat first|apply q1|apply q2|apply q3); exact BK183.out) hb)
                    have n5_ := am (blk_below (g := gb190) (o := .cells #[.slice none 0 0, .int .i64 0, .int .i64 0] 28 (0, 0)) (by (with_reducible repeat first|apply q1|apply q2|apply q3); exact BK190.out) hb)
                    have n6_ := am (below_step (by repeat (first | (with_reducible first | exact HB.out | apply b1|apply b2|apply b3 | refine below_set ?_ GE177.out | refine below_set ?_ GE178.out | refine below_set ?_ GE183.out | refine below_set ?_ GE190.out) | exact HB.out)) hb)
                    clear HO_184000
                    clear HO186
                    clear BK177
                    clear BK178
                    clear BK183
                    clear BK190
                    clear HB
                    have HO_184000 := n0_
                    have HO186 := n1_
                    have BK177 := n2_
                    have BK178 := n3_
                    have BK183 := n4_
                    have BK190 := n5_
                    have HB := n6_
                    clear n0_ n1_ n2_ n3_ n4_ n5_ n6_
                    (try clear hb)
                    (try clear hb2)
                    (try clear hk)
                    (try clear hi)
                    refine hK.out _ _ ⟨(blk_cell BK177.out 0).trans rfl, (blk_cell BK177.out 1).trans rfl, (blk_cell BK177.out 2).trans rfl, (blk_cell BK177.out 3).trans rfl⟩ (fun hHeld => ?_)
                    clear hK K
                    refine norm_ (a' := ?_) ?_ ?_
                    rotate_left
                    · show Act.put _ (some 27) _ = _
                      simp only [Act.put, List.setIfInBounds_toArray, List.set_cons_zero, List.set_cons_succ, i64_w, i32_w]
                      rfl
                    exact norm_ (by simp only [putAll, Act.put, List.setIfInBounds_toArray, List.set_cons_zero, List.set_cons_succ]) (hCont (.slice Ao71 t184.length co71, gb190) _ ⟨hHeld, (by (with_reducible repeat first|apply Kd.R_alloc|apply Kd.R_drewN|apply Kd.R_drew); exact Kd.R_mono HO186.out (fun _ hk => hk.2)), (by (with_reducible repeat first|apply Kd.R_alloc|apply Kd.R_drewN|apply Kd.R_drew); exact Kd.R_mono HO_184000.out (fun _ hk => hk.2)), (by (with_reducible repeat first|apply q1|apply q2|apply q3); exact BK177.out), (by (with_reducible repeat first|apply q1|apply q2|apply q3); exact BK178.out), (by (with_reducible repeat first|apply q1|apply q2|apply q3); exact BK183.out), (by (with_reducible repeat first|apply q1|apply q2|apply q3); exact BK190.out), GW190.out, GE190.out, NB177_190.out, NB190_177.out, NB178_190.out, NB190_178.out, NB183_190.out, NB190_183.out, (by repeat (first | (with_reducible first | exact HB.out | apply b1|apply b2|apply b3 | refine below_set ?_ GE177.out | refine below_set ?_ GE178.out | refine below_set ?_ GE183.out | refine below_set ?_ GE190.out) | exact HB.out))⟩)
                · skip
                  refine box_step ?hg (N := 7) ?hd (cs := #[.slice none 0 0, .int .i64 0, .int .i64 0]) (t := 28) ?hr ?_; (case hd => rfl); (case hg => rfl); (case hr => first | (go_simp; done) | (go_simp; rfl))
                  intro gb190 hg w69 hbox hb
                  have n0_ := am (Kd.R_below (by (with_reducible repeat first|apply Kd.R_alloc|apply Kd.R_drewN|apply Kd.R_drew); exact HO_184000.out) hb)
                  have n1_ := am (blk_below (g := gb177) (o := .cells #[.slice A0_0 l0_0.length c0_0, .slice A0_1 l0_1.length c0_1, .slice A0_2 l0_2.length c0_2, .int .i64 a0_3] 25 (0, 0)) (by (with_reducible repeat first|apply q1|apply q2|apply q3); exact BK177.out) hb)
                  have n2_ := am (blk_below (g := gb178) (o := .cells #[.slice none 0 0, .int .i64 0, .int .i64 0] 28 (0, 0)) (by (with_reducible repeat first|apply q1|apply q2|apply q3); exact BK178.out) hb)
                  have n3_ := am (blk_below (g := gb183) (o := .cells #[u184000, .int .i64 x184001_1, .int .i64 x184002_1] 28 (0, 0)) (by (with_reducible repeat first|apply q1|apply q2|apply q3); exact BK183.out) hb)
                  have n4_ := am (below_step (by repeat (first | (with_reducible first | exact HB.out | apply b1|apply b2|apply b3 | refine below_set ?_ GE177.out | refine below_set ?_ GE178.out | refine below_set ?_ GE183.out) | exact HB.out)) hb)
                  have n5_ := am (hbox)
                  have n6_ := am ((by rw [hg]; exact (below_size (by repeat (first | (with_reducible first | exact HB.out | apply b1|apply b2|apply b3 | refine below_set ?_ GE177.out | refine below_set ?_ GE178.out | refine below_set ?_ GE183.out) | exact HB.out))) : w.heap.size ≤ gb190))
                  have n7_ := am ((by rw [hg]; exact (below_size (by repeat (first | (with_reducible first | exact HB.out | apply b1|apply b2|apply b3 | refine below_set ?_ GE177.out | refine below_set ?_ GE178.out | refine below_set ?_ GE183.out) | exact HB.out))) : w.heap.size ≤ gb190))
                  have n8_ := am ((by rw [hg]; exact Nat.ne_of_lt (blk_lt (g := gb177) (o := .cells #[.slice A0_0 l0_0.length c0_0, .slice A0_1 l0_1.length c0_1, .slice A0_2 l0_2.length c0_2, .int .i64 a0_3] 25 (0, 0)) (by (with_reducible repeat first|apply q1|apply q2|apply q3); exact BK177.out)) : gb177 ≠ gb190))
                  have n9_ := am ((by rw [hg]; exact Nat.ne_of_gt (blk_lt (g := gb177) (o := .cells #[.slice A0_0 l0_0.length c0_0, .slice A0_1 l0_1.length c0_1, .slice A0_2 l0_2.length c0_2, .int .i64 a0_3] 25 (0, 0)) (by (with_reducible repeat first|apply q1|apply q2|apply q3); exact BK177.out)) : gb190 ≠ gb177))
                  have n10_ := am ((by rw [hg]; exact Nat.ne_of_lt (blk_lt (g := gb178) (o := .cells #[.slice none 0 0, .int .i64 0, .int .i64 0] 28 (0, 0)) (by (with_reducible repeat first|apply q1|apply q2|apply q3); exact BK178.out)) : gb178 ≠ gb190))
                  have n11_ := am ((by rw [hg]; exact Nat.ne_of_gt (blk_lt (g := gb178) (o := .cells #[.slice none 0 0, .int .i64 0, .int .i64 0] 28 (0, 0)) (by (with_reducible repeat first|apply q1|apply q2|apply q3); exact BK178.out)) : gb190 ≠ gb178))
                  have n12_ := am ((by rw [hg]; exact Nat.ne_of_lt (blk_lt (g := gb183) (o := .cells #[u184000, .int .i64 x184001_1, .int .i64 x184002_1] 28 (0, 0)) (by (with_reducible repeat first|apply q1|apply q2|apply q3); exact BK183.out)) : gb183 ≠ gb190))
                  have n13_ := am ((by rw [hg]; exact Nat.ne_of_gt (blk_lt (g := gb183) (o := .cells #[u184000, .int .i64 x184001_1, .int .i64 x184002_1] 28 (0, 0)) (by (with_reducible repeat first|apply q1|apply q2|apply q3); exact BK183.out)) : gb190 ≠ gb183))
                  clear HO_184000
                  clear BK177
                  clear BK178
                  clear BK183
                  clear HB
                  have HO_184000 := n0_
                  have BK177 := n1_
                  have BK178 := n2_
                  have BK183 := n3_
                  have HB := n4_
                  have BK190 := n5_
                  have GW190 := n6_
                  have GE190 := n7_
                  have NB177_190 := n8_
                  have NB190_177 := n9_
                  have NB178_190 := n10_
                  have NB190_178 := n11_
                  have NB183_190 := n12_
                  have NB190_183 := n13_
                  clear n0_ n1_ n2_ n3_ n4_ n5_ n6_ n7_ n8_ n9_ n10_ n11_ n12_ n13_
                  clear hb hbox hg
                  refine hK.out _ _ ⟨(blk_cell BK177.out 0).trans rfl, (blk_cell BK177.out 1).trans rfl, (blk_cell BK177.out 2).trans rfl, (blk_cell BK177.out 3).trans rfl⟩ (fun hHeld => ?_)
                  clear hK K
                  refine norm_ (a' := ?_) ?_ ?_
                  rotate_left
                  · show Act.put _ (some 7) _ = _
                    simp only [Act.put, List.setIfInBounds_toArray, List.set_cons_zero, List.set_cons_succ, i64_w, i32_w]
                    rfl
                  refine one_ (i := 3) (N := some 26) #[true, true, true, true, false, true, false] rfl rfl (by kernel_rfl) (by decide) (fun K hK => ?_)
                  refine goes_ Try.func31 (by kernel_rfl) rfl #[.int .i64 (l0_1.length : Int), .int .i64 x6_1] (by rfl) rfl rfl (by (try simp only [List.map_toArray, List.map_cons, List.map_nil]); first | done | rfl | (simp only [List.length_drop, List.length_take]; rfl)) ?_
                  with_reducible refine (diapasonref26_Stops.calls k1 (l0_1.length : Int) x6_1 t184 _ A19.out).mono ?_
                  rintro e w70 ⟨v185, rfl, ho0, hb⟩
                  refine ⟨_, rfl, ?_⟩
                  have n0_ := am (Kd.R_elder' (by (with_reducible repeat first|apply Kd.R_alloc|apply Kd.R_drewN|apply Kd.R_drew); exact HO_184000.out) (Kd.R_base ho0) hb)
                  have n1_ := am (Kd.R_lower (Kd.R_new' ho0 (Kd.R_lt (by (with_reducible repeat first|apply Kd.R_alloc|apply Kd.R_drewN|apply Kd.R_drew); exact HO_184000.out))) (below_size (by repeat (first | (with_reducible first | exact HB.out | apply b1|apply b2|apply b3 | refine below_set ?_ GE177.out | refine below_set ?_ GE178.out | refine below_set ?_ GE183.out | refine below_set ?_ GE190.out) | exact HB.out))))
                  have n2_ := am (blk_below (g := gb177) (o := .cells #[.slice A0_0 l0_0.length c0_0, .slice A0_1 l0_1.length c0_1, .slice A0_2 l0_2.length c0_2, .int .i64 a0_3] 25 (0, 0)) (by (with_reducible repeat first|apply q1|apply q2|apply q3); exact BK177.out) hb)
                  have n3_ := am (blk_below (g := gb178) (o := .cells #[.slice none 0 0, .int .i64 0, .int .i64 0] 28 (0, 0)) (by (with_reducible repeat first|apply q1|apply q2|apply q3); exact BK178.out) hb)
                  have n4_ := am (blk_below (g := gb183) (o := .cells #[u184000, .int .i64 x184001_1, .int .i64 x184002_1] 28 (0, 0)) (by (with_reducible repeat first|apply q1|apply q2|apply q3); exact BK183.out) hb)
                  have n5_ := am (blk_below (g := gb190) (o := .cells #[.slice none 0 0, .int .i64 0, .int .i64 0] 28 (0, 0)) (by (with_reducible repeat first|apply q1|apply q2|apply q3); exact BK190.out) hb)
                  have n6_ := am (below_step (by repeat (first | (with_reducible first | exact HB.out | apply b1|apply b2|apply b3 | refine below_set ?_ GE177.out | refine below_set ?_ GE178.out | refine below_set ?_ GE183.out | refine below_set ?_ GE190.out) | exact HB.out)) hb)
                  clear HO_184000
                  clear BK177
                  clear BK178
                  clear BK183
                  clear BK190
                  clear HB
                  have HO_184000 := n0_
                  have HO186 := n1_
                  have BK177 := n2_
                  have BK178 := n3_
                  have BK183 := n4_
                  have BK190 := n5_
                  have HB := n6_
                  clear n0_ n1_ n2_ n3_ n4_ n5_ n6_
                  (try clear hb)
                  (try clear hb2)
                  (try clear hk)
                  (try clear hi)
                  (try clear ho0)
                  obtain ⟨Ao71, co71, eo71⟩ := Kd.R_slice HO186.out
                  (first | subst eo71 | (injection eo71 with f1_ f2_ f3_; have f4_ := f1_.symm; have f5_ := f3_.symm; clear f1_ f2_ f3_; subst f4_; subst f5_))
                  refine hK.out _ _ ⟨(blk_cell BK177.out 0).trans rfl, (blk_cell BK177.out 1).trans rfl, (blk_cell BK177.out 2).trans rfl, (blk_cell BK177.out 3).trans rfl⟩ (fun hHeld => ?_)
                  clear hK K
                  refine norm_ (a' := ?_) ?_ ?_
                  rotate_left
                  · show Act.put _ (some 26) _ = _
                    simp only [Act.put, List.setIfInBounds_toArray, List.set_cons_zero, List.set_cons_succ, i64_w, i32_w]
                    rfl
                  refine one_ (i := 4) (N := some 27) #[true, true, true, true, true, true, false] rfl rfl (by kernel_rfl) (by decide) (fun K hK => ?_)
                  refine goes_ Try.func30 (by kernel_rfl) rfl #[.agg #[.slice A0_0 l0_0.length c0_0, .slice A0_1 l0_1.length c0_1, .slice A0_2 l0_2.length c0_2, .int .i64 a0_3], .slice Ao71 t184.length co71] (by rfl) rfl rfl (by (try simp only [List.map_toArray, List.map_cons, List.map_nil]); first | done | rfl | (simp only [List.length_drop, List.length_take]; rfl)) ?_
                  with_reducible refine (diapasonref26_Choice.calls k1 _ _ l0_0 _ _ l0_1 _ _ l0_2 a0_3 _ _ t184 t187 t188 t189 _ ?side1 ?side2 ?side3 ?side4 ?side5 ?side6 ?side7 ?side8 A20.out).mono ?_
                  (case side1 => repeat (first | exact (Kd.C_below HR0_0.out HB.out) | (with_reducible refine Kd.C_alloc ?_ _) | (with_reducible refine Kd.C_drewN ?_ _) | (with_reducible refine Kd.C_drew ?_)))
                  (case side2 => exact HC0_0.out)
                  (case side3 => repeat (first | exact (Kd.C_below HR0_1.out HB.out) | (with_reducible refine Kd.C_alloc ?_ _) | (with_reducible refine Kd.C_drewN ?_ _) | (with_reducible refine Kd.C_drew ?_)))
                  (case side4 => exact HC0_1.out)
                  (case side5 => repeat (first | exact (Kd.C_below HR0_2.out HB.out) | (with_reducible refine Kd.C_alloc ?_ _) | (with_reducible refine Kd.C_drewN ?_ _) | (with_reducible refine Kd.C_drew ?_)))
                  (case side6 => exact HC0_2.out)
                  (case side7 => repeat (first | exact (Kd.R_reads' HO186.out).2.2 | (with_reducible refine Kd.C_alloc ?_ _) | (with_reducible refine Kd.C_drewN ?_ _) | (with_reducible refine Kd.C_drew ?_)))
                  (case side8 => exact (Kd.R_reads' HO186.out).2.1)
                  rintro e w72 ⟨rfl, hb⟩
                  refine ⟨_, rfl, ?_⟩
                  have n0_ := am (Kd.R_below (by (with_reducible repeat first|apply Kd.R_alloc|apply Kd.R_drewN|apply Kd.R_drew); exact HO_184000.out) hb)
                  have n1_ := am (Kd.R_below (by (with_reducible repeat first|apply Kd.R_alloc|apply Kd.R_drewN|apply Kd.R_drew); exact HO186.out) hb)
                  have n2_ := am (blk_below (g := gb177) (o := .cells #[.slice A0_0 l0_0.length c0_0, .slice A0_1 l0_1.length c0_1, .slice A0_2 l0_2.length c0_2, .int .i64 a0_3] 25 (0, 0)) (by (with_reducible repeat first|apply q1|apply q2|apply q3); exact BK177.out) hb)
                  have n3_ := am (blk_below (g := gb178) (o := .cells #[.slice none 0 0, .int .i64 0, .int .i64 0] 28 (0, 0)) (by (with_reducible repeat first|apply q1|apply q2|apply q3); exact BK178.out) hb)
                  have n4_ := am (blk_below (g := gb183) (o := .cells #[u184000, .int .i64 x184001_1, .int .i64 x184002_1] 28 (0, 0)) (by (with_reducible repeat first|apply q1|apply q2|apply q3); exact BK183.out) hb)
                  have n5_ := am (blk_below (g := gb190) (o := .cells #[.slice none 0 0, .int .i64 0, .int .i64 0] 28 (0, 0)) (by (with_reducible repeat first|apply q1|apply q2|apply q3); exact BK190.out) hb)
                  have n6_ := am (below_step (by repeat (first | (with_reducible first | exact HB.out | apply b1|apply b2|apply b3 | refine below_set ?_ GE177.out | refine below_set ?_ GE178.out | refine below_set ?_ GE183.out | refine below_set ?_ GE190.out) | exact HB.out)) hb)
                  clear HO_184000
                  clear HO186
                  clear BK177
                  clear BK178
                  clear BK183
                  clear BK190
                  clear HB
                  have HO_184000 := n0_
                  have HO186 := n1_
                  have BK177 := n2_
                  have BK178 := n3_
                  have BK183 := n4_
                  have BK190 := n5_
                  have HB := n6_
                  clear n0_ n1_ n2_ n3_ n4_ n5_ n6_
                  (try clear hb)
                  (try clear hb2)
                  (try clear hk)
                  (try clear hi)
                  refine hK.out _ _ ⟨(blk_cell BK177.out 0).trans rfl, (blk_cell BK177.out 1).trans rfl, (blk_cell BK177.out 2).trans rfl, (blk_cell BK177.out 3).trans rfl⟩ (fun hHeld => ?_)
                  clear hK K
                  refine norm_ (a' := ?_) ?_ ?_
                  rotate_left
                  · show Act.put _ (some 27) _ = _
                    simp only [Act.put, List.setIfInBounds_toArray, List.set_cons_zero, List.set_cons_succ, i64_w, i32_w]
                    rfl
                  exact norm_ (by simp only [putAll, Act.put, List.setIfInBounds_toArray, List.set_cons_zero, List.set_cons_succ]) (hCont (.slice Ao71 t184.length co71, gb190) _ ⟨hHeld, (by (with_reducible repeat first|apply Kd.R_alloc|apply Kd.R_drewN|apply Kd.R_drew); exact Kd.R_mono HO186.out (fun _ hk => hk.2)), (by (with_reducible repeat first|apply Kd.R_alloc|apply Kd.R_drewN|apply Kd.R_drew); exact Kd.R_mono HO_184000.out (fun _ hk => hk.2)), (by (with_reducible repeat first|apply q1|apply q2|apply q3); exact BK177.out), (by (with_reducible repeat first|apply q1|apply q2|apply q3); exact BK178.out), (by (with_reducible repeat first|apply q1|apply q2|apply q3); exact BK183.out), (by (with_reducible repeat first|apply q1|apply q2|apply q3); exact BK190.out), GW190.out, GE190.out, NB177_190.out, NB190_177.out, NB178_190.out, NB190_178.out, NB183_190.out, NB190_183.out, (by repeat (first | (with_reducible first | exact HB.out | apply b1|apply b2|apply b3 | refine below_set ?_ GE177.out | refine below_set ?_ GE178.out | refine below_set ?_ GE183.out | refine below_set ?_ GE190.out) | exact HB.out))⟩)
              rintro ⟨v185, gb190⟩ w73 ⟨hS_, h0_, h1_, h2_, h3_, h4_, h5_, h6_, h7_, h8_, h9_, h10_, h11_, h12_, h13_, h14_⟩
              have n0_ : Aside0 (Kd.R (Kd.int .i64) 3 w73 w.heap.size (fun k_ => some k_ ≠ (u184000 : Value).ownBlock) v185 t184) := ⟨h0_⟩
              have n1_ : Aside0 (Kd.R (Kd.int .i64) 3 w73 w.heap.size (fun k_ => some k_ ≠ (v185 : Value).ownBlock) u184000 x184000_1) := ⟨h1_⟩
              have n2_ : Aside0 (w73.heap[gb177]? = some (.cells #[.slice A0_0 l0_0.length c0_0, .slice A0_1 l0_1.length c0_1, .slice A0_2 l0_2.length c0_2, .int .i64 a0_3] 25 (0, 0))) := ⟨h2_⟩
              have n3_ : Aside0 (w73.heap[gb178]? = some (.cells #[.slice none 0 0, .int .i64 0, .int .i64 0] 28 (0, 0))) := ⟨h3_⟩
              have n4_ : Aside0 (w73.heap[gb183]? = some (.cells #[u184000, .int .i64 x184001_1, .int .i64 x184002_1] 28 (0, 0))) := ⟨h4_⟩
              have n5_ : Aside0 (w73.heap[gb190]? = some (.cells #[.slice none 0 0, .int .i64 0, .int .i64 0] 28 (0, 0))) := ⟨h5_⟩
              have n6_ : Aside0 (w.heap.size ≤ gb190) := ⟨h6_⟩
              have n7_ : Aside0 (w.heap.size ≤ gb190) := ⟨h7_⟩
              have n8_ : Aside0 (gb177 ≠ gb190) := ⟨h8_⟩
              have n9_ : Aside0 (gb190 ≠ gb177) := ⟨h9_⟩
              have n10_ : Aside0 (gb178 ≠ gb190) := ⟨h10_⟩
              have n11_ : Aside0 (gb190 ≠ gb178) := ⟨h11_⟩
              have n12_ : Aside0 (gb183 ≠ gb190) := ⟨h12_⟩
              have n13_ : Aside0 (gb190 ≠ gb183) := ⟨h13_⟩
              have n14_ : Aside0 (Below w.heap.size w w73) := ⟨h14_⟩
              clear HO_184000
              clear BK177
              clear BK178
              clear BK183
              clear HB
              clear h0_ h1_ h2_ h3_ h4_ h5_ h6_ h7_ h8_ h9_ h10_ h11_ h12_ h13_ h14_
              have HO186 := n0_
              have HO_184000 := n1_
              have BK177 := n2_
              have BK178 := n3_
              have BK183 := n4_
              have BK190 := n5_
              have GW190 := n6_
              have GE190 := n7_
              have NB177_190 := n8_
              have NB190_177 := n9_
              have NB178_190 := n10_
              have NB190_178 := n11_
              have NB183_190 := n12_
              have NB190_183 := n13_
              have HB := n14_
              clear n0_ n1_ n2_ n3_ n4_ n5_ n6_ n7_ n8_ n9_ n10_ n11_ n12_ n13_ n14_
              have hHeld : w73.cell? ⟨gb177, 0, none⟩ = some (.slice A0_0 l0_0.length c0_0) ∧ w73.cell? ⟨gb177, 1, none⟩ = some (.slice A0_1 l0_1.length c0_1) ∧ w73.cell? ⟨gb177, 2, none⟩ = some (.slice A0_2 l0_2.length c0_2) ∧ w73.cell? ⟨gb177, 3, none⟩ = some (.int .i64 a0_3) := hS_
              obtain ⟨Ao74, co74, eo74⟩ := Kd.R_slice HO186.out
              (first | subst eo74 | (injection eo74 with f1_ f2_ f3_; have f4_ := f1_.symm; have f5_ := f3_.symm; clear f1_ f2_ f3_; subst f4_; subst f5_))
              refine norm_ (a' := ?_) ?_ ?_
              rotate_left
              · simp only [putAll, Act.put, List.setIfInBounds_toArray, List.set_cons_zero, List.set_cons_succ]
                rfl
              refine one_ (i := 6) (N := none) #[true, true, true, true, true, true, true] rfl rfl (by kernel_rfl) (by decide) (fun K hK => ?_)
              have hs75 : w73.cell? ⟨gb190, 0, none⟩ = some (.slice none 0 0) := (blk_cell BK190.out 0).trans rfl
              have hfs75 := blk_frozen BK190.out 0
              have hns75_0 := NB177_190.out
              have hns75_1 := NB178_190.out
              have hns75_2 := NB183_190.out
              have hms75_0 := NB190_177.out
              have hms75_1 := NB190_178.out
              have hms75_2 := NB190_183.out
              have hs76 : w73.cell? ⟨gb190, 1, none⟩ = some (.int .i64 0) := (blk_cell BK190.out 1).trans rfl
              have hfs76 := blk_frozen BK190.out 1
              have hns76_0 := NB177_190.out
              have hns76_1 := NB178_190.out
              have hns76_2 := NB183_190.out
              have hms76_0 := NB190_177.out
              have hms76_1 := NB190_178.out
              have hms76_2 := NB190_183.out
              have hs77 : w73.cell? ⟨gb190, 2, none⟩ = some (.int .i64 0) := (blk_cell BK190.out 2).trans rfl
              have hfs77 := blk_frozen BK190.out 2
              have hns77_0 := NB177_190.out
              have hns77_1 := NB178_190.out
              have hns77_2 := NB183_190.out
              have hms77_0 := NB190_177.out
              have hms77_1 := NB190_178.out
              have hms77_2 := NB190_183.out
              refine skip_ (w1 := ?_) (by rfl) rfl ?_ ?_
              rotate_left
              · go_simp
                rfl
              refine hK.out _ _ ⟨((cell_far (p := ⟨gb190, _, none⟩) NB177_190.out _).trans (((cell_far (p := ⟨gb190, _, none⟩) NB177_190.out _).trans (((cell_far (p := ⟨gb190, _, none⟩) NB177_190.out _).trans (hHeld.1)))))), ((cell_far (p := ⟨gb190, _, none⟩) NB177_190.out _).trans (((cell_far (p := ⟨gb190, _, none⟩) NB177_190.out _).trans (((cell_far (p := ⟨gb190, _, none⟩) NB177_190.out _).trans (hHeld.2.1)))))), ((cell_far (p := ⟨gb190, _, none⟩) NB177_190.out _).trans (((cell_far (p := ⟨gb190, _, none⟩) NB177_190.out _).trans (((cell_far (p := ⟨gb190, _, none⟩) NB177_190.out _).trans (hHeld.2.2.1)))))), ((cell_far (p := ⟨gb190, _, none⟩) NB177_190.out _).trans (((cell_far (p := ⟨gb190, _, none⟩) NB177_190.out _).trans (((cell_far (p := ⟨gb190, _, none⟩) NB177_190.out _).trans (hHeld.2.2.2))))))⟩ (fun hHeld => ?_)
              clear hK K
              refine done_ (by kernel_rfl) ?_
              have hnb78 := NB190_177.out
              have hnc78 := NB177_190.out
              have hnb79 := NB190_178.out
              have hnc79 := NB178_190.out
              have hnb80 := NB190_183.out
              have hnc80 := NB183_190.out
              obtain ⟨hcz81_0, hcz81_1, hcz81_2⟩ := c3 BK190.out
              obtain ⟨hfz81_0, hfz81_1, hfz81_2⟩ := z3 BK190.out
              have hnb82 := NB177_178.out
              have hnc82 := NB178_177.out
              have hnb83 := NB177_183.out
              have hnc83 := NB183_177.out
              obtain ⟨hcz84_0, hcz84_1, hcz84_2, hcz84_3⟩ := c4 BK177.out
              obtain ⟨hfz84_0, hfz84_1, hfz84_2, hfz84_3⟩ := z4 BK177.out
              try go_wp2
              go_roundg k1
              case measure => have := HK1.out; omega
              case rel => exact ⟨(wrap64 (x6_1 + 1)), (x184000_1), (x184001_1), (x184002_1), (u184000), (by first | rfl | (simp; done) | (simp [*]; done)), H', ⟨by have := HK1.out; omega⟩, ⟨by (with_reducible repeat first|apply Kd.R_alloc|apply Kd.R_drewN|apply Kd.R_drew); exact Kd.R_mono (Kd.R_far (p := ⟨gb190, 2, none⟩) (Kd.R_far (p := ⟨gb190, 1, none⟩) (Kd.R_far (p := ⟨gb190, 0, none⟩) (Kd.R_types HO_184000.out BK190.out (by decide)) (fun _ hk => hk.2) (.slice Ao74 t184.length co74)) (fun _ hk => hk.2) (.int .i64 t188)) (fun _ hk => hk.2) (.int .i64 t189)) (fun _ hk => trivial)⟩, ⟨by (with_reducible repeat first|apply q1|apply q2|apply q3); refine blk_far ?_ NB177_190.out _; (with_reducible repeat first|apply q1|apply q2|apply q3); refine blk_far ?_ NB177_190.out _; (with_reducible repeat first|apply q1|apply q2|apply q3); refine blk_far ?_ NB177_190.out _; (with_reducible repeat first|apply q1|apply q2|apply q3); exact BK177.out⟩, ⟨by (with_reducible repeat first|apply q1|apply q2|apply q3); refine blk_far ?_ NB178_190.out _; (with_reducible repeat first|apply q1|apply q2|apply q3); refine blk_far ?_ NB178_190.out _; (with_reducible repeat first|apply q1|apply q2|apply q3); refine blk_far ?_ NB178_190.out _; (with_reducible repeat first|apply q1|apply q2|apply q3); exact BK178.out⟩, ⟨by (with_reducible repeat first|apply q1|apply q2|apply q3); refine blk_far ?_ NB183_190.out _; (with_reducible repeat first|apply q1|apply q2|apply q3); refine blk_far ?_ NB183_190.out _; (with_reducible repeat first|apply q1|apply q2|apply q3); refine blk_far ?_ NB183_190.out _; (with_reducible repeat first|apply q1|apply q2|apply q3); exact BK183.out⟩, ⟨by repeat (first | (with_reducible first | exact HB.out | apply b1|apply b2|apply b3 | refine below_set ?_ GE177.out | refine below_set ?_ GE178.out | refine below_set ?_ GE183.out | refine below_set ?_ GE190.out) | exact HB.out)⟩⟩
          · rw [if_neg c18] at H
            have c18b0 : decide (x6_1 < (ji17)) = false := decide_eq_false c18
            clear c18
            simp only [Option.some.injEq, Prod.mk.injEq] at H
            obtain ⟨rfl, rfl, rfl, rfl⟩ := H
            have hnb85 := NB183_177.out
            have hnc85 := NB177_183.out
            have hnb86 := NB183_178.out
            have hnc86 := NB178_183.out
            obtain ⟨hcz87_0, hcz87_1, hcz87_2⟩ := c3 BK183.out
            obtain ⟨hfz87_0, hfz87_1, hfz87_2⟩ := z3 BK183.out
            obtain ⟨Ao88, co88, eo88⟩ := Kd.R_slice HO_184000.out
            subst eo88
            have hnb89 := NB178_177.out
            have hnc89 := NB177_178.out
            obtain ⟨hcz90_0, hcz90_1, hcz90_2⟩ := c3 BK178.out
            obtain ⟨hfz90_0, hfz90_1, hfz90_2⟩ := z3 BK178.out
            go_wp2
            refine bodyPost_ret (results_ct rfl _ _ gb178 28 #[.slice Ao88 x184000_1.length co88, .int .i64 x184001_1, .int .i64 x184002_1] (0, 0) _ rfl (by (with_reducible repeat first|apply q1|apply q2|apply q3); refine blk_put (cs := #[.slice Ao88 x184000_1.length co88, .int .i64 x184001_1, .int .i64 0]) ?_ 2 _ rfl; (with_reducible repeat first|apply q1|apply q2|apply q3); refine blk_put (cs := #[.slice Ao88 x184000_1.length co88, .int .i64 0, .int .i64 0]) ?_ 1 _ rfl; (with_reducible repeat first|apply q1|apply q2|apply q3); refine blk_put (cs := #[.slice none 0 0, .int .i64 0, .int .i64 0]) ?_ 0 _ rfl; (with_reducible repeat first|apply q1|apply q2|apply q3); exact BK178.out) Try.underlying28 rfl (by kernel_rfl)) rfl ?_
            exact ⟨_, by first | rfl | (simp [errW_none, errW_some] <;> rfl) | (simp only [← hji17]; first | rfl | (simp [errW_none, errW_some] <;> rfl)) | (simp [*, errW_none, errW_some] <;> rfl), by (with_reducible repeat first|apply Kd.R_alloc|apply Kd.R_drewN|apply Kd.R_drew); exact Kd.R_mono (Kd.R_far (p := ⟨gb178, 2, none⟩) (Kd.R_far (p := ⟨gb178, 1, none⟩) (Kd.R_far (p := ⟨gb178, 0, none⟩) (Kd.R_types HO_184000.out BK178.out (by decide)) (fun _ hk => hk.2) (.slice Ao88 x184000_1.length co88)) (fun _ hk => hk.2) (.int .i64 x184001_1)) (fun _ hk => hk.2) (.int .i64 x184002_1)) (fun _ hk => trivial), by repeat (first | (with_reducible first | exact HB.out | apply b1|apply b2|apply b3 | refine below_set ?_ GE177.out | refine below_set ?_ GE178.out | refine below_set ?_ GE183.out) | exact HB.out)⟩
        · rw [if_neg c16] at H
          exact absurd H (by simp)
  · replace c3 := Bool.eq_false_iff.mpr c3
    subst c3
    have H1 : (some (([] : List Int), 0, 0, 2)) = some (r1, r2, r3, r4) := by rw [if_neg (show ¬ (false = true) by decide)] at H; exact H
    clear H
    have H := H1
    clear H1
    simp only [Option.some.injEq, Prod.mk.injEq] at H
    obtain ⟨rfl, rfl, rfl, rfl⟩ := H
    go_enter Try.func11, Try.ntmps11
    go_wp2_with (first | ((with_reducible refine gate_dst (N := 1) rfl ?_); refine box_event ?hg (N := 1) ?hd (cs := #[.slice A0_0 l0_0.length c0_0, .slice A0_1 l0_1.length c0_1, .slice A0_2 l0_2.length c0_2, .int .i64 a0_3]) (t := 25) ?hr ?_; (case hd => rfl); (case hg => rfl); (case hr => first | (go_simp; done) | (go_simp; rfl)); intro gb177 hg w91 hbox hb; have n0_ := am (below_step (by repeat (first | (with_reducible first | exact HB.out | apply b1|apply b2|apply b3) | exact HB.out)) hb); have n1_ := am (hbox); have n2_ := am ((by rw [hg]; exact (below_size (by repeat (first | (with_reducible first | exact HB.out | apply b1|apply b2|apply b3) | exact HB.out))) : w.heap.size ≤ gb177)); have n3_ := am ((by rw [hg]; exact (below_size (by repeat (first | (with_reducible first | exact HB.out | apply b1|apply b2|apply b3) | exact HB.out))) : w.heap.size ≤ gb177)); clear HB; have HB := n0_; have BK177 := n1_; have GW177 := n2_; have GE177 := n3_; clear n0_ n1_ n2_ n3_; clear hb hbox hg) | ((with_reducible refine gate_dst (N := 2) rfl ?_); refine box_event ?hg (N := 2) ?hd (cs := #[.slice none 0 0, .int .i64 0, .int .i64 0]) (t := 28) ?hr ?_; (case hd => rfl); (case hg => rfl); (case hr => first | (go_simp; done) | (go_simp; rfl)); intro gb178 hg w92 hbox hb; have n0_ := am (blk_below (g := gb177) (o := .cells #[.slice A0_0 l0_0.length c0_0, .slice A0_1 l0_1.length c0_1, .slice A0_2 l0_2.length c0_2, .int .i64 a0_3] 25 (0, 0)) (by (with_reducible repeat first|apply q1|apply q2|apply q3); exact BK177.out) hb); have n1_ := am (below_step (by repeat (first | (with_reducible first | exact HB.out | apply b1|apply b2|apply b3 | refine below_set ?_ GE177.out) | exact HB.out)) hb); have n2_ := am (hbox); have n3_ := am ((by rw [hg]; exact (below_size (by repeat (first | (with_reducible first | exact HB.out | apply b1|apply b2|apply b3 | refine below_set ?_ GE177.out) | exact HB.out))) : w.heap.size ≤ gb178)); have n4_ := am ((by rw [hg]; exact (below_size (by repeat (first | (with_reducible first | exact HB.out | apply b1|apply b2|apply b3 | refine below_set ?_ GE177.out) | exact HB.out))) : w.heap.size ≤ gb178)); have n5_ := am ((by rw [hg]; exact Nat.ne_of_lt (blk_lt (g := gb177) (o := .cells #[.slice A0_0 l0_0.length c0_0, .slice A0_1 l0_1.length c0_1, .slice A0_2 l0_2.length c0_2, .int .i64 a0_3] 25 (0, 0)) (by (with_reducible repeat first|apply q1|apply q2|apply q3); exact BK177.out)) : gb177 ≠ gb178)); have n6_ := am ((by rw [hg]; exact Nat.ne_of_gt (blk_lt (g := gb177) (o := .cells #[.slice A0_0 l0_0.length c0_0, .slice A0_1 l0_1.length c0_1, .slice A0_2 l0_2.length c0_2, .int .i64 a0_3] 25 (0, 0)) (by (with_reducible repeat first|apply q1|apply q2|apply q3); exact BK177.out)) : gb178 ≠ gb177)); clear BK177; clear HB; have BK177 := n0_; have HB := n1_; have BK178 := n2_; have GW178 := n3_; have GE178 := n4_; have NB177_178 := n5_; have NB178_177 := n6_; clear n0_ n1_ n2_ n3_ n4_ n5_ n6_; clear hb hbox hg; have hnb93 := NB177_178.out; have hnc93 := NB178_177.out; obtain ⟨hcz94_0, hcz94_1, hcz94_2, hcz94_3⟩ := c4 BK177.out; obtain ⟨hfz94_0, hfz94_1, hfz94_2, hfz94_3⟩ := z4 BK177.out) | ((with_reducible refine gate_callee (f := 29) rfl ?_); refine goesL_ (some 9) rfl rfl Try.func29 (by kernel_rfl) rfl #[.agg #[.slice A0_0 l0_0.length c0_0, .slice A0_1 l0_1.length c0_1, .slice A0_2 l0_2.length c0_2, .int .i64 a0_3]] rfl (by (try simp only [List.map_toArray, List.map_cons, List.map_nil]); first | done | rfl | (simp only [List.length_drop, List.length_take]; rfl)) ?_; (with_reducible refine (diapasonref26_May.calls k _ _ l0_0 _ _ l0_1 _ _ l0_2 a0_3 false _ ?side1 ?side2 ?side3 ?side4 ?side5 ?side6 A2.out).mono ?_); (case side1 => repeat (first | exact (Kd.C_below HR0_0.out HB.out) | (with_reducible refine Kd.C_alloc ?_ _) | (with_reducible refine Kd.C_drewN ?_ _) | (with_reducible refine Kd.C_drew ?_))); (case side2 => exact HC0_0.out); (case side3 => repeat (first | exact (Kd.C_below HR0_1.out HB.out) | (with_reducible refine Kd.C_alloc ?_ _) | (with_reducible refine Kd.C_drewN ?_ _) | (with_reducible refine Kd.C_drew ?_))); (case side4 => exact HC0_1.out); (case side5 => repeat (first | exact (Kd.C_below HR0_2.out HB.out) | (with_reducible refine Kd.C_alloc ?_ _) | (with_reducible refine Kd.C_drewN ?_ _) | (with_reducible refine Kd.C_drew ?_))); (case side6 => exact HC0_2.out); rintro e w95 ⟨rfl, hb⟩; refine ⟨_, rfl, ?_⟩; have n0_ := am (blk_below (g := gb177) (o := .cells #[.slice A0_0 l0_0.length c0_0, .slice A0_1 l0_1.length c0_1, .slice A0_2 l0_2.length c0_2, .int .i64 a0_3] 25 (0, 0)) (by (with_reducible repeat first|apply q1|apply q2|apply q3); exact BK177.out) hb); have n1_ := am (blk_below (g := gb178) (o := .cells #[.slice none 0 0, .int .i64 0, .int .i64 0] 28 (0, 0)) (by (with_reducible repeat first|apply q1|apply q2|apply q3); exact BK178.out) hb); have n2_ := am (below_step (by repeat (first | (with_reducible first | exact HB.out | apply b1|apply b2|apply b3 | refine below_set ?_ GE177.out | refine below_set ?_ GE178.out) | exact HB.out)) hb); clear BK177; clear BK178; clear HB; have BK177 := n0_; have BK178 := n1_; have HB := n2_; clear n0_ n1_ n2_; (try clear hb);(try clear hb2);(try clear hk);(try clear hi); obtain ⟨hcz96_0, hcz96_1, hcz96_2⟩ := c3 BK178.out; obtain ⟨hfz96_0, hfz96_1, hfz96_2⟩ := z3 BK178.out))
    refine bodyPost_ret (results_ct rfl _ _ gb178 28 #[.slice none 0 0, .int .i64 0, .int .i64 0] (0, 0) _ rfl (by (with_reducible repeat first|apply q1|apply q2|apply q3); refine blk_put (cs := #[.slice none 0 0, .int .i64 0, .int .i64 0]) ?_ 2 _ rfl; (with_reducible repeat first|apply q1|apply q2|apply q3); refine blk_put (cs := #[.slice none 0 0, .int .i64 0, .int .i64 0]) ?_ 1 _ rfl; (with_reducible repeat first|apply q1|apply q2|apply q3); refine blk_put (cs := #[.slice none 0 0, .int .i64 0, .int .i64 0]) ?_ 0 _ rfl; (with_reducible repeat first|apply q1|apply q2|apply q3); exact BK178.out) Try.underlying28 rfl (by kernel_rfl)) rfl ?_
    exact ⟨_, by first | rfl | (simp [errW_none, errW_some] <;> rfl) | (simp [*, errW_none, errW_some] <;> rfl), by first | exact Kd.R_nil _ _ _ _ _ | exact Kd.N_nil _ _ _ _ _ | exact Kd.V_nil _ _ _ _ _ | exact Kd.Q_nil _ _ _ _ _ | exact Kd.S_nil _ _ _ _ _, by repeat (first | (with_reducible first | exact HB.out | apply b1|apply b2|apply b3 | refine below_set ?_ GE177.out | refine below_set ?_ GE178.out) | exact HB.out)⟩

end Go.Proofs.Ytbpamdgpfjaggaa.PRegisBest
