-- Written by a program of this session (the kit's print, turned: wip/px).
import Derived.Test.YtfcidgnbocijdaaDoorPCertLooksx0
import Derived.Test.YtfcidgnbocijdaaDoorPCertLooksx13
import Derived.Test.YtfcidgnbocijdaaDoorPCertLooksx17
import Derived.Test.YtfcidgnbocijdaaDoorPCertMakesx0
import Derived.Test.YtfcidgnbocijdaaDoorPCertMakesx1
import Derived.Test.YtfcidgnbocijdaaDoorPCertMakesx2
import Derived.Test.YtfcidgnbocijdaaDoorPCertMakesx3
import Derived.Test.YtfcidgnbocijdaaDoorPCertMakesx4
import Derived.Test.YtfcidgnbocijdaaDoorPCertMakesx5
import Derived.Test.YtfcidgnbocijdaaDoorPCertMakesx6
import Derived.Test.YtfcidgnbocijdaaDoorPCertMakesx7
import Derived.Test.YtfcidgnbocijdaaDoorPCertMakesx8
import Derived.Test.YtfcidgnbocijdaaDoorPCertMakesx9
import Derived.Test.YtfcidgnbocijdaaDoorPCertMakesx12
import Derived.Test.YtfcidgnbocijdaaDoorPCertMakesx13
import Derived.Test.YtfcidgnbocijdaaDoorPCertLooksx1
import Derived.Test.YtfcidgnbocijdaaDoorPCertLooksx8
import Derived.Test.YtfcidgnbocijdaaDoorPCertLooksx9
import Derived.Test.YtfcidgnbocijdaaDoorPCertLooksx10
import Derived.Test.YtfcidgnbocijdaaDoorPCertLooksx11
import Derived.Test.YtfcidgnbocijdaaDoorSq2
namespace Go.Proofs.YtfcidgnbocijdaaDoor.PCertLooks
open Go.Proofs.YtfcidgnbocijdaaDoor.PCertMakes
open Go.Proofs.YtfcidgnbocijdaaDoor.Sq
open Go.RowKit Go.Proofs.YtfcidgnbocijdaaDoorW.PrintWords Go.Proofs.YtfcidgnbocijdaaDoorW.PrintLast Go.Proofs.YtfcidgnbocijdaaDoorW.PrintMore
attribute [local go_sem] max2_int min2_int max_two min_two max_three min_three max_four min_four   -- for this text's walks alone
set_option linter.unusedVariables false
set_option linter.unusedSimpArgs false

/-! ### diapasonref27_Check: function 28 -/
mutual
def diapasonref27_Check.j0 : Nat → List (S66) → Bool → List Int → List (List Int) → List Int → Int → List Int → Int → Int → Option (Int × Int)
 | 0, _, _, _, _, _, _, _, _, _ => none
 | k + 1, x2, x40, x293000, x293001, x293002, x293003, x294000, x294001, x294002 => if x40 = true then (some ((-1), 270)) else (if (x2.length : Int) > 65536 then (some ((-1), 3)) else (diapasonref27_Check.l0 k x2 0 x293000 x293001 x293002 x293003 x294000 x294001 x294002))
def diapasonref27_Check.l0 : Nat → List (S66) → Int → List Int → List (List Int) → List Int → Int → List Int → Int → Int → Option (Int × Int)
 | 0, _, _, _, _, _, _, _, _, _ => none
 | k + 1, x2, x9, x293000, x293001, x293002, x293003, x294000, x294001, x294002 => if x9 < (x2.length : Int) then (if 0 ≤ x9 then ((diapasonref27_Shut.f k x293000 x293001 x293002 x293003 x294001 ((rd_T66 x2 x9).f0) ((rd_T66 x2 x9).f1)).bind fun t303 => (if t303 = true then ((diapasonref27_follows.f k x2 x9).bind fun t304 => (if t304 = true then (diapasonref27_Check.l0 k x2 (wrap64 (x9 + 1)) x293000 x293001 x293002 x293003 x294000 x294001 x294002) else (some (x9, 270)))) else (some (x9, 270)))) else (none)) else (if (x2.length : Int) = 0 then (some ((x2.length : Int), 270)) else (if 0 ≤ (wrap64 ((x2.length : Int) - 1)) then (if (wrap64 ((x2.length : Int) - 1)) < (x2.length : Int) then ((diapasonref27_last.f k ((rd_T66 x2 (wrap64 ((x2.length : Int) - 1))).f0)).bind fun t301 => (if t301 ≥ 0 then (some ((x2.length : Int), 270)) else (some (0, 0)))) else (none)) else (none)))
end
def diapasonref27_Check.f (k : Nat) (l0_0 : List Int) (l0_1 : List (List Int)) (l0_2 : List Int) (a0_3 : Int) (l1_0 : List Int) (a1_1 : Int) (a1_2 : Int) (l2 : List (S66)) : Option (Int × Int) := (diapasonref26_May.f k l0_0 l0_1 l0_2 a0_3).bind fun t294 => (if t294 = true then ((diapasonref26_Rises.f k l0_0 l0_1 l0_2 a0_3 l1_0).bind fun t295 => (if t295 = true then ((diapasonref26_Choice.f k l0_0 l0_1 l0_2 a0_3 l1_0).bind fun bt296 => (if bt296.2.1 = a1_1 then (if bt296.2.2 = a1_2 then (diapasonref27_Check.j0 k l2 (decide (a1_2 > a0_3)) l0_0 l0_1 l0_2 a0_3 l1_0 a1_1 a1_2) else (diapasonref27_Check.j0 k l2 true l0_0 l0_1 l0_2 a0_3 l1_0 a1_1 a1_2)) else (diapasonref27_Check.j0 k l2 true l0_0 l0_1 l0_2 a0_3 l1_0 a1_1 a1_2))) else (some ((-1), 270)))) else (some ((-1), 2)))
theorem diapasonref27_Check.mono_l : ∀ k, (∀ y0 y1 y2 y3 y4 y5 y6 y7 y8, LeO (diapasonref27_Check.j0 k y0 y1 y2 y3 y4 y5 y6 y7 y8) (diapasonref27_Check.j0 (k + 1) y0 y1 y2 y3 y4 y5 y6 y7 y8)) ∧ (∀ y0 y1 y2 y3 y4 y5 y6 y7 y8, LeO (diapasonref27_Check.l0 k y0 y1 y2 y3 y4 y5 y6 y7 y8) (diapasonref27_Check.l0 (k + 1) y0 y1 y2 y3 y4 y5 y6 y7 y8))
 | 0 => ⟨fun _ _ _ _ _ _ _ _ _ r h => by simp [diapasonref27_Check.j0] at h, fun _ _ _ _ _ _ _ _ _ r h => by simp [diapasonref27_Check.l0] at h⟩
 | k + 1 => by
  obtain ⟨ih0, ih1⟩:=diapasonref27_Check.mono_l k;refine ⟨?_, ?_⟩
  ·intro y0 y1 y2 y3 y4 y5 y6 y7 y8
   unfold diapasonref27_Check.j0
   repeat' first
   | (with_reducible exact ih0 _ _ _ _ _ _ _ _ _)
   | (with_reducible exact ih1 _ _ _ _ _ _ _ _ _)
   | (with_reducible exact diapasonref26_Choice.mono _ _ _ _ _ _)
   | (with_reducible exact diapasonref26_May.mono _ _ _ _ _)
   | (with_reducible exact diapasonref26_Rises.mono _ _ _ _ _ _)
   | (with_reducible exact diapasonref27_Shut.mono _ _ _ _ _ _ _ _)
   | (with_reducible exact diapasonref27_follows.mono _ _ _)
   | (with_reducible exact diapasonref27_last.mono _ _)
   | (with_reducible exact LeO.refl _)
   | (with_reducible exact LeO.none _)
   | (with_reducible refine LeO.ite ?_ ?_)
   | (with_reducible refine LeO.bind ?_ (fun _ => ?_))
   | exact ih0 _ _ _ _ _ _ _ _ _
   | exact ih1 _ _ _ _ _ _ _ _ _
   | exact diapasonref26_Choice.mono _ _ _ _ _ _
   | exact diapasonref26_May.mono _ _ _ _ _
   | exact diapasonref26_Rises.mono _ _ _ _ _ _
   | exact diapasonref27_Shut.mono _ _ _ _ _ _ _ _
   | exact diapasonref27_follows.mono _ _ _
   | exact diapasonref27_last.mono _ _
   | exact LeO.none _
   | refine LeO.ite ?_ ?_
   | refine LeO.bind ?_ (fun _ => ?_)
  ·intro y0 y1 y2 y3 y4 y5 y6 y7 y8
   unfold diapasonref27_Check.l0
   repeat' first
   | (with_reducible exact ih0 _ _ _ _ _ _ _ _ _)
   | (with_reducible exact ih1 _ _ _ _ _ _ _ _ _)
   | (with_reducible exact diapasonref26_Choice.mono _ _ _ _ _ _)
   | (with_reducible exact diapasonref26_May.mono _ _ _ _ _)
   | (with_reducible exact diapasonref26_Rises.mono _ _ _ _ _ _)
   | (with_reducible exact diapasonref27_Shut.mono _ _ _ _ _ _ _ _)
   | (with_reducible exact diapasonref27_follows.mono _ _ _)
   | (with_reducible exact diapasonref27_last.mono _ _)
   | (with_reducible exact LeO.refl _)
   | (with_reducible exact LeO.none _)
   | (with_reducible refine LeO.ite ?_ ?_)
   | (with_reducible refine LeO.bind ?_ (fun _ => ?_))
   | exact ih0 _ _ _ _ _ _ _ _ _
   | exact ih1 _ _ _ _ _ _ _ _ _
   | exact diapasonref26_Choice.mono _ _ _ _ _ _
   | exact diapasonref26_May.mono _ _ _ _ _
   | exact diapasonref26_Rises.mono _ _ _ _ _ _
   | exact diapasonref27_Shut.mono _ _ _ _ _ _ _ _
   | exact diapasonref27_follows.mono _ _ _
   | exact diapasonref27_last.mono _ _
   | exact LeO.none _
   | refine LeO.ite ?_ ?_
   | refine LeO.bind ?_ (fun _ => ?_)
theorem diapasonref27_Check.mono : ∀ a0 a1 a2 a3 a4 a5 a6 a7 k, LeO (diapasonref27_Check.f k a0 a1 a2 a3 a4 a5 a6 a7) (diapasonref27_Check.f (k + 1) a0 a1 a2 a3 a4 a5 a6 a7) := by
 intro a0 a1 a2 a3 a4 a5 a6 a7 k;obtain ⟨ih0, ih1⟩:=diapasonref27_Check.mono_l k
 unfold diapasonref27_Check.f
 repeat' first
   | (with_reducible exact ih0 _ _ _ _ _ _ _ _ _)
   | (with_reducible exact ih1 _ _ _ _ _ _ _ _ _)
   | (with_reducible exact diapasonref26_Choice.mono _ _ _ _ _ _)
   | (with_reducible exact diapasonref26_May.mono _ _ _ _ _)
   | (with_reducible exact diapasonref26_Rises.mono _ _ _ _ _ _)
   | (with_reducible exact diapasonref27_Shut.mono _ _ _ _ _ _ _ _)
   | (with_reducible exact diapasonref27_follows.mono _ _ _)
   | (with_reducible exact diapasonref27_last.mono _ _)
   | (with_reducible exact LeO.refl _)
   | (with_reducible exact LeO.none _)
   | (with_reducible refine LeO.ite ?_ ?_)
   | (with_reducible refine LeO.bind ?_ (fun _ => ?_))
   | exact ih0 _ _ _ _ _ _ _ _ _
   | exact ih1 _ _ _ _ _ _ _ _ _
   | exact diapasonref26_Choice.mono _ _ _ _ _ _
   | exact diapasonref26_May.mono _ _ _ _ _
   | exact diapasonref26_Rises.mono _ _ _ _ _ _
   | exact diapasonref27_Shut.mono _ _ _ _ _ _ _ _
   | exact diapasonref27_follows.mono _ _ _
   | exact diapasonref27_last.mono _ _
   | exact LeO.none _
   | refine LeO.ite ?_ ?_
   | refine LeO.bind ?_ (fun _ => ?_)
def diapasonref27_Check.T13 : Bool × List (List Nat × List Nat) := (true, [([], []), ([], []), ([1], [1]), ([], []), ([], []), ([3, 4], [3, 4]), ([5], [5]), ([0, 2, 6], [0, 2, 6]), ([7], [7]), ([8, 7], [8]), ([9], [9]), ([9], [9]), ([10, 11, 9, 9], [9, 10, 11]), ([12, 9], [9, 12]), ([9, 13], [9, 13])])
def diapasonref27_Check.B13 : List Nat := [0, 0, 2, 0, 0, 24, 56, 127, 255, 511, 1023, 1023, 4095, 8191, 16383]
theorem diapasonref27_Check.tab13 : rtab .any (opsOf Tryd.f28 13) = diapasonref27_Check.T13 := by kernel_rfl
theorem diapasonref27_Check.bits13 : waitsOk diapasonref27_Check.T13.2 diapasonref27_Check.B13 = true := by kernel_rfl
set_option maxHeartbeats 8000000 in
set_option maxRecDepth 100000 in
theorem diapasonref27_Check.calls (k : Nat) (A0_0 : Option Addr) (c0_0 : Nat) (l0_0 : List Int) (A0_1 : Option Addr) (c0_1 : Nat) (l0_1 : List (List Int)) (A0_2 : Option Addr) (c0_2 : Nat) (l0_2 : List Int) (a0_3 : Int) (A1_0 : Option Addr) (c1_0 : Nat) (l1_0 : List Int) (a1_1 : Int) (a1_2 : Int) (A2 : Option Addr) (c2 : Nat) (l2 : List (S66)) (r1 : Int) (r2 : Int) (w : World) (hr0_0 : Kd.C (Kd.int .i64) w A0_0 l0_0.length l0_0) (hc0_0 : l0_0.length ≤ c0_0) (hr0_1 : Kd.C (Kd.slice 3 (Kd.int .i64)) w A0_1 l0_1.length l0_1) (hc0_1 : l0_1.length ≤ c0_1) (hr0_2 : Kd.C (Kd.int .i64) w A0_2 l0_2.length l0_2) (hc0_2 : l0_2.length ≤ c0_2) (hr1_0 : Kd.C (Kd.int .i64) w A1_0 l1_0.length l1_0) (hc1_0 : l1_0.length ≤ c1_0) (hr2 : Kd.C k66 w A2 l2.length l2) (hc2 : l2.length ≤ c2) (h : diapasonref27_Check.f k l0_0 l0_1 l0_2 a0_3 l1_0 a1_1 a1_2 l2 = some (r1, r2)) :
  Calls Tryd.prog 28 #[.agg #[.slice A0_0 l0_0.length c0_0, .slice A0_1 l0_1.length c0_1, .slice A0_2 l0_2.length c0_2, .int .i64 a0_3], .agg #[.slice A1_0 l1_0.length c1_0, .int .i64 a1_1, .int .i64 a1_2], .slice A2 l2.length c2] w fun e w' => e = .returned (.tuple #[.int .i64 r1, .int .i64 r2]) ∧ Below w.heap.size w w':=by
 have hu28:=Tryd.underlying28;have hu31:=Tryd.underlying31;have hu66:=Tryd.underlying66;have HR0_0:=am_ hr0_0;have HC0_0:=am_ hc0_0;clear hr0_0 hc0_0;have HR0_1:=am_ hr0_1;have HC0_1:=am_ hc0_1;clear hr0_1 hc0_1;have HR0_2:=am_ hr0_2;have HC0_2:=am_ hc0_2;clear hr0_2 hc0_2;have HR1_0:=am_ hr1_0;have HC1_0:=am_ hc1_0;clear hr1_0 hc1_0;have HR2:=am_ hr2;have HC2:=am_ hc2;clear hr2 hc2;have HB:=am_ (Below.refl w.heap.size w);have H : ((diapasonref26_May.f k l0_0 l0_1 l0_2 a0_3).bind fun t294 => (if t294 = true then ((diapasonref26_Rises.f k l0_0 l0_1 l0_2 a0_3 l1_0).bind fun t295 => (if t295 = true then ((diapasonref26_Choice.f k l0_0 l0_1 l0_2 a0_3 l1_0).bind fun bt296 => (if bt296.2.1 = a1_1 then (if bt296.2.2 = a1_2 then (diapasonref27_Check.j0 k l2 (decide (a1_2 > a0_3)) l0_0 l0_1 l0_2 a0_3 l1_0 a1_1 a1_2) else (diapasonref27_Check.j0 k l2 true l0_0 l0_1 l0_2 a0_3 l1_0 a1_1 a1_2)) else (diapasonref27_Check.j0 k l2 true l0_0 l0_1 l0_2 a0_3 l1_0 a1_1 a1_2))) else (some ((-1), 270)))) else (some ((-1), 2)))) = some (r1, r2):=h;clear h;replace H:=Option.bind_eq_some_iff.mp H;obtain ⟨t294, A40, H⟩:=H;replace H : (if t294 = true then ((diapasonref26_Rises.f k l0_0 l0_1 l0_2 a0_3 l1_0).bind fun t295 => (if t295 = true then ((diapasonref26_Choice.f k l0_0 l0_1 l0_2 a0_3 l1_0).bind fun bt296 => (if bt296.2.1 = a1_1 then (if bt296.2.2 = a1_2 then (diapasonref27_Check.j0 k l2 (decide (a1_2 > a0_3)) l0_0 l0_1 l0_2 a0_3 l1_0 a1_1 a1_2) else (diapasonref27_Check.j0 k l2 true l0_0 l0_1 l0_2 a0_3 l1_0 a1_1 a1_2)) else (diapasonref27_Check.j0 k l2 true l0_0 l0_1 l0_2 a0_3 l1_0 a1_1 a1_2))) else (some ((-1), 270)))) else (some ((-1), 2))) = some (r1, r2):=H;have A4:=am_ A40;clear A40
 by_cases c5 : t294 = true
 ·subst c5;have H1 : ((diapasonref26_Rises.f k l0_0 l0_1 l0_2 a0_3 l1_0).bind fun t295 => (if t295 = true then ((diapasonref26_Choice.f k l0_0 l0_1 l0_2 a0_3 l1_0).bind fun bt296 => (if bt296.2.1 = a1_1 then (if bt296.2.2 = a1_2 then (diapasonref27_Check.j0 k l2 (decide (a1_2 > a0_3)) l0_0 l0_1 l0_2 a0_3 l1_0 a1_1 a1_2) else (diapasonref27_Check.j0 k l2 true l0_0 l0_1 l0_2 a0_3 l1_0 a1_1 a1_2)) else (diapasonref27_Check.j0 k l2 true l0_0 l0_1 l0_2 a0_3 l1_0 a1_1 a1_2))) else (some ((-1), 270)))) = some (r1, r2):=by rw [if_pos rfl] at H;exact H
  clear H;have H:=H1;clear H1;replace H:=Option.bind_eq_some_iff.mp H;obtain ⟨t295, A60, H⟩:=H;replace H : (if t295 = true then ((diapasonref26_Choice.f k l0_0 l0_1 l0_2 a0_3 l1_0).bind fun bt296 => (if bt296.2.1 = a1_1 then (if bt296.2.2 = a1_2 then (diapasonref27_Check.j0 k l2 (decide (a1_2 > a0_3)) l0_0 l0_1 l0_2 a0_3 l1_0 a1_1 a1_2) else (diapasonref27_Check.j0 k l2 true l0_0 l0_1 l0_2 a0_3 l1_0 a1_1 a1_2)) else (diapasonref27_Check.j0 k l2 true l0_0 l0_1 l0_2 a0_3 l1_0 a1_1 a1_2))) else (some ((-1), 270))) = some (r1, r2):=H;have A6:=am_ A60;clear A60
  by_cases c7 : t295 = true
  ·subst c7;have H1 : ((diapasonref26_Choice.f k l0_0 l0_1 l0_2 a0_3 l1_0).bind fun bt296 => (if bt296.2.1 = a1_1 then (if bt296.2.2 = a1_2 then (diapasonref27_Check.j0 k l2 (decide (a1_2 > a0_3)) l0_0 l0_1 l0_2 a0_3 l1_0 a1_1 a1_2) else (diapasonref27_Check.j0 k l2 true l0_0 l0_1 l0_2 a0_3 l1_0 a1_1 a1_2)) else (diapasonref27_Check.j0 k l2 true l0_0 l0_1 l0_2 a0_3 l1_0 a1_1 a1_2))) = some (r1, r2):=by rw [if_pos rfl] at H;exact H
   clear H;have H:=H1;clear H1;replace H:=Option.bind_eq_some_iff.mp H;obtain ⟨⟨t296, t297, t298⟩, A80, H⟩:=H;replace H : (if t297 = a1_1 then (if t298 = a1_2 then (diapasonref27_Check.j0 k l2 (decide (a1_2 > a0_3)) l0_0 l0_1 l0_2 a0_3 l1_0 a1_1 a1_2) else (diapasonref27_Check.j0 k l2 true l0_0 l0_1 l0_2 a0_3 l1_0 a1_1 a1_2)) else (diapasonref27_Check.j0 k l2 true l0_0 l0_1 l0_2 a0_3 l1_0 a1_1 a1_2)) = some (r1, r2):=H;have A8:=am_ A80;clear A80;have HC9:=am_ H;clear H;go_enter Tryd.func28, Tryd.ntmps28
   go_upto_region 6 with (first | ((with_reducible refine gate_dst (N:=3) rfl ?_);(try (refine gate_guard (by rfl) ?_;dsimp only));refine box_event ?hg (N:=3) ?hd (cs:=#[.slice A0_0 l0_0.length c0_0, .slice A0_1 l0_1.length c0_1, .slice A0_2 l0_2.length c0_2, .int .i64 a0_3]) (t:=28) ?hr ?_;(case hd => rfl);(case hg => rfl);(case hr => first | (go_simp;done) | (go_simp;rfl));intro gb292 hg w10 hbox hb;have BK292:=am_ hbox;have GW292:=gz_ hg HB;have GE292:=gz_ hg HB;replace HB:=bs_ HB hb;clear hb hbox hg) | ((with_reducible refine gate_dst (N:=4) rfl ?_);(try (refine gate_guard (by rfl) ?_;dsimp only));refine box_event ?hg (N:=4) ?hd (cs:=#[.slice A1_0 l1_0.length c1_0, .int .i64 a1_1, .int .i64 a1_2]) (t:=31) ?hr ?_;(case hd => rfl);(case hg => rfl);(case hr => first | (go_simp;done) | (go_simp;rfl));intro gb293 hg w11 hbox hb;have BK293:=am_ hbox;have GW293:=gz_ hg HB;have GE293:=gz_ hg HB;replace HB:=am_ (below_step (by repeat (first | (with_reducible first | exact HB.out | apply b1_|apply b2_|apply b3_ | refine below_set ?_ GE292.out) | exact HB.out)) hb);have NB292_293:=nl_ hg BK292;have NB293_292:=ng_ hg BK292;replace BK292:=bb_ BK292 hb;clear hb hbox hg;have hnb12:=NB292_293.out;have hnc12:=NB293_292.out;obtain ⟨hcz13_0, hcz13_1, hcz13_2, hcz13_3⟩:=c4_ BK292.out;obtain ⟨hfz13_0, hfz13_1, hfz13_2, hfz13_3⟩:=z4_ BK292.out) | ((with_reducible refine gate_callee (f:=56) rfl ?_);refine goesL_ (some 11) rfl rfl Tryd.func56 (by kernel_rfl) rfl #[.agg #[.slice A0_0 l0_0.length c0_0, .slice A0_1 l0_1.length c0_1, .slice A0_2 l0_2.length c0_2, .int .i64 a0_3]] rfl (by (try simp only [List.map_toArray, List.map_cons, List.map_nil]);first|done|rfl|(simp only [List.length_drop, List.length_take];rfl)) ?_;(with_reducible refine (diapasonref26_May.calls k _ _ l0_0 _ _ l0_1 _ _ l0_2 a0_3 true _ ?side1 ?side2 ?side3 ?side4 ?side5 ?side6 A4.out).mono ?_);(case side1 => exact cb_ HR0_0 HB);(case side2 => exact HC0_0.out);(case side3 => exact cb_ HR0_1 HB);(case side4 => exact HC0_1.out);(case side5 => exact cb_ HR0_2 HB);(case side6 => exact HC0_2.out);rintro e w14 ⟨rfl, hb⟩;refine ⟨_, rfl, ?_⟩;replace BK292:=bb_ BK292 hb;replace BK293:=bb_ BK293 hb;replace HB:=am_ (below_step (by repeat (first | (with_reducible first | exact HB.out | apply b1_|apply b2_|apply b3_ | refine below_set ?_ GE292.out | refine below_set ?_ GE293.out) | exact HB.out)) hb);(try clear hb);(try clear hb2);(try clear hk);(try clear hi);obtain ⟨hcz15_0, hcz15_1, hcz15_2, hcz15_3⟩:=c4_ BK292.out;obtain ⟨hfz15_0, hfz15_1, hfz15_2, hfz15_3⟩:=z4_ BK292.out;obtain ⟨hcz16_0, hcz16_1, hcz16_2⟩:=c3_ BK293.out;obtain ⟨hfz16_0, hfz16_1, hfz16_2⟩:=z3_ BK293.out) | ((with_reducible refine gate_callee (f:=57) rfl ?_);refine goesL_ (some 16) rfl rfl Tryd.func57 (by kernel_rfl) rfl #[.agg #[.slice A0_0 l0_0.length c0_0, .slice A0_1 l0_1.length c0_1, .slice A0_2 l0_2.length c0_2, .int .i64 a0_3], .slice A1_0 l1_0.length c1_0] rfl (by (try simp only [List.map_toArray, List.map_cons, List.map_nil]);first|done|rfl|(simp only [List.length_drop, List.length_take];rfl)) ?_;(with_reducible refine (diapasonref26_Rises.calls k _ _ l0_0 _ _ l0_1 _ _ l0_2 a0_3 _ _ l1_0 true _ ?side1 ?side2 ?side3 ?side4 ?side5 ?side6 ?side7 ?side8 A6.out).mono ?_);(case side1 => exact cb_ HR0_0 HB);(case side2 => exact HC0_0.out);(case side3 => exact cb_ HR0_1 HB);(case side4 => exact HC0_1.out);(case side5 => exact cb_ HR0_2 HB);(case side6 => exact HC0_2.out);(case side7 => exact cb_ HR1_0 HB);(case side8 => exact HC1_0.out);rintro e w17 ⟨rfl, hb⟩;refine ⟨_, rfl, ?_⟩;replace BK292:=bb_ BK292 hb;replace BK293:=bb_ BK293 hb;replace HB:=am_ (below_step (by repeat (first | (with_reducible first | exact HB.out | apply b1_|apply b2_|apply b3_ | refine below_set ?_ GE292.out | refine below_set ?_ GE293.out) | exact HB.out)) hb);(try clear hb);(try clear hb2);(try clear hk);(try clear hi);obtain ⟨hcz18_0, hcz18_1, hcz18_2, hcz18_3⟩:=c4_ BK292.out;obtain ⟨hfz18_0, hfz18_1, hfz18_2, hfz18_3⟩:=z4_ BK292.out;obtain ⟨hcz19_0, hcz19_1, hcz19_2⟩:=c3_ BK293.out;obtain ⟨hfz19_0, hfz19_1, hfz19_2⟩:=z3_ BK293.out) | ((with_reducible refine gate_callee (f:=58) rfl ?_);refine goesL_ (some 21) rfl rfl Tryd.func58 (by kernel_rfl) rfl #[.agg #[.slice A0_0 l0_0.length c0_0, .slice A0_1 l0_1.length c0_1, .slice A0_2 l0_2.length c0_2, .int .i64 a0_3], .slice A1_0 l1_0.length c1_0] rfl (by (try simp only [List.map_toArray, List.map_cons, List.map_nil]);first|done|rfl|(simp only [List.length_drop, List.length_take];rfl)) ?_;(with_reducible refine (diapasonref26_Choice.calls k _ _ l0_0 _ _ l0_1 _ _ l0_2 a0_3 _ _ l1_0 t296 t297 t298 _ ?side1 ?side2 ?side3 ?side4 ?side5 ?side6 ?side7 ?side8 A8.out).mono ?_);(case side1 => exact cb_ HR0_0 HB);(case side2 => exact HC0_0.out);(case side3 => exact cb_ HR0_1 HB);(case side4 => exact HC0_1.out);(case side5 => exact cb_ HR0_2 HB);(case side6 => exact HC0_2.out);(case side7 => exact cb_ HR1_0 HB);(case side8 => exact HC1_0.out);rintro e w20 ⟨rfl, hb⟩;refine ⟨_, rfl, ?_⟩;replace BK292:=bb_ BK292 hb;replace BK293:=bb_ BK293 hb;replace HB:=am_ (below_step (by repeat (first | (with_reducible first | exact HB.out | apply b1_|apply b2_|apply b3_ | refine below_set ?_ GE292.out | refine below_set ?_ GE293.out) | exact HB.out)) hb);(try clear hb);(try clear hb2);(try clear hk);(try clear hi)) | ((with_reducible refine gate_dst (N:=8) rfl ?_);(try (refine gate_guard (by rfl) ?_;dsimp only));refine box_event ?hg (N:=8) ?hd (cs:=#[.slice none 0 0, .int .i64 0, .int .i64 0]) (t:=31) ?hr ?_;(case hd => rfl);(case hg => rfl);(case hr => first | (go_simp;done) | (go_simp;rfl));intro gb299 hg w21 hbox hb;have BK299:=am_ hbox;have GW299:=gz_ hg HB;have GE299:=gz_ hg HB;replace HB:=am_ (below_step (by repeat (first | (with_reducible first | exact HB.out | apply b1_|apply b2_|apply b3_ | refine below_set ?_ GE292.out | refine below_set ?_ GE293.out) | exact HB.out)) hb);have NB292_299:=nl_ hg BK292;have NB299_292:=ng_ hg BK292;replace BK292:=bb_ BK292 hb;have NB293_299:=nl_ hg BK293;have NB299_293:=ng_ hg BK293;replace BK293:=bb_ BK293 hb;clear hb hbox hg;have hnb22:=NB299_292.out;have hnc22:=NB292_299.out;have hnb23:=NB299_293.out;have hnc23:=NB293_299.out;obtain ⟨hcz24_0, hcz24_1, hcz24_2⟩:=c3_ BK299.out;obtain ⟨hfz24_0, hfz24_1, hfz24_2⟩:=z3_ BK299.out))
   (try simp only [Act.put, st_, s0_, s1_])
   go_cut [40] (fun v40 wc => ∃ (kq : Nat) (x40_8 : Bool), v40 = .bool x40_8 ∧ Aside0 (diapasonref27_Check.j0 kq l2 x40_8 l0_0 l0_1 l0_2 a0_3 l1_0 a1_1 a1_2 = some (r1, r2)) ∧ Aside0 (kq ≤ k) ∧ Aside0 (wc.heap[gb292]? = some (.cells #[(.slice A0_0 l0_0.length c0_0), (.slice A0_1 l0_1.length c0_1), (.slice A0_2 l0_2.length c0_2), .int .i64 a0_3] 28 (0, 0))) ∧ Aside0 (wc.heap[gb293]? = some (.cells #[(.slice A1_0 l1_0.length c1_0), .int .i64 a1_1, .int .i64 a1_2] 31 (0, 0))) ∧ Aside0 (wc.heap[gb299]? = some (.cells #[(.slice A1_0 l1_0.length c1_0), .int .i64 t297, .int .i64 t298] 31 (0, 0))) ∧ Aside0 (Below w.heap.size w wc))
   case first =>
    have H:=HC9.out;clear HC9
    by_cases c25 : t297 = a1_1
    ·rw [if_pos c25] at H;have c25b0 : (t297 == a1_1) = true:=beq_iff_eq.mpr c25;have c25b1 : (t297 != a1_1) = false:=bne_eq_false_iff_eq.mpr c25;clear c25;(first | rw [c25b0] | (simp only [i64_w, i32_w];rw [c25b0]) | skip)
     by_cases c26 : t298 = a1_2
     ·rw [if_pos c26] at H;have c26b0 : (t298 == a1_2) = true:=beq_iff_eq.mpr c26;have c26b1 : (t298 != a1_2) = false:=bne_eq_false_iff_eq.mpr c26;clear c26;have H':=am_ H;clear H;have hnb27:=NB299_292.out;have hnc27:=NB292_299.out;have hnb28:=NB299_293.out;have hnc28:=NB293_299.out;obtain ⟨hcz29_0, hcz29_1, hcz29_2⟩:=c3_ BK299.out;obtain ⟨hfz29_0, hfz29_1, hfz29_2⟩:=z3_ BK299.out;have hnb30:=NB293_292.out;have hnc30:=NB292_293.out;obtain ⟨hcz31_0, hcz31_1, hcz31_2⟩:=c3_ BK293.out;obtain ⟨hfz31_0, hfz31_1, hfz31_2⟩:=z3_ BK293.out;obtain ⟨hcz32_0, hcz32_1, hcz32_2, hcz32_3⟩:=c4_ BK292.out;obtain ⟨hfz32_0, hfz32_1, hfz32_2, hfz32_3⟩:=z4_ BK292.out
      go_wp2
      go_meet
      case rel => exact ⟨_, (decide (a1_2 > a0_3)), (by first | rfl | (simp;done) | (simp [*];done)), H', ⟨by first | omega | exact Nat.le_refl _⟩, ⟨by (with_reducible repeat first|apply q1_|apply q2_|apply q3_);refine blk_far ?_ NB292_299.out _;(with_reducible repeat first|apply q1_|apply q2_|apply q3_);refine blk_far ?_ NB292_299.out _;(with_reducible repeat first|apply q1_|apply q2_|apply q3_);refine blk_far ?_ NB292_299.out _;(with_reducible repeat first|apply q1_|apply q2_|apply q3_);exact BK292.out⟩, ⟨by (with_reducible repeat first|apply q1_|apply q2_|apply q3_);refine blk_far ?_ NB293_299.out _;(with_reducible repeat first|apply q1_|apply q2_|apply q3_);refine blk_far ?_ NB293_299.out _;(with_reducible repeat first|apply q1_|apply q2_|apply q3_);refine blk_far ?_ NB293_299.out _;(with_reducible repeat first|apply q1_|apply q2_|apply q3_);exact BK293.out⟩, ⟨by (with_reducible repeat first|apply q1_|apply q2_|apply q3_);refine blk_put (cs:=#[.slice A1_0 l1_0.length c1_0, .int .i64 t297, .int .i64 0]) ?_ 2 _ rfl;(with_reducible repeat first|apply q1_|apply q2_|apply q3_);refine blk_put (cs:=#[.slice A1_0 l1_0.length c1_0, .int .i64 0, .int .i64 0]) ?_ 1 _ rfl;(with_reducible repeat first|apply q1_|apply q2_|apply q3_);refine blk_put (cs:=#[.slice none 0 0, .int .i64 0, .int .i64 0]) ?_ 0 _ rfl;(with_reducible repeat first|apply q1_|apply q2_|apply q3_);exact BK299.out⟩, ⟨by repeat (first | (with_reducible first | exact HB.out | apply b1_|apply b2_|apply b3_ | refine below_set ?_ GE292.out | refine below_set ?_ GE293.out | refine below_set ?_ GE299.out) | exact HB.out)⟩⟩
     ·rw [if_neg c26] at H;have c26b0 : (t298 == a1_2) = false:=beq_eq_false_iff_ne.mpr c26;have c26b1 : (t298 != a1_2) = true:=bne_iff_ne.mpr c26;have H':=am_ H;clear H;have hnb33:=NB299_292.out;have hnc33:=NB292_299.out;have hnb34:=NB299_293.out;have hnc34:=NB293_299.out;obtain ⟨hcz35_0, hcz35_1, hcz35_2⟩:=c3_ BK299.out;obtain ⟨hfz35_0, hfz35_1, hfz35_2⟩:=z3_ BK299.out;have hnb36:=NB293_292.out;have hnc36:=NB292_293.out;obtain ⟨hcz37_0, hcz37_1, hcz37_2⟩:=c3_ BK293.out;obtain ⟨hfz37_0, hfz37_1, hfz37_2⟩:=z3_ BK293.out
      go_wp2
      go_meet
      case rel => exact ⟨_, (true), (by first | rfl | (simp;done) | (simp [*];done)), H', ⟨by first | omega | exact Nat.le_refl _⟩, ⟨by (with_reducible repeat first|apply q1_|apply q2_|apply q3_);refine blk_far ?_ NB292_299.out _;(with_reducible repeat first|apply q1_|apply q2_|apply q3_);refine blk_far ?_ NB292_299.out _;(with_reducible repeat first|apply q1_|apply q2_|apply q3_);refine blk_far ?_ NB292_299.out _;(with_reducible repeat first|apply q1_|apply q2_|apply q3_);exact BK292.out⟩, ⟨by (with_reducible repeat first|apply q1_|apply q2_|apply q3_);refine blk_far ?_ NB293_299.out _;(with_reducible repeat first|apply q1_|apply q2_|apply q3_);refine blk_far ?_ NB293_299.out _;(with_reducible repeat first|apply q1_|apply q2_|apply q3_);refine blk_far ?_ NB293_299.out _;(with_reducible repeat first|apply q1_|apply q2_|apply q3_);exact BK293.out⟩, ⟨by (with_reducible repeat first|apply q1_|apply q2_|apply q3_);refine blk_put (cs:=#[.slice A1_0 l1_0.length c1_0, .int .i64 t297, .int .i64 0]) ?_ 2 _ rfl;(with_reducible repeat first|apply q1_|apply q2_|apply q3_);refine blk_put (cs:=#[.slice A1_0 l1_0.length c1_0, .int .i64 0, .int .i64 0]) ?_ 1 _ rfl;(with_reducible repeat first|apply q1_|apply q2_|apply q3_);refine blk_put (cs:=#[.slice none 0 0, .int .i64 0, .int .i64 0]) ?_ 0 _ rfl;(with_reducible repeat first|apply q1_|apply q2_|apply q3_);exact BK299.out⟩, ⟨by repeat (first | (with_reducible first | exact HB.out | apply b1_|apply b2_|apply b3_ | refine below_set ?_ GE292.out | refine below_set ?_ GE293.out | refine below_set ?_ GE299.out) | exact HB.out)⟩⟩
    ·rw [if_neg c25] at H;have c25b0 : (t297 == a1_1) = false:=beq_eq_false_iff_ne.mpr c25;have c25b1 : (t297 != a1_1) = true:=bne_iff_ne.mpr c25;(first | rw [c25b0] | (simp only [i64_w, i32_w];rw [c25b0]) | skip);have H':=am_ H;clear H;have hnb38:=NB299_292.out;have hnc38:=NB292_299.out;have hnb39:=NB299_293.out;have hnc39:=NB293_299.out;obtain ⟨hcz40_0, hcz40_1, hcz40_2⟩:=c3_ BK299.out;obtain ⟨hfz40_0, hfz40_1, hfz40_2⟩:=z3_ BK299.out;have hnb41:=NB293_292.out;have hnc41:=NB292_293.out;obtain ⟨hcz42_0, hcz42_1, hcz42_2⟩:=c3_ BK293.out;obtain ⟨hfz42_0, hfz42_1, hfz42_2⟩:=z3_ BK293.out
     go_wp2
     go_meet
     case rel => exact ⟨_, (true), (by first | rfl | (simp;done) | (simp [*];done)), H', ⟨by first | omega | exact Nat.le_refl _⟩, ⟨by (with_reducible repeat first|apply q1_|apply q2_|apply q3_);refine blk_far ?_ NB292_299.out _;(with_reducible repeat first|apply q1_|apply q2_|apply q3_);refine blk_far ?_ NB292_299.out _;(with_reducible repeat first|apply q1_|apply q2_|apply q3_);refine blk_far ?_ NB292_299.out _;(with_reducible repeat first|apply q1_|apply q2_|apply q3_);exact BK292.out⟩, ⟨by (with_reducible repeat first|apply q1_|apply q2_|apply q3_);refine blk_far ?_ NB293_299.out _;(with_reducible repeat first|apply q1_|apply q2_|apply q3_);refine blk_far ?_ NB293_299.out _;(with_reducible repeat first|apply q1_|apply q2_|apply q3_);refine blk_far ?_ NB293_299.out _;(with_reducible repeat first|apply q1_|apply q2_|apply q3_);exact BK293.out⟩, ⟨by (with_reducible repeat first|apply q1_|apply q2_|apply q3_);refine blk_put (cs:=#[.slice A1_0 l1_0.length c1_0, .int .i64 t297, .int .i64 0]) ?_ 2 _ rfl;(with_reducible repeat first|apply q1_|apply q2_|apply q3_);refine blk_put (cs:=#[.slice A1_0 l1_0.length c1_0, .int .i64 0, .int .i64 0]) ?_ 1 _ rfl;(with_reducible repeat first|apply q1_|apply q2_|apply q3_);refine blk_put (cs:=#[.slice none 0 0, .int .i64 0, .int .i64 0]) ?_ 0 _ rfl;(with_reducible repeat first|apply q1_|apply q2_|apply q3_);exact BK299.out⟩, ⟨by repeat (first | (with_reducible first | exact HB.out | apply b1_|apply b2_|apply b3_ | refine below_set ?_ GE292.out | refine below_set ?_ GE293.out | refine below_set ?_ GE299.out) | exact HB.out)⟩⟩
   case rest =>
    clear HC9;(try clear c1);(try clear c2);(try clear p2);(try clear c3);(try clear c4);(try clear c5);(try clear c7);(try clear c12);(try clear c22);(try clear c23);(try clear c25);(try clear c25b0);(try clear c25b1);(try clear c26);(try clear c26b0);(try clear c26b1);(try clear c27);(try clear c28);(try clear c30);(try clear c33);(try clear c34);(try clear c36);(try clear c38);(try clear c39);(try clear c41);(try clear hcz13_0);(try clear hcz13_1);(try clear hcz13_2);(try clear hcz13_3);(try clear hcz15_0);(try clear hcz15_1);(try clear hcz15_2);(try clear hcz15_3);(try clear hcz16_0);(try clear hcz16_1);(try clear hcz16_2);(try clear hcz18_0);(try clear hcz18_1);(try clear hcz18_2);(try clear hcz18_3);(try clear hcz19_0);(try clear hcz19_1);(try clear hcz19_2);(try clear hcz24_0);(try clear hcz24_1);(try clear hcz24_2);(try clear hcz29_0);(try clear hcz29_1);(try clear hcz29_2);(try clear hcz31_0);(try clear hcz31_1);(try clear hcz31_2);(try clear hcz32_0);(try clear hcz32_1);(try clear hcz32_2);(try clear hcz32_3);(try clear hcz35_0);(try clear hcz35_1);(try clear hcz35_2);(try clear hcz37_0);(try clear hcz37_1);(try clear hcz37_2);(try clear hcz40_0);(try clear hcz40_1);(try clear hcz40_2);(try clear hcz42_0);(try clear hcz42_1);(try clear hcz42_2);(try clear hfz13_0);(try clear hfz13_1);(try clear hfz13_2);(try clear hfz13_3);(try clear hfz15_0);(try clear hfz15_1);(try clear hfz15_2);(try clear hfz15_3);(try clear hfz16_0);(try clear hfz16_1);(try clear hfz16_2);(try clear hfz18_0);(try clear hfz18_1);(try clear hfz18_2);(try clear hfz18_3);(try clear hfz19_0);(try clear hfz19_1);(try clear hfz19_2);(try clear hfz24_0);(try clear hfz24_1);(try clear hfz24_2);(try clear hfz29_0);(try clear hfz29_1);(try clear hfz29_2);(try clear hfz31_0);(try clear hfz31_1);(try clear hfz31_2);(try clear hfz32_0);(try clear hfz32_1);(try clear hfz32_2);(try clear hfz32_3);(try clear hfz35_0);(try clear hfz35_1);(try clear hfz35_2);(try clear hfz37_0);(try clear hfz37_1);(try clear hfz37_2);(try clear hfz40_0);(try clear hfz40_1);(try clear hfz40_2);(try clear hfz42_0);(try clear hfz42_1);(try clear hfz42_2);obtain ⟨kq, x40_8, rfl, HA, HJ8, BK292, BK293, BK299, HB⟩:=hcut
    cases kq with
    | zero => exact absurd HA.out (by simp [diapasonref27_Check.j0])
    | succ kj8 =>
     have H:=HA.out;clear HA;simp only [diapasonref27_Check.j0] at H
     by_cases c43 : x40_8 = true
     ·subst c43;have H1 : (some ((-1), 270)) = some (r1, r2):=by rw [if_pos rfl] at H;exact H
      clear H;have H:=H1;clear H1;simp only [Option.some.injEq, Prod.mk.injEq] at H;obtain ⟨rfl, rfl⟩:=H
      go_wp2
      go_ret2
      exact ⟨by first | rfl | (simp [errW_none, errW_some] <;> rfl) | (simp [*, errW_none, errW_some] <;> rfl), by repeat (first | (with_reducible first | exact HB.out | apply b1_|apply b2_|apply b3_ | refine below_set ?_ GE292.out | refine below_set ?_ GE293.out | refine below_set ?_ GE299.out) | exact HB.out)⟩
     ·replace c43:=Bool.eq_false_iff.mpr c43;subst c43;have H1 : (if (l2.length : Int) > 65536 then (some ((-1), 3)) else (diapasonref27_Check.l0 kj8 l2 0 l0_0 l0_1 l0_2 a0_3 l1_0 a1_1 a1_2)) = some (r1, r2):=by rw [if_neg (show ¬ (false = true) by decide)] at H;exact H
      clear H;have H:=H1;clear H1
      by_cases c44 : (l2.length : Int) > 65536
      ·rw [if_pos c44] at H;have c44b0 : decide (65536 < (l2.length : Int)) = true:=decide_eq_true c44;have c44b1 : decide (65536 < l2.length) = true:=decide_eq_true (by omega);clear c44;simp only [Option.some.injEq, Prod.mk.injEq] at H;obtain ⟨rfl, rfl⟩:=H
       go_wp2
       go_ret2
       exact ⟨by first | rfl | (simp [errW_none, errW_some] <;> rfl) | (simp [*, errW_none, errW_some] <;> rfl), by repeat (first | (with_reducible first | exact HB.out | apply b1_|apply b2_|apply b3_ | refine below_set ?_ GE292.out | refine below_set ?_ GE293.out | refine below_set ?_ GE299.out) | exact HB.out)⟩
      ·rw [if_neg c44] at H;have c44b0 : decide (65536 < (l2.length : Int)) = false:=decide_eq_false c44;have c44b1 : decide (65536 < l2.length) = false:=decide_eq_false (by omega);clear c44;have H':=am_ H;clear H
       go_wp2
       go_loopg [9] kj8 (fun kq v9 w' => ∃ (x9_2 : Int), v9 = .int .i64 x9_2 ∧ Aside0 (diapasonref27_Check.l0 kq l2 x9_2 l0_0 l0_1 l0_2 a0_3 l1_0 a1_1 a1_2 = some (r1, r2)) ∧ Aside0 (kq ≤ kj8) ∧ Aside0 (w'.heap[gb292]? = some (.cells #[(.slice A0_0 l0_0.length c0_0), (.slice A0_1 l0_1.length c0_1), (.slice A0_2 l0_2.length c0_2), .int .i64 a0_3] 28 (0, 0))) ∧ Aside0 (w'.heap[gb293]? = some (.cells #[(.slice A1_0 l1_0.length c1_0), .int .i64 a1_1, .int .i64 a1_2] 31 (0, 0))) ∧ Aside0 (w'.heap[gb299]? = some (.cells #[(.slice A1_0 l1_0.length c1_0), .int .i64 t297, .int .i64 t298] 31 (0, 0))) ∧ Aside0 (Below w.heap.size w w'))
       case atStart => exact ⟨(0), (by first | rfl | (simp;done) | (simp [*];done)), H', ⟨Nat.le_refl _⟩, ⟨by (with_reducible repeat first|apply q1_|apply q2_|apply q3_);exact BK292.out⟩, ⟨by (with_reducible repeat first|apply q1_|apply q2_|apply q3_);exact BK293.out⟩, ⟨by (with_reducible repeat first|apply q1_|apply q2_|apply q3_);exact BK299.out⟩, ⟨by repeat (first | (with_reducible first | exact HB.out | apply b1_|apply b2_|apply b3_ | refine below_set ?_ GE292.out | refine below_set ?_ GE293.out | refine below_set ?_ GE299.out) | exact HB.out)⟩⟩
       case round =>
        clear H';(try clear c1);(try clear c2);(try clear p2);(try clear c3);(try clear c4);(try clear c5);(try clear c7);(try clear c12);(try clear c22);(try clear c23);(try clear c25);(try clear c25b0);(try clear c25b1);(try clear c26);(try clear c26b0);(try clear c26b1);(try clear c27);(try clear c28);(try clear c30);(try clear c33);(try clear c34);(try clear c36);(try clear c38);(try clear c39);(try clear c41);(try clear c43);(try clear c44);(try clear c44b0);(try clear c44b1);(try clear hcz13_0);(try clear hcz13_1);(try clear hcz13_2);(try clear hcz13_3);(try clear hcz15_0);(try clear hcz15_1);(try clear hcz15_2);(try clear hcz15_3);(try clear hcz16_0);(try clear hcz16_1);(try clear hcz16_2);(try clear hcz18_0);(try clear hcz18_1);(try clear hcz18_2);(try clear hcz18_3);(try clear hcz19_0);(try clear hcz19_1);(try clear hcz19_2);(try clear hcz24_0);(try clear hcz24_1);(try clear hcz24_2);(try clear hcz29_0);(try clear hcz29_1);(try clear hcz29_2);(try clear hcz31_0);(try clear hcz31_1);(try clear hcz31_2);(try clear hcz32_0);(try clear hcz32_1);(try clear hcz32_2);(try clear hcz32_3);(try clear hcz35_0);(try clear hcz35_1);(try clear hcz35_2);(try clear hcz37_0);(try clear hcz37_1);(try clear hcz37_2);(try clear hcz40_0);(try clear hcz40_1);(try clear hcz40_2);(try clear hcz42_0);(try clear hcz42_1);(try clear hcz42_2);(try clear hfz13_0);(try clear hfz13_1);(try clear hfz13_2);(try clear hfz13_3);(try clear hfz15_0);(try clear hfz15_1);(try clear hfz15_2);(try clear hfz15_3);(try clear hfz16_0);(try clear hfz16_1);(try clear hfz16_2);(try clear hfz18_0);(try clear hfz18_1);(try clear hfz18_2);(try clear hfz18_3);(try clear hfz19_0);(try clear hfz19_1);(try clear hfz19_2);(try clear hfz24_0);(try clear hfz24_1);(try clear hfz24_2);(try clear hfz29_0);(try clear hfz29_1);(try clear hfz29_2);(try clear hfz31_0);(try clear hfz31_1);(try clear hfz31_2);(try clear hfz32_0);(try clear hfz32_1);(try clear hfz32_2);(try clear hfz32_3);(try clear hfz35_0);(try clear hfz35_1);(try clear hfz35_2);(try clear hfz37_0);(try clear hfz37_1);(try clear hfz37_2);(try clear hfz40_0);(try clear hfz40_1);(try clear hfz40_2);(try clear hfz42_0);(try clear hfz42_1);(try clear hfz42_2);(try clear p2);obtain ⟨x9_2, rfl, HA, HK2, BK292, BK293, BK299, HB⟩:=hrel
        cases gk with
        | zero => exact absurd HA.out (by simp [diapasonref27_Check.l0])
        | succ k2 =>
         have H:=HA.out;clear HA;simp only [diapasonref27_Check.l0] at H
         by_cases c45 : x9_2 < (l2.length : Int)
         ·rw [if_pos c45] at H;have c45b0 : decide (x9_2 < (l2.length : Int)) = true:=decide_eq_true c45;clear c45
          by_cases c46 : 0 ≤ x9_2
          ·rw [if_pos c46] at H;have c46b0 : decide (0 ≤ x9_2) = true:=decide_eq_true c46;clear c46;replace H:=Option.bind_eq_some_iff.mp H;obtain ⟨t303, A470, H⟩:=H;replace H : (if t303 = true then ((diapasonref27_follows.f k2 l2 x9_2).bind fun t304 => (if t304 = true then (diapasonref27_Check.l0 k2 l2 (wrap64 (x9_2 + 1)) l0_0 l0_1 l0_2 a0_3 l1_0 a1_1 a1_2) else (some (x9_2, 270)))) else (some (x9_2, 270))) = some (r1, r2):=H;have A47:=am_ A470;clear A470
           by_cases c48 : t303 = true
           ·subst c48;have H1 : ((diapasonref27_follows.f k2 l2 x9_2).bind fun t304 => (if t304 = true then (diapasonref27_Check.l0 k2 l2 (wrap64 (x9_2 + 1)) l0_0 l0_1 l0_2 a0_3 l1_0 a1_1 a1_2) else (some (x9_2, 270)))) = some (r1, r2):=by rw [if_pos rfl] at H;exact H
            clear H;have H:=H1;clear H1;replace H:=Option.bind_eq_some_iff.mp H;obtain ⟨t304, A490, H⟩:=H;replace H : (if t304 = true then (diapasonref27_Check.l0 k2 l2 (wrap64 (x9_2 + 1)) l0_0 l0_1 l0_2 a0_3 l1_0 a1_1 a1_2) else (some (x9_2, 270))) = some (r1, r2):=H;have A49:=am_ A490;clear A490
            by_cases c50 : t304 = true
            ·subst c50;have H1 : (diapasonref27_Check.l0 k2 l2 (wrap64 (x9_2 + 1)) l0_0 l0_1 l0_2 a0_3 l1_0 a1_1 a1_2) = some (r1, r2):=by rw [if_pos rfl] at H;exact H
             clear H;have H:=H1;clear H1;have H':=am_ H;clear H
             try go_wp2
             replace BK292:=bd_ BK292;replace BK293:=bd_ BK293;replace BK299:=bd_ BK299;replace HB:=wd_ HB;have p302 : 0 ≤ (x9_2 : Int):=of_decide_eq_true (by first | (with_reducible assumption) | assumption);have q302 : x9_2 < (l2.length : Int):=of_decide_eq_true (by first | (with_reducible assumption) | assumption);obtain ⟨ad302, A302_0, c302_0, e302, hx302_0, hx302_1, hl302_0, hi302_0⟩:=at_T66 HR2.out x9_2 p302 q302;have hw302_1:=hx302_1;have hw302_0:=hx302_0
             cases e302
             replace hx302_0:=(HB.out.cell (World.block_lt_of_cell? w _ hx302_0)).trans hx302_0;replace hx302_1:=(HB.out.cell (World.block_lt_of_cell? w _ hx302_1)).trans hx302_1;have HR302_0:=am_ hi302_0;have HC302_0:=am_ hl302_0;clear hi302_0 hl302_0;replace p302:=eq_true p302;replace q302:=eq_true q302;refine start_ (n:=15) (S:=fun w' => w'.cell? ⟨gb292, 0, none⟩ = some (.slice A0_0 l0_0.length c0_0) ∧ w'.cell? ⟨gb292, 1, none⟩ = some (.slice A0_1 l0_1.length c0_1) ∧ w'.cell? ⟨gb292, 2, none⟩ = some (.slice A0_2 l0_2.length c0_2) ∧ w'.cell? ⟨gb292, 3, none⟩ = some (.int .i64 a0_3) ∧ w'.cell? ⟨gb293, 0, none⟩ = some (.slice A1_0 l1_0.length c1_0) ∧ w'.cell? ⟨gb293, 1, none⟩ = some (.int .i64 a1_1) ∧ w'.cell? ⟨gb293, 2, none⟩ = some (.int .i64 a1_2) ∧ w'.cell? (ad302.add ((x9_2).toNat * 2)) = some (.slice A302_0 ((rd_T66 l2 x9_2).f0).length c302_0) ∧ w'.cell? ⟨(ad302.add ((x9_2).toNat * 2)).block, (ad302.add ((x9_2).toNat * 2)).off + 1, none⟩ = some (.int .i64 ((rd_T66 l2 x9_2).f1))) (ds:=[]) #[false, false, false, false, false, false, false, false, false, false, false, false, false, false, false] (by kernel_rfl) rfl rfl ⟨(blk_cell BK292.out 0).trans rfl, (blk_cell BK292.out 1).trans rfl, (blk_cell BK292.out 2).trans rfl, (blk_cell BK292.out 3).trans rfl, (blk_cell BK293.out 0).trans rfl, (blk_cell BK293.out 1).trans rfl, (blk_cell BK293.out 2).trans rfl, ((HB.out.cell (World.block_lt_of_cell? w _ hw302_0)).trans hw302_0), ((HB.out.cell (World.block_lt_of_cell? w _ hw302_1)).trans hw302_1)⟩ (fun hHeld => ?_);refine with_tabW diapasonref27_Check.tab13 diapasonref27_Check.bits13 (fun HT_ HW_ => ?_);generalize wr.drew = w51 at BK292 BK293 BK299 HB HR302_0 hx302_0 hx302_1 hHeld ⊢;refine pure_ (i:=1) (N:=some 51) (v:=?_) (a':=?_) #[false, true, false, false, false, false, false, false, false, false, false, false, false, false, false] rfl rfl (any_of HT_.out (by kernel_rfl)) (fun _ _ _ h => h) (Or.inl ⟨by rfl, ?_⟩) ?_ ?_;rotate_left
             ·intro w';go_simp;(with_reducible rfl)
             rotate_left
             ·simp only [Act.put, st_, s0_, s1_, i64_w, i32_w];rfl
             refine pure_ (i:=3) (N:=some 53) (v:=?_) (a':=?_) #[false, true, false, true, false, false, false, false, false, false, false, false, false, false, false] rfl rfl (any_of HT_.out (by kernel_rfl)) (fun _ _ _ h => h) (Or.inl ⟨by rfl, ?_⟩) ?_ ?_;rotate_left
             ·intro w';go_simp;(with_reducible rfl)
             rotate_left
             ·simp only [Act.put, st_, s0_, s1_, i64_w, i32_w];rfl
             refine pure_ (i:=4) (N:=some 54) (v:=?_) (a':=?_) #[false, true, false, true, true, false, false, false, false, false, false, false, false, false, false] rfl rfl (any_of HT_.out (by kernel_rfl)) (fun _ _ _ h => h) (Or.inl ⟨by rfl, ?_⟩) ?_ ?_;rotate_left
             ·intro w';go_simp;(with_reducible rfl)
             rotate_left
             ·simp only [Act.put, st_, s0_, s1_, i64_w, i32_w];rfl
             refine pure_ (i:=5) (N:=some 55) (v:=?_) (a':=?_) #[false, true, false, true, true, true, false, false, false, false, false, false, false, false, false] rfl rfl (any_of HT_.out (by kernel_rfl)) (fun _ _ _ h => h) (Or.inl ⟨by rfl, ?_⟩) ?_ ?_;rotate_left
             ·intro w';go_simp;(with_reducible rfl)
             rotate_left
             ·simp only [Act.put, st_, s0_, s1_, i64_w, i32_w];rfl
             refine take_ (i:=0) (N:=some 50) (v:=?_) (a':=?_) #[true, true, false, true, true, true, false, false, false, false, false, false, false, false, false] rfl rfl (take_ofW HT_.out HW_.out (by kernel_rfl)) (fun _ _ _ h => h) (Or.inl ⟨by rfl, ?_⟩) hHeld ?_ ?_;rotate_left
             ·rintro w' ⟨s0, s1, s2, s3, s4, s5, s6, s7, s8⟩;go_simp;(with_reducible rfl)
             rotate_left
             ·simp only [Act.put, st_, s0_, s1_, i64_w, i32_w];rfl
             refine take_ (i:=2) (N:=some 52) (v:=?_) (a':=?_) #[true, true, true, true, true, true, false, false, false, false, false, false, false, false, false] rfl rfl (take_ofW HT_.out HW_.out (by kernel_rfl)) (fun _ _ _ h => h) (Or.inl ⟨by rfl, ?_⟩) hHeld ?_ ?_;rotate_left
             ·rintro w' ⟨s0, s1, s2, s3, s4, s5, s6, s7, s8⟩;go_simp;(with_reducible rfl)
             rotate_left
             ·simp only [Act.put, st_, s0_, s1_, i64_w, i32_w];rfl
             refine take_ (i:=6) (N:=some 56) (v:=?_) (a':=?_) #[true, true, true, true, true, true, true, false, false, false, false, false, false, false, false] rfl rfl (take_ofW HT_.out HW_.out (by kernel_rfl)) (fun _ _ _ h => h) (Or.inl ⟨by rfl, ?_⟩) hHeld ?_ ?_;rotate_left
             ·rintro w' ⟨s0, s1, s2, s3, s4, s5, s6, s7, s8⟩;go_simp;(with_reducible rfl)
             rotate_left
             ·simp only [Act.put, st_, s0_, s1_, i64_w, i32_w];rfl
             refine one_ (i:=7) (N:=some 57) #[true, true, true, true, true, true, true, true, false, false, false, false, false, false, false] rfl rfl (one_of HT_.out (by kernel_rfl)) (by decide) (fun K hK => ?_);refine goes_ Tryd.func59 (by kernel_rfl) rfl #[.agg #[.slice A0_0 l0_0.length c0_0, .slice A0_1 l0_1.length c0_1, .slice A0_2 l0_2.length c0_2, .int .i64 a0_3], .int .i64 a1_1, .agg #[.slice A302_0 ((rd_T66 l2 x9_2).f0).length c302_0, .int .i64 ((rd_T66 l2 x9_2).f1)]] (by rfl) rfl rfl (by (try simp only [List.map_toArray, List.map_cons, List.map_nil]);first|done|rfl|(simp only [List.length_drop, List.length_take];rfl)) ?_;(with_reducible refine (diapasonref27_Shut.calls k2 _ _ l0_0 _ _ l0_1 _ _ l0_2 a0_3 a1_1 _ _ ((rd_T66 l2 x9_2).f0) ((rd_T66 l2 x9_2).f1) true _ ?side1 ?side2 ?side3 ?side4 ?side5 ?side6 ?side7 ?side8 A47.out).mono ?_);(case side1 => exact cb_ HR0_0 HB);(case side2 => exact HC0_0.out);(case side3 => exact cb_ HR0_1 HB);(case side4 => exact HC0_1.out);(case side5 => exact cb_ HR0_2 HB);(case side6 => exact HC0_2.out);(case side7 => exact cb_ HR302_0 HB);(case side8 => exact HC302_0.out);rintro e w52 ⟨rfl, hb⟩;refine ⟨_, rfl, ?_⟩;replace BK292:=bb_ BK292 hb;replace BK293:=bb_ BK293 hb;replace BK299:=bb_ BK299 hb;replace HB:=am_ (below_step (by repeat (first | (with_reducible first | exact HB.out | apply b1_|apply b2_|apply b3_ | refine below_set ?_ GE292.out | refine below_set ?_ GE293.out | refine below_set ?_ GE299.out) | exact HB.out)) hb);(try clear hb);(try clear hb2);(try clear hk);(try clear hi);refine hK.out _ _ ⟨(blk_cell BK292.out 0).trans rfl, (blk_cell BK292.out 1).trans rfl, (blk_cell BK292.out 2).trans rfl, (blk_cell BK292.out 3).trans rfl, (blk_cell BK293.out 0).trans rfl, (blk_cell BK293.out 1).trans rfl, (blk_cell BK293.out 2).trans rfl, ((HB.out.cell (World.block_lt_of_cell? w _ hw302_0)).trans hw302_0), ((HB.out.cell (World.block_lt_of_cell? w _ hw302_1)).trans hw302_1)⟩ (fun hHeld => ?_);clear hK K;refine norm_ (a':=?_) ?_ ?_;rotate_left
             ·show Act.put _ (some 57) _ = _;simp only [Act.put, st_, s0_, s1_, i64_w, i32_w];rfl
             refine pure_ (i:=8) (N:=some 58) (v:=?_) (a':=?_) #[true, true, true, true, true, true, true, true, true, false, false, false, false, false, false] rfl rfl (any_of HT_.out (by kernel_rfl)) (fun _ _ _ h => h) (Or.inl ⟨by rfl, ?_⟩) ?_ ?_;rotate_left
             ·intro w';go_simp;(with_reducible rfl)
             rotate_left
             ·simp only [Act.put, st_, s0_, s1_, i64_w, i32_w];rfl
             refine pure_ (i:=9) (N:=some 59) (v:=?_) (a':=?_) #[true, true, true, true, true, true, true, true, true, true, false, false, false, false, false] rfl rfl (any_of HT_.out (by kernel_rfl)) (fun _ _ _ h => h) (Or.inl ⟨by rfl, ?_⟩) ?_ ?_;rotate_left
             ·intro w';go_simp;(with_reducible rfl)
             rotate_left
             ·simp only [Act.put, st_, s0_, s1_, i64_w, i32_w];rfl
             refine pure_ (i:=10) (N:=some 60) (v:=?_) (a':=?_) #[true, true, true, true, true, true, true, true, true, true, true, false, false, false, false] rfl rfl (any_of HT_.out (by kernel_rfl)) (fun _ _ _ h => h) (Or.inl ⟨by rfl, ?_⟩) ?_ ?_;rotate_left
             ·intro w';go_simp;(with_reducible rfl)
             rotate_left
             ·simp only [Act.put, st_, s0_, s1_, i64_w, i32_w];rfl
             refine pure_ (i:=11) (N:=some 61) (v:=?_) (a':=?_) #[true, true, true, true, true, true, true, true, true, true, true, true, false, false, false] rfl rfl (any_of HT_.out (by kernel_rfl)) (fun _ _ _ h => h) (Or.inl ⟨by rfl, ?_⟩) ?_ ?_;rotate_left
             ·intro w';go_simp;(with_reducible rfl)
             rotate_left
             ·simp only [Act.put, st_, s0_, s1_, i64_w, i32_w];rfl
             refine one_ (i:=12) (N:=some 62) #[true, true, true, true, true, true, true, true, true, true, true, true, true, false, false] rfl rfl (one_of HT_.out (by kernel_rfl)) (by decide) (fun K hK => ?_);refine goes_ Tryd.func60 (by kernel_rfl) rfl #[.slice (some ad302) l2.length c2, .int .i64 x9_2] (by rfl) rfl rfl (by (try simp only [List.map_toArray, List.map_cons, List.map_nil]);first|done|rfl|(simp only [List.length_drop, List.length_take];rfl)) ?_;(with_reducible refine (diapasonref27_follows.calls k2 _ _ l2 x9_2 true _ ?side1 ?side2 A49.out).mono ?_);(case side1 => exact cb_ HR2 HB);(case side2 => exact HC2.out);rintro e w53 ⟨rfl, hb⟩;refine ⟨_, rfl, ?_⟩;replace BK292:=bb_ BK292 hb;replace BK293:=bb_ BK293 hb;replace BK299:=bb_ BK299 hb;replace HB:=am_ (below_step (by repeat (first | (with_reducible first | exact HB.out | apply b1_|apply b2_|apply b3_ | refine below_set ?_ GE292.out | refine below_set ?_ GE293.out | refine below_set ?_ GE299.out) | exact HB.out)) hb);(try clear hb);(try clear hb2);(try clear hk);(try clear hi);refine hK.out _ _ ⟨(blk_cell BK292.out 0).trans rfl, (blk_cell BK292.out 1).trans rfl, (blk_cell BK292.out 2).trans rfl, (blk_cell BK292.out 3).trans rfl, (blk_cell BK293.out 0).trans rfl, (blk_cell BK293.out 1).trans rfl, (blk_cell BK293.out 2).trans rfl, ((HB.out.cell (World.block_lt_of_cell? w _ hw302_0)).trans hw302_0), ((HB.out.cell (World.block_lt_of_cell? w _ hw302_1)).trans hw302_1)⟩ (fun hHeld => ?_);clear hK K;refine norm_ (a':=?_) ?_ ?_;rotate_left
             ·show Act.put _ (some 62) _ = _;simp only [Act.put, st_, s0_, s1_, i64_w, i32_w];rfl
             refine pure_ (i:=13) (N:=some 63) (v:=?_) (a':=?_) #[true, true, true, true, true, true, true, true, true, true, true, true, true, true, false] rfl rfl (any_of HT_.out (by kernel_rfl)) (fun _ _ _ h => h) (Or.inl ⟨by rfl, ?_⟩) ?_ ?_;rotate_left
             ·intro w';go_simp;(with_reducible rfl)
             rotate_left
             ·simp only [Act.put, st_, s0_, s1_, i64_w, i32_w];rfl
             refine pure_ (i:=14) (N:=some 64) (v:=?_) (a':=?_) #[true, true, true, true, true, true, true, true, true, true, true, true, true, true, true] rfl rfl (any_of HT_.out (by kernel_rfl)) (fun _ _ _ h => h) (Or.inl ⟨by rfl, ?_⟩) ?_ ?_;rotate_left
             ·intro w';go_simp;(with_reducible rfl)
             rotate_left
             ·simp only [Act.put, st_, s0_, s1_, i64_w, i32_w];rfl
             refine done_ (done_of HT_.out (by kernel_rfl)) ?_
             try go_wp2
             go_roundg k2
             case measure => have:=HJ8.out;have:=HK2.out;omega
             case rel => exact ⟨(wrap64 (x9_2 + 1)), (by first | rfl | (simp;done) | (simp [*];done)), H', ⟨by have:=HJ8.out;have:=HK2.out;omega⟩, ⟨by (with_reducible repeat first|apply q1_|apply q2_|apply q3_);exact BK292.out⟩, ⟨by (with_reducible repeat first|apply q1_|apply q2_|apply q3_);exact BK293.out⟩, ⟨by (with_reducible repeat first|apply q1_|apply q2_|apply q3_);exact BK299.out⟩, ⟨by repeat (first | (with_reducible first | exact HB.out | apply b1_|apply b2_|apply b3_ | refine below_set ?_ GE292.out | refine below_set ?_ GE293.out | refine below_set ?_ GE299.out) | exact HB.out)⟩⟩
            ·replace c50:=Bool.eq_false_iff.mpr c50;subst c50;have H1 : (some (x9_2, 270)) = some (r1, r2):=by rw [if_neg (show ¬ (false = true) by decide)] at H;exact H
             clear H;have H:=H1;clear H1;simp only [Option.some.injEq, Prod.mk.injEq] at H;obtain ⟨rfl, rfl⟩:=H
             try go_wp2
             replace BK292:=bd_ BK292;replace BK293:=bd_ BK293;replace BK299:=bd_ BK299;replace HB:=wd_ HB;have p302 : 0 ≤ (x9_2 : Int):=of_decide_eq_true (by first | (with_reducible assumption) | assumption);have q302 : x9_2 < (l2.length : Int):=of_decide_eq_true (by first | (with_reducible assumption) | assumption);obtain ⟨ad302, A302_0, c302_0, e302, hx302_0, hx302_1, hl302_0, hi302_0⟩:=at_T66 HR2.out x9_2 p302 q302;have hw302_1:=hx302_1;have hw302_0:=hx302_0
             cases e302
             replace hx302_0:=(HB.out.cell (World.block_lt_of_cell? w _ hx302_0)).trans hx302_0;replace hx302_1:=(HB.out.cell (World.block_lt_of_cell? w _ hx302_1)).trans hx302_1;have HR302_0:=am_ hi302_0;have HC302_0:=am_ hl302_0;clear hi302_0 hl302_0;replace p302:=eq_true p302;replace q302:=eq_true q302;refine start_ (n:=15) (S:=fun w' => w'.cell? ⟨gb292, 0, none⟩ = some (.slice A0_0 l0_0.length c0_0) ∧ w'.cell? ⟨gb292, 1, none⟩ = some (.slice A0_1 l0_1.length c0_1) ∧ w'.cell? ⟨gb292, 2, none⟩ = some (.slice A0_2 l0_2.length c0_2) ∧ w'.cell? ⟨gb292, 3, none⟩ = some (.int .i64 a0_3) ∧ w'.cell? ⟨gb293, 0, none⟩ = some (.slice A1_0 l1_0.length c1_0) ∧ w'.cell? ⟨gb293, 1, none⟩ = some (.int .i64 a1_1) ∧ w'.cell? ⟨gb293, 2, none⟩ = some (.int .i64 a1_2) ∧ w'.cell? (ad302.add ((x9_2).toNat * 2)) = some (.slice A302_0 ((rd_T66 l2 x9_2).f0).length c302_0) ∧ w'.cell? ⟨(ad302.add ((x9_2).toNat * 2)).block, (ad302.add ((x9_2).toNat * 2)).off + 1, none⟩ = some (.int .i64 ((rd_T66 l2 x9_2).f1))) (ds:=[]) #[false, false, false, false, false, false, false, false, false, false, false, false, false, false, false] (by kernel_rfl) rfl rfl ⟨(blk_cell BK292.out 0).trans rfl, (blk_cell BK292.out 1).trans rfl, (blk_cell BK292.out 2).trans rfl, (blk_cell BK292.out 3).trans rfl, (blk_cell BK293.out 0).trans rfl, (blk_cell BK293.out 1).trans rfl, (blk_cell BK293.out 2).trans rfl, ((HB.out.cell (World.block_lt_of_cell? w _ hw302_0)).trans hw302_0), ((HB.out.cell (World.block_lt_of_cell? w _ hw302_1)).trans hw302_1)⟩ (fun hHeld => ?_);refine with_tabW diapasonref27_Check.tab13 diapasonref27_Check.bits13 (fun HT_ HW_ => ?_);generalize wr.drew = w54 at BK292 BK293 BK299 HB HR302_0 hx302_0 hx302_1 hHeld ⊢;refine pure_ (i:=1) (N:=some 51) (v:=?_) (a':=?_) #[false, true, false, false, false, false, false, false, false, false, false, false, false, false, false] rfl rfl (any_of HT_.out (by kernel_rfl)) (fun _ _ _ h => h) (Or.inl ⟨by rfl, ?_⟩) ?_ ?_;rotate_left
             ·intro w';go_simp;(with_reducible rfl)
             rotate_left
             ·simp only [Act.put, st_, s0_, s1_, i64_w, i32_w];rfl
             refine pure_ (i:=3) (N:=some 53) (v:=?_) (a':=?_) #[false, true, false, true, false, false, false, false, false, false, false, false, false, false, false] rfl rfl (any_of HT_.out (by kernel_rfl)) (fun _ _ _ h => h) (Or.inl ⟨by rfl, ?_⟩) ?_ ?_;rotate_left
             ·intro w';go_simp;(with_reducible rfl)
             rotate_left
             ·simp only [Act.put, st_, s0_, s1_, i64_w, i32_w];rfl
             refine pure_ (i:=4) (N:=some 54) (v:=?_) (a':=?_) #[false, true, false, true, true, false, false, false, false, false, false, false, false, false, false] rfl rfl (any_of HT_.out (by kernel_rfl)) (fun _ _ _ h => h) (Or.inl ⟨by rfl, ?_⟩) ?_ ?_;rotate_left
             ·intro w';go_simp;(with_reducible rfl)
             rotate_left
             ·simp only [Act.put, st_, s0_, s1_, i64_w, i32_w];rfl
             refine pure_ (i:=5) (N:=some 55) (v:=?_) (a':=?_) #[false, true, false, true, true, true, false, false, false, false, false, false, false, false, false] rfl rfl (any_of HT_.out (by kernel_rfl)) (fun _ _ _ h => h) (Or.inl ⟨by rfl, ?_⟩) ?_ ?_;rotate_left
             ·intro w';go_simp;(with_reducible rfl)
             rotate_left
             ·simp only [Act.put, st_, s0_, s1_, i64_w, i32_w];rfl
             refine take_ (i:=0) (N:=some 50) (v:=?_) (a':=?_) #[true, true, false, true, true, true, false, false, false, false, false, false, false, false, false] rfl rfl (take_ofW HT_.out HW_.out (by kernel_rfl)) (fun _ _ _ h => h) (Or.inl ⟨by rfl, ?_⟩) hHeld ?_ ?_;rotate_left
             ·rintro w' ⟨s0, s1, s2, s3, s4, s5, s6, s7, s8⟩;go_simp;(with_reducible rfl)
             rotate_left
             ·simp only [Act.put, st_, s0_, s1_, i64_w, i32_w];rfl
             refine take_ (i:=2) (N:=some 52) (v:=?_) (a':=?_) #[true, true, true, true, true, true, false, false, false, false, false, false, false, false, false] rfl rfl (take_ofW HT_.out HW_.out (by kernel_rfl)) (fun _ _ _ h => h) (Or.inl ⟨by rfl, ?_⟩) hHeld ?_ ?_;rotate_left
             ·rintro w' ⟨s0, s1, s2, s3, s4, s5, s6, s7, s8⟩;go_simp;(with_reducible rfl)
             rotate_left
             ·simp only [Act.put, st_, s0_, s1_, i64_w, i32_w];rfl
             refine take_ (i:=6) (N:=some 56) (v:=?_) (a':=?_) #[true, true, true, true, true, true, true, false, false, false, false, false, false, false, false] rfl rfl (take_ofW HT_.out HW_.out (by kernel_rfl)) (fun _ _ _ h => h) (Or.inl ⟨by rfl, ?_⟩) hHeld ?_ ?_;rotate_left
             ·rintro w' ⟨s0, s1, s2, s3, s4, s5, s6, s7, s8⟩;go_simp;(with_reducible rfl)
             rotate_left
             ·simp only [Act.put, st_, s0_, s1_, i64_w, i32_w];rfl
             refine one_ (i:=7) (N:=some 57) #[true, true, true, true, true, true, true, true, false, false, false, false, false, false, false] rfl rfl (one_of HT_.out (by kernel_rfl)) (by decide) (fun K hK => ?_);refine goes_ Tryd.func59 (by kernel_rfl) rfl #[.agg #[.slice A0_0 l0_0.length c0_0, .slice A0_1 l0_1.length c0_1, .slice A0_2 l0_2.length c0_2, .int .i64 a0_3], .int .i64 a1_1, .agg #[.slice A302_0 ((rd_T66 l2 x9_2).f0).length c302_0, .int .i64 ((rd_T66 l2 x9_2).f1)]] (by rfl) rfl rfl (by (try simp only [List.map_toArray, List.map_cons, List.map_nil]);first|done|rfl|(simp only [List.length_drop, List.length_take];rfl)) ?_;(with_reducible refine (diapasonref27_Shut.calls k2 _ _ l0_0 _ _ l0_1 _ _ l0_2 a0_3 a1_1 _ _ ((rd_T66 l2 x9_2).f0) ((rd_T66 l2 x9_2).f1) true _ ?side1 ?side2 ?side3 ?side4 ?side5 ?side6 ?side7 ?side8 A47.out).mono ?_);(case side1 => exact cb_ HR0_0 HB);(case side2 => exact HC0_0.out);(case side3 => exact cb_ HR0_1 HB);(case side4 => exact HC0_1.out);(case side5 => exact cb_ HR0_2 HB);(case side6 => exact HC0_2.out);(case side7 => exact cb_ HR302_0 HB);(case side8 => exact HC302_0.out);rintro e w55 ⟨rfl, hb⟩;refine ⟨_, rfl, ?_⟩;replace BK292:=bb_ BK292 hb;replace BK293:=bb_ BK293 hb;replace BK299:=bb_ BK299 hb;replace HB:=am_ (below_step (by repeat (first | (with_reducible first | exact HB.out | apply b1_|apply b2_|apply b3_ | refine below_set ?_ GE292.out | refine below_set ?_ GE293.out | refine below_set ?_ GE299.out) | exact HB.out)) hb);(try clear hb);(try clear hb2);(try clear hk);(try clear hi);refine hK.out _ _ ⟨(blk_cell BK292.out 0).trans rfl, (blk_cell BK292.out 1).trans rfl, (blk_cell BK292.out 2).trans rfl, (blk_cell BK292.out 3).trans rfl, (blk_cell BK293.out 0).trans rfl, (blk_cell BK293.out 1).trans rfl, (blk_cell BK293.out 2).trans rfl, ((HB.out.cell (World.block_lt_of_cell? w _ hw302_0)).trans hw302_0), ((HB.out.cell (World.block_lt_of_cell? w _ hw302_1)).trans hw302_1)⟩ (fun hHeld => ?_);clear hK K;refine norm_ (a':=?_) ?_ ?_;rotate_left
             ·show Act.put _ (some 57) _ = _;simp only [Act.put, st_, s0_, s1_, i64_w, i32_w];rfl
             refine pure_ (i:=8) (N:=some 58) (v:=?_) (a':=?_) #[true, true, true, true, true, true, true, true, true, false, false, false, false, false, false] rfl rfl (any_of HT_.out (by kernel_rfl)) (fun _ _ _ h => h) (Or.inl ⟨by rfl, ?_⟩) ?_ ?_;rotate_left
             ·intro w';go_simp;(with_reducible rfl)
             rotate_left
             ·simp only [Act.put, st_, s0_, s1_, i64_w, i32_w];rfl
             refine pure_ (i:=9) (N:=some 59) (v:=?_) (a':=?_) #[true, true, true, true, true, true, true, true, true, true, false, false, false, false, false] rfl rfl (any_of HT_.out (by kernel_rfl)) (fun _ _ _ h => h) (Or.inl ⟨by rfl, ?_⟩) ?_ ?_;rotate_left
             ·intro w';go_simp;(with_reducible rfl)
             rotate_left
             ·simp only [Act.put, st_, s0_, s1_, i64_w, i32_w];rfl
             refine pure_ (i:=10) (N:=some 60) (v:=?_) (a':=?_) #[true, true, true, true, true, true, true, true, true, true, true, false, false, false, false] rfl rfl (any_of HT_.out (by kernel_rfl)) (fun _ _ _ h => h) (Or.inl ⟨by rfl, ?_⟩) ?_ ?_;rotate_left
             ·intro w';go_simp;(with_reducible rfl)
             rotate_left
             ·simp only [Act.put, st_, s0_, s1_, i64_w, i32_w];rfl
             refine pure_ (i:=11) (N:=some 61) (v:=?_) (a':=?_) #[true, true, true, true, true, true, true, true, true, true, true, true, false, false, false] rfl rfl (any_of HT_.out (by kernel_rfl)) (fun _ _ _ h => h) (Or.inl ⟨by rfl, ?_⟩) ?_ ?_;rotate_left
             ·intro w';go_simp;(with_reducible rfl)
             rotate_left
             ·simp only [Act.put, st_, s0_, s1_, i64_w, i32_w];rfl
             refine one_ (i:=12) (N:=some 62) #[true, true, true, true, true, true, true, true, true, true, true, true, true, false, false] rfl rfl (one_of HT_.out (by kernel_rfl)) (by decide) (fun K hK => ?_);refine goes_ Tryd.func60 (by kernel_rfl) rfl #[.slice (some ad302) l2.length c2, .int .i64 x9_2] (by rfl) rfl rfl (by (try simp only [List.map_toArray, List.map_cons, List.map_nil]);first|done|rfl|(simp only [List.length_drop, List.length_take];rfl)) ?_;(with_reducible refine (diapasonref27_follows.calls k2 _ _ l2 x9_2 false _ ?side1 ?side2 A49.out).mono ?_);(case side1 => exact cb_ HR2 HB);(case side2 => exact HC2.out);rintro e w56 ⟨rfl, hb⟩;refine ⟨_, rfl, ?_⟩;replace BK292:=bb_ BK292 hb;replace BK293:=bb_ BK293 hb;replace BK299:=bb_ BK299 hb;replace HB:=am_ (below_step (by repeat (first | (with_reducible first | exact HB.out | apply b1_|apply b2_|apply b3_ | refine below_set ?_ GE292.out | refine below_set ?_ GE293.out | refine below_set ?_ GE299.out) | exact HB.out)) hb);(try clear hb);(try clear hb2);(try clear hk);(try clear hi);refine hK.out _ _ ⟨(blk_cell BK292.out 0).trans rfl, (blk_cell BK292.out 1).trans rfl, (blk_cell BK292.out 2).trans rfl, (blk_cell BK292.out 3).trans rfl, (blk_cell BK293.out 0).trans rfl, (blk_cell BK293.out 1).trans rfl, (blk_cell BK293.out 2).trans rfl, ((HB.out.cell (World.block_lt_of_cell? w _ hw302_0)).trans hw302_0), ((HB.out.cell (World.block_lt_of_cell? w _ hw302_1)).trans hw302_1)⟩ (fun hHeld => ?_);clear hK K;refine norm_ (a':=?_) ?_ ?_;rotate_left
             ·show Act.put _ (some 62) _ = _;simp only [Act.put, st_, s0_, s1_, i64_w, i32_w];rfl
             refine pure_ (i:=13) (N:=some 63) (v:=?_) (a':=?_) #[true, true, true, true, true, true, true, true, true, true, true, true, true, true, false] rfl rfl (any_of HT_.out (by kernel_rfl)) (fun _ _ _ h => h) (Or.inl ⟨by rfl, ?_⟩) ?_ ?_;rotate_left
             ·intro w';go_simp;(with_reducible rfl)
             rotate_left
             ·simp only [Act.put, st_, s0_, s1_, i64_w, i32_w];rfl
             refine pure_ (i:=14) (N:=some 64) (v:=?_) (a':=?_) #[true, true, true, true, true, true, true, true, true, true, true, true, true, true, true] rfl rfl (any_of HT_.out (by kernel_rfl)) (fun _ _ _ h => h) (Or.inl ⟨by rfl, ?_⟩) ?_ ?_;rotate_left
             ·intro w';go_simp;(with_reducible rfl)
             rotate_left
             ·simp only [Act.put, st_, s0_, s1_, i64_w, i32_w];rfl
             refine done_ (done_of HT_.out (by kernel_rfl)) ?_
             try go_wp2
             go_ret2
             exact ⟨by first | rfl | (simp [errW_none, errW_some] <;> rfl) | (simp [*, errW_none, errW_some] <;> rfl), by repeat (first | (with_reducible first | exact HB.out | apply b1_|apply b2_|apply b3_ | refine below_set ?_ GE292.out | refine below_set ?_ GE293.out | refine below_set ?_ GE299.out) | exact HB.out)⟩
           ·replace c48:=Bool.eq_false_iff.mpr c48;subst c48;have H1 : (some (x9_2, 270)) = some (r1, r2):=by rw [if_neg (show ¬ (false = true) by decide)] at H;exact H
            clear H;have H:=H1;clear H1;simp only [Option.some.injEq, Prod.mk.injEq] at H;obtain ⟨rfl, rfl⟩:=H
            try go_wp2
            replace BK292:=bd_ BK292;replace BK293:=bd_ BK293;replace BK299:=bd_ BK299;replace HB:=wd_ HB;have p302 : 0 ≤ (x9_2 : Int):=of_decide_eq_true (by first | (with_reducible assumption) | assumption);have q302 : x9_2 < (l2.length : Int):=of_decide_eq_true (by first | (with_reducible assumption) | assumption);obtain ⟨ad302, A302_0, c302_0, e302, hx302_0, hx302_1, hl302_0, hi302_0⟩:=at_T66 HR2.out x9_2 p302 q302;have hw302_1:=hx302_1;have hw302_0:=hx302_0
            cases e302
            replace hx302_0:=(HB.out.cell (World.block_lt_of_cell? w _ hx302_0)).trans hx302_0;replace hx302_1:=(HB.out.cell (World.block_lt_of_cell? w _ hx302_1)).trans hx302_1;have HR302_0:=am_ hi302_0;have HC302_0:=am_ hl302_0;clear hi302_0 hl302_0;replace p302:=eq_true p302;replace q302:=eq_true q302;refine start_ (n:=15) (S:=fun w' => w'.cell? ⟨gb292, 0, none⟩ = some (.slice A0_0 l0_0.length c0_0) ∧ w'.cell? ⟨gb292, 1, none⟩ = some (.slice A0_1 l0_1.length c0_1) ∧ w'.cell? ⟨gb292, 2, none⟩ = some (.slice A0_2 l0_2.length c0_2) ∧ w'.cell? ⟨gb292, 3, none⟩ = some (.int .i64 a0_3) ∧ w'.cell? ⟨gb293, 0, none⟩ = some (.slice A1_0 l1_0.length c1_0) ∧ w'.cell? ⟨gb293, 1, none⟩ = some (.int .i64 a1_1) ∧ w'.cell? ⟨gb293, 2, none⟩ = some (.int .i64 a1_2) ∧ w'.cell? (ad302.add ((x9_2).toNat * 2)) = some (.slice A302_0 ((rd_T66 l2 x9_2).f0).length c302_0) ∧ w'.cell? ⟨(ad302.add ((x9_2).toNat * 2)).block, (ad302.add ((x9_2).toNat * 2)).off + 1, none⟩ = some (.int .i64 ((rd_T66 l2 x9_2).f1))) (ds:=[]) #[false, false, false, false, false, false, false, false, false, false, false, false, false, false, false] (by kernel_rfl) rfl rfl ⟨(blk_cell BK292.out 0).trans rfl, (blk_cell BK292.out 1).trans rfl, (blk_cell BK292.out 2).trans rfl, (blk_cell BK292.out 3).trans rfl, (blk_cell BK293.out 0).trans rfl, (blk_cell BK293.out 1).trans rfl, (blk_cell BK293.out 2).trans rfl, ((HB.out.cell (World.block_lt_of_cell? w _ hw302_0)).trans hw302_0), ((HB.out.cell (World.block_lt_of_cell? w _ hw302_1)).trans hw302_1)⟩ (fun hHeld => ?_);refine with_tabW diapasonref27_Check.tab13 diapasonref27_Check.bits13 (fun HT_ HW_ => ?_);generalize wr.drew = w57 at BK292 BK293 BK299 HB HR302_0 hx302_0 hx302_1 hHeld ⊢;refine pure_ (i:=1) (N:=some 51) (v:=?_) (a':=?_) #[false, true, false, false, false, false, false, false, false, false, false, false, false, false, false] rfl rfl (any_of HT_.out (by kernel_rfl)) (fun _ _ _ h => h) (Or.inl ⟨by rfl, ?_⟩) ?_ ?_;rotate_left
            ·intro w';go_simp;(with_reducible rfl)
            rotate_left
            ·simp only [Act.put, st_, s0_, s1_, i64_w, i32_w];rfl
            refine pure_ (i:=3) (N:=some 53) (v:=?_) (a':=?_) #[false, true, false, true, false, false, false, false, false, false, false, false, false, false, false] rfl rfl (any_of HT_.out (by kernel_rfl)) (fun _ _ _ h => h) (Or.inl ⟨by rfl, ?_⟩) ?_ ?_;rotate_left
            ·intro w';go_simp;(with_reducible rfl)
            rotate_left
            ·simp only [Act.put, st_, s0_, s1_, i64_w, i32_w];rfl
            refine pure_ (i:=4) (N:=some 54) (v:=?_) (a':=?_) #[false, true, false, true, true, false, false, false, false, false, false, false, false, false, false] rfl rfl (any_of HT_.out (by kernel_rfl)) (fun _ _ _ h => h) (Or.inl ⟨by rfl, ?_⟩) ?_ ?_;rotate_left
            ·intro w';go_simp;(with_reducible rfl)
            rotate_left
            ·simp only [Act.put, st_, s0_, s1_, i64_w, i32_w];rfl
            refine pure_ (i:=5) (N:=some 55) (v:=?_) (a':=?_) #[false, true, false, true, true, true, false, false, false, false, false, false, false, false, false] rfl rfl (any_of HT_.out (by kernel_rfl)) (fun _ _ _ h => h) (Or.inl ⟨by rfl, ?_⟩) ?_ ?_;rotate_left
            ·intro w';go_simp;(with_reducible rfl)
            rotate_left
            ·simp only [Act.put, st_, s0_, s1_, i64_w, i32_w];rfl
            refine take_ (i:=0) (N:=some 50) (v:=?_) (a':=?_) #[true, true, false, true, true, true, false, false, false, false, false, false, false, false, false] rfl rfl (take_ofW HT_.out HW_.out (by kernel_rfl)) (fun _ _ _ h => h) (Or.inl ⟨by rfl, ?_⟩) hHeld ?_ ?_;rotate_left
            ·rintro w' ⟨s0, s1, s2, s3, s4, s5, s6, s7, s8⟩;go_simp;(with_reducible rfl)
            rotate_left
            ·simp only [Act.put, st_, s0_, s1_, i64_w, i32_w];rfl
            refine take_ (i:=2) (N:=some 52) (v:=?_) (a':=?_) #[true, true, true, true, true, true, false, false, false, false, false, false, false, false, false] rfl rfl (take_ofW HT_.out HW_.out (by kernel_rfl)) (fun _ _ _ h => h) (Or.inl ⟨by rfl, ?_⟩) hHeld ?_ ?_;rotate_left
            ·rintro w' ⟨s0, s1, s2, s3, s4, s5, s6, s7, s8⟩;go_simp;(with_reducible rfl)
            rotate_left
            ·simp only [Act.put, st_, s0_, s1_, i64_w, i32_w];rfl
            refine take_ (i:=6) (N:=some 56) (v:=?_) (a':=?_) #[true, true, true, true, true, true, true, false, false, false, false, false, false, false, false] rfl rfl (take_ofW HT_.out HW_.out (by kernel_rfl)) (fun _ _ _ h => h) (Or.inl ⟨by rfl, ?_⟩) hHeld ?_ ?_;rotate_left
            ·rintro w' ⟨s0, s1, s2, s3, s4, s5, s6, s7, s8⟩;go_simp;(with_reducible rfl)
            rotate_left
            ·simp only [Act.put, st_, s0_, s1_, i64_w, i32_w];rfl
            refine one_ (i:=7) (N:=some 57) #[true, true, true, true, true, true, true, true, false, false, false, false, false, false, false] rfl rfl (one_of HT_.out (by kernel_rfl)) (by decide) (fun K hK => ?_);refine goes_ Tryd.func59 (by kernel_rfl) rfl #[.agg #[.slice A0_0 l0_0.length c0_0, .slice A0_1 l0_1.length c0_1, .slice A0_2 l0_2.length c0_2, .int .i64 a0_3], .int .i64 a1_1, .agg #[.slice A302_0 ((rd_T66 l2 x9_2).f0).length c302_0, .int .i64 ((rd_T66 l2 x9_2).f1)]] (by rfl) rfl rfl (by (try simp only [List.map_toArray, List.map_cons, List.map_nil]);first|done|rfl|(simp only [List.length_drop, List.length_take];rfl)) ?_;(with_reducible refine (diapasonref27_Shut.calls k2 _ _ l0_0 _ _ l0_1 _ _ l0_2 a0_3 a1_1 _ _ ((rd_T66 l2 x9_2).f0) ((rd_T66 l2 x9_2).f1) false _ ?side1 ?side2 ?side3 ?side4 ?side5 ?side6 ?side7 ?side8 A47.out).mono ?_);(case side1 => exact cb_ HR0_0 HB);(case side2 => exact HC0_0.out);(case side3 => exact cb_ HR0_1 HB);(case side4 => exact HC0_1.out);(case side5 => exact cb_ HR0_2 HB);(case side6 => exact HC0_2.out);(case side7 => exact cb_ HR302_0 HB);(case side8 => exact HC302_0.out);rintro e w58 ⟨rfl, hb⟩;refine ⟨_, rfl, ?_⟩;replace BK292:=bb_ BK292 hb;replace BK293:=bb_ BK293 hb;replace BK299:=bb_ BK299 hb;replace HB:=am_ (below_step (by repeat (first | (with_reducible first | exact HB.out | apply b1_|apply b2_|apply b3_ | refine below_set ?_ GE292.out | refine below_set ?_ GE293.out | refine below_set ?_ GE299.out) | exact HB.out)) hb);(try clear hb);(try clear hb2);(try clear hk);(try clear hi);refine hK.out _ _ ⟨(blk_cell BK292.out 0).trans rfl, (blk_cell BK292.out 1).trans rfl, (blk_cell BK292.out 2).trans rfl, (blk_cell BK292.out 3).trans rfl, (blk_cell BK293.out 0).trans rfl, (blk_cell BK293.out 1).trans rfl, (blk_cell BK293.out 2).trans rfl, ((HB.out.cell (World.block_lt_of_cell? w _ hw302_0)).trans hw302_0), ((HB.out.cell (World.block_lt_of_cell? w _ hw302_1)).trans hw302_1)⟩ (fun hHeld => ?_);clear hK K;refine norm_ (a':=?_) ?_ ?_;rotate_left
            ·show Act.put _ (some 57) _ = _;simp only [Act.put, st_, s0_, s1_, i64_w, i32_w];rfl
            refine pure_ (i:=8) (N:=some 58) (v:=?_) (a':=?_) #[true, true, true, true, true, true, true, true, true, false, false, false, false, false, false] rfl rfl (any_of HT_.out (by kernel_rfl)) (fun _ _ _ h => h) (Or.inl ⟨by rfl, ?_⟩) ?_ ?_;rotate_left
            ·intro w';go_simp;(with_reducible rfl)
            rotate_left
            ·simp only [Act.put, st_, s0_, s1_, i64_w, i32_w];rfl
            refine pure_ (i:=9) (N:=some 59) (v:=?_) (a':=?_) #[true, true, true, true, true, true, true, true, true, true, false, false, false, false, false] rfl rfl (any_of HT_.out (by kernel_rfl)) (fun _ _ _ h => h) (Or.inl ⟨by rfl, ?_⟩) ?_ ?_;rotate_left
            ·intro w';go_simp;(with_reducible rfl)
            rotate_left
            ·simp only [Act.put, st_, s0_, s1_, i64_w, i32_w];rfl
            refine pure_ (i:=10) (N:=some 60) (v:=undef) (a':=?_) #[true, true, true, true, true, true, true, true, true, true, true, false, false, false, false] rfl rfl (any_of HT_.out (by kernel_rfl)) (fun _ _ _ h => h) (Or.inr ⟨by rfl, rfl⟩) ?_ ?_;rotate_left
            ·simp only [Act.put, st_, s0_, s1_, i64_w, i32_w];rfl
            refine pure_ (i:=11) (N:=some 61) (v:=undef) (a':=?_) #[true, true, true, true, true, true, true, true, true, true, true, true, false, false, false] rfl rfl (any_of HT_.out (by kernel_rfl)) (fun _ _ _ h => h) (Or.inr ⟨by rfl, rfl⟩) ?_ ?_;rotate_left
            ·simp only [Act.put, st_, s0_, s1_, i64_w, i32_w];rfl
            refine pure_ (i:=12) (N:=some 62) (v:=undef) (a':=?_) #[true, true, true, true, true, true, true, true, true, true, true, true, true, false, false] rfl rfl (any_of HT_.out (by kernel_rfl)) (fun _ _ _ h => h) (Or.inr ⟨by rfl, rfl⟩) ?_ ?_;rotate_left
            ·simp only [Act.put, st_, s0_, s1_, i64_w, i32_w];rfl
            refine pure_ (i:=13) (N:=some 63) (v:=undef) (a':=?_) #[true, true, true, true, true, true, true, true, true, true, true, true, true, true, false] rfl rfl (any_of HT_.out (by kernel_rfl)) (fun _ _ _ h => h) (Or.inr ⟨by rfl, rfl⟩) ?_ ?_;rotate_left
            ·simp only [Act.put, st_, s0_, s1_, i64_w, i32_w];rfl
            refine pure_ (i:=14) (N:=some 64) (v:=?_) (a':=?_) #[true, true, true, true, true, true, true, true, true, true, true, true, true, true, true] rfl rfl (any_of HT_.out (by kernel_rfl)) (fun _ _ _ h => h) (Or.inl ⟨by rfl, ?_⟩) ?_ ?_;rotate_left
            ·intro w';go_simp;(with_reducible rfl)
            rotate_left
            ·simp only [Act.put, st_, s0_, s1_, i64_w, i32_w];rfl
            refine done_ (done_of HT_.out (by kernel_rfl)) ?_
            try go_wp2
            go_ret2
            exact ⟨by first | rfl | (simp [errW_none, errW_some] <;> rfl) | (simp [*, errW_none, errW_some] <;> rfl), by repeat (first | (with_reducible first | exact HB.out | apply b1_|apply b2_|apply b3_ | refine below_set ?_ GE292.out | refine below_set ?_ GE293.out | refine below_set ?_ GE299.out) | exact HB.out)⟩
          ·rw [if_neg c46] at H;exact absurd H (by simp)
         ·rw [if_neg c45] at H;have c45b0 : decide (x9_2 < (l2.length : Int)) = false:=decide_eq_false c45;clear c45
          by_cases c59 : (l2.length : Int) = 0
          ·rw [if_pos c59] at H;have c59b0 : ((l2.length : Int) == 0) = true:=beq_iff_eq.mpr c59;have c59b1 : ((l2.length : Int) != 0) = false:=bne_eq_false_iff_eq.mpr c59;clear c59;simp only [Option.some.injEq, Prod.mk.injEq] at H;obtain ⟨rfl, rfl⟩:=H
           go_wp2
           go_ret2
           exact ⟨by first | rfl | (simp [errW_none, errW_some] <;> rfl) | (simp [*, errW_none, errW_some] <;> rfl), by repeat (first | (with_reducible first | exact HB.out | apply b1_|apply b2_|apply b3_ | refine below_set ?_ GE292.out | refine below_set ?_ GE293.out | refine below_set ?_ GE299.out) | exact HB.out)⟩
          ·rw [if_neg c59] at H;have c59b0 : ((l2.length : Int) == 0) = false:=beq_eq_false_iff_ne.mpr c59;have c59b1 : ((l2.length : Int) != 0) = true:=bne_iff_ne.mpr c59;have c59b2 : ¬ (l2 = []):=fun h_ => c59 (by rw [h_];rfl)
           obtain ⟨ji60, hji60⟩ : ∃ j_ : Int, (wrap64 ((l2.length : Int) - 1)) = j_:=⟨_, rfl⟩
           replace H : (if 0 ≤ (ji60) then (if (ji60) < (l2.length : Int) then ((diapasonref27_last.f k2 ((rd_T66 l2 (ji60)).f0)).bind fun t301 => (if t301 ≥ 0 then (some ((l2.length : Int), 270)) else (some (0, 0)))) else (none)) else (none)) = some (r1, r2):=by first | (rw [hji60] at H;exact H) | (simp only [hji60] at H ⊢;exact H)
           have hji60w : (IntKind.i64.wrap ((l2.length : Int) - 1)) = ji60:=(i64_w _).trans hji60
           by_cases c61 : 0 ≤ (ji60)
           ·rw [if_pos c61] at H;have c61b0 : decide (0 ≤ (ji60)) = true:=decide_eq_true c61;clear c61
            by_cases c62 : (ji60) < (l2.length : Int)
            ·rw [if_pos c62] at H;have c62b0 : decide ((ji60) < (l2.length : Int)) = true:=decide_eq_true c62;clear c62;replace H:=Option.bind_eq_some_iff.mp H;obtain ⟨t301, A630, H⟩:=H;replace H : (if t301 ≥ 0 then (some ((l2.length : Int), 270)) else (some (0, 0))) = some (r1, r2):=H;have A63:=am_ A630;clear A630
             by_cases c64 : t301 ≥ 0
             ·rw [if_pos c64] at H;have c64b0 : decide (0 ≤ t301) = true:=decide_eq_true c64;clear c64;simp only [Option.some.injEq, Prod.mk.injEq] at H;obtain ⟨rfl, rfl⟩:=H;have p300 : 0 ≤ ((ji60) : Int):=of_decide_eq_true (by first | (with_reducible assumption) | assumption);have q300 : (ji60) < (l2.length : Int):=of_decide_eq_true (by first | (with_reducible assumption) | assumption);obtain ⟨ad300, A300_0, c300_0, e300, hx300_0, hx300_1, hl300_0, hi300_0⟩:=at_T66 HR2.out (ji60) p300 q300
              cases e300
              replace hx300_0:=(HB.out.cell (World.block_lt_of_cell? w _ hx300_0)).trans hx300_0;replace hx300_1:=(HB.out.cell (World.block_lt_of_cell? w _ hx300_1)).trans hx300_1;have HR300_0:=am_ hi300_0;have HC300_0:=am_ hl300_0;clear hi300_0 hl300_0;replace p300:=eq_true p300;replace q300:=eq_true q300
              go_wp2_with (first | (go_at_call 61;(with_reducible refine (diapasonref27_last.calls k2 _ _ ((rd_T66 l2 (ji60)).f0) t301 _ ?side1 ?side2 A63.out).mono ?_);(case side1 => exact cb_ HR300_0 HB);(case side2 => exact HC300_0.out);rintro e w' ⟨rfl, ⟨nd, rfl⟩⟩))
              go_ret2
              exact ⟨by first | rfl | (simp [errW_none, errW_some] <;> rfl) | (simp only [← hji60];first | rfl | (simp [errW_none, errW_some] <;> rfl)) | (simp [*, errW_none, errW_some] <;> rfl), by repeat (first | (with_reducible first | exact HB.out | apply b1_|apply b2_|apply b3_ | refine below_set ?_ GE292.out | refine below_set ?_ GE293.out | refine below_set ?_ GE299.out) | exact HB.out)⟩
             ·rw [if_neg c64] at H;have c64b0 : decide (0 ≤ t301) = false:=decide_eq_false c64;clear c64;simp only [Option.some.injEq, Prod.mk.injEq] at H;obtain ⟨rfl, rfl⟩:=H;have p300 : 0 ≤ ((ji60) : Int):=of_decide_eq_true (by first | (with_reducible assumption) | assumption);have q300 : (ji60) < (l2.length : Int):=of_decide_eq_true (by first | (with_reducible assumption) | assumption);obtain ⟨ad300, A300_0, c300_0, e300, hx300_0, hx300_1, hl300_0, hi300_0⟩:=at_T66 HR2.out (ji60) p300 q300
              cases e300
              replace hx300_0:=(HB.out.cell (World.block_lt_of_cell? w _ hx300_0)).trans hx300_0;replace hx300_1:=(HB.out.cell (World.block_lt_of_cell? w _ hx300_1)).trans hx300_1;have HR300_0:=am_ hi300_0;have HC300_0:=am_ hl300_0;clear hi300_0 hl300_0;replace p300:=eq_true p300;replace q300:=eq_true q300
              go_wp2_with (first | (go_at_call 61;(with_reducible refine (diapasonref27_last.calls k2 _ _ ((rd_T66 l2 (ji60)).f0) t301 _ ?side1 ?side2 A63.out).mono ?_);(case side1 => exact cb_ HR300_0 HB);(case side2 => exact HC300_0.out);rintro e w' ⟨rfl, ⟨nd, rfl⟩⟩))
              go_ret2
              exact ⟨by first | rfl | (simp [errW_none, errW_some] <;> rfl) | (simp only [← hji60];first | rfl | (simp [errW_none, errW_some] <;> rfl)) | (simp [*, errW_none, errW_some] <;> rfl), by repeat (first | (with_reducible first | exact HB.out | apply b1_|apply b2_|apply b3_ | refine below_set ?_ GE292.out | refine below_set ?_ GE293.out | refine below_set ?_ GE299.out) | exact HB.out)⟩
            ·rw [if_neg c62] at H;exact absurd H (by simp)
           ·rw [if_neg c61] at H;exact absurd H (by simp)
  ·replace c7:=Bool.eq_false_iff.mpr c7;subst c7;have H1 : (some ((-1), 270)) = some (r1, r2):=by rw [if_neg (show ¬ (false = true) by decide)] at H;exact H
   clear H;have H:=H1;clear H1;simp only [Option.some.injEq, Prod.mk.injEq] at H;obtain ⟨rfl, rfl⟩:=H;go_enter Tryd.func28, Tryd.ntmps28
   go_wp2_with (first | ((with_reducible refine gate_dst (N:=3) rfl ?_);(try (refine gate_guard (by rfl) ?_;dsimp only));refine box_event ?hg (N:=3) ?hd (cs:=#[.slice A0_0 l0_0.length c0_0, .slice A0_1 l0_1.length c0_1, .slice A0_2 l0_2.length c0_2, .int .i64 a0_3]) (t:=28) ?hr ?_;(case hd => rfl);(case hg => rfl);(case hr => first | (go_simp;done) | (go_simp;rfl));intro gb292 hg w65 hbox hb;have BK292:=am_ hbox;have GW292:=gz_ hg HB;have GE292:=gz_ hg HB;replace HB:=bs_ HB hb;clear hb hbox hg) | ((with_reducible refine gate_dst (N:=4) rfl ?_);(try (refine gate_guard (by rfl) ?_;dsimp only));refine box_event ?hg (N:=4) ?hd (cs:=#[.slice A1_0 l1_0.length c1_0, .int .i64 a1_1, .int .i64 a1_2]) (t:=31) ?hr ?_;(case hd => rfl);(case hg => rfl);(case hr => first | (go_simp;done) | (go_simp;rfl));intro gb293 hg w66 hbox hb;have BK293:=am_ hbox;have GW293:=gz_ hg HB;have GE293:=gz_ hg HB;replace HB:=am_ (below_step (by repeat (first | (with_reducible first | exact HB.out | apply b1_|apply b2_|apply b3_ | refine below_set ?_ GE292.out) | exact HB.out)) hb);have NB292_293:=nl_ hg BK292;have NB293_292:=ng_ hg BK292;replace BK292:=bb_ BK292 hb;clear hb hbox hg;have hnb67:=NB292_293.out;have hnc67:=NB293_292.out;obtain ⟨hcz68_0, hcz68_1, hcz68_2, hcz68_3⟩:=c4_ BK292.out;obtain ⟨hfz68_0, hfz68_1, hfz68_2, hfz68_3⟩:=z4_ BK292.out) | ((with_reducible refine gate_callee (f:=56) rfl ?_);refine goesL_ (some 11) rfl rfl Tryd.func56 (by kernel_rfl) rfl #[.agg #[.slice A0_0 l0_0.length c0_0, .slice A0_1 l0_1.length c0_1, .slice A0_2 l0_2.length c0_2, .int .i64 a0_3]] rfl (by (try simp only [List.map_toArray, List.map_cons, List.map_nil]);first|done|rfl|(simp only [List.length_drop, List.length_take];rfl)) ?_;(with_reducible refine (diapasonref26_May.calls k _ _ l0_0 _ _ l0_1 _ _ l0_2 a0_3 true _ ?side1 ?side2 ?side3 ?side4 ?side5 ?side6 A4.out).mono ?_);(case side1 => exact cb_ HR0_0 HB);(case side2 => exact HC0_0.out);(case side3 => exact cb_ HR0_1 HB);(case side4 => exact HC0_1.out);(case side5 => exact cb_ HR0_2 HB);(case side6 => exact HC0_2.out);rintro e w69 ⟨rfl, hb⟩;refine ⟨_, rfl, ?_⟩;replace BK292:=bb_ BK292 hb;replace BK293:=bb_ BK293 hb;replace HB:=am_ (below_step (by repeat (first | (with_reducible first | exact HB.out | apply b1_|apply b2_|apply b3_ | refine below_set ?_ GE292.out | refine below_set ?_ GE293.out) | exact HB.out)) hb);(try clear hb);(try clear hb2);(try clear hk);(try clear hi);obtain ⟨hcz70_0, hcz70_1, hcz70_2, hcz70_3⟩:=c4_ BK292.out;obtain ⟨hfz70_0, hfz70_1, hfz70_2, hfz70_3⟩:=z4_ BK292.out;obtain ⟨hcz71_0, hcz71_1, hcz71_2⟩:=c3_ BK293.out;obtain ⟨hfz71_0, hfz71_1, hfz71_2⟩:=z3_ BK293.out) | ((with_reducible refine gate_callee (f:=57) rfl ?_);refine goesL_ (some 16) rfl rfl Tryd.func57 (by kernel_rfl) rfl #[.agg #[.slice A0_0 l0_0.length c0_0, .slice A0_1 l0_1.length c0_1, .slice A0_2 l0_2.length c0_2, .int .i64 a0_3], .slice A1_0 l1_0.length c1_0] rfl (by (try simp only [List.map_toArray, List.map_cons, List.map_nil]);first|done|rfl|(simp only [List.length_drop, List.length_take];rfl)) ?_;(with_reducible refine (diapasonref26_Rises.calls k _ _ l0_0 _ _ l0_1 _ _ l0_2 a0_3 _ _ l1_0 false _ ?side1 ?side2 ?side3 ?side4 ?side5 ?side6 ?side7 ?side8 A6.out).mono ?_);(case side1 => exact cb_ HR0_0 HB);(case side2 => exact HC0_0.out);(case side3 => exact cb_ HR0_1 HB);(case side4 => exact HC0_1.out);(case side5 => exact cb_ HR0_2 HB);(case side6 => exact HC0_2.out);(case side7 => exact cb_ HR1_0 HB);(case side8 => exact HC1_0.out);rintro e w72 ⟨rfl, hb⟩;refine ⟨_, rfl, ?_⟩;replace BK292:=bb_ BK292 hb;replace BK293:=bb_ BK293 hb;replace HB:=am_ (below_step (by repeat (first | (with_reducible first | exact HB.out | apply b1_|apply b2_|apply b3_ | refine below_set ?_ GE292.out | refine below_set ?_ GE293.out) | exact HB.out)) hb);(try clear hb);(try clear hb2);(try clear hk);(try clear hi)))
   go_ret2
   exact ⟨by first | rfl | (simp [errW_none, errW_some] <;> rfl) | (simp [*, errW_none, errW_some] <;> rfl), by repeat (first | (with_reducible first | exact HB.out | apply b1_|apply b2_|apply b3_ | refine below_set ?_ GE292.out | refine below_set ?_ GE293.out) | exact HB.out)⟩
 ·replace c5:=Bool.eq_false_iff.mpr c5;subst c5;have H1 : (some ((-1), 2)) = some (r1, r2):=by rw [if_neg (show ¬ (false = true) by decide)] at H;exact H
  clear H;have H:=H1;clear H1;simp only [Option.some.injEq, Prod.mk.injEq] at H;obtain ⟨rfl, rfl⟩:=H;go_enter Tryd.func28, Tryd.ntmps28
  go_wp2_with (first | ((with_reducible refine gate_dst (N:=3) rfl ?_);(try (refine gate_guard (by rfl) ?_;dsimp only));refine box_event ?hg (N:=3) ?hd (cs:=#[.slice A0_0 l0_0.length c0_0, .slice A0_1 l0_1.length c0_1, .slice A0_2 l0_2.length c0_2, .int .i64 a0_3]) (t:=28) ?hr ?_;(case hd => rfl);(case hg => rfl);(case hr => first | (go_simp;done) | (go_simp;rfl));intro gb292 hg w73 hbox hb;have BK292:=am_ hbox;have GW292:=gz_ hg HB;have GE292:=gz_ hg HB;replace HB:=bs_ HB hb;clear hb hbox hg) | ((with_reducible refine gate_dst (N:=4) rfl ?_);(try (refine gate_guard (by rfl) ?_;dsimp only));refine box_event ?hg (N:=4) ?hd (cs:=#[.slice A1_0 l1_0.length c1_0, .int .i64 a1_1, .int .i64 a1_2]) (t:=31) ?hr ?_;(case hd => rfl);(case hg => rfl);(case hr => first | (go_simp;done) | (go_simp;rfl));intro gb293 hg w74 hbox hb;have BK293:=am_ hbox;have GW293:=gz_ hg HB;have GE293:=gz_ hg HB;replace HB:=am_ (below_step (by repeat (first | (with_reducible first | exact HB.out | apply b1_|apply b2_|apply b3_ | refine below_set ?_ GE292.out) | exact HB.out)) hb);have NB292_293:=nl_ hg BK292;have NB293_292:=ng_ hg BK292;replace BK292:=bb_ BK292 hb;clear hb hbox hg;have hnb75:=NB292_293.out;have hnc75:=NB293_292.out;obtain ⟨hcz76_0, hcz76_1, hcz76_2, hcz76_3⟩:=c4_ BK292.out;obtain ⟨hfz76_0, hfz76_1, hfz76_2, hfz76_3⟩:=z4_ BK292.out) | ((with_reducible refine gate_callee (f:=56) rfl ?_);refine goesL_ (some 11) rfl rfl Tryd.func56 (by kernel_rfl) rfl #[.agg #[.slice A0_0 l0_0.length c0_0, .slice A0_1 l0_1.length c0_1, .slice A0_2 l0_2.length c0_2, .int .i64 a0_3]] rfl (by (try simp only [List.map_toArray, List.map_cons, List.map_nil]);first|done|rfl|(simp only [List.length_drop, List.length_take];rfl)) ?_;(with_reducible refine (diapasonref26_May.calls k _ _ l0_0 _ _ l0_1 _ _ l0_2 a0_3 false _ ?side1 ?side2 ?side3 ?side4 ?side5 ?side6 A4.out).mono ?_);(case side1 => exact cb_ HR0_0 HB);(case side2 => exact HC0_0.out);(case side3 => exact cb_ HR0_1 HB);(case side4 => exact HC0_1.out);(case side5 => exact cb_ HR0_2 HB);(case side6 => exact HC0_2.out);rintro e w77 ⟨rfl, hb⟩;refine ⟨_, rfl, ?_⟩;replace BK292:=bb_ BK292 hb;replace BK293:=bb_ BK293 hb;replace HB:=am_ (below_step (by repeat (first | (with_reducible first | exact HB.out | apply b1_|apply b2_|apply b3_ | refine below_set ?_ GE292.out | refine below_set ?_ GE293.out) | exact HB.out)) hb);(try clear hb);(try clear hb2);(try clear hk);(try clear hi)))
  go_ret2
  exact ⟨by first | rfl | (simp [errW_none, errW_some] <;> rfl) | (simp [*, errW_none, errW_some] <;> rfl), by repeat (first | (with_reducible first | exact HB.out | apply b1_|apply b2_|apply b3_ | refine below_set ?_ GE292.out | refine below_set ?_ GE293.out) | exact HB.out)⟩

end Go.Proofs.YtfcidgnbocijdaaDoor.PCertLooks
