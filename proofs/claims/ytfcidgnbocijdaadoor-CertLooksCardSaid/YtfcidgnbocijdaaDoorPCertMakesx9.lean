-- Written by a program of this session (the kit's print, turned: wip/px).
import Derived.Test.YtfcidgnbocijdaaDoorPCertMakesx0
import Derived.Test.YtfcidgnbocijdaaDoorSq2
namespace Go.Proofs.YtfcidgnbocijdaaDoor.PCertMakes
open Go.Proofs.YtfcidgnbocijdaaDoor.Sq
open Go.RowKit Go.Proofs.YtfcidgnbocijdaaDoorW.PrintWords Go.Proofs.YtfcidgnbocijdaaDoorW.PrintLast Go.Proofs.YtfcidgnbocijdaaDoorW.PrintMore
attribute [local go_sem] max2_int min2_int max_two min_two max_three min_three max_four min_four   -- for this text's walks alone
set_option linter.unusedVariables false
set_option linter.unusedSimpArgs false

/-! ### diapasonref26_far: function 81 -/
def diapasonref26_far.f (a0 : Int) (a1 : Int) : Option (Int) := if a0 < a1 then (some (wrap64 (a1 - a0))) else (some (wrap64 (a0 - a1)))
set_option maxHeartbeats 8000000 in
set_option maxRecDepth 100000 in
theorem diapasonref26_far.calls (a0 : Int) (a1 : Int) (r : Int) (w : World) (h : diapasonref26_far.f a0 a1 = some r) :
  Calls Tryd.prog 81 #[.int .i64 a0, .int .i64 a1] w fun e w' => e = .returned (.int .i64 r) ∧ Drawn0 w w':=by
 have H : (if a0 < a1 then (some (wrap64 (a1 - a0))) else (some (wrap64 (a0 - a1)))) = some r:=h;clear h
 by_cases c3 : a0 < a1
 ·rw [if_pos c3] at H;have c3b0 : decide (a0 < a1) = true:=decide_eq_true c3;clear c3;obtain rfl:=Option.some.inj H;go_enter Tryd.func81, Tryd.ntmps81
  go_wp2
  go_ret
  exact ⟨by first | rfl | (simp;done) | (simp [*];done), by repeat (first | exact Drawn0.refl _ | apply Drawn0.step)⟩
 ·rw [if_neg c3] at H;have c3b0 : decide (a0 < a1) = false:=decide_eq_false c3;clear c3;obtain rfl:=Option.some.inj H;go_enter Tryd.func81, Tryd.ntmps81
  go_wp2
  go_ret
  exact ⟨by first | rfl | (simp;done) | (simp [*];done), by repeat (first | exact Drawn0.refl _ | apply Drawn0.step)⟩

/-! ### diapasonref26_Choice: function 58 -/
mutual
def diapasonref26_Choice.l0 : Nat → List Int → Int → List Int → List (List Int) → List Int → Int → List Int → Int → Int → Option (List Int × Int × Int)
 | 0, _, _, _, _, _, _, _, _, _ => none
 | k + 1, x1, x6, x173000, x173001, x173002, x173003, x175000, x175001, x175002 => if x6 < (x173000.length : Int) then (diapasonref26_Choice.l1 k x1 x6 0 0 x173000 x173001 x173002 x173003 x175000 x175001 x175002) else (diapasonref26_Choice.l2 k x1 0 x173000 x173001 x173002 x173003 x175000 x175001 x175002)
def diapasonref26_Choice.l1 : Nat → List Int → Int → Int → Int → List Int → List (List Int) → List Int → Int → List Int → Int → Int → Option (List Int × Int × Int)
 | 0, _, _, _, _, _, _, _, _, _, _, _ => none
 | k + 1, x1, x6, x7, x8, x173000, x173001, x173002, x173003, x175000, x175001, x175002 => if x8 < (x1.length : Int) then (if 0 ≤ x8 then (if 0 ≤ (rd x1 x8) then (if (rd x1 x8) < (x173001.length : Int) then (if 0 ≤ x6 then (if x6 < ((rd_L1 x173001 (rd x1 x8)).length : Int) then (diapasonref26_Choice.l1 k x1 x6 (wrap64 (x7 + (rd (rd_L1 x173001 (rd x1 x8)) x6))) (wrap64 (x8 + 1)) x173000 x173001 x173002 x173003 x175000 x175001 x175002) else (none)) else (none)) else (none)) else (none)) else (none)) else (if 0 ≤ x6 then (if x6 < (x173000.length : Int) then ((diapasonref26_far.f x7 (rd x173000 x6)).bind fun t179 => (diapasonref26_Choice.l0 k x1 (wrap64 (x6 + 1)) x173000 x173001 x173002 x173003 x175000 (wrap64 (x175001 + t179)) x175002)) else (none)) else (none))
def diapasonref26_Choice.l2 : Nat → List Int → Int → List Int → List (List Int) → List Int → Int → List Int → Int → Int → Option (List Int × Int × Int)
 | 0, _, _, _, _, _, _, _, _, _ => none
 | k + 1, x1, x9, x173000, x173001, x173002, x173003, x175000, x175001, x175002 => if x9 < (x1.length : Int) then (if 0 ≤ x9 then (if 0 ≤ (rd x1 x9) then (if (rd x1 x9) < (x173002.length : Int) then (diapasonref26_Choice.l2 k x1 (wrap64 (x9 + 1)) x173000 x173001 x173002 x173003 x175000 x175001 (wrap64 (x175002 + (rd x173002 (rd x1 x9))))) else (none)) else (none)) else (none)) else (some (x175000, x175001, x175002))
end
def diapasonref26_Choice.f (k : Nat) (l0_0 : List Int) (l0_1 : List (List Int)) (l0_2 : List Int) (a0_3 : Int) (l1 : List Int) : Option (List Int × Int × Int) := diapasonref26_Choice.l0 k l1 0 l0_0 l0_1 l0_2 a0_3 l1 0 0
theorem diapasonref26_Choice.mono_l : ∀ k, (∀ y0 y1 y2 y3 y4 y5 y6 y7 y8, LeO (diapasonref26_Choice.l0 k y0 y1 y2 y3 y4 y5 y6 y7 y8) (diapasonref26_Choice.l0 (k + 1) y0 y1 y2 y3 y4 y5 y6 y7 y8)) ∧ (∀ y0 y1 y2 y3 y4 y5 y6 y7 y8 y9 y10, LeO (diapasonref26_Choice.l1 k y0 y1 y2 y3 y4 y5 y6 y7 y8 y9 y10) (diapasonref26_Choice.l1 (k + 1) y0 y1 y2 y3 y4 y5 y6 y7 y8 y9 y10)) ∧ (∀ y0 y1 y2 y3 y4 y5 y6 y7 y8, LeO (diapasonref26_Choice.l2 k y0 y1 y2 y3 y4 y5 y6 y7 y8) (diapasonref26_Choice.l2 (k + 1) y0 y1 y2 y3 y4 y5 y6 y7 y8))
 | 0 => ⟨fun _ _ _ _ _ _ _ _ _ r h => by simp [diapasonref26_Choice.l0] at h, fun _ _ _ _ _ _ _ _ _ _ _ r h => by simp [diapasonref26_Choice.l1] at h, fun _ _ _ _ _ _ _ _ _ r h => by simp [diapasonref26_Choice.l2] at h⟩
 | k + 1 => by
  obtain ⟨ih0, ih1, ih2⟩:=diapasonref26_Choice.mono_l k;refine ⟨?_, ?_, ?_⟩
  ·intro y0 y1 y2 y3 y4 y5 y6 y7 y8
   unfold diapasonref26_Choice.l0
   repeat' first
   | (with_reducible exact ih0 _ _ _ _ _ _ _ _ _)
   | (with_reducible exact ih1 _ _ _ _ _ _ _ _ _ _ _)
   | (with_reducible exact ih2 _ _ _ _ _ _ _ _ _)
   | (with_reducible exact LeO.refl _)
   | (with_reducible exact LeO.none _)
   | (with_reducible refine LeO.ite ?_ ?_)
   | (with_reducible refine LeO.bind ?_ (fun _ => ?_))
   | exact ih0 _ _ _ _ _ _ _ _ _
   | exact ih1 _ _ _ _ _ _ _ _ _ _ _
   | exact ih2 _ _ _ _ _ _ _ _ _
   | exact LeO.none _
   | refine LeO.ite ?_ ?_
   | refine LeO.bind ?_ (fun _ => ?_)
  ·intro y0 y1 y2 y3 y4 y5 y6 y7 y8 y9 y10
   unfold diapasonref26_Choice.l1
   repeat' first
   | (with_reducible exact ih0 _ _ _ _ _ _ _ _ _)
   | (with_reducible exact ih1 _ _ _ _ _ _ _ _ _ _ _)
   | (with_reducible exact ih2 _ _ _ _ _ _ _ _ _)
   | (with_reducible exact LeO.refl _)
   | (with_reducible exact LeO.none _)
   | (with_reducible refine LeO.ite ?_ ?_)
   | (with_reducible refine LeO.bind ?_ (fun _ => ?_))
   | exact ih0 _ _ _ _ _ _ _ _ _
   | exact ih1 _ _ _ _ _ _ _ _ _ _ _
   | exact ih2 _ _ _ _ _ _ _ _ _
   | exact LeO.none _
   | refine LeO.ite ?_ ?_
   | refine LeO.bind ?_ (fun _ => ?_)
  ·intro y0 y1 y2 y3 y4 y5 y6 y7 y8
   unfold diapasonref26_Choice.l2
   repeat' first
   | (with_reducible exact ih0 _ _ _ _ _ _ _ _ _)
   | (with_reducible exact ih1 _ _ _ _ _ _ _ _ _ _ _)
   | (with_reducible exact ih2 _ _ _ _ _ _ _ _ _)
   | (with_reducible exact LeO.refl _)
   | (with_reducible exact LeO.none _)
   | (with_reducible refine LeO.ite ?_ ?_)
   | (with_reducible refine LeO.bind ?_ (fun _ => ?_))
   | exact ih0 _ _ _ _ _ _ _ _ _
   | exact ih1 _ _ _ _ _ _ _ _ _ _ _
   | exact ih2 _ _ _ _ _ _ _ _ _
   | exact LeO.none _
   | refine LeO.ite ?_ ?_
   | refine LeO.bind ?_ (fun _ => ?_)
theorem diapasonref26_Choice.mono : ∀ a0 a1 a2 a3 a4 k, LeO (diapasonref26_Choice.f k a0 a1 a2 a3 a4) (diapasonref26_Choice.f (k + 1) a0 a1 a2 a3 a4) := by
 intro a0 a1 a2 a3 a4 k;obtain ⟨ih0, ih1, ih2⟩:=diapasonref26_Choice.mono_l k
 unfold diapasonref26_Choice.f
 repeat' first
   | (with_reducible exact ih0 _ _ _ _ _ _ _ _ _)
   | (with_reducible exact ih1 _ _ _ _ _ _ _ _ _ _ _)
   | (with_reducible exact ih2 _ _ _ _ _ _ _ _ _)
   | (with_reducible exact LeO.refl _)
   | (with_reducible exact LeO.none _)
   | (with_reducible refine LeO.ite ?_ ?_)
   | (with_reducible refine LeO.bind ?_ (fun _ => ?_))
   | exact ih0 _ _ _ _ _ _ _ _ _
   | exact ih1 _ _ _ _ _ _ _ _ _ _ _
   | exact ih2 _ _ _ _ _ _ _ _ _
   | exact LeO.none _
   | refine LeO.ite ?_ ?_
   | refine LeO.bind ?_ (fun _ => ?_)
def diapasonref26_Choice.T9 : Bool × List (List Nat × List Nat) := (true, [([], []), ([], []), ([1], [1]), ([], []), ([], []), ([3, 4], [3, 4]), ([5], [5]), ([2, 6], [2, 6]), ([7], [7]), ([], []), ([8, 9], [8, 9]), ([10], [10]), ([0, 11], [0, 11]), ([12, 0, 1, 2, 3, 4, 5, 6, 7, 8, 9, 10, 11, 12], [0, 12])])
def diapasonref26_Choice.B9 : List Nat := [0, 0, 2, 0, 0, 24, 56, 126, 254, 0, 1022, 2046, 4095, 8191]
theorem diapasonref26_Choice.tab9 : rtab .any (opsOf Tryd.f58 9) = diapasonref26_Choice.T9 := by kernel_rfl
theorem diapasonref26_Choice.bits9 : waitsOk diapasonref26_Choice.T9.2 diapasonref26_Choice.B9 = true := by kernel_rfl
def diapasonref26_Choice.T10 : Bool × List (List Nat × List Nat) := (true, [([], []), ([0], [0]), ([], []), ([], []), ([3], [3]), ([], []), ([4, 5], [4, 5]), ([6], [6]), ([2, 7], [2, 7]), ([1, 8], [1, 8]), ([0, 1, 2, 3, 4, 5, 6, 7, 8, 9], []), ([10, 9, 8, 0, 1, 2, 3, 4, 5, 6, 7, 8, 9], [9, 10])])
def diapasonref26_Choice.B10 : List Nat := [0, 1, 0, 0, 8, 0, 56, 120, 252, 511, 1023, 2047]
theorem diapasonref26_Choice.tab10 : rtab .any (opsOf Tryd.f58 10) = diapasonref26_Choice.T10 := by kernel_rfl
theorem diapasonref26_Choice.bits10 : waitsOk diapasonref26_Choice.T10.2 diapasonref26_Choice.B10 = true := by kernel_rfl
def diapasonref26_Choice.T14 : Bool × List (List Nat × List Nat) := (true, [([], []), ([0], [0]), ([], []), ([2], [2]), ([], []), ([], []), ([4, 5], [4, 5]), ([6], [6]), ([3, 7], [3, 7]), ([8], [8]), ([1, 9], [1, 9]), ([0, 1, 2, 3, 4, 5, 6, 7, 8, 9, 10], []), ([11, 10, 0, 1, 2, 3, 4, 5, 6, 7, 8, 9, 10], [10, 11])])
def diapasonref26_Choice.B14 : List Nat := [0, 1, 0, 4, 0, 0, 48, 112, 252, 508, 1023, 2047, 4095]
theorem diapasonref26_Choice.tab14 : rtab .any (opsOf Tryd.f58 14) = diapasonref26_Choice.T14 := by kernel_rfl
theorem diapasonref26_Choice.bits14 : waitsOk diapasonref26_Choice.T14.2 diapasonref26_Choice.B14 = true := by kernel_rfl
set_option maxHeartbeats 8000000 in
set_option maxRecDepth 100000 in
theorem diapasonref26_Choice.calls (k : Nat) (A0_0 : Option Addr) (c0_0 : Nat) (l0_0 : List Int) (A0_1 : Option Addr) (c0_1 : Nat) (l0_1 : List (List Int)) (A0_2 : Option Addr) (c0_2 : Nat) (l0_2 : List Int) (a0_3 : Int) (A1 : Option Addr) (c1 : Nat) (l1 : List Int) (r1 : List Int) (r2 : Int) (r3 : Int) (w : World) (hr0_0 : Kd.C (Kd.int .i64) w A0_0 l0_0.length l0_0) (hc0_0 : l0_0.length ≤ c0_0) (hr0_1 : Kd.C (Kd.slice 3 (Kd.int .i64)) w A0_1 l0_1.length l0_1) (hc0_1 : l0_1.length ≤ c0_1) (hr0_2 : Kd.C (Kd.int .i64) w A0_2 l0_2.length l0_2) (hc0_2 : l0_2.length ≤ c0_2) (hr1 : Kd.C (Kd.int .i64) w A1 l1.length l1) (hc1 : l1.length ≤ c1) (h : diapasonref26_Choice.f k l0_0 l0_1 l0_2 a0_3 l1 = some (r1, r2, r3)) :
  Calls Tryd.prog 58 #[.agg #[.slice A0_0 l0_0.length c0_0, .slice A0_1 l0_1.length c0_1, .slice A0_2 l0_2.length c0_2, .int .i64 a0_3], .slice A1 l1.length c1] w fun e w' => e = .returned (.agg #[.slice A1 l1.length c1, .int .i64 r2, .int .i64 r3]) ∧ Below w.heap.size w w':=by
 have hu28:=Tryd.underlying28;have hu31:=Tryd.underlying31;have HR0_0:=am_ hr0_0;have HC0_0:=am_ hc0_0;clear hr0_0 hc0_0;have HR0_1:=am_ hr0_1;have HC0_1:=am_ hc0_1;clear hr0_1 hc0_1;have HR0_2:=am_ hr0_2;have HC0_2:=am_ hc0_2;clear hr0_2 hc0_2;have HR1:=am_ hr1;have HC1:=am_ hc1;clear hr1 hc1;have HB:=am_ (Below.refl w.heap.size w);have H : (diapasonref26_Choice.l0 k l1 0 l0_0 l0_1 l0_2 a0_3 l1 0 0) = some (r1, r2, r3):=h;clear h;have H':=am_ H;clear H;go_enter Tryd.func58, Tryd.ntmps58
 go_wp2_with (first | ((with_reducible refine gate_dst (N:=2) rfl ?_);refine box_event ?hg (N:=2) ?hd (cs:=#[.slice A0_0 l0_0.length c0_0, .slice A0_1 l0_1.length c0_1, .slice A0_2 l0_2.length c0_2, .int .i64 a0_3]) (t:=28) ?hr ?_;(case hd => rfl);(case hg => rfl);(case hr => first | (go_simp;done) | (go_simp;rfl));intro gb172 hg w3 hbox hb;have BK172:=am_ hbox;have GW172:=gz_ hg HB;have GE172:=gz_ hg HB;replace HB:=bs_ HB hb;clear hb hbox hg) | ((with_reducible refine gate_dst (N:=4) rfl ?_);refine box_event ?hg (N:=4) ?hd (cs:=#[.slice none 0 0, .int .i64 0, .int .i64 0]) (t:=31) ?hr ?_;(case hd => rfl);(case hg => rfl);(case hr => first | (go_simp;done) | (go_simp;rfl));intro gb173 hg w4 hbox hb;have BK173:=am_ hbox;have GW173:=gz_ hg HB;have GE173:=gz_ hg HB;replace HB:=am_ (below_step (by repeat (first | (with_reducible first | exact HB.out | apply b1_|apply b2_|apply b3_ | refine below_set ?_ GE172.out) | exact HB.out)) hb);have NB172_173:=nl_ hg BK172;have NB173_172:=ng_ hg BK172;replace BK172:=bb_ BK172 hb;clear hb hbox hg) | ((with_reducible refine gate_dst (N:=5) rfl ?_);refine box_event ?hg (N:=5) ?hd (cs:=#[.slice none 0 0, .int .i64 0, .int .i64 0]) (t:=31) ?hr ?_;(case hd => rfl);(case hg => rfl);(case hr => first | (go_simp;done) | (go_simp;rfl));intro gb174 hg w5 hbox hb;have BK174:=am_ hbox;have GW174:=gz_ hg HB;have GE174:=gz_ hg HB;replace HB:=am_ (below_step (by repeat (first | (with_reducible first | exact HB.out | apply b1_|apply b2_|apply b3_ | refine below_set ?_ GE172.out | refine below_set ?_ GE173.out) | exact HB.out)) hb);have NB172_174:=nl_ hg BK172;have NB174_172:=ng_ hg BK172;replace BK172:=bb_ BK172 hb;have NB173_174:=nl_ hg BK173;have NB174_173:=ng_ hg BK173;replace BK173:=bb_ BK173 hb;clear hb hbox hg;have hnb6:=NB174_172.out;have hnc6:=NB172_174.out;have hnb7:=NB174_173.out;have hnc7:=NB173_174.out;obtain ⟨hcz8_0, hcz8_1, hcz8_2⟩:=c3_ BK174.out;obtain ⟨hfz8_0, hfz8_1, hfz8_2⟩:=z3_ BK174.out))
 go_loopg [6] k (fun kq v6 w' => ∃ (x6_1 : Int) (x175001_1 : Int), v6 = .int .i64 x6_1 ∧ Aside0 (diapasonref26_Choice.l0 kq l1 x6_1 l0_0 l0_1 l0_2 a0_3 l1 x175001_1 0 = some (r1, r2, r3)) ∧ Aside0 (kq ≤ k) ∧ Aside0 (w'.heap[gb172]? = some (.cells #[(.slice A0_0 l0_0.length c0_0), (.slice A0_1 l0_1.length c0_1), (.slice A0_2 l0_2.length c0_2), .int .i64 a0_3] 28 (0, 0))) ∧ Aside0 (w'.heap[gb173]? = some (.cells #[(.slice none 0 0), .int .i64 0, .int .i64 0] 31 (0, 0))) ∧ Aside0 (w'.heap[gb174]? = some (.cells #[(.slice A1 l1.length c1), .int .i64 x175001_1, .int .i64 0] 31 (0, 0))) ∧ Aside0 (Below w.heap.size w w'))
 case atStart => exact ⟨(0), (0), (by first | rfl | (simp;done) | (simp [*];done)), H', ⟨Nat.le_refl _⟩, ⟨by (with_reducible repeat first|apply q1_|apply q2_|apply q3_);refine blk_far ?_ NB172_174.out _;(with_reducible repeat first|apply q1_|apply q2_|apply q3_);refine blk_far ?_ NB172_174.out _;(with_reducible repeat first|apply q1_|apply q2_|apply q3_);refine blk_far ?_ NB172_174.out _;(with_reducible repeat first|apply q1_|apply q2_|apply q3_);exact BK172.out⟩, ⟨by (with_reducible repeat first|apply q1_|apply q2_|apply q3_);refine blk_far ?_ NB173_174.out _;(with_reducible repeat first|apply q1_|apply q2_|apply q3_);refine blk_far ?_ NB173_174.out _;(with_reducible repeat first|apply q1_|apply q2_|apply q3_);refine blk_far ?_ NB173_174.out _;(with_reducible repeat first|apply q1_|apply q2_|apply q3_);exact BK173.out⟩, ⟨by (with_reducible repeat first|apply q1_|apply q2_|apply q3_);refine blk_put (cs:=#[.slice A1 l1.length c1, .int .i64 0, .int .i64 0]) ?_ 2 _ rfl;(with_reducible repeat first|apply q1_|apply q2_|apply q3_);refine blk_put (cs:=#[.slice A1 l1.length c1, .int .i64 0, .int .i64 0]) ?_ 1 _ rfl;(with_reducible repeat first|apply q1_|apply q2_|apply q3_);refine blk_put (cs:=#[.slice none 0 0, .int .i64 0, .int .i64 0]) ?_ 0 _ rfl;(with_reducible repeat first|apply q1_|apply q2_|apply q3_);exact BK174.out⟩, ⟨by repeat (first | (with_reducible first | exact HB.out | apply b1_|apply b2_|apply b3_ | refine below_set ?_ GE172.out | refine below_set ?_ GE173.out | refine below_set ?_ GE174.out) | exact HB.out)⟩⟩
 case round =>
  clear H';(try clear c1);(try clear p2);(try clear c5);(try clear c6);(try clear c7);(try clear hcz8_0);(try clear hcz8_1);(try clear hcz8_2);(try clear hfz8_0);(try clear hfz8_1);(try clear hfz8_2);obtain ⟨x6_1, x175001_1, rfl, HA, HK1, BK172, BK173, BK174, HB⟩:=hrel
  cases gk with
  | zero => exact absurd HA.out (by simp [diapasonref26_Choice.l0])
  | succ k1 =>
   have H:=HA.out;clear HA;simp only [diapasonref26_Choice.l0] at H
   by_cases c9 : x6_1 < (l0_0.length : Int)
   ·rw [if_pos c9] at H;have c9b0 : decide (x6_1 < (l0_0.length : Int)) = true:=decide_eq_true c9;clear c9;have H':=am_ H;clear H;have hnb10:=NB172_173.out;have hnc10:=NB173_172.out;have hnb11:=NB172_174.out;have hnc11:=NB174_172.out;obtain ⟨hcz12_0, hcz12_1, hcz12_2, hcz12_3⟩:=c4_ BK172.out;obtain ⟨hfz12_0, hfz12_1, hfz12_2, hfz12_3⟩:=z4_ BK172.out
    go_wp2
    go_loopg [7, 8] k1 (fun kq v7 v8 w' => ∃ (x7_2 : Int) (x8_2 : Int), v7 = .int .i64 x7_2 ∧ v8 = .int .i64 x8_2 ∧ Aside0 (diapasonref26_Choice.l1 kq l1 x6_1 x7_2 x8_2 l0_0 l0_1 l0_2 a0_3 l1 x175001_1 0 = some (r1, r2, r3)) ∧ Aside0 (kq ≤ k1) ∧ Aside0 (w'.heap[gb172]? = some (.cells #[(.slice A0_0 l0_0.length c0_0), (.slice A0_1 l0_1.length c0_1), (.slice A0_2 l0_2.length c0_2), .int .i64 a0_3] 28 (0, 0))) ∧ Aside0 (w'.heap[gb173]? = some (.cells #[(.slice none 0 0), .int .i64 0, .int .i64 0] 31 (0, 0))) ∧ Aside0 (w'.heap[gb174]? = some (.cells #[(.slice A1 l1.length c1), .int .i64 x175001_1, .int .i64 0] 31 (0, 0))) ∧ Aside0 (Below w.heap.size w w'))
    case atStart => exact ⟨(0), (0), (by first | rfl | (simp;done) | (simp [*];done)), (by first | rfl | (simp;done) | (simp [*];done)), H', ⟨Nat.le_refl _⟩, ⟨by (with_reducible repeat first|apply q1_|apply q2_|apply q3_);exact BK172.out⟩, ⟨by (with_reducible repeat first|apply q1_|apply q2_|apply q3_);exact BK173.out⟩, ⟨by (with_reducible repeat first|apply q1_|apply q2_|apply q3_);exact BK174.out⟩, ⟨by repeat (first | (with_reducible first | exact HB.out | apply b1_|apply b2_|apply b3_ | refine below_set ?_ GE172.out | refine below_set ?_ GE173.out | refine below_set ?_ GE174.out) | exact HB.out)⟩⟩
    case round =>
     clear H';(try clear c1);(try clear p2);(try clear c5);(try clear c6);(try clear c7);(try clear c9);(try clear c9b0);(try clear c10);(try clear c11);(try clear hcz12_0);(try clear hcz12_1);(try clear hcz12_2);(try clear hcz12_3);(try clear hcz8_0);(try clear hcz8_1);(try clear hcz8_2);(try clear hfz12_0);(try clear hfz12_1);(try clear hfz12_2);(try clear hfz12_3);(try clear hfz8_0);(try clear hfz8_1);(try clear hfz8_2);(try clear p2);obtain ⟨x7_2, x8_2, rfl, rfl, HA, HK2, BK172, BK173, BK174, HB⟩:=hrel
     cases gk with
     | zero => exact absurd HA.out (by simp [diapasonref26_Choice.l1])
     | succ k2 =>
      have H:=HA.out;clear HA;simp only [diapasonref26_Choice.l1] at H
      by_cases c13 : x8_2 < (l1.length : Int)
      ·rw [if_pos c13] at H;have c13b0 : decide (x8_2 < (l1.length : Int)) = true:=decide_eq_true c13;clear c13
       by_cases c14 : 0 ≤ x8_2
       ·rw [if_pos c14] at H;have c14b0 : decide (0 ≤ x8_2) = true:=decide_eq_true c14;clear c14
        by_cases c15 : 0 ≤ (rd l1 x8_2)
        ·rw [if_pos c15] at H;have c15b0 : decide (0 ≤ (rd l1 x8_2)) = true:=decide_eq_true c15;clear c15
         by_cases c16 : (rd l1 x8_2) < (l0_1.length : Int)
         ·rw [if_pos c16] at H;have c16b0 : decide ((rd l1 x8_2) < (l0_1.length : Int)) = true:=decide_eq_true c16;clear c16
          by_cases c17 : 0 ≤ x6_1
          ·rw [if_pos c17] at H;have c17b0 : decide (0 ≤ x6_1) = true:=decide_eq_true c17;clear c17
           by_cases c18 : x6_1 < ((rd_L1 l0_1 (rd l1 x8_2)).length : Int)
           ·rw [if_pos c18] at H;have c18b0 : decide (x6_1 < ((rd_L1 l0_1 (rd l1 x8_2)).length : Int)) = true:=decide_eq_true c18;clear c18;have H':=am_ H;clear H
            try go_wp2
            replace BK172:=bd_ BK172;replace BK173:=bd_ BK173;replace BK174:=bd_ BK174;replace HB:=wd_ HB;have p175 : 0 ≤ (x8_2 : Int):=of_decide_eq_true (by first | (with_reducible assumption) | assumption);have q175 : x8_2 < (l1.length : Int):=of_decide_eq_true (by first | (with_reducible assumption) | assumption);obtain ⟨ad175, e175, hx175_0⟩:=Kd.at_int HR1.out x8_2 p175 q175;have hw175_0:=hx175_0
            cases e175
            replace hx175_0:=(HB.out.cell (World.block_lt_of_cell? w _ hx175_0)).trans hx175_0;replace p175:=eq_true p175;replace q175:=eq_true q175;have p176 : 0 ≤ ((rd l1 x8_2) : Int):=of_decide_eq_true (by first | (with_reducible assumption) | assumption);have q176 : (rd l1 x8_2) < (l0_1.length : Int):=of_decide_eq_true (by first | (with_reducible assumption) | assumption);obtain ⟨ad176, A176_0, c176_0, e176, hx176_0, hl176_0, hi176_0⟩:=at_L1 HR0_1.out (rd l1 x8_2) p176 q176;have hw176_0:=hx176_0
            cases e176
            replace hx176_0:=(HB.out.cell (World.block_lt_of_cell? w _ hx176_0)).trans hx176_0;have HR176_0:=am_ hi176_0;have HC176_0:=am_ hl176_0;clear hi176_0 hl176_0;replace p176:=eq_true p176;replace q176:=eq_true q176;have p177 : 0 ≤ (x6_1 : Int):=of_decide_eq_true (by first | (with_reducible assumption) | assumption);have q177 : x6_1 < ((rd_L1 l0_1 (rd l1 x8_2)).length : Int):=of_decide_eq_true (by first | (with_reducible assumption) | assumption);obtain ⟨ad177, e177, hx177_0⟩:=Kd.at_int HR176_0.out x6_1 p177 q177;have hw177_0:=hx177_0
            cases e177
            replace hx177_0:=(HB.out.cell (World.block_lt_of_cell? w _ hx177_0)).trans hx177_0;replace p177:=eq_true p177;replace q177:=eq_true q177;refine start_ (n:=14) (S:=fun w' => w'.cell? ⟨gb172, 0, none⟩ = some (.slice A0_0 l0_0.length c0_0) ∧ w'.cell? ⟨gb172, 1, none⟩ = some (.slice (some ad176) l0_1.length c0_1) ∧ w'.cell? ⟨gb172, 2, none⟩ = some (.slice A0_2 l0_2.length c0_2) ∧ w'.cell? ⟨gb172, 3, none⟩ = some (.int .i64 a0_3) ∧ w'.cell? (ad175.add (x8_2).toNat) = some (.int .i64 (rd l1 x8_2)) ∧ w'.cell? (ad176.add ((rd l1 x8_2)).toNat) = some (.slice (some ad177) (rd_L1 l0_1 (rd l1 x8_2)).length c176_0) ∧ w'.cell? (ad177.add (x6_1).toNat) = some (.int .i64 (rd (rd_L1 l0_1 (rd l1 x8_2)) x6_1))) (ds:=[]) #[false, false, false, false, false, false, false, false, false, false, false, false, false, false] (by kernel_rfl) rfl rfl ⟨(blk_cell BK172.out 0).trans rfl, (blk_cell BK172.out 1).trans rfl, (blk_cell BK172.out 2).trans rfl, (blk_cell BK172.out 3).trans rfl, ((HB.out.cell (World.block_lt_of_cell? w _ hw175_0)).trans hw175_0), ((HB.out.cell (World.block_lt_of_cell? w _ hw176_0)).trans hw176_0), ((HB.out.cell (World.block_lt_of_cell? w _ hw177_0)).trans hw177_0)⟩ (fun hHeld => ?_);refine with_tabW diapasonref26_Choice.tab9 diapasonref26_Choice.bits9 (fun HT_ HW_ => ?_);generalize wr.drew = w19 at BK172 BK173 BK174 HB HR176_0 hx175_0 hx176_0 hx177_0 hHeld ⊢;refine pure_ (i:=0) (N:=some 25) (v:=?_) (a':=?_) #[true, false, false, false, false, false, false, false, false, false, false, false, false, false] rfl rfl (any_of HT_.out (by kernel_rfl)) (fun _ _ _ h => h) (Or.inl ⟨by rfl, ?_⟩) ?_ ?_;rotate_left
            ·intro w';go_simp;(with_reducible rfl)
            rotate_left
            ·simp only [Act.put, st_, s0_, s1_, i64_w, i32_w];rfl
            refine pure_ (i:=1) (N:=some 26) (v:=?_) (a':=?_) #[true, true, false, false, false, false, false, false, false, false, false, false, false, false] rfl rfl (any_of HT_.out (by kernel_rfl)) (fun _ _ _ h => h) (Or.inl ⟨by rfl, ?_⟩) ?_ ?_;rotate_left
            ·intro w';go_simp;(with_reducible rfl)
            rotate_left
            ·simp only [Act.put, st_, s0_, s1_, i64_w, i32_w];rfl
            refine pure_ (i:=3) (N:=some 28) (v:=?_) (a':=?_) #[true, true, false, true, false, false, false, false, false, false, false, false, false, false] rfl rfl (any_of HT_.out (by kernel_rfl)) (fun _ _ _ h => h) (Or.inl ⟨by rfl, ?_⟩) ?_ ?_;rotate_left
            ·intro w';go_simp;(with_reducible rfl)
            rotate_left
            ·simp only [Act.put, st_, s0_, s1_, i64_w, i32_w];rfl
            refine pure_ (i:=4) (N:=some 29) (v:=?_) (a':=?_) #[true, true, false, true, true, false, false, false, false, false, false, false, false, false] rfl rfl (any_of HT_.out (by kernel_rfl)) (fun _ _ _ h => h) (Or.inl ⟨by rfl, ?_⟩) ?_ ?_;rotate_left
            ·intro w';go_simp;(with_reducible rfl)
            rotate_left
            ·simp only [Act.put, st_, s0_, s1_, i64_w, i32_w];rfl
            refine pure_ (i:=5) (N:=some 30) (v:=?_) (a':=?_) #[true, true, false, true, true, true, false, false, false, false, false, false, false, false] rfl rfl (any_of HT_.out (by kernel_rfl)) (fun _ _ _ h => h) (Or.inl ⟨by rfl, ?_⟩) ?_ ?_;rotate_left
            ·intro w';go_simp;(with_reducible rfl)
            rotate_left
            ·simp only [Act.put, st_, s0_, s1_, i64_w, i32_w];rfl
            refine pure_ (i:=9) (N:=some 34) (v:=?_) (a':=?_) #[true, true, false, true, true, true, false, false, false, true, false, false, false, false] rfl rfl (any_of HT_.out (by kernel_rfl)) (fun _ _ _ h => h) (Or.inl ⟨by rfl, ?_⟩) ?_ ?_;rotate_left
            ·intro w';go_simp;(with_reducible rfl)
            rotate_left
            ·simp only [Act.put, st_, s0_, s1_, i64_w, i32_w];rfl
            refine take_ (i:=2) (N:=some 27) (v:=?_) (a':=?_) #[true, true, true, true, true, true, false, false, false, true, false, false, false, false] rfl rfl (take_ofW HT_.out HW_.out (by kernel_rfl)) (fun _ _ _ h => h) (Or.inl ⟨by rfl, ?_⟩) hHeld ?_ ?_;rotate_left
            ·rintro w' ⟨s0, s1, s2, s3, s4, s5, s6⟩;go_simp;(with_reducible rfl)
            rotate_left
            ·simp only [Act.put, st_, s0_, s1_, i64_w, i32_w];rfl
            refine take_ (i:=6) (N:=some 31) (v:=?_) (a':=?_) #[true, true, true, true, true, true, true, false, false, true, false, false, false, false] rfl rfl (take_ofW HT_.out HW_.out (by kernel_rfl)) (fun _ _ _ h => h) (Or.inl ⟨by rfl, ?_⟩) hHeld ?_ ?_;rotate_left
            ·rintro w' ⟨s0, s1, s2, s3, s4, s5, s6⟩;go_simp;(with_reducible rfl)
            rotate_left
            ·simp only [Act.put, st_, s0_, s1_, i64_w, i32_w];rfl
            refine pure_ (i:=7) (N:=some 32) (v:=?_) (a':=?_) #[true, true, true, true, true, true, true, true, false, true, false, false, false, false] rfl rfl (any_of HT_.out (by kernel_rfl)) (fun _ _ _ h => h) (Or.inl ⟨by rfl, ?_⟩) ?_ ?_;rotate_left
            ·intro w';go_simp;(with_reducible rfl)
            rotate_left
            ·simp only [Act.put, st_, s0_, s1_, i64_w, i32_w];rfl
            refine take_ (i:=8) (N:=some 33) (v:=?_) (a':=?_) #[true, true, true, true, true, true, true, true, true, true, false, false, false, false] rfl rfl (take_ofW HT_.out HW_.out (by kernel_rfl)) (fun _ _ _ h => h) (Or.inl ⟨by rfl, ?_⟩) hHeld ?_ ?_;rotate_left
            ·rintro w' ⟨s0, s1, s2, s3, s4, s5, s6⟩;go_simp;(with_reducible rfl)
            rotate_left
            ·simp only [Act.put, st_, s0_, s1_, i64_w, i32_w];rfl
            refine pure_ (i:=10) (N:=some 35) (v:=?_) (a':=?_) #[true, true, true, true, true, true, true, true, true, true, true, false, false, false] rfl rfl (any_of HT_.out (by kernel_rfl)) (fun _ _ _ h => h) (Or.inl ⟨by rfl, ?_⟩) ?_ ?_;rotate_left
            ·intro w';go_simp;(with_reducible rfl)
            rotate_left
            ·simp only [Act.put, st_, s0_, s1_, i64_w, i32_w];rfl
            refine take_ (i:=11) (N:=some 36) (v:=?_) (a':=?_) #[true, true, true, true, true, true, true, true, true, true, true, true, false, false] rfl rfl (take_ofW HT_.out HW_.out (by kernel_rfl)) (fun _ _ _ h => h) (Or.inl ⟨by rfl, ?_⟩) hHeld ?_ ?_;rotate_left
            ·rintro w' ⟨s0, s1, s2, s3, s4, s5, s6⟩;go_simp;(with_reducible rfl)
            rotate_left
            ·simp only [Act.put, st_, s0_, s1_, i64_w, i32_w];rfl
            refine pure_ (i:=12) (N:=some 37) (v:=?_) (a':=?_) #[true, true, true, true, true, true, true, true, true, true, true, true, true, false] rfl rfl (any_of HT_.out (by kernel_rfl)) (fun _ _ _ h => h) (Or.inl ⟨by rfl, ?_⟩) ?_ ?_;rotate_left
            ·intro w';go_simp;(with_reducible rfl)
            rotate_left
            ·simp only [Act.put, st_, s0_, s1_, i64_w, i32_w];rfl
            refine pure_ (i:=13) (N:=some 7) (v:=?_) (a':=?_) #[true, true, true, true, true, true, true, true, true, true, true, true, true, true] rfl rfl (any_of HT_.out (by kernel_rfl)) (fun _ _ _ h => h) (Or.inl ⟨by rfl, ?_⟩) ?_ ?_;rotate_left
            ·intro w';go_simp;(with_reducible rfl)
            rotate_left
            ·simp only [Act.put, st_, s0_, s1_, i64_w, i32_w];rfl
            refine done_ (done_of HT_.out (by kernel_rfl)) ?_
            try go_wp2
            go_roundg k2
            case measure => have:=HK1.out;have:=HK2.out;omega
            case rel => exact ⟨(wrap64 (x7_2 + (rd (rd_L1 l0_1 (rd l1 x8_2)) x6_1))), (wrap64 (x8_2 + 1)), (by first | rfl | (simp;done) | (simp [*];done)), (by first | rfl | (simp;done) | (simp [*];done)), H', ⟨by have:=HK1.out;have:=HK2.out;omega⟩, ⟨by (with_reducible repeat first|apply q1_|apply q2_|apply q3_);exact BK172.out⟩, ⟨by (with_reducible repeat first|apply q1_|apply q2_|apply q3_);exact BK173.out⟩, ⟨by (with_reducible repeat first|apply q1_|apply q2_|apply q3_);exact BK174.out⟩, ⟨by repeat (first | (with_reducible first | exact HB.out | apply b1_|apply b2_|apply b3_ | refine below_set ?_ GE172.out | refine below_set ?_ GE173.out | refine below_set ?_ GE174.out) | exact HB.out)⟩⟩
           ·rw [if_neg c18] at H;exact absurd H (by simp)
          ·rw [if_neg c17] at H;exact absurd H (by simp)
         ·rw [if_neg c16] at H;exact absurd H (by simp)
        ·rw [if_neg c15] at H;exact absurd H (by simp)
       ·rw [if_neg c14] at H;exact absurd H (by simp)
      ·rw [if_neg c13] at H;have c13b0 : decide (x8_2 < (l1.length : Int)) = false:=decide_eq_false c13;clear c13
       by_cases c20 : 0 ≤ x6_1
       ·rw [if_pos c20] at H;have c20b0 : decide (0 ≤ x6_1) = true:=decide_eq_true c20;clear c20
        by_cases c21 : x6_1 < (l0_0.length : Int)
        ·rw [if_pos c21] at H;have c21b0 : decide (x6_1 < (l0_0.length : Int)) = true:=decide_eq_true c21;clear c21;replace H:=Option.bind_eq_some_iff.mp H;obtain ⟨t179, A220, H⟩:=H;replace H : (diapasonref26_Choice.l0 k2 l1 (wrap64 (x6_1 + 1)) l0_0 l0_1 l0_2 a0_3 l1 (wrap64 (x175001_1 + t179)) 0) = some (r1, r2, r3):=H;have A22:=am_ A220;clear A220;have H':=am_ H;clear H
         try go_wp2
         replace BK172:=bd_ BK172;replace BK173:=bd_ BK173;replace BK174:=bd_ BK174;replace HB:=wd_ HB;have p178 : 0 ≤ (x6_1 : Int):=of_decide_eq_true (by first | (with_reducible assumption) | assumption);have q178 : x6_1 < (l0_0.length : Int):=of_decide_eq_true (by first | (with_reducible assumption) | assumption);obtain ⟨ad178, e178, hx178_0⟩:=Kd.at_int HR0_0.out x6_1 p178 q178;have hw178_0:=hx178_0
         cases e178
         replace hx178_0:=(HB.out.cell (World.block_lt_of_cell? w _ hx178_0)).trans hx178_0;replace p178:=eq_true p178;replace q178:=eq_true q178;refine start_ (n:=12) (S:=fun w' => w'.cell? ⟨gb174, 0, none⟩ = some (.slice A1 l1.length c1) ∧ w'.cell? ⟨gb174, 1, none⟩ = some (.int .i64 x175001_1) ∧ w'.cell? ⟨gb174, 2, none⟩ = some (.int .i64 0) ∧ w'.cell? ⟨gb172, 0, none⟩ = some (.slice (some ad178) l0_0.length c0_0) ∧ w'.cell? ⟨gb172, 1, none⟩ = some (.slice A0_1 l0_1.length c0_1) ∧ w'.cell? ⟨gb172, 2, none⟩ = some (.slice A0_2 l0_2.length c0_2) ∧ w'.cell? ⟨gb172, 3, none⟩ = some (.int .i64 a0_3) ∧ w'.cell? (ad178.add (x6_1).toNat) = some (.int .i64 (rd l0_0 x6_1))) (ds:=[11]) #[false, false, false, false, false, false, false, false, false, false, false, false] (by kernel_rfl) rfl rfl ⟨(blk_cell BK174.out 0).trans rfl, (blk_cell BK174.out 1).trans rfl, (blk_cell BK174.out 2).trans rfl, (blk_cell BK172.out 0).trans rfl, (blk_cell BK172.out 1).trans rfl, (blk_cell BK172.out 2).trans rfl, (blk_cell BK172.out 3).trans rfl, ((HB.out.cell (World.block_lt_of_cell? w _ hw178_0)).trans hw178_0)⟩ (fun hHeld => ?_);refine with_tabW diapasonref26_Choice.tab10 diapasonref26_Choice.bits10 (fun HT_ HW_ => ?_);generalize wr.drew = w23 at BK172 BK173 BK174 HB hx178_0 hHeld ⊢;refine pure_ (i:=0) (N:=some 38) (v:=?_) (a':=?_) #[true, false, false, false, false, false, false, false, false, false, false, false] rfl rfl (any_of HT_.out (by kernel_rfl)) (fun _ _ _ h => h) (Or.inl ⟨by rfl, ?_⟩) ?_ ?_;rotate_left
         ·intro w';go_simp;(with_reducible rfl)
         rotate_left
         ·simp only [Act.put, st_, s0_, s1_, i64_w, i32_w];rfl
         refine pure_ (i:=2) (N:=some 40) (v:=?_) (a':=?_) #[true, false, true, false, false, false, false, false, false, false, false, false] rfl rfl (any_of HT_.out (by kernel_rfl)) (fun _ _ _ h => h) (Or.inl ⟨by rfl, ?_⟩) ?_ ?_;rotate_left
         ·intro w';go_simp;(with_reducible rfl)
         rotate_left
         ·simp only [Act.put, st_, s0_, s1_, i64_w, i32_w];rfl
         refine pure_ (i:=3) (N:=some 41) (v:=?_) (a':=?_) #[true, false, true, true, false, false, false, false, false, false, false, false] rfl rfl (any_of HT_.out (by kernel_rfl)) (fun _ _ _ h => h) (Or.inl ⟨by rfl, ?_⟩) ?_ ?_;rotate_left
         ·intro w';go_simp;(with_reducible rfl)
         rotate_left
         ·simp only [Act.put, st_, s0_, s1_, i64_w, i32_w];rfl
         refine pure_ (i:=5) (N:=some 43) (v:=?_) (a':=?_) #[true, false, true, true, false, true, false, false, false, false, false, false] rfl rfl (any_of HT_.out (by kernel_rfl)) (fun _ _ _ h => h) (Or.inl ⟨by rfl, ?_⟩) ?_ ?_;rotate_left
         ·intro w';go_simp;(with_reducible rfl)
         rotate_left
         ·simp only [Act.put, st_, s0_, s1_, i64_w, i32_w];rfl
         refine take_ (i:=1) (N:=some 39) (v:=?_) (a':=?_) #[true, true, true, true, false, true, false, false, false, false, false, false] rfl rfl (take_ofW HT_.out HW_.out (by kernel_rfl)) (fun _ _ _ h => h) (Or.inl ⟨by rfl, ?_⟩) hHeld ?_ ?_;rotate_left
         ·rintro w' ⟨s0, s1, s2, s3, s4, s5, s6, s7⟩;go_simp;(with_reducible rfl)
         rotate_left
         ·simp only [Act.put, st_, s0_, s1_, i64_w, i32_w];rfl
         refine take_ (i:=4) (N:=some 42) (v:=?_) (a':=?_) #[true, true, true, true, true, true, false, false, false, false, false, false] rfl rfl (take_ofW HT_.out HW_.out (by kernel_rfl)) (fun _ _ _ h => h) (Or.inl ⟨by rfl, ?_⟩) hHeld ?_ ?_;rotate_left
         ·rintro w' ⟨s0, s1, s2, s3, s4, s5, s6, s7⟩;go_simp;(with_reducible rfl)
         rotate_left
         ·simp only [Act.put, st_, s0_, s1_, i64_w, i32_w];rfl
         refine pure_ (i:=6) (N:=some 44) (v:=?_) (a':=?_) #[true, true, true, true, true, true, true, false, false, false, false, false] rfl rfl (any_of HT_.out (by kernel_rfl)) (fun _ _ _ h => h) (Or.inl ⟨by rfl, ?_⟩) ?_ ?_;rotate_left
         ·intro w';go_simp;(with_reducible rfl)
         rotate_left
         ·simp only [Act.put, st_, s0_, s1_, i64_w, i32_w];rfl
         refine take_ (i:=7) (N:=some 45) (v:=?_) (a':=?_) #[true, true, true, true, true, true, true, true, false, false, false, false] rfl rfl (take_ofW HT_.out HW_.out (by kernel_rfl)) (fun _ _ _ h => h) (Or.inl ⟨by rfl, ?_⟩) hHeld ?_ ?_;rotate_left
         ·rintro w' ⟨s0, s1, s2, s3, s4, s5, s6, s7⟩;go_simp;(with_reducible rfl)
         rotate_left
         ·simp only [Act.put, st_, s0_, s1_, i64_w, i32_w];rfl
         refine one_ (i:=8) (N:=some 46) #[true, true, true, true, true, true, true, true, true, false, false, false] rfl rfl (one_of HT_.out (by kernel_rfl)) (by decide) (fun K hK => ?_);refine goes_ Tryd.func81 (by kernel_rfl) rfl #[.int .i64 x7_2, .int .i64 (rd l0_0 x6_1)] (by rfl) rfl rfl (by (try simp only [List.map_toArray, List.map_cons, List.map_nil]);first|done|rfl|(simp only [List.length_drop, List.length_take];rfl)) ?_;(with_reducible refine (diapasonref26_far.calls x7_2 (rd l0_0 x6_1) t179 _ A22.out).mono ?_);rintro e w' ⟨rfl, ⟨nd, rfl⟩⟩;refine ⟨_, rfl, ?_⟩;refine hK.out _ _ ⟨(blk_cell BK174.out 0).trans rfl, (blk_cell BK174.out 1).trans rfl, (blk_cell BK174.out 2).trans rfl, (blk_cell BK172.out 0).trans rfl, (blk_cell BK172.out 1).trans rfl, (blk_cell BK172.out 2).trans rfl, (blk_cell BK172.out 3).trans rfl, ((HB.out.cell (World.block_lt_of_cell? w _ hw178_0)).trans hw178_0)⟩ (fun hHeld => ?_);clear hK K;refine norm_ (a':=?_) ?_ ?_;rotate_left
         ·show Act.put _ (some 46) _ = _;simp only [Act.put, st_, s0_, s1_, i64_w, i32_w];rfl
         refine pure_ (i:=9) (N:=some 47) (v:=?_) (a':=?_) #[true, true, true, true, true, true, true, true, true, true, false, false] rfl rfl (any_of HT_.out (by kernel_rfl)) (fun _ _ _ h => h) (Or.inl ⟨by rfl, ?_⟩) ?_ ?_;rotate_left
         ·intro w';go_simp;(with_reducible rfl)
         rotate_left
         ·simp only [Act.put, st_, s0_, s1_, i64_w, i32_w];rfl
         refine pure_ (i:=10) (N:=some 48) (v:=?_) (a':=?_) #[true, true, true, true, true, true, true, true, true, true, true, false] rfl rfl (any_of HT_.out (by kernel_rfl)) (fun _ _ _ h => h) (Or.inl ⟨by rfl, ?_⟩) ?_ ?_;rotate_left
         ·intro w';go_simp;(with_reducible rfl)
         rotate_left
         ·simp only [Act.put, st_, s0_, s1_, i64_w, i32_w];rfl
         refine last_ (i:=11) (N:=none) #[true, true, true, true, true, true, true, true, true, true, true, true] rfl rfl (one_of HT_.out (by kernel_rfl)) (by decide) (fun K hK => ?_);have hs24 : w23.cell? ⟨gb174, 1, none⟩ = some (.int .i64 x175001_1):=(blk_cell BK174.out 1).trans rfl;have hfs24:=blk_frozen BK174.out 1;have hns24_0:=NB172_174.out;have hns24_1:=NB173_174.out;have hms24_0:=NB174_172.out;have hms24_1:=NB174_173.out;refine skip_ (w1:=?_) (by rfl) rfl ?_ ?_;rotate_left
         ·go_simp;rfl
         refine hK.out _ _ ?_;clear hK K;refine done_ (done_of HT_.out (by kernel_rfl)) ?_
         try go_wp2
         go_roundg k2
         case measure => have:=HK1.out;have:=HK2.out;omega
         case rel => exact ⟨(wrap64 (x6_1 + 1)), (wrap64 (x175001_1 + t179)), (by first | rfl | (simp;done) | (simp [*];done)), H', ⟨by have:=HK1.out;have:=HK2.out;omega⟩, ⟨by (with_reducible repeat first|apply q1_|apply q2_|apply q3_);refine blk_far ?_ NB172_174.out _;(with_reducible repeat first|apply q1_|apply q2_|apply q3_);exact BK172.out⟩, ⟨by (with_reducible repeat first|apply q1_|apply q2_|apply q3_);refine blk_far ?_ NB173_174.out _;(with_reducible repeat first|apply q1_|apply q2_|apply q3_);exact BK173.out⟩, ⟨by (with_reducible repeat first|apply q1_|apply q2_|apply q3_);refine blk_put (cs:=#[.slice A1 l1.length c1, .int .i64 x175001_1, .int .i64 0]) ?_ 1 _ rfl;(with_reducible repeat first|apply q1_|apply q2_|apply q3_);exact BK174.out⟩, ⟨by repeat (first | (with_reducible first | exact HB.out | apply b1_|apply b2_|apply b3_ | refine below_set ?_ GE172.out | refine below_set ?_ GE173.out | refine below_set ?_ GE174.out) | exact HB.out)⟩⟩
        ·rw [if_neg c21] at H;exact absurd H (by simp)
       ·rw [if_neg c20] at H;exact absurd H (by simp)
   ·rw [if_neg c9] at H;have c9b0 : decide (x6_1 < (l0_0.length : Int)) = false:=decide_eq_false c9;clear c9;have H':=am_ H;clear H;have hnb25:=NB172_173.out;have hnc25:=NB173_172.out;have hnb26:=NB172_174.out;have hnc26:=NB174_172.out;obtain ⟨hcz27_0, hcz27_1, hcz27_2, hcz27_3⟩:=c4_ BK172.out;obtain ⟨hfz27_0, hfz27_1, hfz27_2, hfz27_3⟩:=z4_ BK172.out
    go_wp2
    go_loopg [9] k1 (fun kq v9 w' => ∃ (x9_2 : Int) (x175002_2 : Int), v9 = .int .i64 x9_2 ∧ Aside0 (diapasonref26_Choice.l2 kq l1 x9_2 l0_0 l0_1 l0_2 a0_3 l1 x175001_1 x175002_2 = some (r1, r2, r3)) ∧ Aside0 (kq ≤ k1) ∧ Aside0 (w'.heap[gb172]? = some (.cells #[(.slice A0_0 l0_0.length c0_0), (.slice A0_1 l0_1.length c0_1), (.slice A0_2 l0_2.length c0_2), .int .i64 a0_3] 28 (0, 0))) ∧ Aside0 (w'.heap[gb173]? = some (.cells #[(.slice none 0 0), .int .i64 0, .int .i64 0] 31 (0, 0))) ∧ Aside0 (w'.heap[gb174]? = some (.cells #[(.slice A1 l1.length c1), .int .i64 x175001_1, .int .i64 x175002_2] 31 (0, 0))) ∧ Aside0 (Below w.heap.size w w'))
    case atStart => exact ⟨(0), (0), (by first | rfl | (simp;done) | (simp [*];done)), H', ⟨Nat.le_refl _⟩, ⟨by (with_reducible repeat first|apply q1_|apply q2_|apply q3_);exact BK172.out⟩, ⟨by (with_reducible repeat first|apply q1_|apply q2_|apply q3_);exact BK173.out⟩, ⟨by (with_reducible repeat first|apply q1_|apply q2_|apply q3_);exact BK174.out⟩, ⟨by repeat (first | (with_reducible first | exact HB.out | apply b1_|apply b2_|apply b3_ | refine below_set ?_ GE172.out | refine below_set ?_ GE173.out | refine below_set ?_ GE174.out) | exact HB.out)⟩⟩
    case round =>
     clear H';(try clear c1);(try clear p1);(try clear q1);(try clear hx1);(try clear c2);(try clear p2);(try clear c5);(try clear c6);(try clear p6);(try clear c7);(try clear c8);(try clear c9);(try clear c9b0);(try clear c10);(try clear c11);(try clear c13);(try clear c13b0);(try clear c14);(try clear c14b0);(try clear c15);(try clear c15b0);(try clear c16);(try clear c16b0);(try clear c17);(try clear c17b0);(try clear p17);(try clear q17);(try clear hx17);(try clear c18);(try clear c18b0);(try clear c20);(try clear c20b0);(try clear c21);(try clear c21b0);(try clear c25);(try clear c26);(try clear hcz12_0);(try clear hcz12_1);(try clear hcz12_2);(try clear hcz12_3);(try clear hcz27_0);(try clear hcz27_1);(try clear hcz27_2);(try clear hcz27_3);(try clear hcz8_0);(try clear hcz8_1);(try clear hcz8_2);(try clear hfz12_0);(try clear hfz12_1);(try clear hfz12_2);(try clear hfz12_3);(try clear hfz27_0);(try clear hfz27_1);(try clear hfz27_2);(try clear hfz27_3);(try clear hfz8_0);(try clear hfz8_1);(try clear hfz8_2);(try clear hx175_0);(try clear hx176_0);(try clear hx177_0);(try clear hx178_0);(try clear p175);(try clear p176);(try clear p177);(try clear p178);(try clear p2);(try clear q175);(try clear q176);(try clear q177);(try clear q178);obtain ⟨x9_2, x175002_2, rfl, HA, HK2, BK172, BK173, BK174, HB⟩:=hrel
     cases gk with
     | zero => exact absurd HA.out (by simp [diapasonref26_Choice.l2])
     | succ k2 =>
      have H:=HA.out;clear HA;simp only [diapasonref26_Choice.l2] at H
      by_cases c28 : x9_2 < (l1.length : Int)
      ·rw [if_pos c28] at H;have c28b0 : decide (x9_2 < (l1.length : Int)) = true:=decide_eq_true c28;clear c28
       by_cases c29 : 0 ≤ x9_2
       ·rw [if_pos c29] at H;have c29b0 : decide (0 ≤ x9_2) = true:=decide_eq_true c29;clear c29
        by_cases c30 : 0 ≤ (rd l1 x9_2)
        ·rw [if_pos c30] at H;have c30b0 : decide (0 ≤ (rd l1 x9_2)) = true:=decide_eq_true c30;clear c30
         by_cases c31 : (rd l1 x9_2) < (l0_2.length : Int)
         ·rw [if_pos c31] at H;have c31b0 : decide ((rd l1 x9_2) < (l0_2.length : Int)) = true:=decide_eq_true c31;clear c31;have H':=am_ H;clear H
          try go_wp2
          replace BK172:=bd_ BK172;replace BK173:=bd_ BK173;replace BK174:=bd_ BK174;replace HB:=wd_ HB;have p180 : 0 ≤ (x9_2 : Int):=of_decide_eq_true (by first | (with_reducible assumption) | assumption);have q180 : x9_2 < (l1.length : Int):=of_decide_eq_true (by first | (with_reducible assumption) | assumption);obtain ⟨ad180, e180, hx180_0⟩:=Kd.at_int HR1.out x9_2 p180 q180;have hw180_0:=hx180_0
          cases e180
          replace hx180_0:=(HB.out.cell (World.block_lt_of_cell? w _ hx180_0)).trans hx180_0;replace p180:=eq_true p180;replace q180:=eq_true q180;have p181 : 0 ≤ ((rd l1 x9_2) : Int):=of_decide_eq_true (by first | (with_reducible assumption) | assumption);have q181 : (rd l1 x9_2) < (l0_2.length : Int):=of_decide_eq_true (by first | (with_reducible assumption) | assumption);obtain ⟨ad181, e181, hx181_0⟩:=Kd.at_int HR0_2.out (rd l1 x9_2) p181 q181;have hw181_0:=hx181_0
          cases e181
          replace hx181_0:=(HB.out.cell (World.block_lt_of_cell? w _ hx181_0)).trans hx181_0;replace p181:=eq_true p181;replace q181:=eq_true q181;refine start_ (n:=13) (S:=fun w' => w'.cell? ⟨gb174, 0, none⟩ = some (.slice (some ad180) l1.length c1) ∧ w'.cell? ⟨gb174, 1, none⟩ = some (.int .i64 x175001_1) ∧ w'.cell? ⟨gb174, 2, none⟩ = some (.int .i64 x175002_2) ∧ w'.cell? ⟨gb172, 0, none⟩ = some (.slice A0_0 l0_0.length c0_0) ∧ w'.cell? ⟨gb172, 1, none⟩ = some (.slice A0_1 l0_1.length c0_1) ∧ w'.cell? ⟨gb172, 2, none⟩ = some (.slice (some ad181) l0_2.length c0_2) ∧ w'.cell? ⟨gb172, 3, none⟩ = some (.int .i64 a0_3) ∧ w'.cell? (ad180.add (x9_2).toNat) = some (.int .i64 (rd l1 x9_2)) ∧ w'.cell? (ad181.add ((rd l1 x9_2)).toNat) = some (.int .i64 (rd l0_2 (rd l1 x9_2)))) (ds:=[12]) #[false, false, false, false, false, false, false, false, false, false, false, false, false] (by kernel_rfl) rfl rfl ⟨(blk_cell BK174.out 0).trans rfl, (blk_cell BK174.out 1).trans rfl, (blk_cell BK174.out 2).trans rfl, (blk_cell BK172.out 0).trans rfl, (blk_cell BK172.out 1).trans rfl, (blk_cell BK172.out 2).trans rfl, (blk_cell BK172.out 3).trans rfl, ((HB.out.cell (World.block_lt_of_cell? w _ hw180_0)).trans hw180_0), ((HB.out.cell (World.block_lt_of_cell? w _ hw181_0)).trans hw181_0)⟩ (fun hHeld => ?_);refine with_tabW diapasonref26_Choice.tab14 diapasonref26_Choice.bits14 (fun HT_ HW_ => ?_);generalize wr.drew = w32 at BK172 BK173 BK174 HB hx180_0 hx181_0 hHeld ⊢;refine pure_ (i:=0) (N:=some 55) (v:=?_) (a':=?_) #[true, false, false, false, false, false, false, false, false, false, false, false, false] rfl rfl (any_of HT_.out (by kernel_rfl)) (fun _ _ _ h => h) (Or.inl ⟨by rfl, ?_⟩) ?_ ?_;rotate_left
          ·intro w';go_simp;(with_reducible rfl)
          rotate_left
          ·simp only [Act.put, st_, s0_, s1_, i64_w, i32_w];rfl
          refine pure_ (i:=2) (N:=some 57) (v:=?_) (a':=?_) #[true, false, true, false, false, false, false, false, false, false, false, false, false] rfl rfl (any_of HT_.out (by kernel_rfl)) (fun _ _ _ h => h) (Or.inl ⟨by rfl, ?_⟩) ?_ ?_;rotate_left
          ·intro w';go_simp;(with_reducible rfl)
          rotate_left
          ·simp only [Act.put, st_, s0_, s1_, i64_w, i32_w];rfl
          refine pure_ (i:=4) (N:=some 59) (v:=?_) (a':=?_) #[true, false, true, false, true, false, false, false, false, false, false, false, false] rfl rfl (any_of HT_.out (by kernel_rfl)) (fun _ _ _ h => h) (Or.inl ⟨by rfl, ?_⟩) ?_ ?_;rotate_left
          ·intro w';go_simp;(with_reducible rfl)
          rotate_left
          ·simp only [Act.put, st_, s0_, s1_, i64_w, i32_w];rfl
          refine pure_ (i:=5) (N:=some 60) (v:=?_) (a':=?_) #[true, false, true, false, true, true, false, false, false, false, false, false, false] rfl rfl (any_of HT_.out (by kernel_rfl)) (fun _ _ _ h => h) (Or.inl ⟨by rfl, ?_⟩) ?_ ?_;rotate_left
          ·intro w';go_simp;(with_reducible rfl)
          rotate_left
          ·simp only [Act.put, st_, s0_, s1_, i64_w, i32_w];rfl
          refine pure_ (i:=6) (N:=some 61) (v:=?_) (a':=?_) #[true, false, true, false, true, true, true, false, false, false, false, false, false] rfl rfl (any_of HT_.out (by kernel_rfl)) (fun _ _ _ h => h) (Or.inl ⟨by rfl, ?_⟩) ?_ ?_;rotate_left
          ·intro w';go_simp;(with_reducible rfl)
          rotate_left
          ·simp only [Act.put, st_, s0_, s1_, i64_w, i32_w];rfl
          refine take_ (i:=1) (N:=some 56) (v:=?_) (a':=?_) #[true, true, true, false, true, true, true, false, false, false, false, false, false] rfl rfl (take_ofW HT_.out HW_.out (by kernel_rfl)) (fun _ _ _ h => h) (Or.inl ⟨by rfl, ?_⟩) hHeld ?_ ?_;rotate_left
          ·rintro w' ⟨s0, s1, s2, s3, s4, s5, s6, s7, s8⟩;go_simp;(with_reducible rfl)
          rotate_left
          ·simp only [Act.put, st_, s0_, s1_, i64_w, i32_w];rfl
          refine take_ (i:=3) (N:=some 58) (v:=?_) (a':=?_) #[true, true, true, true, true, true, true, false, false, false, false, false, false] rfl rfl (take_ofW HT_.out HW_.out (by kernel_rfl)) (fun _ _ _ h => h) (Or.inl ⟨by rfl, ?_⟩) hHeld ?_ ?_;rotate_left
          ·rintro w' ⟨s0, s1, s2, s3, s4, s5, s6, s7, s8⟩;go_simp;(with_reducible rfl)
          rotate_left
          ·simp only [Act.put, st_, s0_, s1_, i64_w, i32_w];rfl
          refine take_ (i:=7) (N:=some 62) (v:=?_) (a':=?_) #[true, true, true, true, true, true, true, true, false, false, false, false, false] rfl rfl (take_ofW HT_.out HW_.out (by kernel_rfl)) (fun _ _ _ h => h) (Or.inl ⟨by rfl, ?_⟩) hHeld ?_ ?_;rotate_left
          ·rintro w' ⟨s0, s1, s2, s3, s4, s5, s6, s7, s8⟩;go_simp;(with_reducible rfl)
          rotate_left
          ·simp only [Act.put, st_, s0_, s1_, i64_w, i32_w];rfl
          refine pure_ (i:=8) (N:=some 63) (v:=?_) (a':=?_) #[true, true, true, true, true, true, true, true, true, false, false, false, false] rfl rfl (any_of HT_.out (by kernel_rfl)) (fun _ _ _ h => h) (Or.inl ⟨by rfl, ?_⟩) ?_ ?_;rotate_left
          ·intro w';go_simp;(with_reducible rfl)
          rotate_left
          ·simp only [Act.put, st_, s0_, s1_, i64_w, i32_w];rfl
          refine take_ (i:=9) (N:=some 64) (v:=?_) (a':=?_) #[true, true, true, true, true, true, true, true, true, true, false, false, false] rfl rfl (take_ofW HT_.out HW_.out (by kernel_rfl)) (fun _ _ _ h => h) (Or.inl ⟨by rfl, ?_⟩) hHeld ?_ ?_;rotate_left
          ·rintro w' ⟨s0, s1, s2, s3, s4, s5, s6, s7, s8⟩;go_simp;(with_reducible rfl)
          rotate_left
          ·simp only [Act.put, st_, s0_, s1_, i64_w, i32_w];rfl
          refine pure_ (i:=10) (N:=some 65) (v:=?_) (a':=?_) #[true, true, true, true, true, true, true, true, true, true, true, false, false] rfl rfl (any_of HT_.out (by kernel_rfl)) (fun _ _ _ h => h) (Or.inl ⟨by rfl, ?_⟩) ?_ ?_;rotate_left
          ·intro w';go_simp;(with_reducible rfl)
          rotate_left
          ·simp only [Act.put, st_, s0_, s1_, i64_w, i32_w];rfl
          refine pure_ (i:=11) (N:=some 66) (v:=?_) (a':=?_) #[true, true, true, true, true, true, true, true, true, true, true, true, false] rfl rfl (any_of HT_.out (by kernel_rfl)) (fun _ _ _ h => h) (Or.inl ⟨by rfl, ?_⟩) ?_ ?_;rotate_left
          ·intro w';go_simp;(with_reducible rfl)
          rotate_left
          ·simp only [Act.put, st_, s0_, s1_, i64_w, i32_w];rfl
          refine last_ (i:=12) (N:=none) #[true, true, true, true, true, true, true, true, true, true, true, true, true] rfl rfl (one_of HT_.out (by kernel_rfl)) (by decide) (fun K hK => ?_);have hs33 : w32.cell? ⟨gb174, 2, none⟩ = some (.int .i64 x175002_2):=(blk_cell BK174.out 2).trans rfl;have hfs33:=blk_frozen BK174.out 2;have hns33_0:=NB172_174.out;have hns33_1:=NB173_174.out;have hms33_0:=NB174_172.out;have hms33_1:=NB174_173.out;refine skip_ (w1:=?_) (by rfl) rfl ?_ ?_;rotate_left
          ·go_simp;rfl
          refine hK.out _ _ ?_;clear hK K;refine done_ (done_of HT_.out (by kernel_rfl)) ?_
          try go_wp2
          go_roundg k2
          case measure => have:=HK1.out;have:=HK2.out;omega
          case rel => exact ⟨(wrap64 (x9_2 + 1)), (wrap64 (x175002_2 + (rd l0_2 (rd l1 x9_2)))), (by first | rfl | (simp;done) | (simp [*];done)), H', ⟨by have:=HK1.out;have:=HK2.out;omega⟩, ⟨by (with_reducible repeat first|apply q1_|apply q2_|apply q3_);refine blk_far ?_ NB172_174.out _;(with_reducible repeat first|apply q1_|apply q2_|apply q3_);exact BK172.out⟩, ⟨by (with_reducible repeat first|apply q1_|apply q2_|apply q3_);refine blk_far ?_ NB173_174.out _;(with_reducible repeat first|apply q1_|apply q2_|apply q3_);exact BK173.out⟩, ⟨by (with_reducible repeat first|apply q1_|apply q2_|apply q3_);refine blk_put (cs:=#[.slice (some ad180) l1.length c1, .int .i64 x175001_1, .int .i64 x175002_2]) ?_ 2 _ rfl;(with_reducible repeat first|apply q1_|apply q2_|apply q3_);exact BK174.out⟩, ⟨by repeat (first | (with_reducible first | exact HB.out | apply b1_|apply b2_|apply b3_ | refine below_set ?_ GE172.out | refine below_set ?_ GE173.out | refine below_set ?_ GE174.out) | exact HB.out)⟩⟩
         ·rw [if_neg c31] at H;exact absurd H (by simp)
        ·rw [if_neg c30] at H;exact absurd H (by simp)
       ·rw [if_neg c29] at H;exact absurd H (by simp)
      ·rw [if_neg c28] at H;have c28b0 : decide (x9_2 < (l1.length : Int)) = false:=decide_eq_false c28;clear c28;simp only [Option.some.injEq, Prod.mk.injEq] at H;obtain ⟨rfl, rfl, rfl⟩:=H;have hnb34:=NB174_172.out;have hnc34:=NB172_174.out;have hnb35:=NB174_173.out;have hnc35:=NB173_174.out;obtain ⟨hcz36_0, hcz36_1, hcz36_2⟩:=c3_ BK174.out;obtain ⟨hfz36_0, hfz36_1, hfz36_2⟩:=z3_ BK174.out;have hnb37:=NB173_172.out;have hnc37:=NB172_173.out;obtain ⟨hcz38_0, hcz38_1, hcz38_2⟩:=c3_ BK173.out;obtain ⟨hfz38_0, hfz38_1, hfz38_2⟩:=z3_ BK173.out
       go_wp2
       refine bodyPost_ret (results_cell_row rfl _ _ gb173 31 #[.slice A1 l1.length c1, .int .i64 x175001_1, .int .i64 x175002_2] (0, 0) _ rfl (by (with_reducible repeat first|apply q1_|apply q2_|apply q3_);refine blk_put (cs:=#[.slice A1 l1.length c1, .int .i64 x175001_1, .int .i64 0]) ?_ 2 _ rfl;(with_reducible repeat first|apply q1_|apply q2_|apply q3_);refine blk_put (cs:=#[.slice A1 l1.length c1, .int .i64 0, .int .i64 0]) ?_ 1 _ rfl;(with_reducible repeat first|apply q1_|apply q2_|apply q3_);refine blk_put (cs:=#[.slice none 0 0, .int .i64 0, .int .i64 0]) ?_ 0 _ rfl;(with_reducible repeat first|apply q1_|apply q2_|apply q3_);exact BK173.out) Tryd.underlying31 rfl (by kernel_rfl)) rfl ?_;exact ⟨by first | rfl | (simp [errW_none, errW_some] <;> rfl) | (simp [*, errW_none, errW_some] <;> rfl), by repeat (first | (with_reducible first | exact HB.out | apply b1_|apply b2_|apply b3_ | refine below_set ?_ GE172.out | refine below_set ?_ GE173.out | refine below_set ?_ GE174.out) | exact HB.out)⟩

end Go.Proofs.YtfcidgnbocijdaaDoor.PCertMakes
