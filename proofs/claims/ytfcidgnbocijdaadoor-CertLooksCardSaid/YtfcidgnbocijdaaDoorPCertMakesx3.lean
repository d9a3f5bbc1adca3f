-- Written by a program of this session (the kit's print, turned: wip/px).
import Derived.Test.YtfcidgnbocijdaaDoorPCertMakesx0
import Derived.Test.YtfcidgnbocijdaaDoorSq2
namespace Go.Proofs.YtfcidgnbocijdaaDoor.PCertMakes
open Go.Proofs.YtfcidgnbocijdaaDoor.Sq
open Go.RowKit Go.Proofs.YtfcidgnbocijdaaDoorW.PrintWords Go.Proofs.YtfcidgnbocijdaaDoorW.PrintLast Go.Proofs.YtfcidgnbocijdaaDoorW.PrintMore
attribute [local go_sem] max2_int min2_int max_two min_two max_three min_three max_four min_four   -- for this text's walks alone
set_option linter.unusedVariables false
set_option linter.unusedSimpArgs false

/-! ### regis_weighed: function 40 -/
mutual
def regis_weighed.l0 : Nat → List Int → List Int → Int → Int → List Int → List (List Int) → List Int → Int → List Int → Int → Int → Option (List Int × Int × Int)
 | 0, _, _, _, _, _, _, _, _, _, _, _ => none
 | k + 1, x6, x19, x20, x21, x126000, x126001, x126002, x126003, x128000, x128001, x128002 => if x21 < x20 then (if 0 ≤ x21 then (if x21 < (x19.length : Int) then (if 0 ≤ (rd x19 x21) then (if (rd x19 x21) < (x126002.length : Int) then (if (rd x19 x21) < (x126001.length : Int) then (regis_weighed.l1 k x6 x19 x20 x21 (rd_L1 x126001 (rd x19 x21)) ((rd_L1 x126001 (rd x19 x21)).length : Int) 0 x126000 x126001 x126002 x126003 x128000 x128001 (wrap64 (x128002 + (rd x126002 (rd x19 x21))))) else (none)) else (none)) else (none)) else (none)) else (none)) else (regis_weighed.l2 k x6 (x6.length : Int) 0 x126000 x126001 x126002 x126003 x128000 x128001 x128002)
def regis_weighed.l1 : Nat → List Int → List Int → Int → Int → List Int → Int → Int → List Int → List (List Int) → List Int → Int → List Int → Int → Int → Option (List Int × Int × Int)
 | 0, _, _, _, _, _, _, _, _, _, _, _, _, _, _ => none
 | k + 1, x6, x19, x20, x21, x38, x39, x40, x126000, x126001, x126002, x126003, x128000, x128001, x128002 => if x40 < x39 then (if 0 ≤ x40 then (if x40 < (x38.length : Int) then (if x40 < (x6.length : Int) then (regis_weighed.l1 k (x6.set (x40 : Int).toNat (wrap64 ((rd x6 x40) + (rd x38 x40)))) x19 x20 x21 x38 x39 (wrap64 (x40 + 1)) x126000 x126001 x126002 x126003 x128000 x128001 x128002) else (none)) else (none)) else (none)) else (regis_weighed.l0 k x6 x19 x20 (wrap64 (x21 + 1)) x126000 x126001 x126002 x126003 x128000 x128001 x128002)
def regis_weighed.l2 : Nat → List Int → Int → Int → List Int → List (List Int) → List Int → Int → List Int → Int → Int → Option (List Int × Int × Int)
 | 0, _, _, _, _, _, _, _, _, _, _ => none
 | k + 1, x54, x55, x56, x126000, x126001, x126002, x126003, x128000, x128001, x128002 => if x56 < x55 then (if 0 ≤ x56 then (if x56 < (x54.length : Int) then (if x56 < (x126000.length : Int) then (regis_weighed.l2 k x54 x55 (wrap64 (x56 + 1)) x126000 x126001 x126002 x126003 x128000 (wrap64 (x128001 + (mx (wrap64 ((rd x54 x56) - (rd x126000 x56))) (wrap64 ((rd x126000 x56) - (rd x54 x56)))))) x128002) else (none)) else (none)) else (none)) else (some (x128000, x128001, x128002))
end
def regis_weighed.f (k : Nat) (l0_0 : List Int) (l0_1 : List (List Int)) (l0_2 : List Int) (a0_3 : Int) (l1 : List Int) : Option (List Int × Int × Int) := if 0 ≤ (l0_0.length : Int) then (if ((l0_0.length : Int) : Int).toNat ≤ 35184372088832 then (regis_weighed.l0 k (List.replicate ((l0_0.length : Int) : Int).toNat 0) l1 (l1.length : Int) 0 l0_0 l0_1 l0_2 a0_3 l1 0 0) else (none)) else (none)
theorem regis_weighed.mono_l : ∀ k, (∀ y0 y1 y2 y3 y4 y5 y6 y7 y8 y9 y10, LeO (regis_weighed.l0 k y0 y1 y2 y3 y4 y5 y6 y7 y8 y9 y10) (regis_weighed.l0 (k + 1) y0 y1 y2 y3 y4 y5 y6 y7 y8 y9 y10)) ∧ (∀ y0 y1 y2 y3 y4 y5 y6 y7 y8 y9 y10 y11 y12 y13, LeO (regis_weighed.l1 k y0 y1 y2 y3 y4 y5 y6 y7 y8 y9 y10 y11 y12 y13) (regis_weighed.l1 (k + 1) y0 y1 y2 y3 y4 y5 y6 y7 y8 y9 y10 y11 y12 y13)) ∧ (∀ y0 y1 y2 y3 y4 y5 y6 y7 y8 y9, LeO (regis_weighed.l2 k y0 y1 y2 y3 y4 y5 y6 y7 y8 y9) (regis_weighed.l2 (k + 1) y0 y1 y2 y3 y4 y5 y6 y7 y8 y9))
 | 0 => ⟨fun _ _ _ _ _ _ _ _ _ _ _ r h => by simp [regis_weighed.l0] at h, fun _ _ _ _ _ _ _ _ _ _ _ _ _ _ r h => by simp [regis_weighed.l1] at h, fun _ _ _ _ _ _ _ _ _ _ r h => by simp [regis_weighed.l2] at h⟩
 | k + 1 => by
  obtain ⟨ih0, ih1, ih2⟩:=regis_weighed.mono_l k;refine ⟨?_, ?_, ?_⟩
  ·intro y0 y1 y2 y3 y4 y5 y6 y7 y8 y9 y10
   unfold regis_weighed.l0
   repeat' first
   | (with_reducible exact ih0 _ _ _ _ _ _ _ _ _ _ _)
   | (with_reducible exact ih1 _ _ _ _ _ _ _ _ _ _ _ _ _ _)
   | (with_reducible exact ih2 _ _ _ _ _ _ _ _ _ _)
   | (with_reducible exact LeO.refl _)
   | (with_reducible exact LeO.none _)
   | (with_reducible refine LeO.ite ?_ ?_)
   | (with_reducible refine LeO.bind ?_ (fun _ => ?_))
   | exact ih0 _ _ _ _ _ _ _ _ _ _ _
   | exact ih1 _ _ _ _ _ _ _ _ _ _ _ _ _ _
   | exact ih2 _ _ _ _ _ _ _ _ _ _
   | exact LeO.none _
   | refine LeO.ite ?_ ?_
   | refine LeO.bind ?_ (fun _ => ?_)
  ·intro y0 y1 y2 y3 y4 y5 y6 y7 y8 y9 y10 y11 y12 y13
   unfold regis_weighed.l1
   repeat' first
   | (with_reducible exact ih0 _ _ _ _ _ _ _ _ _ _ _)
   | (with_reducible exact ih1 _ _ _ _ _ _ _ _ _ _ _ _ _ _)
   | (with_reducible exact ih2 _ _ _ _ _ _ _ _ _ _)
   | (with_reducible exact LeO.refl _)
   | (with_reducible exact LeO.none _)
   | (with_reducible refine LeO.ite ?_ ?_)
   | (with_reducible refine LeO.bind ?_ (fun _ => ?_))
   | exact ih0 _ _ _ _ _ _ _ _ _ _ _
   | exact ih1 _ _ _ _ _ _ _ _ _ _ _ _ _ _
   | exact ih2 _ _ _ _ _ _ _ _ _ _
   | exact LeO.none _
   | refine LeO.ite ?_ ?_
   | refine LeO.bind ?_ (fun _ => ?_)
  ·intro y0 y1 y2 y3 y4 y5 y6 y7 y8 y9
   unfold regis_weighed.l2
   repeat' first
   | (with_reducible exact ih0 _ _ _ _ _ _ _ _ _ _ _)
   | (with_reducible exact ih1 _ _ _ _ _ _ _ _ _ _ _ _ _ _)
   | (with_reducible exact ih2 _ _ _ _ _ _ _ _ _ _)
   | (with_reducible exact LeO.refl _)
   | (with_reducible exact LeO.none _)
   | (with_reducible refine LeO.ite ?_ ?_)
   | (with_reducible refine LeO.bind ?_ (fun _ => ?_))
   | exact ih0 _ _ _ _ _ _ _ _ _ _ _
   | exact ih1 _ _ _ _ _ _ _ _ _ _ _ _ _ _
   | exact ih2 _ _ _ _ _ _ _ _ _ _
   | exact LeO.none _
   | refine LeO.ite ?_ ?_
   | refine LeO.bind ?_ (fun _ => ?_)
theorem regis_weighed.mono : ∀ a0 a1 a2 a3 a4 k, LeO (regis_weighed.f k a0 a1 a2 a3 a4) (regis_weighed.f (k + 1) a0 a1 a2 a3 a4) := by
 intro a0 a1 a2 a3 a4 k;obtain ⟨ih0, ih1, ih2⟩:=regis_weighed.mono_l k
 unfold regis_weighed.f
 repeat' first
   | (with_reducible exact ih0 _ _ _ _ _ _ _ _ _ _ _)
   | (with_reducible exact ih1 _ _ _ _ _ _ _ _ _ _ _ _ _ _)
   | (with_reducible exact ih2 _ _ _ _ _ _ _ _ _ _)
   | (with_reducible exact LeO.refl _)
   | (with_reducible exact LeO.none _)
   | (with_reducible refine LeO.ite ?_ ?_)
   | (with_reducible refine LeO.bind ?_ (fun _ => ?_))
   | exact ih0 _ _ _ _ _ _ _ _ _ _ _
   | exact ih1 _ _ _ _ _ _ _ _ _ _ _ _ _ _
   | exact ih2 _ _ _ _ _ _ _ _ _ _
   | exact LeO.none _
   | refine LeO.ite ?_ ?_
   | refine LeO.bind ?_ (fun _ => ?_)
def regis_weighed.T6 : Bool × List (List Nat × List Nat) := (true, [([], []), ([0], [0]), ([], []), ([2], [2]), ([], []), ([3, 4], [3, 4]), ([5], [5]), ([1, 6], [1, 6]), ([0, 1, 2, 3, 4, 5, 6, 7], []), ([8, 7, 0, 1, 2, 3, 4, 5, 6, 7], [7, 8])])
def regis_weighed.B6 : List Nat := [0, 1, 0, 4, 0, 28, 60, 127, 255, 511]
theorem regis_weighed.tab6 : rtab .any (opsOf Tryd.f40 6) = regis_weighed.T6 := by kernel_rfl
theorem regis_weighed.bits6 : waitsOk regis_weighed.T6.2 regis_weighed.B6 = true := by kernel_rfl
def regis_weighed.T16 : Bool × List (List Nat × List Nat) := (true, [([], []), ([0], [0]), ([], []), ([], []), ([3], [3]), ([], []), ([4, 5], [4, 5]), ([6], [6]), ([2, 7], [2, 7]), ([], []), ([9], [9]), ([], []), ([10, 11], [10, 11]), ([12], [12]), ([], []), ([13, 14], [13, 14]), ([8, 15], [8, 15]), ([1, 16], [1, 16]), ([0, 1, 2, 3, 4, 5, 6, 7, 8, 9, 10, 11, 12, 13, 14, 15, 16, 17], []), ([18, 17, 0, 1, 2, 3, 4, 5, 6, 7, 8, 9, 10, 11, 12, 13, 14, 15, 16, 17], [17, 18])])
def regis_weighed.B16 : List Nat := [0, 1, 0, 0, 8, 0, 56, 120, 252, 0, 512, 0, 3584, 7680, 0, 32256, 65532, 131071, 262143, 524287]
theorem regis_weighed.tab16 : rtab .any (opsOf Tryd.f40 16) = regis_weighed.T16 := by kernel_rfl
theorem regis_weighed.bits16 : waitsOk regis_weighed.T16.2 regis_weighed.B16 = true := by kernel_rfl
set_option maxHeartbeats 8000000 in
set_option maxRecDepth 100000 in
theorem regis_weighed.calls (k : Nat) (A0_0 : Option Addr) (c0_0 : Nat) (l0_0 : List Int) (A0_1 : Option Addr) (c0_1 : Nat) (l0_1 : List (List Int)) (A0_2 : Option Addr) (c0_2 : Nat) (l0_2 : List Int) (a0_3 : Int) (A1 : Option Addr) (c1 : Nat) (l1 : List Int) (r1 : List Int) (r2 : Int) (r3 : Int) (w : World) (hr0_0 : Kd.C (Kd.int .i64) w A0_0 l0_0.length l0_0) (hc0_0 : l0_0.length ≤ c0_0) (hr0_1 : Kd.C (Kd.slice 3 (Kd.int .i64)) w A0_1 l0_1.length l0_1) (hc0_1 : l0_1.length ≤ c0_1) (hr0_2 : Kd.C (Kd.int .i64) w A0_2 l0_2.length l0_2) (hc0_2 : l0_2.length ≤ c0_2) (hr1 : Kd.C (Kd.int .i64) w A1 l1.length l1) (hc1 : l1.length ≤ c1) (h : regis_weighed.f k l0_0 l0_1 l0_2 a0_3 l1 = some (r1, r2, r3)) :
  Calls Tryd.prog 40 #[.agg #[.slice A0_0 l0_0.length c0_0, .slice A0_1 l0_1.length c0_1, .slice A0_2 l0_2.length c0_2, .int .i64 a0_3], .slice A1 l1.length c1] w fun e w' => e = .returned (.agg #[.slice A1 l1.length c1, .int .i64 r2, .int .i64 r3]) ∧ Below w.heap.size w w':=by
 have hu28:=Tryd.underlying28;have hu31:=Tryd.underlying31;have HR0_0:=am_ hr0_0;have HC0_0:=am_ hc0_0;clear hr0_0 hc0_0;have HR0_1:=am_ hr0_1;have HC0_1:=am_ hc0_1;clear hr0_1 hc0_1;have HR0_2:=am_ hr0_2;have HC0_2:=am_ hc0_2;clear hr0_2 hc0_2;have HR1:=am_ hr1;have HC1:=am_ hc1;clear hr1 hc1;have HB:=am_ (Below.refl w.heap.size w);have H : (if 0 ≤ (l0_0.length : Int) then (if ((l0_0.length : Int) : Int).toNat ≤ 35184372088832 then (regis_weighed.l0 k (List.replicate ((l0_0.length : Int) : Int).toNat 0) l1 (l1.length : Int) 0 l0_0 l0_1 l0_2 a0_3 l1 0 0) else (none)) else (none)) = some (r1, r2, r3):=h;clear h
 by_cases c3 : 0 ≤ (l0_0.length : Int)
 ·rw [if_pos c3] at H;have c3b0:=eq_true c3;have c3b1 : decide (0 ≤ (l0_0.length : Int)) = true:=decide_eq_true c3;clear c3
  by_cases c4 : ((l0_0.length : Int) : Int).toNat ≤ 35184372088832
  ·rw [if_pos c4] at H;have c4b0:=eq_true c4;have c4b1 : decide (((l0_0.length : Int) : Int).toNat ≤ 35184372088832) = true:=decide_eq_true c4;clear c4;obtain ⟨y128, hy128⟩ : ∃ y_ : List Int, y_ = (List.replicate ((l0_0.length : Int) : Int).toNat 0):=⟨_, rfl⟩
   replace H : (regis_weighed.l0 k y128 l1 (l1.length : Int) 0 l0_0 l0_1 l0_2 a0_3 l1 0 0) = some (r1, r2, r3):=by first | (rw [hy128];with_reducible exact H) | (have H2_:=(Option.bind_some _ _).symm.trans H;rw [hy128];with_reducible exact H2_) | (have H2_:=(Option.bind_some _ _).symm.trans H;with_reducible exact H2_) | with_reducible exact H | (rw [hy128];exact H) | exact H
   have Ny128:=am_ hy128;clear hy128;have H':=am_ H;clear H;go_enter Tryd.func40, Tryd.ntmps40
   go_wp2_with (first | ((with_reducible refine gate_dst (N:=2) rfl ?_);refine box_event ?hg (N:=2) ?hd (cs:=#[.slice A0_0 l0_0.length c0_0, .slice A0_1 l0_1.length c0_1, .slice A0_2 l0_2.length c0_2, .int .i64 a0_3]) (t:=28) ?hr ?_;(case hd => rfl);(case hg => rfl);(case hr => first | (go_simp;done) | (go_simp;rfl));intro gb125 hg w5 hbox hb;have BK125:=am_ hbox;have GW125:=gz_ hg HB;have GE125:=gz_ hg HB;replace HB:=bs_ HB hb;clear hb hbox hg) | ((with_reducible refine gate_dst (N:=4) rfl ?_);refine box_event ?hg (N:=4) ?hd (cs:=#[.slice none 0 0, .int .i64 0, .int .i64 0]) (t:=31) ?hr ?_;(case hd => rfl);(case hg => rfl);(case hr => first | (go_simp;done) | (go_simp;rfl));intro gb126 hg w6 hbox hb;have BK126:=am_ hbox;have GW126:=gz_ hg HB;have GE126:=gz_ hg HB;replace HB:=am_ (below_step (by repeat (first | (with_reducible first | exact HB.out | apply b1_|apply b2_|apply b3_ | refine below_set ?_ GE125.out) | exact HB.out)) hb);have NB125_126:=nl_ hg BK125;have NB126_125:=ng_ hg BK125;replace BK125:=bb_ BK125 hb;clear hb hbox hg) | ((with_reducible refine gate_dst (N:=5) rfl ?_);refine box_event ?hg (N:=5) ?hd (cs:=#[.slice none 0 0, .int .i64 0, .int .i64 0]) (t:=31) ?hr ?_;(case hd => rfl);(case hg => rfl);(case hr => first | (go_simp;done) | (go_simp;rfl));intro gb127 hg w7 hbox hb;have BK127:=am_ hbox;have GW127:=gz_ hg HB;have GE127:=gz_ hg HB;replace HB:=am_ (below_step (by repeat (first | (with_reducible first | exact HB.out | apply b1_|apply b2_|apply b3_ | refine below_set ?_ GE125.out | refine below_set ?_ GE126.out) | exact HB.out)) hb);have NB125_127:=nl_ hg BK125;have NB127_125:=ng_ hg BK125;replace BK125:=bb_ BK125 hb;have NB126_127:=nl_ hg BK126;have NB127_126:=ng_ hg BK126;replace BK126:=bb_ BK126 hb;clear hb hbox hg;have hnb8:=NB127_125.out;have hnc8:=NB125_127.out;have hnb9:=NB127_126.out;have hnc9:=NB126_127.out;obtain ⟨hcz10_0, hcz10_1, hcz10_2⟩:=c3_ BK127.out;obtain ⟨hfz10_0, hfz10_1, hfz10_2⟩:=z3_ BK127.out;have hnb11:=NB125_126.out;have hnc11:=NB126_125.out;obtain ⟨hcz12_0, hcz12_1, hcz12_2, hcz12_3⟩:=c4_ BK125.out;obtain ⟨hfz12_0, hfz12_1, hfz12_2, hfz12_3⟩:=z4_ BK125.out) | ((with_reducible refine gate_dst (N:=18) rfl ?_);refine Kd.R_make (Kd.int .i64) _ 3 rfl (N:=18) rfl 25 _ _ rfl (l0_0.length : Int) rfl rfl Tryd.underlying25 (.int .i64 0) 8 info3 rfl (by decide) (by omega) 0 (ok:=fun _ => True) (okp:=fun _ => True) rfl (fun _ hk => hk) trivial (of_decide_eq_true (by first | (with_reducible assumption) | assumption)) (Nat.le_trans (Nat.mul_le_mul_right _ (of_decide_eq_true (by first | (with_reducible assumption) | assumption) : (l0_0.length : Int).toNat ≤ 35184372088832)) (by omega)) (Below.refl _ _) (Nat.le_refl _) ?_;intro v129 w13 ho14 hb hg_ hnew_;clear hg_ hnew_;(first | rw [← Ny128.out] at ho14 | (simp only [Int.reduceToNat] at ho14;rw [← Ny128.out] at ho14));have HO130:=am_ (Kd.R_lower ho14 (bz_ HB));replace BK125:=am_ (blk_below (o:=.cells #[.slice A0_0 l0_0.length c0_0, .slice A0_1 l0_1.length c0_1, .slice A0_2 l0_2.length c0_2, .int .i64 a0_3] 28 (0, 0)) (by (with_reducible repeat first|apply q1_|apply q2_|apply q3_);refine blk_far ?_ NB125_127.out _;(with_reducible repeat first|apply q1_|apply q2_|apply q3_);refine blk_far ?_ NB125_127.out _;(with_reducible repeat first|apply q1_|apply q2_|apply q3_);refine blk_far ?_ NB125_127.out _;(with_reducible repeat first|apply q1_|apply q2_|apply q3_);exact BK125.out) hb);replace BK126:=am_ (blk_below (o:=.cells #[.slice none 0 0, .int .i64 0, .int .i64 0] 31 (0, 0)) (by (with_reducible repeat first|apply q1_|apply q2_|apply q3_);refine blk_far ?_ NB126_127.out _;(with_reducible repeat first|apply q1_|apply q2_|apply q3_);refine blk_far ?_ NB126_127.out _;(with_reducible repeat first|apply q1_|apply q2_|apply q3_);refine blk_far ?_ NB126_127.out _;(with_reducible repeat first|apply q1_|apply q2_|apply q3_);exact BK126.out) hb);replace BK127:=am_ (blk_below (o:=.cells #[.slice A1 l1.length c1, .int .i64 0, .int .i64 0] 31 (0, 0)) (by (with_reducible repeat first|apply q1_|apply q2_|apply q3_);refine blk_put (cs:=#[.slice A1 l1.length c1, .int .i64 0, .int .i64 0]) ?_ 2 _ rfl;(with_reducible repeat first|apply q1_|apply q2_|apply q3_);refine blk_put (cs:=#[.slice A1 l1.length c1, .int .i64 0, .int .i64 0]) ?_ 1 _ rfl;(with_reducible repeat first|apply q1_|apply q2_|apply q3_);refine blk_put (cs:=#[.slice none 0 0, .int .i64 0, .int .i64 0]) ?_ 0 _ rfl;(with_reducible repeat first|apply q1_|apply q2_|apply q3_);exact BK127.out) hb);replace HB:=am_ (below_step (by repeat (first | (with_reducible first | exact HB.out | apply b1_|apply b2_|apply b3_ | refine below_set ?_ GE125.out | refine below_set ?_ GE126.out | refine below_set ?_ GE127.out) | exact HB.out)) hb);clear hb ho14))
   go_loopg [21] k (fun kq v21 w' => ∃ (x6_1 : List Int) (x21_1 : Int) (x128002_1 : Int), v21 = .int .i64 x21_1 ∧ Aside0 (regis_weighed.l0 kq x6_1 l1 (l1.length : Int) x21_1 l0_0 l0_1 l0_2 a0_3 l1 0 x128002_1 = some (r1, r2, r3)) ∧ Aside0 (kq ≤ k) ∧ Aside0 (Kd.R (Kd.int .i64) 3 w' w.heap.size (fun _ => True) v129 x6_1) ∧ Aside0 (w'.heap[gb125]? = some (.cells #[(.slice A0_0 l0_0.length c0_0), (.slice A0_1 l0_1.length c0_1), (.slice A0_2 l0_2.length c0_2), .int .i64 a0_3] 28 (0, 0))) ∧ Aside0 (w'.heap[gb126]? = some (.cells #[(.slice none 0 0), .int .i64 0, .int .i64 0] 31 (0, 0))) ∧ Aside0 (w'.heap[gb127]? = some (.cells #[(.slice A1 l1.length c1), .int .i64 0, .int .i64 x128002_1] 31 (0, 0))) ∧ Aside0 (Below w.heap.size w w'))
   case atStart => exact ⟨(y128), (0), (0), (by first | rfl | (simp;done) | (simp [*];done)), H', ⟨Nat.le_refl _⟩, ⟨by (with_reducible repeat (first | apply Kd.R_alloc | apply Kd.R_drewN | apply Kd.R_drew));exact HO130.out⟩, ⟨by (with_reducible repeat first|apply q1_|apply q2_|apply q3_);exact BK125.out⟩, ⟨by (with_reducible repeat first|apply q1_|apply q2_|apply q3_);exact BK126.out⟩, ⟨by (with_reducible repeat first|apply q1_|apply q2_|apply q3_);exact BK127.out⟩, ⟨by repeat (first | (with_reducible first | exact HB.out | apply b1_|apply b2_|apply b3_ | refine below_set ?_ GE125.out | refine below_set ?_ GE126.out | refine below_set ?_ GE127.out) | exact HB.out)⟩⟩
   case round =>
    clear H';(try clear c1);(try clear p2);(try clear c3);(try clear c3b0);(try clear c3b1);(try clear c4);(try clear c4b0);(try clear c4b1);(try clear c8);(try clear c9);(try clear c11);(try clear hcz10_0);(try clear hcz10_1);(try clear hcz10_2);(try clear hcz12_0);(try clear hcz12_1);(try clear hcz12_2);(try clear hcz12_3);(try clear hfz10_0);(try clear hfz10_1);(try clear hfz10_2);(try clear hfz12_0);(try clear hfz12_1);(try clear hfz12_2);(try clear hfz12_3);obtain ⟨x6_1, x21_1, x128002_1, rfl, HA, HK1, HO_6, BK125, BK126, BK127, HB⟩:=hrel
    cases gk with
    | zero => exact absurd HA.out (by simp [regis_weighed.l0])
    | succ k1 =>
     have H:=HA.out;clear HA;simp only [regis_weighed.l0] at H
     by_cases c15 : x21_1 < (l1.length : Int)
     ·rw [if_pos c15] at H;have c15b0 : decide (x21_1 < (l1.length : Int)) = true:=decide_eq_true c15;clear c15
      by_cases c16 : 0 ≤ x21_1
      ·rw [if_pos c16] at H;have c16b0 : decide (0 ≤ x21_1) = true:=decide_eq_true c16;clear c16
       by_cases c17 : x21_1 < (l1.length : Int)
       ·rw [if_pos c17] at H;have c17b0 : decide (x21_1 < (l1.length : Int)) = true:=decide_eq_true c17;clear c17
        by_cases c18 : 0 ≤ (rd l1 x21_1)
        ·rw [if_pos c18] at H;have c18b0 : decide (0 ≤ (rd l1 x21_1)) = true:=decide_eq_true c18;clear c18
         by_cases c19 : (rd l1 x21_1) < (l0_2.length : Int)
         ·rw [if_pos c19] at H;have c19b0 : decide ((rd l1 x21_1) < (l0_2.length : Int)) = true:=decide_eq_true c19;clear c19
          by_cases c20 : (rd l1 x21_1) < (l0_1.length : Int)
          ·rw [if_pos c20] at H;have c20b0 : decide ((rd l1 x21_1) < (l0_1.length : Int)) = true:=decide_eq_true c20;clear c20;have H':=am_ H;clear H;have p131 : 0 ≤ (x21_1 : Int):=of_decide_eq_true (by first | (with_reducible assumption) | assumption);have q131 : x21_1 < (l1.length : Int):=of_decide_eq_true (by first | (with_reducible assumption) | assumption);obtain ⟨ad131, e131, hx131_0⟩:=Kd.at_int HR1.out x21_1 p131 q131
           cases e131
           replace hx131_0:=(HB.out.cell (World.block_lt_of_cell? w _ hx131_0)).trans hx131_0;replace p131:=eq_true p131;replace q131:=eq_true q131
           try go_wp2
           replace HO_6:=rd_ HO_6;replace BK125:=bd_ BK125;replace BK126:=bd_ BK126;replace BK127:=bd_ BK127;replace HB:=wd_ HB;have p132 : 0 ≤ ((rd l1 x21_1) : Int):=of_decide_eq_true (by first | (with_reducible assumption) | assumption);have q132 : (rd l1 x21_1) < (l0_2.length : Int):=of_decide_eq_true (by first | (with_reducible assumption) | assumption);obtain ⟨ad132, e132, hx132_0⟩:=Kd.at_int HR0_2.out (rd l1 x21_1) p132 q132;have hw132_0:=hx132_0
           cases e132
           replace hx132_0:=(HB.out.cell (World.block_lt_of_cell? w _ hx132_0)).trans hx132_0;replace p132:=eq_true p132;replace q132:=eq_true q132;refine start_ (n:=10) (S:=fun w' => w'.cell? ⟨gb127, 0, none⟩ = some (.slice (some ad131) l1.length c1) ∧ w'.cell? ⟨gb127, 1, none⟩ = some (.int .i64 0) ∧ w'.cell? ⟨gb127, 2, none⟩ = some (.int .i64 x128002_1) ∧ w'.cell? ⟨gb125, 0, none⟩ = some (.slice A0_0 l0_0.length c0_0) ∧ w'.cell? ⟨gb125, 1, none⟩ = some (.slice A0_1 l0_1.length c0_1) ∧ w'.cell? ⟨gb125, 2, none⟩ = some (.slice (some ad132) l0_2.length c0_2) ∧ w'.cell? ⟨gb125, 3, none⟩ = some (.int .i64 a0_3) ∧ w'.cell? (ad132.add ((rd l1 x21_1)).toNat) = some (.int .i64 (rd l0_2 (rd l1 x21_1)))) (ds:=[9]) #[false, false, false, false, false, false, false, false, false, false] (by kernel_rfl) rfl rfl ⟨(blk_cell BK127.out 0).trans rfl, (blk_cell BK127.out 1).trans rfl, (blk_cell BK127.out 2).trans rfl, (blk_cell BK125.out 0).trans rfl, (blk_cell BK125.out 1).trans rfl, (blk_cell BK125.out 2).trans rfl, (blk_cell BK125.out 3).trans rfl, ((HB.out.cell (World.block_lt_of_cell? w _ hw132_0)).trans hw132_0)⟩ (fun hHeld => ?_);refine with_tabW regis_weighed.tab6 regis_weighed.bits6 (fun HT_ HW_ => ?_);generalize wr.drew = w21 at HO_6 BK125 BK126 BK127 HB hx132_0 hHeld ⊢;refine pure_ (i:=0) (N:=some 25) (v:=?_) (a':=?_) #[true, false, false, false, false, false, false, false, false, false] rfl rfl (any_of HT_.out (by kernel_rfl)) (fun _ _ _ h => h) (Or.inl ⟨by rfl, ?_⟩) ?_ ?_;rotate_left
           ·intro w';go_simp;(with_reducible rfl)
           rotate_left
           ·simp only [Act.put, st_, s0_, s1_, i64_w, i32_w];rfl
           refine pure_ (i:=2) (N:=some 27) (v:=?_) (a':=?_) #[true, false, true, false, false, false, false, false, false, false] rfl rfl (any_of HT_.out (by kernel_rfl)) (fun _ _ _ h => h) (Or.inl ⟨by rfl, ?_⟩) ?_ ?_;rotate_left
           ·intro w';go_simp;(with_reducible rfl)
           rotate_left
           ·simp only [Act.put, st_, s0_, s1_, i64_w, i32_w];rfl
           refine pure_ (i:=4) (N:=some 29) (v:=?_) (a':=?_) #[true, false, true, false, true, false, false, false, false, false] rfl rfl (any_of HT_.out (by kernel_rfl)) (fun _ _ _ h => h) (Or.inl ⟨by rfl, ?_⟩) ?_ ?_;rotate_left
           ·intro w';go_simp;(with_reducible rfl)
           rotate_left
           ·simp only [Act.put, st_, s0_, s1_, i64_w, i32_w];rfl
           refine take_ (i:=1) (N:=some 26) (v:=?_) (a':=?_) #[true, true, true, false, true, false, false, false, false, false] rfl rfl (take_ofW HT_.out HW_.out (by kernel_rfl)) (fun _ _ _ h => h) (Or.inl ⟨by rfl, ?_⟩) hHeld ?_ ?_;rotate_left
           ·rintro w' ⟨s0, s1, s2, s3, s4, s5, s6, s7⟩;go_simp;(with_reducible rfl)
           rotate_left
           ·simp only [Act.put, st_, s0_, s1_, i64_w, i32_w];rfl
           refine take_ (i:=3) (N:=some 28) (v:=?_) (a':=?_) #[true, true, true, true, true, false, false, false, false, false] rfl rfl (take_ofW HT_.out HW_.out (by kernel_rfl)) (fun _ _ _ h => h) (Or.inl ⟨by rfl, ?_⟩) hHeld ?_ ?_;rotate_left
           ·rintro w' ⟨s0, s1, s2, s3, s4, s5, s6, s7⟩;go_simp;(with_reducible rfl)
           rotate_left
           ·simp only [Act.put, st_, s0_, s1_, i64_w, i32_w];rfl
           refine pure_ (i:=5) (N:=some 30) (v:=?_) (a':=?_) #[true, true, true, true, true, true, false, false, false, false] rfl rfl (any_of HT_.out (by kernel_rfl)) (fun _ _ _ h => h) (Or.inl ⟨by rfl, ?_⟩) ?_ ?_;rotate_left
           ·intro w';go_simp;(with_reducible rfl)
           rotate_left
           ·simp only [Act.put, st_, s0_, s1_, i64_w, i32_w];rfl
           refine take_ (i:=6) (N:=some 31) (v:=?_) (a':=?_) #[true, true, true, true, true, true, true, false, false, false] rfl rfl (take_ofW HT_.out HW_.out (by kernel_rfl)) (fun _ _ _ h => h) (Or.inl ⟨by rfl, ?_⟩) hHeld ?_ ?_;rotate_left
           ·rintro w' ⟨s0, s1, s2, s3, s4, s5, s6, s7⟩;go_simp;(with_reducible rfl)
           rotate_left
           ·simp only [Act.put, st_, s0_, s1_, i64_w, i32_w];rfl
           refine pure_ (i:=7) (N:=some 32) (v:=?_) (a':=?_) #[true, true, true, true, true, true, true, true, false, false] rfl rfl (any_of HT_.out (by kernel_rfl)) (fun _ _ _ h => h) (Or.inl ⟨by rfl, ?_⟩) ?_ ?_;rotate_left
           ·intro w';go_simp;(with_reducible rfl)
           rotate_left
           ·simp only [Act.put, st_, s0_, s1_, i64_w, i32_w];rfl
           refine pure_ (i:=8) (N:=some 33) (v:=?_) (a':=?_) #[true, true, true, true, true, true, true, true, true, false] rfl rfl (any_of HT_.out (by kernel_rfl)) (fun _ _ _ h => h) (Or.inl ⟨by rfl, ?_⟩) ?_ ?_;rotate_left
           ·intro w';go_simp;(with_reducible rfl)
           rotate_left
           ·simp only [Act.put, st_, s0_, s1_, i64_w, i32_w];rfl
           refine last_ (i:=9) (N:=none) #[true, true, true, true, true, true, true, true, true, true] rfl rfl (one_of HT_.out (by kernel_rfl)) (by decide) (fun K hK => ?_);have hs22 : w21.cell? ⟨gb127, 2, none⟩ = some (.int .i64 x128002_1):=(blk_cell BK127.out 2).trans rfl;have hfs22:=blk_frozen BK127.out 2;have hns22_0:=NB125_127.out;have hns22_1:=NB126_127.out;have hms22_0:=NB127_125.out;have hms22_1:=NB127_126.out;refine skip_ (w1:=?_) (by rfl) rfl ?_ ?_;rotate_left
           ·go_simp;rfl
           refine hK.out _ _ ?_;clear hK K;refine done_ (done_of HT_.out (by kernel_rfl)) ?_;have hnb23:=NB125_126.out;have hnc23:=NB126_125.out;have hnb24:=NB125_127.out;have hnc24:=NB127_125.out;obtain ⟨hcz25_0, hcz25_1, hcz25_2, hcz25_3⟩:=c4_ BK125.out;obtain ⟨hfz25_0, hfz25_1, hfz25_2, hfz25_3⟩:=z4_ BK125.out;have p133 : 0 ≤ ((rd l1 x21_1) : Int):=of_decide_eq_true (by first | (with_reducible assumption) | assumption);have q133 : (rd l1 x21_1) < (l0_1.length : Int):=of_decide_eq_true (by first | (with_reducible assumption) | assumption);obtain ⟨ad133, A133_0, c133_0, e133, hx133_0, hl133_0, hi133_0⟩:=at_L1 HR0_1.out (rd l1 x21_1) p133 q133
           cases e133
           have hn133_0 : ad133.block ≠ gb127:=Nat.ne_of_lt (Nat.lt_of_lt_of_le (by have:=World.block_lt_of_cell? _ _ hx133_0;first | rwa [add_block] at this | exact this) GW127.out);replace hx133_0:=(HB.out.cell (World.block_lt_of_cell? w _ hx133_0)).trans hx133_0;have HR133_0:=am_ hi133_0;have HC133_0:=am_ hl133_0;clear hi133_0 hl133_0;replace hx133_0:=(cell_far (p:=⟨gb127, 2, none⟩) (by first | (rw [add_block];exact hn133_0) | (show (Addr.add _ _).block ≠ _;rw [add_block];exact hn133_0) | exact hn133_0) (.int .i64 (wrap64 (x128002_1 + (rd l0_2 (rd l1 x21_1)))))).trans hx133_0;clear hn133_0;replace p133:=eq_true p133;replace q133:=eq_true q133
           try go_wp2
           go_loopg [40] k1 (fun kq v40 w' => ∃ (x6_2 : List Int) (x40_2 : Int), v40 = .int .i64 x40_2 ∧ Aside0 (regis_weighed.l1 kq x6_2 l1 (l1.length : Int) x21_1 (rd_L1 l0_1 (rd l1 x21_1)) ((rd_L1 l0_1 (rd l1 x21_1)).length : Int) x40_2 l0_0 l0_1 l0_2 a0_3 l1 0 (wrap64 (x128002_1 + (rd l0_2 (rd l1 x21_1)))) = some (r1, r2, r3)) ∧ Aside0 (kq ≤ k1) ∧ Aside0 (Kd.R (Kd.int .i64) 3 w' w.heap.size (fun _ => True) v129 x6_2) ∧ Aside0 (w'.heap[gb125]? = some (.cells #[(.slice A0_0 l0_0.length c0_0), (.slice (some ad133) l0_1.length c0_1), (.slice (some ad132) l0_2.length c0_2), .int .i64 a0_3] 28 (0, 0))) ∧ Aside0 (w'.heap[gb126]? = some (.cells #[(.slice none 0 0), .int .i64 0, .int .i64 0] 31 (0, 0))) ∧ Aside0 (w'.heap[gb127]? = some (.cells #[(.slice (some ad131) l1.length c1), .int .i64 0, .int .i64 (wrap64 (x128002_1 + (rd l0_2 (rd l1 x21_1))))] 31 (0, 0))) ∧ Aside0 (Below w.heap.size w w'))
           case atStart => exact ⟨(x6_1), (0), (by first | rfl | (simp;done) | (simp [*];done)), H', ⟨Nat.le_refl _⟩, ⟨by (with_reducible repeat (first | apply Kd.R_alloc | apply Kd.R_drewN | apply Kd.R_drew));exact Kd.R_mono (Kd.R_far (p:=⟨gb127, 2, none⟩) (Kd.R_types HO_6.out BK127.out (by decide)) (fun _ hk => hk.2) (.int .i64 (wrap64 (x128002_1 + (rd l0_2 (rd l1 x21_1)))))) (fun _ hk => trivial)⟩, ⟨by (with_reducible repeat first|apply q1_|apply q2_|apply q3_);refine blk_far ?_ NB125_127.out _;(with_reducible repeat first|apply q1_|apply q2_|apply q3_);exact BK125.out⟩, ⟨by (with_reducible repeat first|apply q1_|apply q2_|apply q3_);refine blk_far ?_ NB126_127.out _;(with_reducible repeat first|apply q1_|apply q2_|apply q3_);exact BK126.out⟩, ⟨by (with_reducible repeat first|apply q1_|apply q2_|apply q3_);refine blk_put (cs:=#[.slice (some ad131) l1.length c1, .int .i64 0, .int .i64 x128002_1]) ?_ 2 _ rfl;(with_reducible repeat first|apply q1_|apply q2_|apply q3_);exact BK127.out⟩, ⟨by repeat (first | (with_reducible first | exact HB.out | apply b1_|apply b2_|apply b3_ | refine below_set ?_ GE125.out | refine below_set ?_ GE126.out | refine below_set ?_ GE127.out) | exact HB.out)⟩⟩
           case round =>
            clear H';(try clear c1);(try clear p1);(try clear q1);(try clear hx1);(try clear c2);(try clear p2);(try clear c3);(try clear c3b0);(try clear c3b1);(try clear c4);(try clear c4b0);(try clear c4b1);(try clear p6);(try clear c8);(try clear c9);(try clear c11);(try clear c13);(try clear p13);(try clear q13);(try clear hx13);(try clear c15);(try clear c15b0);(try clear c16);(try clear c16b0);(try clear c17);(try clear c17b0);(try clear c18);(try clear c18b0);(try clear c19);(try clear c19b0);(try clear c20);(try clear c20b0);(try clear c23);(try clear c24);(try clear hcz10_0);(try clear hcz10_1);(try clear hcz10_2);(try clear hcz12_0);(try clear hcz12_1);(try clear hcz12_2);(try clear hcz12_3);(try clear hcz25_0);(try clear hcz25_1);(try clear hcz25_2);(try clear hcz25_3);(try clear hfz10_0);(try clear hfz10_1);(try clear hfz10_2);(try clear hfz12_0);(try clear hfz12_1);(try clear hfz12_2);(try clear hfz12_3);(try clear hfz25_0);(try clear hfz25_1);(try clear hfz25_2);(try clear hfz25_3);(try clear hx131_0);(try clear hx132_0);(try clear hx133_0);(try clear p131);(try clear p132);(try clear p133);(try clear p2);(try clear q131);(try clear q132);(try clear q133);obtain ⟨x6_2, x40_2, rfl, HA, HK2, HO_6, BK125, BK126, BK127, HB⟩:=hrel
            cases gk with
            | zero => exact absurd HA.out (by simp [regis_weighed.l1])
            | succ k2 =>
             have H:=HA.out;clear HA;simp only [regis_weighed.l1] at H
             by_cases c26 : x40_2 < ((rd_L1 l0_1 (rd l1 x21_1)).length : Int)
             ·rw [if_pos c26] at H;have c26b0 : decide (x40_2 < ((rd_L1 l0_1 (rd l1 x21_1)).length : Int)) = true:=decide_eq_true c26;clear c26
              by_cases c27 : 0 ≤ x40_2
              ·rw [if_pos c27] at H;have c27b0 : decide (0 ≤ x40_2) = true:=decide_eq_true c27;clear c27
               by_cases c28 : x40_2 < ((rd_L1 l0_1 (rd l1 x21_1)).length : Int)
               ·rw [if_pos c28] at H;have c28b0 : decide (x40_2 < ((rd_L1 l0_1 (rd l1 x21_1)).length : Int)) = true:=decide_eq_true c28;clear c28
                by_cases c29 : x40_2 < (x6_2.length : Int)
                ·rw [if_pos c29] at H;have c29b0 : decide (x40_2 < (x6_2.length : Int)) = true:=decide_eq_true c29;clear c29;obtain ⟨y136, hy136⟩ : ∃ y_ : List Int, y_ = (x6_2.set (x40_2 : Int).toNat (wrap64 ((rd x6_2 x40_2) + (rd (rd_L1 l0_1 (rd l1 x21_1)) x40_2)))):=⟨_, rfl⟩
                 replace H : (regis_weighed.l1 k2 y136 l1 (l1.length : Int) x21_1 (rd_L1 l0_1 (rd l1 x21_1)) ((rd_L1 l0_1 (rd l1 x21_1)).length : Int) (wrap64 (x40_2 + 1)) l0_0 l0_1 l0_2 a0_3 l1 0 (wrap64 (x128002_1 + (rd l0_2 (rd l1 x21_1))))) = some (r1, r2, r3):=by first | (rw [hy136];with_reducible exact H) | (have H2_:=(Option.bind_some _ _).symm.trans H;rw [hy136];with_reducible exact H2_) | (have H2_:=(Option.bind_some _ _).symm.trans H;with_reducible exact H2_) | with_reducible exact H | (rw [hy136];exact H) | exact H
                 have Ny136:=am_ hy136;clear hy136;have H':=am_ H;clear H;have p134 : 0 ≤ (x40_2 : Int):=of_decide_eq_true (by first | (with_reducible assumption) | assumption);have q134 : x40_2 < ((rd_L1 l0_1 (rd l1 x21_1)).length : Int):=of_decide_eq_true (by first | (with_reducible assumption) | assumption);obtain ⟨ad134, e134, hx134_0⟩:=Kd.at_int HR133_0.out x40_2 p134 q134
                 cases e134
                 replace hx134_0:=(HB.out.cell (World.block_lt_of_cell? w _ hx134_0)).trans hx134_0;replace p134:=eq_true p134;replace q134:=eq_true q134;obtain ⟨Ao31, co31, eo31⟩:=Kd.R_slice HO_6.out;subst eo31;have p135 : 0 ≤ (x40_2 : Int):=of_decide_eq_true (by first | (with_reducible assumption) | assumption);have q135 : x40_2 < (x6_2.length : Int):=of_decide_eq_true (by first | (with_reducible assumption) | assumption);obtain ⟨ad135, e135, hx135_0⟩:=Kd.at_int (Kd.R_reads' HO_6.out).2.2 x40_2 p135 q135
                 cases e135
                 replace p135:=eq_true p135;replace q135:=eq_true q135;have p30 : 0 ≤ (x40_2 : Int):=of_decide_eq_true (by first | (with_reducible assumption) | assumption);have q30 : (x40_2 : Int) < ((x6_2.length : Int) : Int):=of_decide_eq_true (by first | (with_reducible assumption) | assumption);obtain ⟨go30, co30, eo30, gb30, gl30, cl30, HG30⟩:=Kd.R_form HO_6.out (by omega);(first | cases eo30 | (injection eo30 with ea_ en_ ec_;(first | subst ea_ | (injection ea_ with ea_;subst ea_));subst ec_;clear en_));have GB30:=am_ gb30;have GG30:=am_ HG30;clear gb30 gl30 HG30;(first | simp only [add_plain] at hx135_0 | skip);obtain ⟨hx30_0, hf30_0⟩:=Kd.R_celln 0 HO_6.out (x40_2 : Int) p30 q30;replace p30:=eq_true p30;replace q30:=eq_true q30;have HP32:=Kd.R_putg HO_6.out (x40_2 : Int) (wrap64 ((rd x6_2 x40_2) + (rd (rd_L1 l0_1 (rd l1 x21_1)) x40_2)))
                 go_wp2_with (first | ((with_reducible refine gate_store (t:=3) (p:=51) rfl ?_);refine store_event (t:=3) (p:=51) (v:=?vo_w33) (w1:=(wr.setCell ⟨go30, (x40_2 : Int).toNat, none⟩ (.int .i64 (wrap64 ((rd x6_2 x40_2) + (rd (rd_L1 l0_1 (rd l1 x21_1)) x40_2)))))) ?hg ?ho ?hn ?hr ?_;(case ho => rfl);(case hg => rfl);(case hn => rfl);(case hr => first | (go_simp;done) | (go_simp;rfl));intro w33 hw;have hg : wr.grownBy w33 (some go30):=(by rw [hw];exact HP32.2);have hp_ : Kd.R (Kd.int .i64) 3 w33 w.heap.size (fun _ => True) (.slice (some ⟨go30, 0, none⟩) x6_2.length co31) y136:=(by rw [hw, Ny136.out];exact HP32.1);clear HP32;replace BK125:=am_ (blk_grown (bu_ BK125) hg (Kd.R_ne HO_6.out BK125.out (by decide)));replace BK126:=am_ (blk_grown (bu_ BK126) hg (Kd.R_ne HO_6.out BK126.out (by decide)));replace BK127:=am_ (blk_grown (bu_ BK127) hg (Kd.R_ne HO_6.out BK127.out (by decide)));replace HO_6:=am_ hp_;replace HB:=am_ (by rw [hw];exact below_set (HB.out) GB30.out : Below w.heap.size w w33);clear hg hw hp_))
                 go_roundg k2
                 case measure => have:=HK1.out;have:=HK2.out;omega
                 case rel => exact ⟨(y136), (wrap64 (x40_2 + 1)), (by first | rfl | (simp;done) | (simp [*];done)), H', ⟨by have:=HK1.out;have:=HK2.out;omega⟩, ⟨by (with_reducible repeat (first | apply Kd.R_alloc | apply Kd.R_drewN | apply Kd.R_drew));exact HO_6.out⟩, ⟨by (with_reducible repeat first|apply q1_|apply q2_|apply q3_);exact BK125.out⟩, ⟨by (with_reducible repeat first|apply q1_|apply q2_|apply q3_);exact BK126.out⟩, ⟨by (with_reducible repeat first|apply q1_|apply q2_|apply q3_);exact BK127.out⟩, ⟨by repeat (first | (with_reducible first | exact HB.out | apply b1_|apply b2_|apply b3_ | refine below_set ?_ GE125.out | refine below_set ?_ GE126.out | refine below_set ?_ GE127.out) | exact HB.out)⟩⟩
                ·rw [if_neg c29] at H;exact absurd H (by simp)
               ·rw [if_neg c28] at H;exact absurd H (by simp)
              ·rw [if_neg c27] at H;exact absurd H (by simp)
             ·rw [if_neg c26] at H;have c26b0 : decide (x40_2 < ((rd_L1 l0_1 (rd l1 x21_1)).length : Int)) = false:=decide_eq_false c26;clear c26;have H':=am_ H;clear H
              go_wp2
              go_roundg k2
              case measure => have:=HK1.out;have:=HK2.out;omega
              case rel => exact ⟨(x6_2), (wrap64 (x21_1 + 1)), ((wrap64 (x128002_1 + (rd l0_2 (rd l1 x21_1))))), (by first | rfl | (simp;done) | (simp [*];done)), H', ⟨by have:=HK1.out;have:=HK2.out;omega⟩, ⟨by (with_reducible repeat (first | apply Kd.R_alloc | apply Kd.R_drewN | apply Kd.R_drew));exact HO_6.out⟩, ⟨by (with_reducible repeat first|apply q1_|apply q2_|apply q3_);exact BK125.out⟩, ⟨by (with_reducible repeat first|apply q1_|apply q2_|apply q3_);exact BK126.out⟩, ⟨by (with_reducible repeat first|apply q1_|apply q2_|apply q3_);exact BK127.out⟩, ⟨by repeat (first | (with_reducible first | exact HB.out | apply b1_|apply b2_|apply b3_ | refine below_set ?_ GE125.out | refine below_set ?_ GE126.out | refine below_set ?_ GE127.out) | exact HB.out)⟩⟩
          ·rw [if_neg c20] at H;exact absurd H (by simp)
         ·rw [if_neg c19] at H;exact absurd H (by simp)
        ·rw [if_neg c18] at H;exact absurd H (by simp)
       ·rw [if_neg c17] at H;exact absurd H (by simp)
      ·rw [if_neg c16] at H;exact absurd H (by simp)
     ·rw [if_neg c15] at H;have c15b0 : decide (x21_1 < (l1.length : Int)) = false:=decide_eq_false c15;clear c15;have H':=am_ H;clear H;obtain ⟨Ao34, co34, eo34⟩:=Kd.R_slice HO_6.out;subst eo34
      go_wp2
      go_loopg [56] k1 (fun kq v56 w' => ∃ (x56_2 : Int) (x128001_2 : Int), v56 = .int .i64 x56_2 ∧ Aside0 (regis_weighed.l2 kq x6_1 (x6_1.length : Int) x56_2 l0_0 l0_1 l0_2 a0_3 l1 x128001_2 x128002_1 = some (r1, r2, r3)) ∧ Aside0 (kq ≤ k1) ∧ Aside0 (Kd.R (Kd.int .i64) 3 w' w.heap.size (fun _ => True) (.slice Ao34 x6_1.length co34) x6_1) ∧ Aside0 (w'.heap[gb125]? = some (.cells #[(.slice A0_0 l0_0.length c0_0), (.slice A0_1 l0_1.length c0_1), (.slice A0_2 l0_2.length c0_2), .int .i64 a0_3] 28 (0, 0))) ∧ Aside0 (w'.heap[gb126]? = some (.cells #[(.slice none 0 0), .int .i64 0, .int .i64 0] 31 (0, 0))) ∧ Aside0 (w'.heap[gb127]? = some (.cells #[(.slice A1 l1.length c1), .int .i64 x128001_2, .int .i64 x128002_1] 31 (0, 0))) ∧ Aside0 (Below w.heap.size w w'))
      case atStart => exact ⟨(0), (0), (by first | rfl | (simp;done) | (simp [*];done)), H', ⟨Nat.le_refl _⟩, ⟨by (with_reducible repeat (first | apply Kd.R_alloc | apply Kd.R_drewN | apply Kd.R_drew));exact HO_6.out⟩, ⟨by (with_reducible repeat first|apply q1_|apply q2_|apply q3_);exact BK125.out⟩, ⟨by (with_reducible repeat first|apply q1_|apply q2_|apply q3_);exact BK126.out⟩, ⟨by (with_reducible repeat first|apply q1_|apply q2_|apply q3_);exact BK127.out⟩, ⟨by repeat (first | (with_reducible first | exact HB.out | apply b1_|apply b2_|apply b3_ | refine below_set ?_ GE125.out | refine below_set ?_ GE126.out | refine below_set ?_ GE127.out) | exact HB.out)⟩⟩
      case round =>
       clear H';(try clear c1);(try clear p1);(try clear q1);(try clear hx1);(try clear c2);(try clear p2);(try clear c3);(try clear c3b0);(try clear c3b1);(try clear p3);(try clear q3);(try clear hx3);(try clear hf3);(try clear c4);(try clear c4b0);(try clear c4b1);(try clear p6);(try clear c8);(try clear c9);(try clear c11);(try clear c13);(try clear p13);(try clear q13);(try clear hx13);(try clear c15);(try clear c15b0);(try clear c16);(try clear c16b0);(try clear c17);(try clear c17b0);(try clear c18);(try clear c18b0);(try clear c19);(try clear c19b0);(try clear c20);(try clear c20b0);(try clear c23);(try clear c24);(try clear c26);(try clear c26b0);(try clear c27);(try clear c27b0);(try clear c28);(try clear c28b0);(try clear c29);(try clear c29b0);(try clear p30);(try clear q30);(try clear hx30);(try clear hf30);(try clear hcz10_0);(try clear hcz10_1);(try clear hcz10_2);(try clear hcz12_0);(try clear hcz12_1);(try clear hcz12_2);(try clear hcz12_3);(try clear hcz25_0);(try clear hcz25_1);(try clear hcz25_2);(try clear hcz25_3);(try clear hfz10_0);(try clear hfz10_1);(try clear hfz10_2);(try clear hfz12_0);(try clear hfz12_1);(try clear hfz12_2);(try clear hfz12_3);(try clear hfz25_0);(try clear hfz25_1);(try clear hfz25_2);(try clear hfz25_3);(try clear hx131_0);(try clear hx132_0);(try clear hx133_0);(try clear hx134_0);(try clear hx135_0);(try clear hx30_0);(try clear p1);(try clear p13);(try clear p131);(try clear p132);(try clear p133);(try clear p134);(try clear p135);(try clear p2);(try clear p30);(try clear p6);(try clear q1);(try clear q13);(try clear q131);(try clear q132);(try clear q133);(try clear q134);(try clear q135);(try clear q30);obtain ⟨x56_2, x128001_2, rfl, HA, HK2, HO_54, BK125, BK126, BK127, HB⟩:=hrel
       cases gk with
       | zero => exact absurd HA.out (by simp [regis_weighed.l2])
       | succ k2 =>
        have H:=HA.out;clear HA;simp only [regis_weighed.l2] at H
        by_cases c35 : x56_2 < (x6_1.length : Int)
        ·rw [if_pos c35] at H;have c35b0 : decide (x56_2 < (x6_1.length : Int)) = true:=decide_eq_true c35;clear c35
         by_cases c36 : 0 ≤ x56_2
         ·rw [if_pos c36] at H;have c36b0 : decide (0 ≤ x56_2) = true:=decide_eq_true c36;clear c36
          by_cases c37 : x56_2 < (x6_1.length : Int)
          ·rw [if_pos c37] at H;have c37b0 : decide (x56_2 < (x6_1.length : Int)) = true:=decide_eq_true c37;clear c37
           by_cases c38 : x56_2 < (l0_0.length : Int)
           ·rw [if_pos c38] at H;have c38b0 : decide (x56_2 < (l0_0.length : Int)) = true:=decide_eq_true c38;clear c38;obtain ⟨ji39, hji39⟩ : ∃ j_ : Int, (mx (wrap64 ((rd x6_1 x56_2) - (rd l0_0 x56_2))) (wrap64 ((rd l0_0 x56_2) - (rd x6_1 x56_2)))) = j_:=⟨_, rfl⟩
            replace H : (regis_weighed.l2 k2 x6_1 (x6_1.length : Int) (wrap64 (x56_2 + 1)) l0_0 l0_1 l0_2 a0_3 l1 (wrap64 (x128001_2 + (ji39))) x128002_1) = some (r1, r2, r3):=by first | (rw [hji39] at H;exact H) | (simp only [hji39] at H ⊢;exact H)
            have hji39_ : (if (wrap64 ((rd x6_1 x56_2) - (rd l0_0 x56_2))) < (wrap64 ((rd l0_0 x56_2) - (rd x6_1 x56_2))) then (wrap64 ((rd l0_0 x56_2) - (rd x6_1 x56_2))) else (wrap64 ((rd x6_1 x56_2) - (rd l0_0 x56_2)))) = ji39:=hji39;have H':=am_ H;clear H;have p137 : 0 ≤ (x56_2 : Int):=of_decide_eq_true (by first | (with_reducible assumption) | assumption);have q137 : x56_2 < (x6_1.length : Int):=of_decide_eq_true (by first | (with_reducible assumption) | assumption);obtain ⟨ad137, e137, hx137_0⟩:=Kd.at_int (Kd.R_reads' HO_54.out).2.2 x56_2 p137 q137
            cases e137
            replace p137:=eq_true p137;replace q137:=eq_true q137
            try go_wp2
            replace HO_54:=rd_ HO_54;replace BK125:=bd_ BK125;replace BK126:=bd_ BK126;replace BK127:=bd_ BK127;replace HB:=wd_ HB;have p138 : 0 ≤ (x56_2 : Int):=of_decide_eq_true (by first | (with_reducible assumption) | assumption);have q138 : x56_2 < (l0_0.length : Int):=of_decide_eq_true (by first | (with_reducible assumption) | assumption);obtain ⟨ad138, e138, hx138_0⟩:=Kd.at_int HR0_0.out x56_2 p138 q138;have hw138_0:=hx138_0
            cases e138
            replace hx138_0:=(HB.out.cell (World.block_lt_of_cell? w _ hx138_0)).trans hx138_0;replace p138:=eq_true p138;replace q138:=eq_true q138;have p139 : 0 ≤ (x56_2 : Int):=of_decide_eq_true (by first | (with_reducible assumption) | assumption);have q139 : x56_2 < (l0_0.length : Int):=of_decide_eq_true (by first | (with_reducible assumption) | assumption);obtain ⟨ad139, e139, hx139_0⟩:=Kd.at_int HR0_0.out x56_2 p139 q139;have hw139_0:=hx139_0;obtain rfl : ad138 = ad139:=(by injection e139)
            replace hx139_0:=(HB.out.cell (World.block_lt_of_cell? w _ hx139_0)).trans hx139_0;replace p139:=eq_true p139;replace q139:=eq_true q139;refine start_ (n:=20) (S:=fun w' => w'.cell? ⟨gb127, 0, none⟩ = some (.slice A1 l1.length c1) ∧ w'.cell? ⟨gb127, 1, none⟩ = some (.int .i64 x128001_2) ∧ w'.cell? ⟨gb127, 2, none⟩ = some (.int .i64 x128002_1) ∧ w'.cell? ⟨gb125, 0, none⟩ = some (.slice (some ad138) l0_0.length c0_0) ∧ w'.cell? ⟨gb125, 1, none⟩ = some (.slice A0_1 l0_1.length c0_1) ∧ w'.cell? ⟨gb125, 2, none⟩ = some (.slice A0_2 l0_2.length c0_2) ∧ w'.cell? ⟨gb125, 3, none⟩ = some (.int .i64 a0_3) ∧ w'.cell? (ad138.add (x56_2).toNat) = some (.int .i64 (rd l0_0 x56_2)) ∧ w'.cell? (ad138.add (x56_2).toNat) = some (.int .i64 (rd l0_0 x56_2))) (ds:=[19]) #[false, false, false, false, false, false, false, false, false, false, false, false, false, false, false, false, false, false, false, false] (by kernel_rfl) rfl rfl ⟨(blk_cell BK127.out 0).trans rfl, (blk_cell BK127.out 1).trans rfl, (blk_cell BK127.out 2).trans rfl, (blk_cell BK125.out 0).trans rfl, (blk_cell BK125.out 1).trans rfl, (blk_cell BK125.out 2).trans rfl, (blk_cell BK125.out 3).trans rfl, ((HB.out.cell (World.block_lt_of_cell? w _ hw138_0)).trans hw138_0), ((HB.out.cell (World.block_lt_of_cell? w _ hw139_0)).trans hw139_0)⟩ (fun hHeld => ?_);refine with_tabW regis_weighed.tab16 regis_weighed.bits16 (fun HT_ HW_ => ?_);generalize wr.drew = w40 at HO_54 BK125 BK126 BK127 HB hx138_0 hx139_0 hHeld ⊢;refine pure_ (i:=0) (N:=some 61) (v:=?_) (a':=?_) #[true, false, false, false, false, false, false, false, false, false, false, false, false, false, false, false, false, false, false, false] rfl rfl (any_of HT_.out (by kernel_rfl)) (fun _ _ _ h => h) (Or.inl ⟨by rfl, ?_⟩) ?_ ?_;rotate_left
            ·intro w';go_simp;(with_reducible rfl)
            rotate_left
            ·simp only [Act.put, st_, s0_, s1_, i64_w, i32_w];rfl
            refine pure_ (i:=2) (N:=some 63) (v:=?_) (a':=?_) #[true, false, true, false, false, false, false, false, false, false, false, false, false, false, false, false, false, false, false, false] rfl rfl (any_of HT_.out (by kernel_rfl)) (fun _ _ _ h => h) (Or.inl ⟨by rfl, ?_⟩) ?_ ?_;rotate_left
            ·intro w';go_simp;(with_reducible rfl)
            rotate_left
            ·simp only [Act.put, st_, s0_, s1_, i64_w, i32_w];rfl
            refine pure_ (i:=3) (N:=some 64) (v:=?_) (a':=?_) #[true, false, true, true, false, false, false, false, false, false, false, false, false, false, false, false, false, false, false, false] rfl rfl (any_of HT_.out (by kernel_rfl)) (fun _ _ _ h => h) (Or.inl ⟨by rfl, ?_⟩) ?_ ?_;rotate_left
            ·intro w';go_simp;(with_reducible rfl)
            rotate_left
            ·simp only [Act.put, st_, s0_, s1_, i64_w, i32_w];rfl
            refine pure_ (i:=5) (N:=some 66) (v:=?_) (a':=?_) #[true, false, true, true, false, true, false, false, false, false, false, false, false, false, false, false, false, false, false, false] rfl rfl (any_of HT_.out (by kernel_rfl)) (fun _ _ _ h => h) (Or.inl ⟨by rfl, ?_⟩) ?_ ?_;rotate_left
            ·intro w';go_simp;(with_reducible rfl)
            rotate_left
            ·simp only [Act.put, st_, s0_, s1_, i64_w, i32_w];rfl
            refine pure_ (i:=9) (N:=some 70) (v:=?_) (a':=?_) #[true, false, true, true, false, true, false, false, false, true, false, false, false, false, false, false, false, false, false, false] rfl rfl (any_of HT_.out (by kernel_rfl)) (fun _ _ _ h => h) (Or.inl ⟨by rfl, ?_⟩) ?_ ?_;rotate_left
            ·intro w';go_simp;(with_reducible rfl)
            rotate_left
            ·simp only [Act.put, st_, s0_, s1_, i64_w, i32_w];rfl
            refine pure_ (i:=11) (N:=some 72) (v:=?_) (a':=?_) #[true, false, true, true, false, true, false, false, false, true, false, true, false, false, false, false, false, false, false, false] rfl rfl (any_of HT_.out (by kernel_rfl)) (fun _ _ _ h => h) (Or.inl ⟨by rfl, ?_⟩) ?_ ?_;rotate_left
            ·intro w';go_simp;(with_reducible rfl)
            rotate_left
            ·simp only [Act.put, st_, s0_, s1_, i64_w, i32_w];rfl
            refine pure_ (i:=14) (N:=some 75) (v:=?_) (a':=?_) #[true, false, true, true, false, true, false, false, false, true, false, true, false, false, true, false, false, false, false, false] rfl rfl (any_of HT_.out (by kernel_rfl)) (fun _ _ _ h => h) (Or.inl ⟨by rfl, ?_⟩) ?_ ?_;rotate_left
            ·intro w';go_simp;(with_reducible rfl)
            rotate_left
            ·simp only [Act.put, st_, s0_, s1_, i64_w, i32_w];rfl
            refine take_ (i:=1) (N:=some 62) (v:=?_) (a':=?_) #[true, true, true, true, false, true, false, false, false, true, false, true, false, false, true, false, false, false, false, false] rfl rfl (take_ofW HT_.out HW_.out (by kernel_rfl)) (fun _ _ _ h => h) (Or.inl ⟨by rfl, ?_⟩) hHeld ?_ ?_;rotate_left
            ·rintro w' ⟨s0, s1, s2, s3, s4, s5, s6, s7, s8⟩;go_simp;(with_reducible rfl)
            rotate_left
            ·simp only [Act.put, st_, s0_, s1_, i64_w, i32_w];rfl
            refine take_ (i:=4) (N:=some 65) (v:=?_) (a':=?_) #[true, true, true, true, true, true, false, false, false, true, false, true, false, false, true, false, false, false, false, false] rfl rfl (take_ofW HT_.out HW_.out (by kernel_rfl)) (fun _ _ _ h => h) (Or.inl ⟨by rfl, ?_⟩) hHeld ?_ ?_;rotate_left
            ·rintro w' ⟨s0, s1, s2, s3, s4, s5, s6, s7, s8⟩;go_simp;(with_reducible rfl)
            rotate_left
            ·simp only [Act.put, st_, s0_, s1_, i64_w, i32_w];rfl
            refine pure_ (i:=6) (N:=some 67) (v:=?_) (a':=?_) #[true, true, true, true, true, true, true, false, false, true, false, true, false, false, true, false, false, false, false, false] rfl rfl (any_of HT_.out (by kernel_rfl)) (fun _ _ _ h => h) (Or.inl ⟨by rfl, ?_⟩) ?_ ?_;rotate_left
            ·intro w';go_simp;(with_reducible rfl)
            rotate_left
            ·simp only [Act.put, st_, s0_, s1_, i64_w, i32_w];rfl
            refine take_ (i:=7) (N:=some 68) (v:=?_) (a':=?_) #[true, true, true, true, true, true, true, true, false, true, false, true, false, false, true, false, false, false, false, false] rfl rfl (take_ofW HT_.out HW_.out (by kernel_rfl)) (fun _ _ _ h => h) (Or.inl ⟨by rfl, ?_⟩) hHeld ?_ ?_;rotate_left
            ·rintro w' ⟨s0, s1, s2, s3, s4, s5, s6, s7, s8⟩;go_simp;(with_reducible rfl)
            rotate_left
            ·simp only [Act.put, st_, s0_, s1_, i64_w, i32_w];rfl
            refine pure_ (i:=8) (N:=some 69) (v:=?_) (a':=?_) #[true, true, true, true, true, true, true, true, true, true, false, true, false, false, true, false, false, false, false, false] rfl rfl (any_of HT_.out (by kernel_rfl)) (fun _ _ _ h => h) (Or.inl ⟨by rfl, ?_⟩) ?_ ?_;rotate_left
            ·intro w';go_simp;(with_reducible rfl)
            rotate_left
            ·simp only [Act.put, st_, s0_, s1_, i64_w, i32_w];rfl
            refine take_ (i:=10) (N:=some 71) (v:=?_) (a':=?_) #[true, true, true, true, true, true, true, true, true, true, true, true, false, false, true, false, false, false, false, false] rfl rfl (take_ofW HT_.out HW_.out (by kernel_rfl)) (fun _ _ _ h => h) (Or.inl ⟨by rfl, ?_⟩) hHeld ?_ ?_;rotate_left
            ·rintro w' ⟨s0, s1, s2, s3, s4, s5, s6, s7, s8⟩;go_simp;(with_reducible rfl)
            rotate_left
            ·simp only [Act.put, st_, s0_, s1_, i64_w, i32_w];rfl
            refine pure_ (i:=12) (N:=some 73) (v:=?_) (a':=?_) #[true, true, true, true, true, true, true, true, true, true, true, true, true, false, true, false, false, false, false, false] rfl rfl (any_of HT_.out (by kernel_rfl)) (fun _ _ _ h => h) (Or.inl ⟨by rfl, ?_⟩) ?_ ?_;rotate_left
            ·intro w';go_simp;(with_reducible rfl)
            rotate_left
            ·simp only [Act.put, st_, s0_, s1_, i64_w, i32_w];rfl
            refine take_ (i:=13) (N:=some 74) (v:=?_) (a':=?_) #[true, true, true, true, true, true, true, true, true, true, true, true, true, true, true, false, false, false, false, false] rfl rfl (take_ofW HT_.out HW_.out (by kernel_rfl)) (fun _ _ _ h => h) (Or.inl ⟨by rfl, ?_⟩) hHeld ?_ ?_;rotate_left
            ·rintro w' ⟨s0, s1, s2, s3, s4, s5, s6, s7, s8⟩;go_simp;(with_reducible rfl)
            rotate_left
            ·simp only [Act.put, st_, s0_, s1_, i64_w, i32_w];rfl
            refine pure_ (i:=15) (N:=some 76) (v:=?_) (a':=?_) #[true, true, true, true, true, true, true, true, true, true, true, true, true, true, true, true, false, false, false, false] rfl rfl (any_of HT_.out (by kernel_rfl)) (fun _ _ _ h => h) (Or.inl ⟨by rfl, ?_⟩) ?_ ?_;rotate_left
            ·intro w';go_simp;(with_reducible rfl)
            rotate_left
            ·simp only [Act.put, st_, s0_, s1_, i64_w, i32_w];rfl
            refine pure_ (i:=16) (N:=some 77) (v:=?_) (a':=?_) #[true, true, true, true, true, true, true, true, true, true, true, true, true, true, true, true, true, false, false, false] rfl rfl (any_of HT_.out (by kernel_rfl)) (fun _ _ _ h => h) (Or.inl ⟨by rfl, ?_⟩) ?_ ?_;rotate_left
            ·intro w';go_simp;(with_reducible rfl)
            rotate_left
            ·simp only [Act.put, st_, s0_, s1_, i64_w, i32_w];rfl
            refine pure_ (i:=17) (N:=some 78) (v:=?_) (a':=?_) #[true, true, true, true, true, true, true, true, true, true, true, true, true, true, true, true, true, true, false, false] rfl rfl (any_of HT_.out (by kernel_rfl)) (fun _ _ _ h => h) (Or.inl ⟨by rfl, ?_⟩) ?_ ?_;rotate_left
            ·intro w';go_simp;(with_reducible rfl)
            rotate_left
            ·simp only [Act.put, st_, s0_, s1_, i64_w, i32_w];rfl
            refine pure_ (i:=18) (N:=some 79) (v:=?_) (a':=?_) #[true, true, true, true, true, true, true, true, true, true, true, true, true, true, true, true, true, true, true, false] rfl rfl (any_of HT_.out (by kernel_rfl)) (fun _ _ _ h => h) (Or.inl ⟨by rfl, ?_⟩) ?_ ?_;rotate_left
            ·intro w';go_simp;(with_reducible rfl)
            rotate_left
            ·simp only [Act.put, st_, s0_, s1_, i64_w, i32_w];rfl
            refine last_ (i:=19) (N:=none) #[true, true, true, true, true, true, true, true, true, true, true, true, true, true, true, true, true, true, true, true] rfl rfl (one_of HT_.out (by kernel_rfl)) (by decide) (fun K hK => ?_);have hs41 : w40.cell? ⟨gb127, 1, none⟩ = some (.int .i64 x128001_2):=(blk_cell BK127.out 1).trans rfl;have hfs41:=blk_frozen BK127.out 1;have hns41_0:=NB125_127.out;have hns41_1:=NB126_127.out;have hms41_0:=NB127_125.out;have hms41_1:=NB127_126.out;refine skip_ (w1:=?_) (by rfl) rfl ?_ ?_;rotate_left
            ·go_simp;rfl
            refine hK.out _ _ ?_;clear hK K;refine done_ (done_of HT_.out (by kernel_rfl)) ?_
            try go_wp2
            go_roundg k2
            case measure => have:=HK1.out;have:=HK2.out;omega
            case rel => exact ⟨(wrap64 (x56_2 + 1)), (wrap64 (x128001_2 + (ji39))), (by first | rfl | (simp;done) | (simp [*];done)), H', ⟨by have:=HK1.out;have:=HK2.out;omega⟩, ⟨by (with_reducible repeat (first | apply Kd.R_alloc | apply Kd.R_drewN | apply Kd.R_drew));exact Kd.R_mono (Kd.R_far (p:=⟨gb127, 1, none⟩) (Kd.R_types HO_54.out BK127.out (by decide)) (fun _ hk => hk.2) (.int .i64 (wrap64 (x128001_2 + (ji39))))) (fun _ hk => trivial)⟩, ⟨by (with_reducible repeat first|apply q1_|apply q2_|apply q3_);refine blk_far ?_ NB125_127.out _;(with_reducible repeat first|apply q1_|apply q2_|apply q3_);exact BK125.out⟩, ⟨by (with_reducible repeat first|apply q1_|apply q2_|apply q3_);refine blk_far ?_ NB126_127.out _;(with_reducible repeat first|apply q1_|apply q2_|apply q3_);exact BK126.out⟩, ⟨by (with_reducible repeat first|apply q1_|apply q2_|apply q3_);refine blk_put (cs:=#[.slice A1 l1.length c1, .int .i64 x128001_2, .int .i64 x128002_1]) ?_ 1 _ rfl;(with_reducible repeat first|apply q1_|apply q2_|apply q3_);exact BK127.out⟩, ⟨by repeat (first | (with_reducible first | exact HB.out | apply b1_|apply b2_|apply b3_ | refine below_set ?_ GE125.out | refine below_set ?_ GE126.out | refine below_set ?_ GE127.out) | exact HB.out)⟩⟩
           ·rw [if_neg c38] at H;exact absurd H (by simp)
          ·rw [if_neg c37] at H;exact absurd H (by simp)
         ·rw [if_neg c36] at H;exact absurd H (by simp)
        ·rw [if_neg c35] at H;have c35b0 : decide (x56_2 < (x6_1.length : Int)) = false:=decide_eq_false c35;clear c35;simp only [Option.some.injEq, Prod.mk.injEq] at H;obtain ⟨rfl, rfl, rfl⟩:=H;have hnb42:=NB127_125.out;have hnc42:=NB125_127.out;have hnb43:=NB127_126.out;have hnc43:=NB126_127.out;obtain ⟨hcz44_0, hcz44_1, hcz44_2⟩:=c3_ BK127.out;obtain ⟨hfz44_0, hfz44_1, hfz44_2⟩:=z3_ BK127.out;have hnb45:=NB126_125.out;have hnc45:=NB125_126.out;obtain ⟨hcz46_0, hcz46_1, hcz46_2⟩:=c3_ BK126.out;obtain ⟨hfz46_0, hfz46_1, hfz46_2⟩:=z3_ BK126.out
         go_wp2
         refine bodyPost_ret (results_cell_row rfl _ _ gb126 31 #[.slice A1 l1.length c1, .int .i64 x128001_2, .int .i64 x128002_1] (0, 0) _ rfl (by (with_reducible repeat first|apply q1_|apply q2_|apply q3_);refine blk_put (cs:=#[.slice A1 l1.length c1, .int .i64 x128001_2, .int .i64 0]) ?_ 2 _ rfl;(with_reducible repeat first|apply q1_|apply q2_|apply q3_);refine blk_put (cs:=#[.slice A1 l1.length c1, .int .i64 0, .int .i64 0]) ?_ 1 _ rfl;(with_reducible repeat first|apply q1_|apply q2_|apply q3_);refine blk_put (cs:=#[.slice none 0 0, .int .i64 0, .int .i64 0]) ?_ 0 _ rfl;(with_reducible repeat first|apply q1_|apply q2_|apply q3_);exact BK126.out) Tryd.underlying31 rfl (by kernel_rfl)) rfl ?_;exact ⟨by first | rfl | (simp [errW_none, errW_some] <;> rfl) | (simp [*, errW_none, errW_some] <;> rfl), by repeat (first | (with_reducible first | exact HB.out | apply b1_|apply b2_|apply b3_ | refine below_set ?_ GE125.out | refine below_set ?_ GE126.out | refine below_set ?_ GE127.out) | exact HB.out)⟩
  ·rw [if_neg c4] at H;exact absurd H (by simp)
 ·rw [if_neg c3] at H;exact absurd H (by simp)

end Go.Proofs.YtfcidgnbocijdaaDoor.PCertMakes
