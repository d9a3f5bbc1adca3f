-- Written by a program of this session (the kit's print, turned: wip/px).
import Derived.Test.YtfcidgnbocijdaaDoorPCertMakesx0
import Derived.Test.YtfcidgnbocijdaaDoorPCertMakesx12
import Derived.Test.YtfcidgnbocijdaaDoorSq2
namespace Go.Proofs.YtfcidgnbocijdaaDoor.PCertMakes
open Go.Proofs.YtfcidgnbocijdaaDoor.Sq
open Go.RowKit Go.Proofs.YtfcidgnbocijdaaDoorW.PrintWords Go.Proofs.YtfcidgnbocijdaaDoorW.PrintLast Go.Proofs.YtfcidgnbocijdaaDoorW.PrintMore
attribute [local go_sem] max2_int min2_int max_two min_two max_three min_three max_four min_four   -- for this text's walks alone
set_option linter.unusedVariables false
set_option linter.unusedSimpArgs false

/-! ### diapasonref27_Shut: function 59 -/
def diapasonref27_Shut.f (k : Nat) (l0_0 : List Int) (l0_1 : List (List Int)) (l0_2 : List Int) (a0_3 : Int) (a1 : Int) (l2_0 : List Int) (a2_1 : Int) : Option (Bool) := (diapasonref26_Settled.f k l0_0 l0_1 l0_2 a0_3 l2_0).bind fun t229 => (if t229 = true then ((diapasonref26_Least.f k l0_0 l0_1 l0_2 a0_3 l2_0).bind fun t230 => (if a2_1 = t230 then ((diapasonref27_takes.f k l0_0 l0_1 l0_2 a0_3 l2_0).bind fun t231 => (if t231 > a0_3 then (some true) else (some (decide (a2_1 ≥ a1))))) else (some false))) else (some false))
theorem diapasonref27_Shut.mono : ∀ a0 a1 a2 a3 a4 a5 a6 k, LeO (diapasonref27_Shut.f k a0 a1 a2 a3 a4 a5 a6) (diapasonref27_Shut.f (k + 1) a0 a1 a2 a3 a4 a5 a6) := by
 intro a0 a1 a2 a3 a4 a5 a6 k
 unfold diapasonref27_Shut.f
 repeat' first
   | (with_reducible exact diapasonref26_Least.mono _ _ _ _ _ _)
   | (with_reducible exact diapasonref26_Settled.mono _ _ _ _ _ _)
   | (with_reducible exact diapasonref27_takes.mono _ _ _ _ _ _)
   | (with_reducible exact LeO.refl _)
   | (with_reducible exact LeO.none _)
   | (with_reducible refine LeO.ite ?_ ?_)
   | (with_reducible refine LeO.bind ?_ (fun _ => ?_))
   | exact diapasonref26_Least.mono _ _ _ _ _ _
   | exact diapasonref26_Settled.mono _ _ _ _ _ _
   | exact diapasonref27_takes.mono _ _ _ _ _ _
   | exact LeO.none _
   | refine LeO.ite ?_ ?_
   | refine LeO.bind ?_ (fun _ => ?_)
def diapasonref27_Shut.T1 : Bool × List (List Nat × List Nat) := (true, [([], []), ([], []), ([1], [1]), ([0, 2], [0, 2]), ([3], [3]), ([4, 3], [4]), ([5], [5]), ([6, 5], [5, 6]), ([5], [5]), ([5], [5]), ([9, 5], [5, 9]), ([8, 10, 5, 5], [5, 8, 10]), ([7, 11, 5], [5, 7, 11]), ([5, 12], [5, 12])])
def diapasonref27_Shut.B1 : List Nat := [0, 0, 2, 7, 15, 31, 63, 127, 63, 63, 575, 1855, 4095, 8191]
theorem diapasonref27_Shut.tab1 : rtab .any (opsOf Tryd.f59 1) = diapasonref27_Shut.T1 := by kernel_rfl
theorem diapasonref27_Shut.bits1 : waitsOk diapasonref27_Shut.T1.2 diapasonref27_Shut.B1 = true := by kernel_rfl
def diapasonref27_Shut.T3 : Bool × List (List Nat × List Nat) := (true, [([], []), ([], []), ([1], [1]), ([0, 2], [0, 2]), ([], []), ([4], [4]), ([3, 5], [3, 5]), ([6, 3], [6]), ([7], [7]), ([8, 7], [7, 8]), ([7], [7]), ([9, 10, 7], [7, 9, 10]), ([7, 11], [7, 11]), ([12, 7, 0, 1, 2, 3, 4, 5, 6, 7, 8, 9, 10, 11, 12], [12])])
def diapasonref27_Shut.B3 : List Nat := [0, 0, 2, 7, 0, 16, 63, 127, 255, 511, 255, 2047, 4095, 8191]
theorem diapasonref27_Shut.tab3 : rtab .any (opsOf Tryd.f59 3) = diapasonref27_Shut.T3 := by kernel_rfl
theorem diapasonref27_Shut.bits3 : waitsOk diapasonref27_Shut.T3.2 diapasonref27_Shut.B3 = true := by kernel_rfl
set_option maxHeartbeats 8000000 in
set_option maxRecDepth 100000 in
theorem diapasonref27_Shut.calls (k : Nat) (A0_0 : Option Addr) (c0_0 : Nat) (l0_0 : List Int) (A0_1 : Option Addr) (c0_1 : Nat) (l0_1 : List (List Int)) (A0_2 : Option Addr) (c0_2 : Nat) (l0_2 : List Int) (a0_3 : Int) (a1 : Int) (A2_0 : Option Addr) (c2_0 : Nat) (l2_0 : List Int) (a2_1 : Int) (r : Bool) (w : World) (hr0_0 : Kd.C (Kd.int .i64) w A0_0 l0_0.length l0_0) (hc0_0 : l0_0.length ≤ c0_0) (hr0_1 : Kd.C (Kd.slice 3 (Kd.int .i64)) w A0_1 l0_1.length l0_1) (hc0_1 : l0_1.length ≤ c0_1) (hr0_2 : Kd.C (Kd.int .i64) w A0_2 l0_2.length l0_2) (hc0_2 : l0_2.length ≤ c0_2) (hr2_0 : Kd.C (Kd.int .u8) w A2_0 l2_0.length l2_0) (hc2_0 : l2_0.length ≤ c2_0) (h : diapasonref27_Shut.f k l0_0 l0_1 l0_2 a0_3 a1 l2_0 a2_1 = some r) :
  Calls Tryd.prog 59 #[.agg #[.slice A0_0 l0_0.length c0_0, .slice A0_1 l0_1.length c0_1, .slice A0_2 l0_2.length c0_2, .int .i64 a0_3], .int .i64 a1, .agg #[.slice A2_0 l2_0.length c2_0, .int .i64 a2_1]] w fun e w' => e = .returned (.bool r) ∧ Below w.heap.size w w':=by
 have hu28:=Tryd.underlying28;have hu66:=Tryd.underlying66;have HR0_0:=am_ hr0_0;have HC0_0:=am_ hc0_0;clear hr0_0 hc0_0;have HR0_1:=am_ hr0_1;have HC0_1:=am_ hc0_1;clear hr0_1 hc0_1;have HR0_2:=am_ hr0_2;have HC0_2:=am_ hc0_2;clear hr0_2 hc0_2;have HR2_0:=am_ hr2_0;have HC2_0:=am_ hc2_0;clear hr2_0 hc2_0;have HB:=am_ (Below.refl w.heap.size w);have H : ((diapasonref26_Settled.f k l0_0 l0_1 l0_2 a0_3 l2_0).bind fun t229 => (if t229 = true then ((diapasonref26_Least.f k l0_0 l0_1 l0_2 a0_3 l2_0).bind fun t230 => (if a2_1 = t230 then ((diapasonref27_takes.f k l0_0 l0_1 l0_2 a0_3 l2_0).bind fun t231 => (if t231 > a0_3 then (some true) else (some (decide (a2_1 ≥ a1))))) else (some false))) else (some false))) = some r:=h;clear h;replace H:=Option.bind_eq_some_iff.mp H;obtain ⟨t229, A40, H⟩:=H;replace H : (if t229 = true then ((diapasonref26_Least.f k l0_0 l0_1 l0_2 a0_3 l2_0).bind fun t230 => (if a2_1 = t230 then ((diapasonref27_takes.f k l0_0 l0_1 l0_2 a0_3 l2_0).bind fun t231 => (if t231 > a0_3 then (some true) else (some (decide (a2_1 ≥ a1))))) else (some false))) else (some false)) = some r:=H;have A4:=am_ A40;clear A40
 by_cases c5 : t229 = true
 ·subst c5;have H1 : ((diapasonref26_Least.f k l0_0 l0_1 l0_2 a0_3 l2_0).bind fun t230 => (if a2_1 = t230 then ((diapasonref27_takes.f k l0_0 l0_1 l0_2 a0_3 l2_0).bind fun t231 => (if t231 > a0_3 then (some true) else (some (decide (a2_1 ≥ a1))))) else (some false))) = some r:=by rw [if_pos rfl] at H;exact H
  clear H;have H:=H1;clear H1;replace H:=Option.bind_eq_some_iff.mp H;obtain ⟨t230, A60, H⟩:=H;replace H : (if a2_1 = t230 then ((diapasonref27_takes.f k l0_0 l0_1 l0_2 a0_3 l2_0).bind fun t231 => (if t231 > a0_3 then (some true) else (some (decide (a2_1 ≥ a1))))) else (some false)) = some r:=H;have A6:=am_ A60;clear A60
  by_cases c7 : a2_1 = t230
  ·rw [if_pos c7] at H;have c7b0 : (a2_1 == t230) = true:=beq_iff_eq.mpr c7;have c7b1 : (a2_1 != t230) = false:=bne_eq_false_iff_eq.mpr c7;clear c7;replace H:=Option.bind_eq_some_iff.mp H;obtain ⟨t231, A80, H⟩:=H;replace H : (if t231 > a0_3 then (some true) else (some (decide (a2_1 ≥ a1)))) = some r:=H;have A8:=am_ A80;clear A80
   by_cases c9 : t231 > a0_3
   ·rw [if_pos c9] at H;have c9b0 : decide (a0_3 < t231) = true:=decide_eq_true c9;clear c9;obtain rfl:=Option.some.inj H;go_enter Tryd.func59, Tryd.ntmps59
    try go_wp2_with (first | ((with_reducible refine gate_dst (N:=3) rfl ?_);refine box_event ?hg (N:=3) ?hd (cs:=#[.slice A0_0 l0_0.length c0_0, .slice A0_1 l0_1.length c0_1, .slice A0_2 l0_2.length c0_2, .int .i64 a0_3]) (t:=28) ?hr ?_;(case hd => rfl);(case hg => rfl);(case hr => first | (go_simp;done) | (go_simp;rfl));intro gb227 hg w10 hbox hb;have BK227:=am_ hbox;have GW227:=gz_ hg HB;have GE227:=gz_ hg HB;replace HB:=bs_ HB hb;clear hb hbox hg) | ((with_reducible refine gate_dst (N:=5) rfl ?_);refine box_event ?hg (N:=5) ?hd (cs:=#[.slice A2_0 l2_0.length c2_0, .int .i64 a2_1]) (t:=66) ?hr ?_;(case hd => rfl);(case hg => rfl);(case hr => first | (go_simp;done) | (go_simp;rfl));intro gb228 hg w11 hbox hb;have BK228:=am_ hbox;have GW228:=gz_ hg HB;have GE228:=gz_ hg HB;replace HB:=am_ (below_step (by repeat (first | (with_reducible first | exact HB.out | apply b1_|apply b2_|apply b3_ | refine below_set ?_ GE227.out) | exact HB.out)) hb);have NB227_228:=nl_ hg BK227;have NB228_227:=ng_ hg BK227;replace BK227:=bb_ BK227 hb;clear hb hbox hg))
    replace BK227:=bd_ BK227;replace BK228:=bd_ BK228;replace HB:=wd_ HB;refine start_ (n:=14) (S:=fun w' => w'.cell? ⟨gb227, 0, none⟩ = some (.slice A0_0 l0_0.length c0_0) ∧ w'.cell? ⟨gb227, 1, none⟩ = some (.slice A0_1 l0_1.length c0_1) ∧ w'.cell? ⟨gb227, 2, none⟩ = some (.slice A0_2 l0_2.length c0_2) ∧ w'.cell? ⟨gb227, 3, none⟩ = some (.int .i64 a0_3) ∧ w'.cell? ⟨gb228, 0, none⟩ = some (.slice A2_0 l2_0.length c2_0) ∧ w'.cell? ⟨gb228, 1, none⟩ = some (.int .i64 a2_1)) (ds:=[]) #[false, false, false, false, false, false, false, false, false, false, false, false, false, false] (by kernel_rfl) rfl rfl ⟨(blk_cell BK227.out 0).trans rfl, (blk_cell BK227.out 1).trans rfl, (blk_cell BK227.out 2).trans rfl, (blk_cell BK227.out 3).trans rfl, (blk_cell BK228.out 0).trans rfl, (blk_cell BK228.out 1).trans rfl⟩ (fun hHeld => ?_);refine with_tabW diapasonref27_Shut.tab1 diapasonref27_Shut.bits1 (fun HT_ HW_ => ?_);generalize w11.drew = w12 at BK227 BK228 HB hHeld ⊢;refine pure_ (i:=1) (N:=some 8) (v:=?_) (a':=?_) #[false, true, false, false, false, false, false, false, false, false, false, false, false, false] rfl rfl (any_of HT_.out (by kernel_rfl)) (fun _ _ _ h => h) (Or.inl ⟨by rfl, ?_⟩) ?_ ?_;rotate_left
    ·intro w';go_simp;(with_reducible rfl)
    rotate_left
    ·simp only [Act.put, st_, s0_, s1_, i64_w, i32_w];rfl
    refine take_ (i:=0) (N:=some 7) (v:=?_) (a':=?_) #[true, true, false, false, false, false, false, false, false, false, false, false, false, false] rfl rfl (take_ofW HT_.out HW_.out (by kernel_rfl)) (fun _ _ _ h => h) (Or.inl ⟨by rfl, ?_⟩) hHeld ?_ ?_;rotate_left
    ·rintro w' ⟨s0, s1, s2, s3, s4, s5⟩;go_simp;(with_reducible rfl)
    rotate_left
    ·simp only [Act.put, st_, s0_, s1_, i64_w, i32_w];rfl
    refine take_ (i:=2) (N:=some 9) (v:=?_) (a':=?_) #[true, true, true, false, false, false, false, false, false, false, false, false, false, false] rfl rfl (take_ofW HT_.out HW_.out (by kernel_rfl)) (fun _ _ _ h => h) (Or.inl ⟨by rfl, ?_⟩) hHeld ?_ ?_;rotate_left
    ·rintro w' ⟨s0, s1, s2, s3, s4, s5⟩;go_simp;(with_reducible rfl)
    rotate_left
    ·simp only [Act.put, st_, s0_, s1_, i64_w, i32_w];rfl
    refine one_ (i:=3) (N:=some 10) #[true, true, true, true, false, false, false, false, false, false, false, false, false, false] rfl rfl (one_of HT_.out (by kernel_rfl)) (by decide) (fun K hK => ?_);refine goes_ Tryd.func82 (by kernel_rfl) rfl #[.agg #[.slice A0_0 l0_0.length c0_0, .slice A0_1 l0_1.length c0_1, .slice A0_2 l0_2.length c0_2, .int .i64 a0_3], .slice A2_0 l2_0.length c2_0] (by rfl) rfl rfl (by (try simp only [List.map_toArray, List.map_cons, List.map_nil]);first|done|rfl|(simp only [List.length_drop, List.length_take];rfl)) ?_;(with_reducible refine (diapasonref26_Settled.calls k _ _ l0_0 _ _ l0_1 _ _ l0_2 a0_3 _ _ l2_0 true _ ?side1 ?side2 ?side3 ?side4 ?side5 ?side6 ?side7 ?side8 A4.out).mono ?_);(case side1 => exact cb_ HR0_0 HB);(case side2 => exact HC0_0.out);(case side3 => exact cb_ HR0_1 HB);(case side4 => exact HC0_1.out);(case side5 => exact cb_ HR0_2 HB);(case side6 => exact HC0_2.out);(case side7 => exact cb_ HR2_0 HB);(case side8 => exact HC2_0.out);rintro e w13 ⟨rfl, hb⟩;refine ⟨_, rfl, ?_⟩;replace BK227:=bb_ BK227 hb;replace BK228:=bb_ BK228 hb;replace HB:=am_ (below_step (by repeat (first | (with_reducible first | exact HB.out | apply b1_|apply b2_|apply b3_ | refine below_set ?_ GE227.out | refine below_set ?_ GE228.out) | exact HB.out)) hb);(try clear hb);(try clear hb2);(try clear hk);(try clear hi);refine hK.out _ _ ⟨(blk_cell BK227.out 0).trans rfl, (blk_cell BK227.out 1).trans rfl, (blk_cell BK227.out 2).trans rfl, (blk_cell BK227.out 3).trans rfl, (blk_cell BK228.out 0).trans rfl, (blk_cell BK228.out 1).trans rfl⟩ (fun hHeld => ?_);clear hK K;refine norm_ (a':=?_) ?_ ?_;rotate_left
    ·show Act.put _ (some 10) _ = _;simp only [Act.put, st_, s0_, s1_, i64_w, i32_w];rfl
    refine pure_ (i:=4) (N:=some 11) (v:=?_) (a':=?_) #[true, true, true, true, true, false, false, false, false, false, false, false, false, false] rfl rfl (any_of HT_.out (by kernel_rfl)) (fun _ _ _ h => h) (Or.inl ⟨by rfl, ?_⟩) ?_ ?_;rotate_left
    ·intro w';go_simp;(with_reducible rfl)
    rotate_left
    ·simp only [Act.put, st_, s0_, s1_, i64_w, i32_w];rfl
    refine pure_ (i:=5) (N:=some 12) (v:=?_) (a':=?_) #[true, true, true, true, true, true, false, false, false, false, false, false, false, false] rfl rfl (any_of HT_.out (by kernel_rfl)) (fun _ _ _ h => h) (Or.inl ⟨by rfl, ?_⟩) ?_ ?_;rotate_left
    ·intro w';go_simp;(with_reducible rfl)
    rotate_left
    ·simp only [Act.put, st_, s0_, s1_, i64_w, i32_w];rfl
    refine pure_ (i:=6) (N:=some 13) (v:=?_) (a':=?_) #[true, true, true, true, true, true, true, false, false, false, false, false, false, false] rfl rfl (any_of HT_.out (by kernel_rfl)) (fun _ _ _ h => h) (Or.inl ⟨by rfl, ?_⟩) ?_ ?_;rotate_left
    ·intro w';go_simp;(with_reducible rfl)
    rotate_left
    ·simp only [Act.put, st_, s0_, s1_, i64_w, i32_w];rfl
    refine pure_ (i:=9) (N:=some 16) (v:=?_) (a':=?_) #[true, true, true, true, true, true, true, false, false, true, false, false, false, false] rfl rfl (any_of HT_.out (by kernel_rfl)) (fun _ _ _ h => h) (Or.inl ⟨by rfl, ?_⟩) ?_ ?_;rotate_left
    ·intro w';go_simp;(with_reducible rfl)
    rotate_left
    ·simp only [Act.put, st_, s0_, s1_, i64_w, i32_w];rfl
    refine take_ (i:=7) (N:=some 14) (v:=?_) (a':=?_) #[true, true, true, true, true, true, true, true, false, true, false, false, false, false] rfl rfl (take_ofW HT_.out HW_.out (by kernel_rfl)) (fun _ _ _ h => h) (Or.inl ⟨by rfl, ?_⟩) hHeld ?_ ?_;rotate_left
    ·rintro w' ⟨s0, s1, s2, s3, s4, s5⟩;go_simp;(with_reducible rfl)
    rotate_left
    ·simp only [Act.put, st_, s0_, s1_, i64_w, i32_w];rfl
    refine take_ (i:=8) (N:=some 15) (v:=?_) (a':=?_) #[true, true, true, true, true, true, true, true, true, true, false, false, false, false] rfl rfl (take_ofW HT_.out HW_.out (by kernel_rfl)) (fun _ _ _ h => h) (Or.inl ⟨by rfl, ?_⟩) hHeld ?_ ?_;rotate_left
    ·rintro w' ⟨s0, s1, s2, s3, s4, s5⟩;go_simp;(with_reducible rfl)
    rotate_left
    ·simp only [Act.put, st_, s0_, s1_, i64_w, i32_w];rfl
    refine take_ (i:=10) (N:=some 17) (v:=?_) (a':=?_) #[true, true, true, true, true, true, true, true, true, true, true, false, false, false] rfl rfl (take_ofW HT_.out HW_.out (by kernel_rfl)) (fun _ _ _ h => h) (Or.inl ⟨by rfl, ?_⟩) hHeld ?_ ?_;rotate_left
    ·rintro w' ⟨s0, s1, s2, s3, s4, s5⟩;go_simp;(with_reducible rfl)
    rotate_left
    ·simp only [Act.put, st_, s0_, s1_, i64_w, i32_w];rfl
    refine one_ (i:=11) (N:=some 18) #[true, true, true, true, true, true, true, true, true, true, true, true, false, false] rfl rfl (one_of HT_.out (by kernel_rfl)) (by decide) (fun K hK => ?_);refine goes_ Tryd.func76 (by kernel_rfl) rfl #[.agg #[.slice A0_0 l0_0.length c0_0, .slice A0_1 l0_1.length c0_1, .slice A0_2 l0_2.length c0_2, .int .i64 a0_3], .slice A2_0 l2_0.length c2_0] (by rfl) rfl rfl (by (try simp only [List.map_toArray, List.map_cons, List.map_nil]);first|done|rfl|(simp only [List.length_drop, List.length_take];rfl)) ?_;(with_reducible refine (diapasonref26_Least.calls k _ _ l0_0 _ _ l0_1 _ _ l0_2 a0_3 _ _ l2_0 t230 _ ?side1 ?side2 ?side3 ?side4 ?side5 ?side6 ?side7 ?side8 A6.out).mono ?_);(case side1 => exact cb_ HR0_0 HB);(case side2 => exact HC0_0.out);(case side3 => exact cb_ HR0_1 HB);(case side4 => exact HC0_1.out);(case side5 => exact cb_ HR0_2 HB);(case side6 => exact HC0_2.out);(case side7 => exact cb_ HR2_0 HB);(case side8 => exact HC2_0.out);rintro e w14 ⟨rfl, hb⟩;refine ⟨_, rfl, ?_⟩;replace BK227:=bb_ BK227 hb;replace BK228:=bb_ BK228 hb;replace HB:=am_ (below_step (by repeat (first | (with_reducible first | exact HB.out | apply b1_|apply b2_|apply b3_ | refine below_set ?_ GE227.out | refine below_set ?_ GE228.out) | exact HB.out)) hb);(try clear hb);(try clear hb2);(try clear hk);(try clear hi);refine hK.out _ _ ⟨(blk_cell BK227.out 0).trans rfl, (blk_cell BK227.out 1).trans rfl, (blk_cell BK227.out 2).trans rfl, (blk_cell BK227.out 3).trans rfl, (blk_cell BK228.out 0).trans rfl, (blk_cell BK228.out 1).trans rfl⟩ (fun hHeld => ?_);clear hK K;refine norm_ (a':=?_) ?_ ?_;rotate_left
    ·show Act.put _ (some 18) _ = _;simp only [Act.put, st_, s0_, s1_, i64_w, i32_w];rfl
    refine pure_ (i:=12) (N:=some 19) (v:=?_) (a':=?_) #[true, true, true, true, true, true, true, true, true, true, true, true, true, false] rfl rfl (any_of HT_.out (by kernel_rfl)) (fun _ _ _ h => h) (Or.inl ⟨by rfl, ?_⟩) ?_ ?_;rotate_left
    ·intro w';go_simp;(with_reducible rfl)
    rotate_left
    ·simp only [Act.put, st_, s0_, s1_, i64_w, i32_w];rfl
    refine pure_ (i:=13) (N:=some 20) (v:=?_) (a':=?_) #[true, true, true, true, true, true, true, true, true, true, true, true, true, true] rfl rfl (any_of HT_.out (by kernel_rfl)) (fun _ _ _ h => h) (Or.inl ⟨by rfl, ?_⟩) ?_ ?_;rotate_left
    ·intro w';go_simp;(with_reducible rfl)
    rotate_left
    ·simp only [Act.put, st_, s0_, s1_, i64_w, i32_w];rfl
    refine done_ (done_of HT_.out (by kernel_rfl)) ?_
    try go_wp2
    replace BK227:=bd_ BK227;replace BK228:=bd_ BK228;replace HB:=wd_ HB;refine start_ (n:=14) (S:=fun w' => w'.cell? ⟨gb227, 0, none⟩ = some (.slice A0_0 l0_0.length c0_0) ∧ w'.cell? ⟨gb227, 1, none⟩ = some (.slice A0_1 l0_1.length c0_1) ∧ w'.cell? ⟨gb227, 2, none⟩ = some (.slice A0_2 l0_2.length c0_2) ∧ w'.cell? ⟨gb227, 3, none⟩ = some (.int .i64 a0_3) ∧ w'.cell? ⟨gb228, 0, none⟩ = some (.slice A2_0 l2_0.length c2_0) ∧ w'.cell? ⟨gb228, 1, none⟩ = some (.int .i64 a2_1)) (ds:=[]) #[false, false, false, false, false, false, false, false, false, false, false, false, false, false] (by kernel_rfl) rfl rfl ⟨(blk_cell BK227.out 0).trans rfl, (blk_cell BK227.out 1).trans rfl, (blk_cell BK227.out 2).trans rfl, (blk_cell BK227.out 3).trans rfl, (blk_cell BK228.out 0).trans rfl, (blk_cell BK228.out 1).trans rfl⟩ (fun hHeld => ?_);refine with_tabW diapasonref27_Shut.tab3 diapasonref27_Shut.bits3 (fun HT_ HW_ => ?_);generalize w14.drew = w15 at BK227 BK228 HB hHeld ⊢;refine pure_ (i:=1) (N:=some 22) (v:=?_) (a':=?_) #[false, true, false, false, false, false, false, false, false, false, false, false, false, false] rfl rfl (any_of HT_.out (by kernel_rfl)) (fun _ _ _ h => h) (Or.inl ⟨by rfl, ?_⟩) ?_ ?_;rotate_left
    ·intro w';go_simp;(with_reducible rfl)
    rotate_left
    ·simp only [Act.put, st_, s0_, s1_, i64_w, i32_w];rfl
    refine pure_ (i:=4) (N:=some 25) (v:=?_) (a':=?_) #[false, true, false, false, true, false, false, false, false, false, false, false, false, false] rfl rfl (any_of HT_.out (by kernel_rfl)) (fun _ _ _ h => h) (Or.inl ⟨by rfl, ?_⟩) ?_ ?_;rotate_left
    ·intro w';go_simp;(with_reducible rfl)
    rotate_left
    ·simp only [Act.put, st_, s0_, s1_, i64_w, i32_w];rfl
    refine take_ (i:=0) (N:=some 21) (v:=?_) (a':=?_) #[true, true, false, false, true, false, false, false, false, false, false, false, false, false] rfl rfl (take_ofW HT_.out HW_.out (by kernel_rfl)) (fun _ _ _ h => h) (Or.inl ⟨by rfl, ?_⟩) hHeld ?_ ?_;rotate_left
    ·rintro w' ⟨s0, s1, s2, s3, s4, s5⟩;go_simp;(with_reducible rfl)
    rotate_left
    ·simp only [Act.put, st_, s0_, s1_, i64_w, i32_w];rfl
    refine take_ (i:=2) (N:=some 23) (v:=?_) (a':=?_) #[true, true, true, false, true, false, false, false, false, false, false, false, false, false] rfl rfl (take_ofW HT_.out HW_.out (by kernel_rfl)) (fun _ _ _ h => h) (Or.inl ⟨by rfl, ?_⟩) hHeld ?_ ?_;rotate_left
    ·rintro w' ⟨s0, s1, s2, s3, s4, s5⟩;go_simp;(with_reducible rfl)
    rotate_left
    ·simp only [Act.put, st_, s0_, s1_, i64_w, i32_w];rfl
    refine take_ (i:=5) (N:=some 26) (v:=?_) (a':=?_) #[true, true, true, false, true, true, false, false, false, false, false, false, false, false] rfl rfl (take_ofW HT_.out HW_.out (by kernel_rfl)) (fun _ _ _ h => h) (Or.inl ⟨by rfl, ?_⟩) hHeld ?_ ?_;rotate_left
    ·rintro w' ⟨s0, s1, s2, s3, s4, s5⟩;go_simp;(with_reducible rfl)
    rotate_left
    ·simp only [Act.put, st_, s0_, s1_, i64_w, i32_w];rfl
    refine one_ (i:=3) (N:=some 24) #[true, true, true, true, true, true, false, false, false, false, false, false, false, false] rfl rfl (one_of HT_.out (by kernel_rfl)) (by decide) (fun K hK => ?_);refine goes_ Tryd.func83 (by kernel_rfl) rfl #[.agg #[.slice A0_0 l0_0.length c0_0, .slice A0_1 l0_1.length c0_1, .slice A0_2 l0_2.length c0_2, .int .i64 a0_3], .slice A2_0 l2_0.length c2_0] (by rfl) rfl rfl (by (try simp only [List.map_toArray, List.map_cons, List.map_nil]);first|done|rfl|(simp only [List.length_drop, List.length_take];rfl)) ?_;(with_reducible refine (diapasonref27_takes.calls k _ _ l0_0 _ _ l0_1 _ _ l0_2 a0_3 _ _ l2_0 t231 _ ?side1 ?side2 ?side3 ?side4 ?side5 ?side6 ?side7 ?side8 A8.out).mono ?_);(case side1 => exact cb_ HR0_0 HB);(case side2 => exact HC0_0.out);(case side3 => exact cb_ HR0_1 HB);(case side4 => exact HC0_1.out);(case side5 => exact cb_ HR0_2 HB);(case side6 => exact HC0_2.out);(case side7 => exact cb_ HR2_0 HB);(case side8 => exact HC2_0.out);rintro e w16 ⟨rfl, hb⟩;refine ⟨_, rfl, ?_⟩;replace BK227:=bb_ BK227 hb;replace BK228:=bb_ BK228 hb;replace HB:=am_ (below_step (by repeat (first | (with_reducible first | exact HB.out | apply b1_|apply b2_|apply b3_ | refine below_set ?_ GE227.out | refine below_set ?_ GE228.out) | exact HB.out)) hb);(try clear hb);(try clear hb2);(try clear hk);(try clear hi);refine hK.out _ _ ⟨(blk_cell BK227.out 0).trans rfl, (blk_cell BK227.out 1).trans rfl, (blk_cell BK227.out 2).trans rfl, (blk_cell BK227.out 3).trans rfl, (blk_cell BK228.out 0).trans rfl, (blk_cell BK228.out 1).trans rfl⟩ (fun hHeld => ?_);clear hK K;refine norm_ (a':=?_) ?_ ?_;rotate_left
    ·show Act.put _ (some 24) _ = _;simp only [Act.put, st_, s0_, s1_, i64_w, i32_w];rfl
    refine pure_ (i:=6) (N:=some 27) (v:=?_) (a':=?_) #[true, true, true, true, true, true, true, false, false, false, false, false, false, false] rfl rfl (any_of HT_.out (by kernel_rfl)) (fun _ _ _ h => h) (Or.inl ⟨by rfl, ?_⟩) ?_ ?_;rotate_left
    ·intro w';go_simp;(with_reducible rfl)
    rotate_left
    ·simp only [Act.put, st_, s0_, s1_, i64_w, i32_w];rfl
    refine pure_ (i:=7) (N:=some 28) (v:=?_) (a':=?_) #[true, true, true, true, true, true, true, true, false, false, false, false, false, false] rfl rfl (any_of HT_.out (by kernel_rfl)) (fun _ _ _ h => h) (Or.inl ⟨by rfl, ?_⟩) ?_ ?_;rotate_left
    ·intro w';go_simp;(with_reducible rfl)
    rotate_left
    ·simp only [Act.put, st_, s0_, s1_, i64_w, i32_w];rfl
    refine pure_ (i:=8) (N:=some 29) (v:=undef) (a':=?_) #[true, true, true, true, true, true, true, true, true, false, false, false, false, false] rfl rfl (any_of HT_.out (by kernel_rfl)) (fun _ _ _ h => h) (Or.inr ⟨by rfl, rfl⟩) ?_ ?_;rotate_left
    ·simp only [Act.put, st_, s0_, s1_, i64_w, i32_w];rfl
    refine pure_ (i:=9) (N:=some 30) (v:=undef) (a':=?_) #[true, true, true, true, true, true, true, true, true, true, false, false, false, false] rfl rfl (any_of HT_.out (by kernel_rfl)) (fun _ _ _ h => h) (Or.inr ⟨by rfl, rfl⟩) ?_ ?_;rotate_left
    ·simp only [Act.put, st_, s0_, s1_, i64_w, i32_w];rfl
    refine pure_ (i:=10) (N:=some 31) (v:=undef) (a':=?_) #[true, true, true, true, true, true, true, true, true, true, true, false, false, false] rfl rfl (any_of HT_.out (by kernel_rfl)) (fun _ _ _ h => h) (Or.inr ⟨by rfl, rfl⟩) ?_ ?_;rotate_left
    ·simp only [Act.put, st_, s0_, s1_, i64_w, i32_w];rfl
    refine pure_ (i:=11) (N:=some 32) (v:=undef) (a':=?_) #[true, true, true, true, true, true, true, true, true, true, true, true, false, false] rfl rfl (any_of HT_.out (by kernel_rfl)) (fun _ _ _ h => h) (Or.inr ⟨by rfl, rfl⟩) ?_ ?_;rotate_left
    ·simp only [Act.put, st_, s0_, s1_, i64_w, i32_w];rfl
    refine pure_ (i:=12) (N:=some 33) (v:=?_) (a':=?_) #[true, true, true, true, true, true, true, true, true, true, true, true, true, false] rfl rfl (any_of HT_.out (by kernel_rfl)) (fun _ _ _ h => h) (Or.inl ⟨by rfl, ?_⟩) ?_ ?_;rotate_left
    ·intro w';go_simp;(with_reducible rfl)
    rotate_left
    ·simp only [Act.put, st_, s0_, s1_, i64_w, i32_w];rfl
    refine pure_ (i:=13) (N:=some 6) (v:=?_) (a':=?_) #[true, true, true, true, true, true, true, true, true, true, true, true, true, true] rfl rfl (any_of HT_.out (by kernel_rfl)) (fun _ _ _ h => h) (Or.inl ⟨by rfl, ?_⟩) ?_ ?_;rotate_left
    ·intro w';go_simp;(with_reducible rfl)
    rotate_left
    ·simp only [Act.put, st_, s0_, s1_, i64_w, i32_w];rfl
    refine done_ (done_of HT_.out (by kernel_rfl)) ?_
    try go_wp2
    go_ret
    exact ⟨by first | rfl | (simp [errW_none, errW_some] <;> rfl) | (simp [*, errW_none, errW_some] <;> rfl), by repeat (first | (with_reducible first | exact HB.out | apply b1_|apply b2_|apply b3_ | refine below_set ?_ GE227.out | refine below_set ?_ GE228.out) | exact HB.out)⟩
   ·rw [if_neg c9] at H;have c9b0 : decide (a0_3 < t231) = false:=decide_eq_false c9;clear c9;obtain rfl:=Option.some.inj H;go_enter Tryd.func59, Tryd.ntmps59
    try go_wp2_with (first | ((with_reducible refine gate_dst (N:=3) rfl ?_);refine box_event ?hg (N:=3) ?hd (cs:=#[.slice A0_0 l0_0.length c0_0, .slice A0_1 l0_1.length c0_1, .slice A0_2 l0_2.length c0_2, .int .i64 a0_3]) (t:=28) ?hr ?_;(case hd => rfl);(case hg => rfl);(case hr => first | (go_simp;done) | (go_simp;rfl));intro gb227 hg w17 hbox hb;have BK227:=am_ hbox;have GW227:=gz_ hg HB;have GE227:=gz_ hg HB;replace HB:=bs_ HB hb;clear hb hbox hg) | ((with_reducible refine gate_dst (N:=5) rfl ?_);refine box_event ?hg (N:=5) ?hd (cs:=#[.slice A2_0 l2_0.length c2_0, .int .i64 a2_1]) (t:=66) ?hr ?_;(case hd => rfl);(case hg => rfl);(case hr => first | (go_simp;done) | (go_simp;rfl));intro gb228 hg w18 hbox hb;have BK228:=am_ hbox;have GW228:=gz_ hg HB;have GE228:=gz_ hg HB;replace HB:=am_ (below_step (by repeat (first | (with_reducible first | exact HB.out | apply b1_|apply b2_|apply b3_ | refine below_set ?_ GE227.out) | exact HB.out)) hb);have NB227_228:=nl_ hg BK227;have NB228_227:=ng_ hg BK227;replace BK227:=bb_ BK227 hb;clear hb hbox hg))
    replace BK227:=bd_ BK227;replace BK228:=bd_ BK228;replace HB:=wd_ HB;refine start_ (n:=14) (S:=fun w' => w'.cell? ⟨gb227, 0, none⟩ = some (.slice A0_0 l0_0.length c0_0) ∧ w'.cell? ⟨gb227, 1, none⟩ = some (.slice A0_1 l0_1.length c0_1) ∧ w'.cell? ⟨gb227, 2, none⟩ = some (.slice A0_2 l0_2.length c0_2) ∧ w'.cell? ⟨gb227, 3, none⟩ = some (.int .i64 a0_3) ∧ w'.cell? ⟨gb228, 0, none⟩ = some (.slice A2_0 l2_0.length c2_0) ∧ w'.cell? ⟨gb228, 1, none⟩ = some (.int .i64 a2_1)) (ds:=[]) #[false, false, false, false, false, false, false, false, false, false, false, false, false, false] (by kernel_rfl) rfl rfl ⟨(blk_cell BK227.out 0).trans rfl, (blk_cell BK227.out 1).trans rfl, (blk_cell BK227.out 2).trans rfl, (blk_cell BK227.out 3).trans rfl, (blk_cell BK228.out 0).trans rfl, (blk_cell BK228.out 1).trans rfl⟩ (fun hHeld => ?_);refine with_tabW diapasonref27_Shut.tab1 diapasonref27_Shut.bits1 (fun HT_ HW_ => ?_);generalize w18.drew = w19 at BK227 BK228 HB hHeld ⊢;refine pure_ (i:=1) (N:=some 8) (v:=?_) (a':=?_) #[false, true, false, false, false, false, false, false, false, false, false, false, false, false] rfl rfl (any_of HT_.out (by kernel_rfl)) (fun _ _ _ h => h) (Or.inl ⟨by rfl, ?_⟩) ?_ ?_;rotate_left
    ·intro w';go_simp;(with_reducible rfl)
    rotate_left
    ·simp only [Act.put, st_, s0_, s1_, i64_w, i32_w];rfl
    refine take_ (i:=0) (N:=some 7) (v:=?_) (a':=?_) #[true, true, false, false, false, false, false, false, false, false, false, false, false, false] rfl rfl (take_ofW HT_.out HW_.out (by kernel_rfl)) (fun _ _ _ h => h) (Or.inl ⟨by rfl, ?_⟩) hHeld ?_ ?_;rotate_left
    ·rintro w' ⟨s0, s1, s2, s3, s4, s5⟩;go_simp;(with_reducible rfl)
    rotate_left
    ·simp only [Act.put, st_, s0_, s1_, i64_w, i32_w];rfl
    refine take_ (i:=2) (N:=some 9) (v:=?_) (a':=?_) #[true, true, true, false, false, false, false, false, false, false, false, false, false, false] rfl rfl (take_ofW HT_.out HW_.out (by kernel_rfl)) (fun _ _ _ h => h) (Or.inl ⟨by rfl, ?_⟩) hHeld ?_ ?_;rotate_left
    ·rintro w' ⟨s0, s1, s2, s3, s4, s5⟩;go_simp;(with_reducible rfl)
    rotate_left
    ·simp only [Act.put, st_, s0_, s1_, i64_w, i32_w];rfl
    refine one_ (i:=3) (N:=some 10) #[true, true, true, true, false, false, false, false, false, false, false, false, false, false] rfl rfl (one_of HT_.out (by kernel_rfl)) (by decide) (fun K hK => ?_);refine goes_ Tryd.func82 (by kernel_rfl) rfl #[.agg #[.slice A0_0 l0_0.length c0_0, .slice A0_1 l0_1.length c0_1, .slice A0_2 l0_2.length c0_2, .int .i64 a0_3], .slice A2_0 l2_0.length c2_0] (by rfl) rfl rfl (by (try simp only [List.map_toArray, List.map_cons, List.map_nil]);first|done|rfl|(simp only [List.length_drop, List.length_take];rfl)) ?_;(with_reducible refine (diapasonref26_Settled.calls k _ _ l0_0 _ _ l0_1 _ _ l0_2 a0_3 _ _ l2_0 true _ ?side1 ?side2 ?side3 ?side4 ?side5 ?side6 ?side7 ?side8 A4.out).mono ?_);(case side1 => exact cb_ HR0_0 HB);(case side2 => exact HC0_0.out);(case side3 => exact cb_ HR0_1 HB);(case side4 => exact HC0_1.out);(case side5 => exact cb_ HR0_2 HB);(case side6 => exact HC0_2.out);(case side7 => exact cb_ HR2_0 HB);(case side8 => exact HC2_0.out);rintro e w20 ⟨rfl, hb⟩;refine ⟨_, rfl, ?_⟩;replace BK227:=bb_ BK227 hb;replace BK228:=bb_ BK228 hb;replace HB:=am_ (below_step (by repeat (first | (with_reducible first | exact HB.out | apply b1_|apply b2_|apply b3_ | refine below_set ?_ GE227.out | refine below_set ?_ GE228.out) | exact HB.out)) hb);(try clear hb);(try clear hb2);(try clear hk);(try clear hi);refine hK.out _ _ ⟨(blk_cell BK227.out 0).trans rfl, (blk_cell BK227.out 1).trans rfl, (blk_cell BK227.out 2).trans rfl, (blk_cell BK227.out 3).trans rfl, (blk_cell BK228.out 0).trans rfl, (blk_cell BK228.out 1).trans rfl⟩ (fun hHeld => ?_);clear hK K;refine norm_ (a':=?_) ?_ ?_;rotate_left
    ·show Act.put _ (some 10) _ = _;simp only [Act.put, st_, s0_, s1_, i64_w, i32_w];rfl
    refine pure_ (i:=4) (N:=some 11) (v:=?_) (a':=?_) #[true, true, true, true, true, false, false, false, false, false, false, false, false, false] rfl rfl (any_of HT_.out (by kernel_rfl)) (fun _ _ _ h => h) (Or.inl ⟨by rfl, ?_⟩) ?_ ?_;rotate_left
    ·intro w';go_simp;(with_reducible rfl)
    rotate_left
    ·simp only [Act.put, st_, s0_, s1_, i64_w, i32_w];rfl
    refine pure_ (i:=5) (N:=some 12) (v:=?_) (a':=?_) #[true, true, true, true, true, true, false, false, false, false, false, false, false, false] rfl rfl (any_of HT_.out (by kernel_rfl)) (fun _ _ _ h => h) (Or.inl ⟨by rfl, ?_⟩) ?_ ?_;rotate_left
    ·intro w';go_simp;(with_reducible rfl)
    rotate_left
    ·simp only [Act.put, st_, s0_, s1_, i64_w, i32_w];rfl
    refine pure_ (i:=6) (N:=some 13) (v:=?_) (a':=?_) #[true, true, true, true, true, true, true, false, false, false, false, false, false, false] rfl rfl (any_of HT_.out (by kernel_rfl)) (fun _ _ _ h => h) (Or.inl ⟨by rfl, ?_⟩) ?_ ?_;rotate_left
    ·intro w';go_simp;(with_reducible rfl)
    rotate_left
    ·simp only [Act.put, st_, s0_, s1_, i64_w, i32_w];rfl
    refine pure_ (i:=9) (N:=some 16) (v:=?_) (a':=?_) #[true, true, true, true, true, true, true, false, false, true, false, false, false, false] rfl rfl (any_of HT_.out (by kernel_rfl)) (fun _ _ _ h => h) (Or.inl ⟨by rfl, ?_⟩) ?_ ?_;rotate_left
    ·intro w';go_simp;(with_reducible rfl)
    rotate_left
    ·simp only [Act.put, st_, s0_, s1_, i64_w, i32_w];rfl
    refine take_ (i:=7) (N:=some 14) (v:=?_) (a':=?_) #[true, true, true, true, true, true, true, true, false, true, false, false, false, false] rfl rfl (take_ofW HT_.out HW_.out (by kernel_rfl)) (fun _ _ _ h => h) (Or.inl ⟨by rfl, ?_⟩) hHeld ?_ ?_;rotate_left
    ·rintro w' ⟨s0, s1, s2, s3, s4, s5⟩;go_simp;(with_reducible rfl)
    rotate_left
    ·simp only [Act.put, st_, s0_, s1_, i64_w, i32_w];rfl
    refine take_ (i:=8) (N:=some 15) (v:=?_) (a':=?_) #[true, true, true, true, true, true, true, true, true, true, false, false, false, false] rfl rfl (take_ofW HT_.out HW_.out (by kernel_rfl)) (fun _ _ _ h => h) (Or.inl ⟨by rfl, ?_⟩) hHeld ?_ ?_;rotate_left
    ·rintro w' ⟨s0, s1, s2, s3, s4, s5⟩;go_simp;(with_reducible rfl)
    rotate_left
    ·simp only [Act.put, st_, s0_, s1_, i64_w, i32_w];rfl
    refine take_ (i:=10) (N:=some 17) (v:=?_) (a':=?_) #[true, true, true, true, true, true, true, true, true, true, true, false, false, false] rfl rfl (take_ofW HT_.out HW_.out (by kernel_rfl)) (fun _ _ _ h => h) (Or.inl ⟨by rfl, ?_⟩) hHeld ?_ ?_;rotate_left
    ·rintro w' ⟨s0, s1, s2, s3, s4, s5⟩;go_simp;(with_reducible rfl)
    rotate_left
    ·simp only [Act.put, st_, s0_, s1_, i64_w, i32_w];rfl
    refine one_ (i:=11) (N:=some 18) #[true, true, true, true, true, true, true, true, true, true, true, true, false, false] rfl rfl (one_of HT_.out (by kernel_rfl)) (by decide) (fun K hK => ?_);refine goes_ Tryd.func76 (by kernel_rfl) rfl #[.agg #[.slice A0_0 l0_0.length c0_0, .slice A0_1 l0_1.length c0_1, .slice A0_2 l0_2.length c0_2, .int .i64 a0_3], .slice A2_0 l2_0.length c2_0] (by rfl) rfl rfl (by (try simp only [List.map_toArray, List.map_cons, List.map_nil]);first|done|rfl|(simp only [List.length_drop, List.length_take];rfl)) ?_;(with_reducible refine (diapasonref26_Least.calls k _ _ l0_0 _ _ l0_1 _ _ l0_2 a0_3 _ _ l2_0 t230 _ ?side1 ?side2 ?side3 ?side4 ?side5 ?side6 ?side7 ?side8 A6.out).mono ?_);(case side1 => exact cb_ HR0_0 HB);(case side2 => exact HC0_0.out);(case side3 => exact cb_ HR0_1 HB);(case side4 => exact HC0_1.out);(case side5 => exact cb_ HR0_2 HB);(case side6 => exact HC0_2.out);(case side7 => exact cb_ HR2_0 HB);(case side8 => exact HC2_0.out);rintro e w21 ⟨rfl, hb⟩;refine ⟨_, rfl, ?_⟩;replace BK227:=bb_ BK227 hb;replace BK228:=bb_ BK228 hb;replace HB:=am_ (below_step (by repeat (first | (with_reducible first | exact HB.out | apply b1_|apply b2_|apply b3_ | refine below_set ?_ GE227.out | refine below_set ?_ GE228.out) | exact HB.out)) hb);(try clear hb);(try clear hb2);(try clear hk);(try clear hi);refine hK.out _ _ ⟨(blk_cell BK227.out 0).trans rfl, (blk_cell BK227.out 1).trans rfl, (blk_cell BK227.out 2).trans rfl, (blk_cell BK227.out 3).trans rfl, (blk_cell BK228.out 0).trans rfl, (blk_cell BK228.out 1).trans rfl⟩ (fun hHeld => ?_);clear hK K;refine norm_ (a':=?_) ?_ ?_;rotate_left
    ·show Act.put _ (some 18) _ = _;simp only [Act.put, st_, s0_, s1_, i64_w, i32_w];rfl
    refine pure_ (i:=12) (N:=some 19) (v:=?_) (a':=?_) #[true, true, true, true, true, true, true, true, true, true, true, true, true, false] rfl rfl (any_of HT_.out (by kernel_rfl)) (fun _ _ _ h => h) (Or.inl ⟨by rfl, ?_⟩) ?_ ?_;rotate_left
    ·intro w';go_simp;(with_reducible rfl)
    rotate_left
    ·simp only [Act.put, st_, s0_, s1_, i64_w, i32_w];rfl
    refine pure_ (i:=13) (N:=some 20) (v:=?_) (a':=?_) #[true, true, true, true, true, true, true, true, true, true, true, true, true, true] rfl rfl (any_of HT_.out (by kernel_rfl)) (fun _ _ _ h => h) (Or.inl ⟨by rfl, ?_⟩) ?_ ?_;rotate_left
    ·intro w';go_simp;(with_reducible rfl)
    rotate_left
    ·simp only [Act.put, st_, s0_, s1_, i64_w, i32_w];rfl
    refine done_ (done_of HT_.out (by kernel_rfl)) ?_
    try go_wp2
    replace BK227:=bd_ BK227;replace BK228:=bd_ BK228;replace HB:=wd_ HB;refine start_ (n:=14) (S:=fun w' => w'.cell? ⟨gb227, 0, none⟩ = some (.slice A0_0 l0_0.length c0_0) ∧ w'.cell? ⟨gb227, 1, none⟩ = some (.slice A0_1 l0_1.length c0_1) ∧ w'.cell? ⟨gb227, 2, none⟩ = some (.slice A0_2 l0_2.length c0_2) ∧ w'.cell? ⟨gb227, 3, none⟩ = some (.int .i64 a0_3) ∧ w'.cell? ⟨gb228, 0, none⟩ = some (.slice A2_0 l2_0.length c2_0) ∧ w'.cell? ⟨gb228, 1, none⟩ = some (.int .i64 a2_1)) (ds:=[]) #[false, false, false, false, false, false, false, false, false, false, false, false, false, false] (by kernel_rfl) rfl rfl ⟨(blk_cell BK227.out 0).trans rfl, (blk_cell BK227.out 1).trans rfl, (blk_cell BK227.out 2).trans rfl, (blk_cell BK227.out 3).trans rfl, (blk_cell BK228.out 0).trans rfl, (blk_cell BK228.out 1).trans rfl⟩ (fun hHeld => ?_);refine with_tabW diapasonref27_Shut.tab3 diapasonref27_Shut.bits3 (fun HT_ HW_ => ?_);generalize w21.drew = w22 at BK227 BK228 HB hHeld ⊢;refine pure_ (i:=1) (N:=some 22) (v:=?_) (a':=?_) #[false, true, false, false, false, false, false, false, false, false, false, false, false, false] rfl rfl (any_of HT_.out (by kernel_rfl)) (fun _ _ _ h => h) (Or.inl ⟨by rfl, ?_⟩) ?_ ?_;rotate_left
    ·intro w';go_simp;(with_reducible rfl)
    rotate_left
    ·simp only [Act.put, st_, s0_, s1_, i64_w, i32_w];rfl
    refine pure_ (i:=4) (N:=some 25) (v:=?_) (a':=?_) #[false, true, false, false, true, false, false, false, false, false, false, false, false, false] rfl rfl (any_of HT_.out (by kernel_rfl)) (fun _ _ _ h => h) (Or.inl ⟨by rfl, ?_⟩) ?_ ?_;rotate_left
    ·intro w';go_simp;(with_reducible rfl)
    rotate_left
    ·simp only [Act.put, st_, s0_, s1_, i64_w, i32_w];rfl
    refine take_ (i:=0) (N:=some 21) (v:=?_) (a':=?_) #[true, true, false, false, true, false, false, false, false, false, false, false, false, false] rfl rfl (take_ofW HT_.out HW_.out (by kernel_rfl)) (fun _ _ _ h => h) (Or.inl ⟨by rfl, ?_⟩) hHeld ?_ ?_;rotate_left
    ·rintro w' ⟨s0, s1, s2, s3, s4, s5⟩;go_simp;(with_reducible rfl)
    rotate_left
    ·simp only [Act.put, st_, s0_, s1_, i64_w, i32_w];rfl
    refine take_ (i:=2) (N:=some 23) (v:=?_) (a':=?_) #[true, true, true, false, true, false, false, false, false, false, false, false, false, false] rfl rfl (take_ofW HT_.out HW_.out (by kernel_rfl)) (fun _ _ _ h => h) (Or.inl ⟨by rfl, ?_⟩) hHeld ?_ ?_;rotate_left
    ·rintro w' ⟨s0, s1, s2, s3, s4, s5⟩;go_simp;(with_reducible rfl)
    rotate_left
    ·simp only [Act.put, st_, s0_, s1_, i64_w, i32_w];rfl
    refine take_ (i:=5) (N:=some 26) (v:=?_) (a':=?_) #[true, true, true, false, true, true, false, false, false, false, false, false, false, false] rfl rfl (take_ofW HT_.out HW_.out (by kernel_rfl)) (fun _ _ _ h => h) (Or.inl ⟨by rfl, ?_⟩) hHeld ?_ ?_;rotate_left
    ·rintro w' ⟨s0, s1, s2, s3, s4, s5⟩;go_simp;(with_reducible rfl)
    rotate_left
    ·simp only [Act.put, st_, s0_, s1_, i64_w, i32_w];rfl
    refine one_ (i:=3) (N:=some 24) #[true, true, true, true, true, true, false, false, false, false, false, false, false, false] rfl rfl (one_of HT_.out (by kernel_rfl)) (by decide) (fun K hK => ?_);refine goes_ Tryd.func83 (by kernel_rfl) rfl #[.agg #[.slice A0_0 l0_0.length c0_0, .slice A0_1 l0_1.length c0_1, .slice A0_2 l0_2.length c0_2, .int .i64 a0_3], .slice A2_0 l2_0.length c2_0] (by rfl) rfl rfl (by (try simp only [List.map_toArray, List.map_cons, List.map_nil]);first|done|rfl|(simp only [List.length_drop, List.length_take];rfl)) ?_;(with_reducible refine (diapasonref27_takes.calls k _ _ l0_0 _ _ l0_1 _ _ l0_2 a0_3 _ _ l2_0 t231 _ ?side1 ?side2 ?side3 ?side4 ?side5 ?side6 ?side7 ?side8 A8.out).mono ?_);(case side1 => exact cb_ HR0_0 HB);(case side2 => exact HC0_0.out);(case side3 => exact cb_ HR0_1 HB);(case side4 => exact HC0_1.out);(case side5 => exact cb_ HR0_2 HB);(case side6 => exact HC0_2.out);(case side7 => exact cb_ HR2_0 HB);(case side8 => exact HC2_0.out);rintro e w23 ⟨rfl, hb⟩;refine ⟨_, rfl, ?_⟩;replace BK227:=bb_ BK227 hb;replace BK228:=bb_ BK228 hb;replace HB:=am_ (below_step (by repeat (first | (with_reducible first | exact HB.out | apply b1_|apply b2_|apply b3_ | refine below_set ?_ GE227.out | refine below_set ?_ GE228.out) | exact HB.out)) hb);(try clear hb);(try clear hb2);(try clear hk);(try clear hi);refine hK.out _ _ ⟨(blk_cell BK227.out 0).trans rfl, (blk_cell BK227.out 1).trans rfl, (blk_cell BK227.out 2).trans rfl, (blk_cell BK227.out 3).trans rfl, (blk_cell BK228.out 0).trans rfl, (blk_cell BK228.out 1).trans rfl⟩ (fun hHeld => ?_);clear hK K;refine norm_ (a':=?_) ?_ ?_;rotate_left
    ·show Act.put _ (some 24) _ = _;simp only [Act.put, st_, s0_, s1_, i64_w, i32_w];rfl
    refine pure_ (i:=6) (N:=some 27) (v:=?_) (a':=?_) #[true, true, true, true, true, true, true, false, false, false, false, false, false, false] rfl rfl (any_of HT_.out (by kernel_rfl)) (fun _ _ _ h => h) (Or.inl ⟨by rfl, ?_⟩) ?_ ?_;rotate_left
    ·intro w';go_simp;(with_reducible rfl)
    rotate_left
    ·simp only [Act.put, st_, s0_, s1_, i64_w, i32_w];rfl
    refine pure_ (i:=7) (N:=some 28) (v:=?_) (a':=?_) #[true, true, true, true, true, true, true, true, false, false, false, false, false, false] rfl rfl (any_of HT_.out (by kernel_rfl)) (fun _ _ _ h => h) (Or.inl ⟨by rfl, ?_⟩) ?_ ?_;rotate_left
    ·intro w';go_simp;(with_reducible rfl)
    rotate_left
    ·simp only [Act.put, st_, s0_, s1_, i64_w, i32_w];rfl
    refine pure_ (i:=8) (N:=some 29) (v:=?_) (a':=?_) #[true, true, true, true, true, true, true, true, true, false, false, false, false, false] rfl rfl (any_of HT_.out (by kernel_rfl)) (fun _ _ _ h => h) (Or.inl ⟨by rfl, ?_⟩) ?_ ?_;rotate_left
    ·intro w';go_simp;(with_reducible rfl)
    rotate_left
    ·simp only [Act.put, st_, s0_, s1_, i64_w, i32_w];rfl
    refine pure_ (i:=10) (N:=some 31) (v:=?_) (a':=?_) #[true, true, true, true, true, true, true, true, true, false, true, false, false, false] rfl rfl (any_of HT_.out (by kernel_rfl)) (fun _ _ _ h => h) (Or.inl ⟨by rfl, ?_⟩) ?_ ?_;rotate_left
    ·intro w';go_simp;(with_reducible rfl)
    rotate_left
    ·simp only [Act.put, st_, s0_, s1_, i64_w, i32_w];rfl
    refine take_ (i:=9) (N:=some 30) (v:=?_) (a':=?_) #[true, true, true, true, true, true, true, true, true, true, true, false, false, false] rfl rfl (take_ofW HT_.out HW_.out (by kernel_rfl)) (fun _ _ _ h => h) (Or.inl ⟨by rfl, ?_⟩) hHeld ?_ ?_;rotate_left
    ·rintro w' ⟨s0, s1, s2, s3, s4, s5⟩;go_simp;(with_reducible rfl)
    rotate_left
    ·simp only [Act.put, st_, s0_, s1_, i64_w, i32_w];rfl
    refine pure_ (i:=11) (N:=some 32) (v:=?_) (a':=?_) #[true, true, true, true, true, true, true, true, true, true, true, true, false, false] rfl rfl (any_of HT_.out (by kernel_rfl)) (fun _ _ _ h => h) (Or.inl ⟨by rfl, ?_⟩) ?_ ?_;rotate_left
    ·intro w';go_simp;(with_reducible rfl)
    rotate_left
    ·simp only [Act.put, st_, s0_, s1_, i64_w, i32_w];rfl
    refine pure_ (i:=12) (N:=some 33) (v:=?_) (a':=?_) #[true, true, true, true, true, true, true, true, true, true, true, true, true, false] rfl rfl (any_of HT_.out (by kernel_rfl)) (fun _ _ _ h => h) (Or.inl ⟨by rfl, ?_⟩) ?_ ?_;rotate_left
    ·intro w';go_simp;(with_reducible rfl)
    rotate_left
    ·simp only [Act.put, st_, s0_, s1_, i64_w, i32_w];rfl
    refine pure_ (i:=13) (N:=some 6) (v:=?_) (a':=?_) #[true, true, true, true, true, true, true, true, true, true, true, true, true, true] rfl rfl (any_of HT_.out (by kernel_rfl)) (fun _ _ _ h => h) (Or.inl ⟨by rfl, ?_⟩) ?_ ?_;rotate_left
    ·intro w';go_simp;(with_reducible rfl)
    rotate_left
    ·simp only [Act.put, st_, s0_, s1_, i64_w, i32_w];rfl
    refine done_ (done_of HT_.out (by kernel_rfl)) ?_
    try go_wp2
    go_ret
    exact ⟨by first | rfl | (simp [errW_none, errW_some] <;> rfl) | (simp [*, errW_none, errW_some] <;> rfl), by repeat (first | (with_reducible first | exact HB.out | apply b1_|apply b2_|apply b3_ | refine below_set ?_ GE227.out | refine below_set ?_ GE228.out) | exact HB.out)⟩
  ·rw [if_neg c7] at H;have c7b0 : (a2_1 == t230) = false:=beq_eq_false_iff_ne.mpr c7;have c7b1 : (a2_1 != t230) = true:=bne_iff_ne.mpr c7;obtain rfl:=Option.some.inj H;go_enter Tryd.func59, Tryd.ntmps59
   try go_wp2_with (first | ((with_reducible refine gate_dst (N:=3) rfl ?_);refine box_event ?hg (N:=3) ?hd (cs:=#[.slice A0_0 l0_0.length c0_0, .slice A0_1 l0_1.length c0_1, .slice A0_2 l0_2.length c0_2, .int .i64 a0_3]) (t:=28) ?hr ?_;(case hd => rfl);(case hg => rfl);(case hr => first | (go_simp;done) | (go_simp;rfl));intro gb227 hg w24 hbox hb;have BK227:=am_ hbox;have GW227:=gz_ hg HB;have GE227:=gz_ hg HB;replace HB:=bs_ HB hb;clear hb hbox hg) | ((with_reducible refine gate_dst (N:=5) rfl ?_);refine box_event ?hg (N:=5) ?hd (cs:=#[.slice A2_0 l2_0.length c2_0, .int .i64 a2_1]) (t:=66) ?hr ?_;(case hd => rfl);(case hg => rfl);(case hr => first | (go_simp;done) | (go_simp;rfl));intro gb228 hg w25 hbox hb;have BK228:=am_ hbox;have GW228:=gz_ hg HB;have GE228:=gz_ hg HB;replace HB:=am_ (below_step (by repeat (first | (with_reducible first | exact HB.out | apply b1_|apply b2_|apply b3_ | refine below_set ?_ GE227.out) | exact HB.out)) hb);have NB227_228:=nl_ hg BK227;have NB228_227:=ng_ hg BK227;replace BK227:=bb_ BK227 hb;clear hb hbox hg))
   replace BK227:=bd_ BK227;replace BK228:=bd_ BK228;replace HB:=wd_ HB;refine start_ (n:=14) (S:=fun w' => w'.cell? ⟨gb227, 0, none⟩ = some (.slice A0_0 l0_0.length c0_0) ∧ w'.cell? ⟨gb227, 1, none⟩ = some (.slice A0_1 l0_1.length c0_1) ∧ w'.cell? ⟨gb227, 2, none⟩ = some (.slice A0_2 l0_2.length c0_2) ∧ w'.cell? ⟨gb227, 3, none⟩ = some (.int .i64 a0_3) ∧ w'.cell? ⟨gb228, 0, none⟩ = some (.slice A2_0 l2_0.length c2_0) ∧ w'.cell? ⟨gb228, 1, none⟩ = some (.int .i64 a2_1)) (ds:=[]) #[false, false, false, false, false, false, false, false, false, false, false, false, false, false] (by kernel_rfl) rfl rfl ⟨(blk_cell BK227.out 0).trans rfl, (blk_cell BK227.out 1).trans rfl, (blk_cell BK227.out 2).trans rfl, (blk_cell BK227.out 3).trans rfl, (blk_cell BK228.out 0).trans rfl, (blk_cell BK228.out 1).trans rfl⟩ (fun hHeld => ?_);refine with_tabW diapasonref27_Shut.tab1 diapasonref27_Shut.bits1 (fun HT_ HW_ => ?_);generalize w25.drew = w26 at BK227 BK228 HB hHeld ⊢;refine pure_ (i:=1) (N:=some 8) (v:=?_) (a':=?_) #[false, true, false, false, false, false, false, false, false, false, false, false, false, false] rfl rfl (any_of HT_.out (by kernel_rfl)) (fun _ _ _ h => h) (Or.inl ⟨by rfl, ?_⟩) ?_ ?_;rotate_left
   ·intro w';go_simp;(with_reducible rfl)
   rotate_left
   ·simp only [Act.put, st_, s0_, s1_, i64_w, i32_w];rfl
   refine take_ (i:=0) (N:=some 7) (v:=?_) (a':=?_) #[true, true, false, false, false, false, false, false, false, false, false, false, false, false] rfl rfl (take_ofW HT_.out HW_.out (by kernel_rfl)) (fun _ _ _ h => h) (Or.inl ⟨by rfl, ?_⟩) hHeld ?_ ?_;rotate_left
   ·rintro w' ⟨s0, s1, s2, s3, s4, s5⟩;go_simp;(with_reducible rfl)
   rotate_left
   ·simp only [Act.put, st_, s0_, s1_, i64_w, i32_w];rfl
   refine take_ (i:=2) (N:=some 9) (v:=?_) (a':=?_) #[true, true, true, false, false, false, false, false, false, false, false, false, false, false] rfl rfl (take_ofW HT_.out HW_.out (by kernel_rfl)) (fun _ _ _ h => h) (Or.inl ⟨by rfl, ?_⟩) hHeld ?_ ?_;rotate_left
   ·rintro w' ⟨s0, s1, s2, s3, s4, s5⟩;go_simp;(with_reducible rfl)
   rotate_left
   ·simp only [Act.put, st_, s0_, s1_, i64_w, i32_w];rfl
   refine one_ (i:=3) (N:=some 10) #[true, true, true, true, false, false, false, false, false, false, false, false, false, false] rfl rfl (one_of HT_.out (by kernel_rfl)) (by decide) (fun K hK => ?_);refine goes_ Tryd.func82 (by kernel_rfl) rfl #[.agg #[.slice A0_0 l0_0.length c0_0, .slice A0_1 l0_1.length c0_1, .slice A0_2 l0_2.length c0_2, .int .i64 a0_3], .slice A2_0 l2_0.length c2_0] (by rfl) rfl rfl (by (try simp only [List.map_toArray, List.map_cons, List.map_nil]);first|done|rfl|(simp only [List.length_drop, List.length_take];rfl)) ?_;(with_reducible refine (diapasonref26_Settled.calls k _ _ l0_0 _ _ l0_1 _ _ l0_2 a0_3 _ _ l2_0 true _ ?side1 ?side2 ?side3 ?side4 ?side5 ?side6 ?side7 ?side8 A4.out).mono ?_);(case side1 => exact cb_ HR0_0 HB);(case side2 => exact HC0_0.out);(case side3 => exact cb_ HR0_1 HB);(case side4 => exact HC0_1.out);(case side5 => exact cb_ HR0_2 HB);(case side6 => exact HC0_2.out);(case side7 => exact cb_ HR2_0 HB);(case side8 => exact HC2_0.out);rintro e w27 ⟨rfl, hb⟩;refine ⟨_, rfl, ?_⟩;replace BK227:=bb_ BK227 hb;replace BK228:=bb_ BK228 hb;replace HB:=am_ (below_step (by repeat (first | (with_reducible first | exact HB.out | apply b1_|apply b2_|apply b3_ | refine below_set ?_ GE227.out | refine below_set ?_ GE228.out) | exact HB.out)) hb);(try clear hb);(try clear hb2);(try clear hk);(try clear hi);refine hK.out _ _ ⟨(blk_cell BK227.out 0).trans rfl, (blk_cell BK227.out 1).trans rfl, (blk_cell BK227.out 2).trans rfl, (blk_cell BK227.out 3).trans rfl, (blk_cell BK228.out 0).trans rfl, (blk_cell BK228.out 1).trans rfl⟩ (fun hHeld => ?_);clear hK K;refine norm_ (a':=?_) ?_ ?_;rotate_left
   ·show Act.put _ (some 10) _ = _;simp only [Act.put, st_, s0_, s1_, i64_w, i32_w];rfl
   refine pure_ (i:=4) (N:=some 11) (v:=?_) (a':=?_) #[true, true, true, true, true, false, false, false, false, false, false, false, false, false] rfl rfl (any_of HT_.out (by kernel_rfl)) (fun _ _ _ h => h) (Or.inl ⟨by rfl, ?_⟩) ?_ ?_;rotate_left
   ·intro w';go_simp;(with_reducible rfl)
   rotate_left
   ·simp only [Act.put, st_, s0_, s1_, i64_w, i32_w];rfl
   refine pure_ (i:=5) (N:=some 12) (v:=?_) (a':=?_) #[true, true, true, true, true, true, false, false, false, false, false, false, false, false] rfl rfl (any_of HT_.out (by kernel_rfl)) (fun _ _ _ h => h) (Or.inl ⟨by rfl, ?_⟩) ?_ ?_;rotate_left
   ·intro w';go_simp;(with_reducible rfl)
   rotate_left
   ·simp only [Act.put, st_, s0_, s1_, i64_w, i32_w];rfl
   refine pure_ (i:=6) (N:=some 13) (v:=?_) (a':=?_) #[true, true, true, true, true, true, true, false, false, false, false, false, false, false] rfl rfl (any_of HT_.out (by kernel_rfl)) (fun _ _ _ h => h) (Or.inl ⟨by rfl, ?_⟩) ?_ ?_;rotate_left
   ·intro w';go_simp;(with_reducible rfl)
   rotate_left
   ·simp only [Act.put, st_, s0_, s1_, i64_w, i32_w];rfl
   refine pure_ (i:=9) (N:=some 16) (v:=?_) (a':=?_) #[true, true, true, true, true, true, true, false, false, true, false, false, false, false] rfl rfl (any_of HT_.out (by kernel_rfl)) (fun _ _ _ h => h) (Or.inl ⟨by rfl, ?_⟩) ?_ ?_;rotate_left
   ·intro w';go_simp;(with_reducible rfl)
   rotate_left
   ·simp only [Act.put, st_, s0_, s1_, i64_w, i32_w];rfl
   refine take_ (i:=7) (N:=some 14) (v:=?_) (a':=?_) #[true, true, true, true, true, true, true, true, false, true, false, false, false, false] rfl rfl (take_ofW HT_.out HW_.out (by kernel_rfl)) (fun _ _ _ h => h) (Or.inl ⟨by rfl, ?_⟩) hHeld ?_ ?_;rotate_left
   ·rintro w' ⟨s0, s1, s2, s3, s4, s5⟩;go_simp;(with_reducible rfl)
   rotate_left
   ·simp only [Act.put, st_, s0_, s1_, i64_w, i32_w];rfl
   refine take_ (i:=8) (N:=some 15) (v:=?_) (a':=?_) #[true, true, true, true, true, true, true, true, true, true, false, false, false, false] rfl rfl (take_ofW HT_.out HW_.out (by kernel_rfl)) (fun _ _ _ h => h) (Or.inl ⟨by rfl, ?_⟩) hHeld ?_ ?_;rotate_left
   ·rintro w' ⟨s0, s1, s2, s3, s4, s5⟩;go_simp;(with_reducible rfl)
   rotate_left
   ·simp only [Act.put, st_, s0_, s1_, i64_w, i32_w];rfl
   refine take_ (i:=10) (N:=some 17) (v:=?_) (a':=?_) #[true, true, true, true, true, true, true, true, true, true, true, false, false, false] rfl rfl (take_ofW HT_.out HW_.out (by kernel_rfl)) (fun _ _ _ h => h) (Or.inl ⟨by rfl, ?_⟩) hHeld ?_ ?_;rotate_left
   ·rintro w' ⟨s0, s1, s2, s3, s4, s5⟩;go_simp;(with_reducible rfl)
   rotate_left
   ·simp only [Act.put, st_, s0_, s1_, i64_w, i32_w];rfl
   refine one_ (i:=11) (N:=some 18) #[true, true, true, true, true, true, true, true, true, true, true, true, false, false] rfl rfl (one_of HT_.out (by kernel_rfl)) (by decide) (fun K hK => ?_);refine goes_ Tryd.func76 (by kernel_rfl) rfl #[.agg #[.slice A0_0 l0_0.length c0_0, .slice A0_1 l0_1.length c0_1, .slice A0_2 l0_2.length c0_2, .int .i64 a0_3], .slice A2_0 l2_0.length c2_0] (by rfl) rfl rfl (by (try simp only [List.map_toArray, List.map_cons, List.map_nil]);first|done|rfl|(simp only [List.length_drop, List.length_take];rfl)) ?_;(with_reducible refine (diapasonref26_Least.calls k _ _ l0_0 _ _ l0_1 _ _ l0_2 a0_3 _ _ l2_0 t230 _ ?side1 ?side2 ?side3 ?side4 ?side5 ?side6 ?side7 ?side8 A6.out).mono ?_);(case side1 => exact cb_ HR0_0 HB);(case side2 => exact HC0_0.out);(case side3 => exact cb_ HR0_1 HB);(case side4 => exact HC0_1.out);(case side5 => exact cb_ HR0_2 HB);(case side6 => exact HC0_2.out);(case side7 => exact cb_ HR2_0 HB);(case side8 => exact HC2_0.out);rintro e w28 ⟨rfl, hb⟩;refine ⟨_, rfl, ?_⟩;replace BK227:=bb_ BK227 hb;replace BK228:=bb_ BK228 hb;replace HB:=am_ (below_step (by repeat (first | (with_reducible first | exact HB.out | apply b1_|apply b2_|apply b3_ | refine below_set ?_ GE227.out | refine below_set ?_ GE228.out) | exact HB.out)) hb);(try clear hb);(try clear hb2);(try clear hk);(try clear hi);refine hK.out _ _ ⟨(blk_cell BK227.out 0).trans rfl, (blk_cell BK227.out 1).trans rfl, (blk_cell BK227.out 2).trans rfl, (blk_cell BK227.out 3).trans rfl, (blk_cell BK228.out 0).trans rfl, (blk_cell BK228.out 1).trans rfl⟩ (fun hHeld => ?_);clear hK K;refine norm_ (a':=?_) ?_ ?_;rotate_left
   ·show Act.put _ (some 18) _ = _;simp only [Act.put, st_, s0_, s1_, i64_w, i32_w];rfl
   refine pure_ (i:=12) (N:=some 19) (v:=?_) (a':=?_) #[true, true, true, true, true, true, true, true, true, true, true, true, true, false] rfl rfl (any_of HT_.out (by kernel_rfl)) (fun _ _ _ h => h) (Or.inl ⟨by rfl, ?_⟩) ?_ ?_;rotate_left
   ·intro w';go_simp;(with_reducible rfl)
   rotate_left
   ·simp only [Act.put, st_, s0_, s1_, i64_w, i32_w];rfl
   refine pure_ (i:=13) (N:=some 20) (v:=?_) (a':=?_) #[true, true, true, true, true, true, true, true, true, true, true, true, true, true] rfl rfl (any_of HT_.out (by kernel_rfl)) (fun _ _ _ h => h) (Or.inl ⟨by rfl, ?_⟩) ?_ ?_;rotate_left
   ·intro w';go_simp;(with_reducible rfl)
   rotate_left
   ·simp only [Act.put, st_, s0_, s1_, i64_w, i32_w];rfl
   refine done_ (done_of HT_.out (by kernel_rfl)) ?_
   try go_wp2
   go_ret
   exact ⟨by first | rfl | (simp [errW_none, errW_some] <;> rfl) | (simp [*, errW_none, errW_some] <;> rfl), by repeat (first | (with_reducible first | exact HB.out | apply b1_|apply b2_|apply b3_ | refine below_set ?_ GE227.out | refine below_set ?_ GE228.out) | exact HB.out)⟩
 ·replace c5:=Bool.eq_false_iff.mpr c5;subst c5;have H1 : (some false) = some r:=by rw [if_neg (show ¬ (false = true) by decide)] at H;exact H
  clear H;have H:=H1;clear H1;obtain rfl:=Option.some.inj H;go_enter Tryd.func59, Tryd.ntmps59
  try go_wp2_with (first | ((with_reducible refine gate_dst (N:=3) rfl ?_);refine box_event ?hg (N:=3) ?hd (cs:=#[.slice A0_0 l0_0.length c0_0, .slice A0_1 l0_1.length c0_1, .slice A0_2 l0_2.length c0_2, .int .i64 a0_3]) (t:=28) ?hr ?_;(case hd => rfl);(case hg => rfl);(case hr => first | (go_simp;done) | (go_simp;rfl));intro gb227 hg w29 hbox hb;have BK227:=am_ hbox;have GW227:=gz_ hg HB;have GE227:=gz_ hg HB;replace HB:=bs_ HB hb;clear hb hbox hg) | ((with_reducible refine gate_dst (N:=5) rfl ?_);refine box_event ?hg (N:=5) ?hd (cs:=#[.slice A2_0 l2_0.length c2_0, .int .i64 a2_1]) (t:=66) ?hr ?_;(case hd => rfl);(case hg => rfl);(case hr => first | (go_simp;done) | (go_simp;rfl));intro gb228 hg w30 hbox hb;have BK228:=am_ hbox;have GW228:=gz_ hg HB;have GE228:=gz_ hg HB;replace HB:=am_ (below_step (by repeat (first | (with_reducible first | exact HB.out | apply b1_|apply b2_|apply b3_ | refine below_set ?_ GE227.out) | exact HB.out)) hb);have NB227_228:=nl_ hg BK227;have NB228_227:=ng_ hg BK227;replace BK227:=bb_ BK227 hb;clear hb hbox hg))
  replace BK227:=bd_ BK227;replace BK228:=bd_ BK228;replace HB:=wd_ HB;refine start_ (n:=14) (S:=fun w' => w'.cell? ⟨gb227, 0, none⟩ = some (.slice A0_0 l0_0.length c0_0) ∧ w'.cell? ⟨gb227, 1, none⟩ = some (.slice A0_1 l0_1.length c0_1) ∧ w'.cell? ⟨gb227, 2, none⟩ = some (.slice A0_2 l0_2.length c0_2) ∧ w'.cell? ⟨gb227, 3, none⟩ = some (.int .i64 a0_3) ∧ w'.cell? ⟨gb228, 0, none⟩ = some (.slice A2_0 l2_0.length c2_0) ∧ w'.cell? ⟨gb228, 1, none⟩ = some (.int .i64 a2_1)) (ds:=[]) #[false, false, false, false, false, false, false, false, false, false, false, false, false, false] (by kernel_rfl) rfl rfl ⟨(blk_cell BK227.out 0).trans rfl, (blk_cell BK227.out 1).trans rfl, (blk_cell BK227.out 2).trans rfl, (blk_cell BK227.out 3).trans rfl, (blk_cell BK228.out 0).trans rfl, (blk_cell BK228.out 1).trans rfl⟩ (fun hHeld => ?_);refine with_tabW diapasonref27_Shut.tab1 diapasonref27_Shut.bits1 (fun HT_ HW_ => ?_);generalize w30.drew = w31 at BK227 BK228 HB hHeld ⊢;refine pure_ (i:=1) (N:=some 8) (v:=?_) (a':=?_) #[false, true, false, false, false, false, false, false, false, false, false, false, false, false] rfl rfl (any_of HT_.out (by kernel_rfl)) (fun _ _ _ h => h) (Or.inl ⟨by rfl, ?_⟩) ?_ ?_;rotate_left
  ·intro w';go_simp;(with_reducible rfl)
  rotate_left
  ·simp only [Act.put, st_, s0_, s1_, i64_w, i32_w];rfl
  refine take_ (i:=0) (N:=some 7) (v:=?_) (a':=?_) #[true, true, false, false, false, false, false, false, false, false, false, false, false, false] rfl rfl (take_ofW HT_.out HW_.out (by kernel_rfl)) (fun _ _ _ h => h) (Or.inl ⟨by rfl, ?_⟩) hHeld ?_ ?_;rotate_left
  ·rintro w' ⟨s0, s1, s2, s3, s4, s5⟩;go_simp;(with_reducible rfl)
  rotate_left
  ·simp only [Act.put, st_, s0_, s1_, i64_w, i32_w];rfl
  refine take_ (i:=2) (N:=some 9) (v:=?_) (a':=?_) #[true, true, true, false, false, false, false, false, false, false, false, false, false, false] rfl rfl (take_ofW HT_.out HW_.out (by kernel_rfl)) (fun _ _ _ h => h) (Or.inl ⟨by rfl, ?_⟩) hHeld ?_ ?_;rotate_left
  ·rintro w' ⟨s0, s1, s2, s3, s4, s5⟩;go_simp;(with_reducible rfl)
  rotate_left
  ·simp only [Act.put, st_, s0_, s1_, i64_w, i32_w];rfl
  refine one_ (i:=3) (N:=some 10) #[true, true, true, true, false, false, false, false, false, false, false, false, false, false] rfl rfl (one_of HT_.out (by kernel_rfl)) (by decide) (fun K hK => ?_);refine goes_ Tryd.func82 (by kernel_rfl) rfl #[.agg #[.slice A0_0 l0_0.length c0_0, .slice A0_1 l0_1.length c0_1, .slice A0_2 l0_2.length c0_2, .int .i64 a0_3], .slice A2_0 l2_0.length c2_0] (by rfl) rfl rfl (by (try simp only [List.map_toArray, List.map_cons, List.map_nil]);first|done|rfl|(simp only [List.length_drop, List.length_take];rfl)) ?_;(with_reducible refine (diapasonref26_Settled.calls k _ _ l0_0 _ _ l0_1 _ _ l0_2 a0_3 _ _ l2_0 false _ ?side1 ?side2 ?side3 ?side4 ?side5 ?side6 ?side7 ?side8 A4.out).mono ?_);(case side1 => exact cb_ HR0_0 HB);(case side2 => exact HC0_0.out);(case side3 => exact cb_ HR0_1 HB);(case side4 => exact HC0_1.out);(case side5 => exact cb_ HR0_2 HB);(case side6 => exact HC0_2.out);(case side7 => exact cb_ HR2_0 HB);(case side8 => exact HC2_0.out);rintro e w32 ⟨rfl, hb⟩;refine ⟨_, rfl, ?_⟩;replace BK227:=bb_ BK227 hb;replace BK228:=bb_ BK228 hb;replace HB:=am_ (below_step (by repeat (first | (with_reducible first | exact HB.out | apply b1_|apply b2_|apply b3_ | refine below_set ?_ GE227.out | refine below_set ?_ GE228.out) | exact HB.out)) hb);(try clear hb);(try clear hb2);(try clear hk);(try clear hi);refine hK.out _ _ ⟨(blk_cell BK227.out 0).trans rfl, (blk_cell BK227.out 1).trans rfl, (blk_cell BK227.out 2).trans rfl, (blk_cell BK227.out 3).trans rfl, (blk_cell BK228.out 0).trans rfl, (blk_cell BK228.out 1).trans rfl⟩ (fun hHeld => ?_);clear hK K;refine norm_ (a':=?_) ?_ ?_;rotate_left
  ·show Act.put _ (some 10) _ = _;simp only [Act.put, st_, s0_, s1_, i64_w, i32_w];rfl
  refine pure_ (i:=4) (N:=some 11) (v:=?_) (a':=?_) #[true, true, true, true, true, false, false, false, false, false, false, false, false, false] rfl rfl (any_of HT_.out (by kernel_rfl)) (fun _ _ _ h => h) (Or.inl ⟨by rfl, ?_⟩) ?_ ?_;rotate_left
  ·intro w';go_simp;(with_reducible rfl)
  rotate_left
  ·simp only [Act.put, st_, s0_, s1_, i64_w, i32_w];rfl
  refine pure_ (i:=5) (N:=some 12) (v:=?_) (a':=?_) #[true, true, true, true, true, true, false, false, false, false, false, false, false, false] rfl rfl (any_of HT_.out (by kernel_rfl)) (fun _ _ _ h => h) (Or.inl ⟨by rfl, ?_⟩) ?_ ?_;rotate_left
  ·intro w';go_simp;(with_reducible rfl)
  rotate_left
  ·simp only [Act.put, st_, s0_, s1_, i64_w, i32_w];rfl
  refine pure_ (i:=6) (N:=some 13) (v:=undef) (a':=?_) #[true, true, true, true, true, true, true, false, false, false, false, false, false, false] rfl rfl (any_of HT_.out (by kernel_rfl)) (fun _ _ _ h => h) (Or.inr ⟨by rfl, rfl⟩) ?_ ?_;rotate_left
  ·simp only [Act.put, st_, s0_, s1_, i64_w, i32_w];rfl
  refine pure_ (i:=7) (N:=some 14) (v:=undef) (a':=?_) #[true, true, true, true, true, true, true, true, false, false, false, false, false, false] rfl rfl (any_of HT_.out (by kernel_rfl)) (fun _ _ _ h => h) (Or.inr ⟨by rfl, rfl⟩) ?_ ?_;rotate_left
  ·simp only [Act.put, st_, s0_, s1_, i64_w, i32_w];rfl
  refine pure_ (i:=8) (N:=some 15) (v:=undef) (a':=?_) #[true, true, true, true, true, true, true, true, true, false, false, false, false, false] rfl rfl (any_of HT_.out (by kernel_rfl)) (fun _ _ _ h => h) (Or.inr ⟨by rfl, rfl⟩) ?_ ?_;rotate_left
  ·simp only [Act.put, st_, s0_, s1_, i64_w, i32_w];rfl
  refine pure_ (i:=9) (N:=some 16) (v:=undef) (a':=?_) #[true, true, true, true, true, true, true, true, true, true, false, false, false, false] rfl rfl (any_of HT_.out (by kernel_rfl)) (fun _ _ _ h => h) (Or.inr ⟨by rfl, rfl⟩) ?_ ?_;rotate_left
  ·simp only [Act.put, st_, s0_, s1_, i64_w, i32_w];rfl
  refine pure_ (i:=10) (N:=some 17) (v:=undef) (a':=?_) #[true, true, true, true, true, true, true, true, true, true, true, false, false, false] rfl rfl (any_of HT_.out (by kernel_rfl)) (fun _ _ _ h => h) (Or.inr ⟨by rfl, rfl⟩) ?_ ?_;rotate_left
  ·simp only [Act.put, st_, s0_, s1_, i64_w, i32_w];rfl
  refine pure_ (i:=11) (N:=some 18) (v:=undef) (a':=?_) #[true, true, true, true, true, true, true, true, true, true, true, true, false, false] rfl rfl (any_of HT_.out (by kernel_rfl)) (fun _ _ _ h => h) (Or.inr ⟨by rfl, rfl⟩) ?_ ?_;rotate_left
  ·simp only [Act.put, st_, s0_, s1_, i64_w, i32_w];rfl
  refine pure_ (i:=12) (N:=some 19) (v:=undef) (a':=?_) #[true, true, true, true, true, true, true, true, true, true, true, true, true, false] rfl rfl (any_of HT_.out (by kernel_rfl)) (fun _ _ _ h => h) (Or.inr ⟨by rfl, rfl⟩) ?_ ?_;rotate_left
  ·simp only [Act.put, st_, s0_, s1_, i64_w, i32_w];rfl
  refine pure_ (i:=13) (N:=some 20) (v:=?_) (a':=?_) #[true, true, true, true, true, true, true, true, true, true, true, true, true, true] rfl rfl (any_of HT_.out (by kernel_rfl)) (fun _ _ _ h => h) (Or.inl ⟨by rfl, ?_⟩) ?_ ?_;rotate_left
  ·intro w';go_simp;(with_reducible rfl)
  rotate_left
  ·simp only [Act.put, st_, s0_, s1_, i64_w, i32_w];rfl
  refine done_ (done_of HT_.out (by kernel_rfl)) ?_
  try go_wp2
  go_ret
  exact ⟨by first | rfl | (simp [errW_none, errW_some] <;> rfl) | (simp [*, errW_none, errW_some] <;> rfl), by repeat (first | (with_reducible first | exact HB.out | apply b1_|apply b2_|apply b3_ | refine below_set ?_ GE227.out | refine below_set ?_ GE228.out) | exact HB.out)⟩

end Go.Proofs.YtfcidgnbocijdaaDoor.PCertMakes
