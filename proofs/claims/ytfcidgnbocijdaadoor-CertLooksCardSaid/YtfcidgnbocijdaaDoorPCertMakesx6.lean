-- Written by a program of this session (the kit's print, turned: wip/px).
import Derived.Test.YtfcidgnbocijdaaDoorPCertMakesx0
import Derived.Test.YtfcidgnbocijdaaDoorPCertMakesx2
import Derived.Test.YtfcidgnbocijdaaDoorPCertMakesx4
import Derived.Test.YtfcidgnbocijdaaDoorPCertMakesx5
import Derived.Test.YtfcidgnbocijdaaDoorSq2
namespace Go.Proofs.YtfcidgnbocijdaaDoor.PCertMakes
open Go.Proofs.YtfcidgnbocijdaaDoor.Sq
open Go.RowKit Go.Proofs.YtfcidgnbocijdaaDoorW.PrintWords Go.Proofs.YtfcidgnbocijdaaDoorW.PrintLast Go.Proofs.YtfcidgnbocijdaaDoorW.PrintMore
attribute [local go_sem] max2_int min2_int max_two min_two max_three min_three max_four min_four   -- for this text's walks alone
set_option linter.unusedVariables false
set_option linter.unusedSimpArgs false

/-! ### regis_Bound: function 36 -/
def regis_Bound.j0 : Nat → List Int → Bool → List Int → List (List Int) → List Int → Int → Option (Int × Int)
 | 0, _, _, _, _, _, _ => none
 | k + 1, x1, x16, x150000, x150001, x150002, x150003 => if x16 = true then (some (0, 2)) else ((slices_ContainsFunc_uint8_uint8_regis_Bound_1.f k x1).bind fun t151 => (if t151 = true then (some (0, 2)) else ((regis_least.f k x150000 x150001 x150002 x150003 x1).bind fun t152 => (some (t152, 0)))))
def regis_Bound.f (k : Nat) (l0_0 : List Int) (l0_1 : List (List Int)) (l0_2 : List Int) (a0_3 : Int) (l1 : List Int) : Option (Int × Int) := (regis_Check.f k l0_0 l0_1 l0_2 a0_3).bind fun t150 => (if t150 = 0 then (regis_Bound.j0 k l1 (decide ((l1.length : Int) > (l0_1.length : Int))) l0_0 l0_1 l0_2 a0_3) else (regis_Bound.j0 k l1 true l0_0 l0_1 l0_2 a0_3))
theorem regis_Bound.mono_l : ∀ k, (∀ y0 y1 y2 y3 y4 y5, LeO (regis_Bound.j0 k y0 y1 y2 y3 y4 y5) (regis_Bound.j0 (k + 1) y0 y1 y2 y3 y4 y5))
 | 0 => fun _ _ _ _ _ _ r h => by simp [regis_Bound.j0] at h
 | k + 1 => by
  have ih0:=regis_Bound.mono_l k
  ·intro y0 y1 y2 y3 y4 y5
   unfold regis_Bound.j0
   repeat' first
   | (with_reducible exact ih0 _ _ _ _ _ _)
   | (with_reducible exact regis_Check.mono _ _ _ _ _)
   | (with_reducible exact regis_least.mono _ _ _ _ _ _)
   | (with_reducible exact slices_ContainsFunc_uint8_uint8_regis_Bound_1.mono _ _)
   | (with_reducible exact LeO.refl _)
   | (with_reducible exact LeO.none _)
   | (with_reducible refine LeO.ite ?_ ?_)
   | (with_reducible refine LeO.bind ?_ (fun _ => ?_))
   | exact ih0 _ _ _ _ _ _
   | exact regis_Check.mono _ _ _ _ _
   | exact regis_least.mono _ _ _ _ _ _
   | exact slices_ContainsFunc_uint8_uint8_regis_Bound_1.mono _ _
   | exact LeO.none _
   | refine LeO.ite ?_ ?_
   | refine LeO.bind ?_ (fun _ => ?_)
theorem regis_Bound.mono : ∀ a0 a1 a2 a3 a4 k, LeO (regis_Bound.f k a0 a1 a2 a3 a4) (regis_Bound.f (k + 1) a0 a1 a2 a3 a4) := by
 intro a0 a1 a2 a3 a4 k;have ih0:=regis_Bound.mono_l k
 unfold regis_Bound.f
 repeat' first
   | (with_reducible exact ih0 _ _ _ _ _ _)
   | (with_reducible exact regis_Check.mono _ _ _ _ _)
   | (with_reducible exact regis_least.mono _ _ _ _ _ _)
   | (with_reducible exact slices_ContainsFunc_uint8_uint8_regis_Bound_1.mono _ _)
   | (with_reducible exact LeO.refl _)
   | (with_reducible exact LeO.none _)
   | (with_reducible refine LeO.ite ?_ ?_)
   | (with_reducible refine LeO.bind ?_ (fun _ => ?_))
   | exact ih0 _ _ _ _ _ _
   | exact regis_Check.mono _ _ _ _ _
   | exact regis_least.mono _ _ _ _ _ _
   | exact slices_ContainsFunc_uint8_uint8_regis_Bound_1.mono _ _
   | exact LeO.none _
   | refine LeO.ite ?_ ?_
   | refine LeO.bind ?_ (fun _ => ?_)
set_option maxHeartbeats 8000000 in
set_option maxRecDepth 100000 in
theorem regis_Bound.calls (k : Nat) (A0_0 : Option Addr) (c0_0 : Nat) (l0_0 : List Int) (A0_1 : Option Addr) (c0_1 : Nat) (l0_1 : List (List Int)) (A0_2 : Option Addr) (c0_2 : Nat) (l0_2 : List Int) (a0_3 : Int) (A1 : Option Addr) (c1 : Nat) (l1 : List Int) (r1 : Int) (r2 : Int) (w : World) (hr0_0 : Kd.C (Kd.int .i64) w A0_0 l0_0.length l0_0) (hc0_0 : l0_0.length ≤ c0_0) (hr0_1 : Kd.C (Kd.slice 3 (Kd.int .i64)) w A0_1 l0_1.length l0_1) (hc0_1 : l0_1.length ≤ c0_1) (hr0_2 : Kd.C (Kd.int .i64) w A0_2 l0_2.length l0_2) (hc0_2 : l0_2.length ≤ c0_2) (hr1 : Kd.C (Kd.int .u8) w A1 l1.length l1) (hc1 : l1.length ≤ c1) (h : regis_Bound.f k l0_0 l0_1 l0_2 a0_3 l1 = some (r1, r2)) :
  Calls Tryd.prog 36 #[.agg #[.slice A0_0 l0_0.length c0_0, .slice A0_1 l0_1.length c0_1, .slice A0_2 l0_2.length c0_2, .int .i64 a0_3], .slice A1 l1.length c1] w fun e w' => e = .returned (.tuple #[.int .i64 r1, .int .i64 r2]) ∧ Below w.heap.size w w':=by
 have hu28:=Tryd.underlying28;have HR0_0:=am_ hr0_0;have HC0_0:=am_ hc0_0;clear hr0_0 hc0_0;have HR0_1:=am_ hr0_1;have HC0_1:=am_ hc0_1;clear hr0_1 hc0_1;have HR0_2:=am_ hr0_2;have HC0_2:=am_ hc0_2;clear hr0_2 hc0_2;have HR1:=am_ hr1;have HC1:=am_ hc1;clear hr1 hc1;have HB:=am_ (Below.refl w.heap.size w);have H : ((regis_Check.f k l0_0 l0_1 l0_2 a0_3).bind fun t150 => (if t150 = 0 then (regis_Bound.j0 k l1 (decide ((l1.length : Int) > (l0_1.length : Int))) l0_0 l0_1 l0_2 a0_3) else (regis_Bound.j0 k l1 true l0_0 l0_1 l0_2 a0_3))) = some (r1, r2):=h;clear h;have HC3:=am_ H;clear H;go_enter Tryd.func36, Tryd.ntmps36
 go_upto_region 1 with (first | ((with_reducible refine gate_dst (N:=2) rfl ?_);(try (refine gate_guard (by rfl) ?_;dsimp only));refine box_event ?hg (N:=2) ?hd (cs:=#[.slice A0_0 l0_0.length c0_0, .slice A0_1 l0_1.length c0_1, .slice A0_2 l0_2.length c0_2, .int .i64 a0_3]) (t:=28) ?hr ?_;(case hd => rfl);(case hg => rfl);(case hr => first | (go_simp;done) | (go_simp;rfl));intro gb149 hg w4 hbox hb;have BK149:=am_ hbox;have GW149:=gz_ hg HB;have GE149:=gz_ hg HB;replace HB:=bs_ HB hb;clear hb hbox hg))
 (try simp only [Act.put, st_, s0_, s1_])
 go_cut [16] (fun v16 wc => ∃ (kq : Nat) (x16_2 : Bool), v16 = .bool x16_2 ∧ Aside0 (regis_Bound.j0 kq l1 x16_2 l0_0 l0_1 l0_2 a0_3 = some (r1, r2)) ∧ Aside0 (kq ≤ k) ∧ Aside0 (wc.heap[gb149]? = some (.cells #[(.slice A0_0 l0_0.length c0_0), (.slice A0_1 l0_1.length c0_1), (.slice A0_2 l0_2.length c0_2), .int .i64 a0_3] 28 (0, 0))) ∧ Aside0 (Below w.heap.size w wc))
 case first =>
  have H:=HC3.out;clear HC3;replace H:=Option.bind_eq_some_iff.mp H;obtain ⟨t150, A50, H⟩:=H;replace H : (if t150 = 0 then (regis_Bound.j0 k l1 (decide ((l1.length : Int) > (l0_1.length : Int))) l0_0 l0_1 l0_2 a0_3) else (regis_Bound.j0 k l1 true l0_0 l0_1 l0_2 a0_3)) = some (r1, r2):=H;have A5:=am_ A50;clear A50
  by_cases c6 : t150 = 0
  ·rw [if_pos c6] at H;have c6b0 : (t150 == 0) = true:=beq_iff_eq.mpr c6;have c6b1 : (t150 != 0) = false:=bne_eq_false_iff_eq.mpr c6;clear c6;(first | rw [c6b0] | (simp only [i64_w, i32_w];rw [c6b0]) | skip);have H':=am_ H;clear H;obtain ⟨hcz7_0, hcz7_1, hcz7_2, hcz7_3⟩:=c4_ BK149.out;obtain ⟨hfz7_0, hfz7_1, hfz7_2, hfz7_3⟩:=z4_ BK149.out
   go_wp2_with (first | ((with_reducible refine gate_callee (f:=39) rfl ?_);refine goesL_ (some 7) rfl rfl Tryd.func39 (by kernel_rfl) rfl #[.agg #[.slice A0_0 l0_0.length c0_0, .slice A0_1 l0_1.length c0_1, .slice A0_2 l0_2.length c0_2, .int .i64 a0_3]] rfl (by (try simp only [List.map_toArray, List.map_cons, List.map_nil]);first|done|rfl|(simp only [List.length_drop, List.length_take];rfl)) ?_;(with_reducible refine (regis_Check.calls k _ _ l0_0 _ _ l0_1 _ _ l0_2 a0_3 t150 _ ?side1 ?side2 ?side3 ?side4 ?side5 ?side6 A5.out).mono ?_);(case side1 => exact cb_ HR0_0 HB);(case side2 => exact HC0_0.out);(case side3 => exact cb_ HR0_1 HB);(case side4 => exact HC0_1.out);(case side5 => exact cb_ HR0_2 HB);(case side6 => exact HC0_2.out);rintro e w8 ⟨rfl, hb⟩;refine ⟨_, rfl, ?_⟩;replace BK149:=bb_ BK149 hb;replace HB:=am_ (below_step (by repeat (first | (with_reducible first | exact HB.out | apply b1_|apply b2_|apply b3_ | refine below_set ?_ GE149.out) | exact HB.out)) hb);(try clear hb);(try clear hb2);(try clear hk);(try clear hi);obtain ⟨hcz9_0, hcz9_1, hcz9_2, hcz9_3⟩:=c4_ BK149.out;obtain ⟨hfz9_0, hfz9_1, hfz9_2, hfz9_3⟩:=z4_ BK149.out))
   go_meet
   case rel => exact ⟨_, (decide ((l1.length : Int) > (l0_1.length : Int))), (by first | rfl | (simp;done) | (simp [*];done)), H', ⟨by first | omega | exact Nat.le_refl _⟩, ⟨by (with_reducible repeat first|apply q1_|apply q2_|apply q3_);exact BK149.out⟩, ⟨by repeat (first | (with_reducible first | exact HB.out | apply b1_|apply b2_|apply b3_ | refine below_set ?_ GE149.out) | exact HB.out)⟩⟩
  ·rw [if_neg c6] at H;have c6b0 : (t150 == 0) = false:=beq_eq_false_iff_ne.mpr c6;have c6b1 : (t150 != 0) = true:=bne_iff_ne.mpr c6;(first | rw [c6b0] | (simp only [i64_w, i32_w];rw [c6b0]) | skip);have H':=am_ H;clear H;obtain ⟨hcz10_0, hcz10_1, hcz10_2, hcz10_3⟩:=c4_ BK149.out;obtain ⟨hfz10_0, hfz10_1, hfz10_2, hfz10_3⟩:=z4_ BK149.out
   go_wp2_with (first | ((with_reducible refine gate_callee (f:=39) rfl ?_);refine goesL_ (some 7) rfl rfl Tryd.func39 (by kernel_rfl) rfl #[.agg #[.slice A0_0 l0_0.length c0_0, .slice A0_1 l0_1.length c0_1, .slice A0_2 l0_2.length c0_2, .int .i64 a0_3]] rfl (by (try simp only [List.map_toArray, List.map_cons, List.map_nil]);first|done|rfl|(simp only [List.length_drop, List.length_take];rfl)) ?_;(with_reducible refine (regis_Check.calls k _ _ l0_0 _ _ l0_1 _ _ l0_2 a0_3 t150 _ ?side1 ?side2 ?side3 ?side4 ?side5 ?side6 A5.out).mono ?_);(case side1 => exact cb_ HR0_0 HB);(case side2 => exact HC0_0.out);(case side3 => exact cb_ HR0_1 HB);(case side4 => exact HC0_1.out);(case side5 => exact cb_ HR0_2 HB);(case side6 => exact HC0_2.out);rintro e w11 ⟨rfl, hb⟩;refine ⟨_, rfl, ?_⟩;replace BK149:=bb_ BK149 hb;replace HB:=am_ (below_step (by repeat (first | (with_reducible first | exact HB.out | apply b1_|apply b2_|apply b3_ | refine below_set ?_ GE149.out) | exact HB.out)) hb);(try clear hb);(try clear hb2);(try clear hk);(try clear hi)))
   go_meet
   case rel => exact ⟨_, (true), (by first | rfl | (simp;done) | (simp [*];done)), H', ⟨by first | omega | exact Nat.le_refl _⟩, ⟨by (with_reducible repeat first|apply q1_|apply q2_|apply q3_);exact BK149.out⟩, ⟨by repeat (first | (with_reducible first | exact HB.out | apply b1_|apply b2_|apply b3_ | refine below_set ?_ GE149.out) | exact HB.out)⟩⟩
 case rest =>
  clear HC3;(try clear c1);(try clear p2);(try clear c3);(try clear c6);(try clear c6b0);(try clear c6b1);(try clear hcz10_0);(try clear hcz10_1);(try clear hcz10_2);(try clear hcz10_3);(try clear hcz7_0);(try clear hcz7_1);(try clear hcz7_2);(try clear hcz7_3);(try clear hcz9_0);(try clear hcz9_1);(try clear hcz9_2);(try clear hcz9_3);(try clear hfz10_0);(try clear hfz10_1);(try clear hfz10_2);(try clear hfz10_3);(try clear hfz7_0);(try clear hfz7_1);(try clear hfz7_2);(try clear hfz7_3);(try clear hfz9_0);(try clear hfz9_1);(try clear hfz9_2);(try clear hfz9_3);obtain ⟨kq, x16_2, rfl, HA, HJ2, BK149, HB⟩:=hcut
  cases kq with
  | zero => exact absurd HA.out (by simp [regis_Bound.j0])
  | succ kj2 =>
   have H:=HA.out;clear HA;simp only [regis_Bound.j0] at H
   by_cases c12 : x16_2 = true
   ·subst c12;have H1 : (some (0, 2)) = some (r1, r2):=by rw [if_pos rfl] at H;exact H
    clear H;have H:=H1;clear H1;simp only [Option.some.injEq, Prod.mk.injEq] at H;obtain ⟨rfl, rfl⟩:=H
    go_wp2
    go_ret2
    exact ⟨by first | rfl | (simp [errW_none, errW_some] <;> rfl) | (simp [*, errW_none, errW_some] <;> rfl), by repeat (first | (with_reducible first | exact HB.out | apply b1_|apply b2_|apply b3_ | refine below_set ?_ GE149.out) | exact HB.out)⟩
   ·replace c12:=Bool.eq_false_iff.mpr c12;subst c12;have H1 : ((slices_ContainsFunc_uint8_uint8_regis_Bound_1.f kj2 l1).bind fun t151 => (if t151 = true then (some (0, 2)) else ((regis_least.f kj2 l0_0 l0_1 l0_2 a0_3 l1).bind fun t152 => (some (t152, 0))))) = some (r1, r2):=by rw [if_neg (show ¬ (false = true) by decide)] at H;exact H
    clear H;have H:=H1;clear H1;replace H:=Option.bind_eq_some_iff.mp H;obtain ⟨t151, A130, H⟩:=H;replace H : (if t151 = true then (some (0, 2)) else ((regis_least.f kj2 l0_0 l0_1 l0_2 a0_3 l1).bind fun t152 => (some (t152, 0)))) = some (r1, r2):=H;have A13:=am_ A130;clear A130
    by_cases c14 : t151 = true
    ·subst c14;have H1 : (some (0, 2)) = some (r1, r2):=by rw [if_pos rfl] at H;exact H
     clear H;have H:=H1;clear H1;simp only [Option.some.injEq, Prod.mk.injEq] at H;obtain ⟨rfl, rfl⟩:=H
     go_wp2_with (first | (go_at_call 63;(with_reducible refine (slices_ContainsFunc_uint8_uint8_regis_Bound_1.calls kj2 _ _ l1  true _ ?side1 ?side2 A13.out).mono ?_);(case side1 => exact cb_ HR1 HB);(case side2 => exact HC1.out);rintro e w' ⟨rfl, ⟨nd, rfl⟩⟩))
     go_ret2
     exact ⟨by first | rfl | (simp [errW_none, errW_some] <;> rfl) | (simp [*, errW_none, errW_some] <;> rfl), by repeat (first | (with_reducible first | exact HB.out | apply b1_|apply b2_|apply b3_ | refine below_set ?_ GE149.out) | exact HB.out)⟩
    ·replace c14:=Bool.eq_false_iff.mpr c14;subst c14;have H1 : ((regis_least.f kj2 l0_0 l0_1 l0_2 a0_3 l1).bind fun t152 => (some (t152, 0))) = some (r1, r2):=by rw [if_neg (show ¬ (false = true) by decide)] at H;exact H
     clear H;have H:=H1;clear H1;replace H:=Option.bind_eq_some_iff.mp H;obtain ⟨t152, A150, H⟩:=H;replace H : (some (t152, 0)) = some (r1, r2):=H;have A15:=am_ A150;clear A150;simp only [Option.some.injEq, Prod.mk.injEq] at H;obtain ⟨rfl, rfl⟩:=H
     go_wp2_with (first | (go_at_call 63;(with_reducible refine (slices_ContainsFunc_uint8_uint8_regis_Bound_1.calls kj2 _ _ l1  false _ ?side1 ?side2 A13.out).mono ?_);(case side1 => exact cb_ HR1 HB);(case side2 => exact HC1.out);rintro e w' ⟨rfl, ⟨nd, rfl⟩⟩;obtain ⟨hcz16_0, hcz16_1, hcz16_2, hcz16_3⟩:=c4_ BK149.out;obtain ⟨hfz16_0, hfz16_1, hfz16_2, hfz16_3⟩:=z4_ BK149.out) | ((with_reducible refine gate_callee (f:=42) rfl ?_);refine goesL_ (some 21) rfl rfl Tryd.func42 (by kernel_rfl) rfl #[.agg #[.slice A0_0 l0_0.length c0_0, .slice A0_1 l0_1.length c0_1, .slice A0_2 l0_2.length c0_2, .int .i64 a0_3], .slice A1 l1.length c1] rfl (by (try simp only [List.map_toArray, List.map_cons, List.map_nil]);first|done|rfl|(simp only [List.length_drop, List.length_take];rfl)) ?_;(with_reducible refine (regis_least.calls kj2 _ _ l0_0 _ _ l0_1 _ _ l0_2 a0_3 _ _ l1 t152 _ ?side1 ?side2 ?side3 ?side4 ?side5 ?side6 ?side7 ?side8 A15.out).mono ?_);(case side1 => repeat (first | exact (Kd.C_below HR0_0.out (by repeat (first | (with_reducible first | exact HB.out | apply b1_|apply b2_|apply b3_ | refine below_set ?_ GE149.out) | exact HB.out))) | (with_reducible refine Kd.C_alloc ?_ _) | (with_reducible refine Kd.C_drewN ?_ _) | (with_reducible refine Kd.C_drew ?_)));(case side2 => exact HC0_0.out);(case side3 => repeat (first | exact (Kd.C_below HR0_1.out (by repeat (first | (with_reducible first | exact HB.out | apply b1_|apply b2_|apply b3_ | refine below_set ?_ GE149.out) | exact HB.out))) | (with_reducible refine Kd.C_alloc ?_ _) | (with_reducible refine Kd.C_drewN ?_ _) | (with_reducible refine Kd.C_drew ?_)));(case side4 => exact HC0_1.out);(case side5 => repeat (first | exact (Kd.C_below HR0_2.out (by repeat (first | (with_reducible first | exact HB.out | apply b1_|apply b2_|apply b3_ | refine below_set ?_ GE149.out) | exact HB.out))) | (with_reducible refine Kd.C_alloc ?_ _) | (with_reducible refine Kd.C_drewN ?_ _) | (with_reducible refine Kd.C_drew ?_)));(case side6 => exact HC0_2.out);(case side7 => repeat (first | exact (Kd.C_below HR1.out (by repeat (first | (with_reducible first | exact HB.out | apply b1_|apply b2_|apply b3_ | refine below_set ?_ GE149.out) | exact HB.out))) | (with_reducible refine Kd.C_alloc ?_ _) | (with_reducible refine Kd.C_drewN ?_ _) | (with_reducible refine Kd.C_drew ?_)));(case side8 => exact HC1.out);rintro e w17 ⟨rfl, hb⟩;refine ⟨_, rfl, ?_⟩;replace BK149:=bb_ BK149 hb;replace HB:=am_ (below_step (by repeat (first | (with_reducible first | exact HB.out | apply b1_|apply b2_|apply b3_ | refine below_set ?_ GE149.out) | exact HB.out)) hb);(try clear hb);(try clear hb2);(try clear hk);(try clear hi)))
     go_ret2
     exact ⟨by first | rfl | (simp [errW_none, errW_some] <;> rfl) | (simp [*, errW_none, errW_some] <;> rfl), by repeat (first | (with_reducible first | exact HB.out | apply b1_|apply b2_|apply b3_ | refine below_set ?_ GE149.out) | exact HB.out)⟩

/-! ### cert_winded: function 65 -/
def cert_winded.l0 : Nat → Int → List Int → Int → Int → List Int → List (List Int) → List Int → Int → Option (Bool)
 | 0, _, _, _, _, _, _, _, _ => none
 | k + 1, x5, x8, x9, x10, x154000, x154001, x154002, x154003 => if x10 < x9 then (if 0 ≤ x10 then (if x10 < (x8.length : Int) then (if (rd x8 x10) = 1 then (if x10 < (x154002.length : Int) then (cert_winded.l0 k (wrap64 (x5 + (rd x154002 x10))) x8 x9 (wrap64 (x10 + 1)) x154000 x154001 x154002 x154003) else (none)) else (cert_winded.l0 k x5 x8 x9 (wrap64 (x10 + 1)) x154000 x154001 x154002 x154003)) else (none)) else (none)) else (some (decide (x5 > x154003)))
def cert_winded.f (k : Nat) (l0_0 : List Int) (l0_1 : List (List Int)) (l0_2 : List Int) (a0_3 : Int) (l1 : List Int) : Option (Bool) := cert_winded.l0 k 0 l1 (l1.length : Int) 0 l0_0 l0_1 l0_2 a0_3
theorem cert_winded.mono_l : ∀ k, (∀ y0 y1 y2 y3 y4 y5 y6 y7, LeO (cert_winded.l0 k y0 y1 y2 y3 y4 y5 y6 y7) (cert_winded.l0 (k + 1) y0 y1 y2 y3 y4 y5 y6 y7))
 | 0 => fun _ _ _ _ _ _ _ _ r h => by simp [cert_winded.l0] at h
 | k + 1 => by
  have ih0:=cert_winded.mono_l k
  ·intro y0 y1 y2 y3 y4 y5 y6 y7
   unfold cert_winded.l0
   repeat' first
   | (with_reducible exact ih0 _ _ _ _ _ _ _ _)
   | (with_reducible exact LeO.refl _)
   | (with_reducible exact LeO.none _)
   | (with_reducible refine LeO.ite ?_ ?_)
   | (with_reducible refine LeO.bind ?_ (fun _ => ?_))
   | exact ih0 _ _ _ _ _ _ _ _
   | exact LeO.none _
   | refine LeO.ite ?_ ?_
   | refine LeO.bind ?_ (fun _ => ?_)
theorem cert_winded.mono : ∀ a0 a1 a2 a3 a4 k, LeO (cert_winded.f k a0 a1 a2 a3 a4) (cert_winded.f (k + 1) a0 a1 a2 a3 a4) := by
 intro a0 a1 a2 a3 a4 k;have ih0:=cert_winded.mono_l k
 unfold cert_winded.f
 repeat' first
   | (with_reducible exact ih0 _ _ _ _ _ _ _ _)
   | (with_reducible exact LeO.refl _)
   | (with_reducible exact LeO.none _)
   | (with_reducible refine LeO.ite ?_ ?_)
   | (with_reducible refine LeO.bind ?_ (fun _ => ?_))
   | exact ih0 _ _ _ _ _ _ _ _
   | exact LeO.none _
   | refine LeO.ite ?_ ?_
   | refine LeO.bind ?_ (fun _ => ?_)
set_option maxHeartbeats 8000000 in
set_option maxRecDepth 100000 in
theorem cert_winded.calls (k : Nat) (A0_0 : Option Addr) (c0_0 : Nat) (l0_0 : List Int) (A0_1 : Option Addr) (c0_1 : Nat) (l0_1 : List (List Int)) (A0_2 : Option Addr) (c0_2 : Nat) (l0_2 : List Int) (a0_3 : Int) (A1 : Option Addr) (c1 : Nat) (l1 : List Int) (r : Bool) (w : World) (hr0_0 : Kd.C (Kd.int .i64) w A0_0 l0_0.length l0_0) (hc0_0 : l0_0.length ≤ c0_0) (hr0_1 : Kd.C (Kd.slice 3 (Kd.int .i64)) w A0_1 l0_1.length l0_1) (hc0_1 : l0_1.length ≤ c0_1) (hr0_2 : Kd.C (Kd.int .i64) w A0_2 l0_2.length l0_2) (hc0_2 : l0_2.length ≤ c0_2) (hr1 : Kd.C (Kd.int .u8) w A1 l1.length l1) (hc1 : l1.length ≤ c1) (h : cert_winded.f k l0_0 l0_1 l0_2 a0_3 l1 = some r) :
  Calls Tryd.prog 65 #[.agg #[.slice A0_0 l0_0.length c0_0, .slice A0_1 l0_1.length c0_1, .slice A0_2 l0_2.length c0_2, .int .i64 a0_3], .slice A1 l1.length c1] w fun e w' => e = .returned (.bool r) ∧ Below w.heap.size w w':=by
 have hu28:=Tryd.underlying28;have HR0_0:=am_ hr0_0;have HC0_0:=am_ hc0_0;clear hr0_0 hc0_0;have HR0_1:=am_ hr0_1;have HC0_1:=am_ hc0_1;clear hr0_1 hc0_1;have HR0_2:=am_ hr0_2;have HC0_2:=am_ hc0_2;clear hr0_2 hc0_2;have HR1:=am_ hr1;have HC1:=am_ hc1;clear hr1 hc1;have HB:=am_ (Below.refl w.heap.size w);have H : (cert_winded.l0 k 0 l1 (l1.length : Int) 0 l0_0 l0_1 l0_2 a0_3) = some r:=h;clear h;have H':=am_ H;clear H;go_enter Tryd.func65, Tryd.ntmps65
 go_wp2_with (first | ((with_reducible refine gate_dst (N:=2) rfl ?_);refine box_event ?hg (N:=2) ?hd (cs:=#[.slice A0_0 l0_0.length c0_0, .slice A0_1 l0_1.length c0_1, .slice A0_2 l0_2.length c0_2, .int .i64 a0_3]) (t:=28) ?hr ?_;(case hd => rfl);(case hg => rfl);(case hr => first | (go_simp;done) | (go_simp;rfl));intro gb153 hg w3 hbox hb;have BK153:=am_ hbox;have GW153:=gz_ hg HB;have GE153:=gz_ hg HB;replace HB:=bs_ HB hb;clear hb hbox hg))
 go_loopg [5, 10] k (fun kq v5 v10 w' => ∃ (x5_1 : Int) (x10_1 : Int), v5 = .int .i64 x5_1 ∧ v10 = .int .i64 x10_1 ∧ Aside0 (cert_winded.l0 kq x5_1 l1 (l1.length : Int) x10_1 l0_0 l0_1 l0_2 a0_3 = some r) ∧ Aside0 (kq ≤ k) ∧ Aside0 (w'.heap[gb153]? = some (.cells #[(.slice A0_0 l0_0.length c0_0), (.slice A0_1 l0_1.length c0_1), (.slice A0_2 l0_2.length c0_2), .int .i64 a0_3] 28 (0, 0))) ∧ Aside0 (Below w.heap.size w w'))
 case atStart => exact ⟨(0), (0), (by first | rfl | (simp;done) | (simp [*];done)), (by first | rfl | (simp;done) | (simp [*];done)), H', ⟨Nat.le_refl _⟩, ⟨by (with_reducible repeat first|apply q1_|apply q2_|apply q3_);exact BK153.out⟩, ⟨by repeat (first | (with_reducible first | exact HB.out | apply b1_|apply b2_|apply b3_ | refine below_set ?_ GE153.out) | exact HB.out)⟩⟩
 case round =>
  clear H';(try clear c1);(try clear p2);obtain ⟨x5_1, x10_1, rfl, rfl, HA, HK1, BK153, HB⟩:=hrel
  cases gk with
  | zero => exact absurd HA.out (by simp [cert_winded.l0])
  | succ k1 =>
   have H:=HA.out;clear HA;simp only [cert_winded.l0] at H
   by_cases c4 : x10_1 < (l1.length : Int)
   ·rw [if_pos c4] at H;have c4b0 : decide (x10_1 < (l1.length : Int)) = true:=decide_eq_true c4;clear c4
    by_cases c5 : 0 ≤ x10_1
    ·rw [if_pos c5] at H;have c5b0 : decide (0 ≤ x10_1) = true:=decide_eq_true c5;clear c5
     by_cases c6 : x10_1 < (l1.length : Int)
     ·rw [if_pos c6] at H;have c6b0 : decide (x10_1 < (l1.length : Int)) = true:=decide_eq_true c6;clear c6
      by_cases c7 : (rd l1 x10_1) = 1
      ·rw [if_pos c7] at H;have c7b0 : ((rd l1 x10_1) == 1) = true:=beq_iff_eq.mpr c7;have c7b1 : ((rd l1 x10_1) != 1) = false:=bne_eq_false_iff_eq.mpr c7;clear c7
       by_cases c8 : x10_1 < (l0_2.length : Int)
       ·rw [if_pos c8] at H;have c8b0 : decide (x10_1 < (l0_2.length : Int)) = true:=decide_eq_true c8;clear c8;have H':=am_ H;clear H;have p154 : 0 ≤ (x10_1 : Int):=of_decide_eq_true (by first | (with_reducible assumption) | assumption);have q154 : x10_1 < (l1.length : Int):=of_decide_eq_true (by first | (with_reducible assumption) | assumption);obtain ⟨ad154, e154, hx154_0⟩:=Kd.at_int HR1.out x10_1 p154 q154
        cases e154
        replace hx154_0:=(HB.out.cell (World.block_lt_of_cell? w _ hx154_0)).trans hx154_0;replace p154:=eq_true p154;replace q154:=eq_true q154;obtain ⟨hcz9_0, hcz9_1, hcz9_2, hcz9_3⟩:=c4_ BK153.out;obtain ⟨hfz9_0, hfz9_1, hfz9_2, hfz9_3⟩:=z4_ BK153.out;have p155 : 0 ≤ (x10_1 : Int):=of_decide_eq_true (by first | (with_reducible assumption) | assumption);have q155 : x10_1 < (l0_2.length : Int):=of_decide_eq_true (by first | (with_reducible assumption) | assumption);obtain ⟨ad155, e155, hx155_0⟩:=Kd.at_int HR0_2.out x10_1 p155 q155
        cases e155
        replace hx155_0:=(HB.out.cell (World.block_lt_of_cell? w _ hx155_0)).trans hx155_0;replace p155:=eq_true p155;replace q155:=eq_true q155
        go_wp2
        go_roundg k1
        case measure => have:=HK1.out;omega
        case rel => exact ⟨(wrap64 (x5_1 + (rd l0_2 x10_1))), (wrap64 (x10_1 + 1)), (by first | rfl | (simp;done) | (simp [*];done)), (by first | rfl | (simp;done) | (simp [*];done)), H', ⟨by have:=HK1.out;omega⟩, ⟨by (with_reducible repeat first|apply q1_|apply q2_|apply q3_);exact BK153.out⟩, ⟨by repeat (first | (with_reducible first | exact HB.out | apply b1_|apply b2_|apply b3_ | refine below_set ?_ GE153.out) | exact HB.out)⟩⟩
       ·rw [if_neg c8] at H;exact absurd H (by simp)
      ·rw [if_neg c7] at H;have c7b0 : ((rd l1 x10_1) == 1) = false:=beq_eq_false_iff_ne.mpr c7;have c7b1 : ((rd l1 x10_1) != 1) = true:=bne_iff_ne.mpr c7;have H':=am_ H;clear H;have p154 : 0 ≤ (x10_1 : Int):=of_decide_eq_true (by first | (with_reducible assumption) | assumption);have q154 : x10_1 < (l1.length : Int):=of_decide_eq_true (by first | (with_reducible assumption) | assumption);obtain ⟨ad154, e154, hx154_0⟩:=Kd.at_int HR1.out x10_1 p154 q154
       cases e154
       replace hx154_0:=(HB.out.cell (World.block_lt_of_cell? w _ hx154_0)).trans hx154_0;replace p154:=eq_true p154;replace q154:=eq_true q154
       go_wp2
       go_roundg k1
       case measure => have:=HK1.out;omega
       case rel => exact ⟨(x5_1), (wrap64 (x10_1 + 1)), (by first | rfl | (simp;done) | (simp [*];done)), (by first | rfl | (simp;done) | (simp [*];done)), H', ⟨by have:=HK1.out;omega⟩, ⟨by (with_reducible repeat first|apply q1_|apply q2_|apply q3_);exact BK153.out⟩, ⟨by repeat (first | (with_reducible first | exact HB.out | apply b1_|apply b2_|apply b3_ | refine below_set ?_ GE153.out) | exact HB.out)⟩⟩
     ·rw [if_neg c6] at H;exact absurd H (by simp)
    ·rw [if_neg c5] at H;exact absurd H (by simp)
   ·rw [if_neg c4] at H;have c4b0 : decide (x10_1 < (l1.length : Int)) = false:=decide_eq_false c4;clear c4;obtain rfl:=Option.some.inj H;obtain ⟨hcz10_0, hcz10_1, hcz10_2, hcz10_3⟩:=c4_ BK153.out;obtain ⟨hfz10_0, hfz10_1, hfz10_2, hfz10_3⟩:=z4_ BK153.out
    go_wp2
    go_ret
    exact ⟨by first | rfl | (simp [errW_none, errW_some] <;> rfl) | (simp [*, errW_none, errW_some] <;> rfl), by repeat (first | (with_reducible first | exact HB.out | apply b1_|apply b2_|apply b3_ | refine below_set ?_ GE153.out) | exact HB.out)⟩

/-! ### cert_shut: function 37 -/
def cert_shut.f (k : Nat) (l0_0 : List Int) (l0_1 : List (List Int)) (l0_2 : List Int) (a0_3 : Int) (a1 : Int) (l2_0 : List Int) (a2_1 : Int) : Option (Bool) := (regis_Bound.f k l0_0 l0_1 l0_2 a0_3 l2_0).bind fun bt158 => (if bt158.2 = 0 then (if bt158.1 = a2_1 then ((cert_winded.f k l0_0 l0_1 l0_2 a0_3 l2_0).bind fun t160 => (if t160 = true then (some true) else (some (decide (bt158.1 ≥ a1))))) else (some false)) else (some false))
theorem cert_shut.mono : ∀ a0 a1 a2 a3 a4 a5 a6 k, LeO (cert_shut.f k a0 a1 a2 a3 a4 a5 a6) (cert_shut.f (k + 1) a0 a1 a2 a3 a4 a5 a6) := by
 intro a0 a1 a2 a3 a4 a5 a6 k
 unfold cert_shut.f
 repeat' first
   | (with_reducible exact cert_winded.mono _ _ _ _ _ _)
   | (with_reducible exact regis_Bound.mono _ _ _ _ _ _)
   | (with_reducible exact LeO.refl _)
   | (with_reducible exact LeO.none _)
   | (with_reducible refine LeO.ite ?_ ?_)
   | (with_reducible refine LeO.bind ?_ (fun _ => ?_))
   | exact cert_winded.mono _ _ _ _ _ _
   | exact regis_Bound.mono _ _ _ _ _ _
   | exact LeO.none _
   | refine LeO.ite ?_ ?_
   | refine LeO.bind ?_ (fun _ => ?_)
set_option maxHeartbeats 8000000 in
set_option maxRecDepth 100000 in
theorem cert_shut.calls (k : Nat) (A0_0 : Option Addr) (c0_0 : Nat) (l0_0 : List Int) (A0_1 : Option Addr) (c0_1 : Nat) (l0_1 : List (List Int)) (A0_2 : Option Addr) (c0_2 : Nat) (l0_2 : List Int) (a0_3 : Int) (a1 : Int) (A2_0 : Option Addr) (c2_0 : Nat) (l2_0 : List Int) (a2_1 : Int) (r : Bool) (w : World) (hr0_0 : Kd.C (Kd.int .i64) w A0_0 l0_0.length l0_0) (hc0_0 : l0_0.length ≤ c0_0) (hr0_1 : Kd.C (Kd.slice 3 (Kd.int .i64)) w A0_1 l0_1.length l0_1) (hc0_1 : l0_1.length ≤ c0_1) (hr0_2 : Kd.C (Kd.int .i64) w A0_2 l0_2.length l0_2) (hc0_2 : l0_2.length ≤ c0_2) (hr2_0 : Kd.C (Kd.int .u8) w A2_0 l2_0.length l2_0) (hc2_0 : l2_0.length ≤ c2_0) (h : cert_shut.f k l0_0 l0_1 l0_2 a0_3 a1 l2_0 a2_1 = some r) :
  Calls Tryd.prog 37 #[.agg #[.slice A0_0 l0_0.length c0_0, .slice A0_1 l0_1.length c0_1, .slice A0_2 l0_2.length c0_2, .int .i64 a0_3], .int .i64 a1, .agg #[.slice A2_0 l2_0.length c2_0, .int .i64 a2_1]] w fun e w' => e = .returned (.bool r) ∧ Below w.heap.size w w':=by
 have hu28:=Tryd.underlying28;have hu66:=Tryd.underlying66;have HR0_0:=am_ hr0_0;have HC0_0:=am_ hc0_0;clear hr0_0 hc0_0;have HR0_1:=am_ hr0_1;have HC0_1:=am_ hc0_1;clear hr0_1 hc0_1;have HR0_2:=am_ hr0_2;have HC0_2:=am_ hc0_2;clear hr0_2 hc0_2;have HR2_0:=am_ hr2_0;have HC2_0:=am_ hc2_0;clear hr2_0 hc2_0;have HB:=am_ (Below.refl w.heap.size w);have H : ((regis_Bound.f k l0_0 l0_1 l0_2 a0_3 l2_0).bind fun bt158 => (if bt158.2 = 0 then (if bt158.1 = a2_1 then ((cert_winded.f k l0_0 l0_1 l0_2 a0_3 l2_0).bind fun t160 => (if t160 = true then (some true) else (some (decide (bt158.1 ≥ a1))))) else (some false)) else (some false))) = some r:=h;clear h;replace H:=Option.bind_eq_some_iff.mp H;obtain ⟨⟨t158, t159⟩, A40, H⟩:=H;replace H : (if t159 = 0 then (if t158 = a2_1 then ((cert_winded.f k l0_0 l0_1 l0_2 a0_3 l2_0).bind fun t160 => (if t160 = true then (some true) else (some (decide (t158 ≥ a1))))) else (some false)) else (some false)) = some r:=H;have A4:=am_ A40;clear A40
 by_cases c5 : t159 = 0
 ·rw [if_pos c5] at H;have c5b0 : (t159 == 0) = true:=beq_iff_eq.mpr c5;have c5b1 : (t159 != 0) = false:=bne_eq_false_iff_eq.mpr c5;clear c5
  by_cases c6 : t158 = a2_1
  ·rw [if_pos c6] at H;have c6b0 : (t158 == a2_1) = true:=beq_iff_eq.mpr c6;have c6b1 : (t158 != a2_1) = false:=bne_eq_false_iff_eq.mpr c6;clear c6;replace H:=Option.bind_eq_some_iff.mp H;obtain ⟨t160, A70, H⟩:=H;replace H : (if t160 = true then (some true) else (some (decide (t158 ≥ a1)))) = some r:=H;have A7:=am_ A70;clear A70
   by_cases c8 : t160 = true
   ·subst c8;have H1 : (some true) = some r:=by rw [if_pos rfl] at H;exact H
    clear H;have H:=H1;clear H1;obtain rfl:=Option.some.inj H;go_enter Tryd.func37, Tryd.ntmps37
    go_wp2_with (first | ((with_reducible refine gate_dst (N:=3) rfl ?_);refine box_event ?hg (N:=3) ?hd (cs:=#[.slice A0_0 l0_0.length c0_0, .slice A0_1 l0_1.length c0_1, .slice A0_2 l0_2.length c0_2, .int .i64 a0_3]) (t:=28) ?hr ?_;(case hd => rfl);(case hg => rfl);(case hr => first | (go_simp;done) | (go_simp;rfl));intro gb156 hg w9 hbox hb;have BK156:=am_ hbox;have GW156:=gz_ hg HB;have GE156:=gz_ hg HB;replace HB:=bs_ HB hb;clear hb hbox hg) | ((with_reducible refine gate_dst (N:=5) rfl ?_);refine box_event ?hg (N:=5) ?hd (cs:=#[.slice A2_0 l2_0.length c2_0, .int .i64 a2_1]) (t:=66) ?hr ?_;(case hd => rfl);(case hg => rfl);(case hr => first | (go_simp;done) | (go_simp;rfl));intro gb157 hg w10 hbox hb;have BK157:=am_ hbox;have GW157:=gz_ hg HB;have GE157:=gz_ hg HB;replace HB:=am_ (below_step (by repeat (first | (with_reducible first | exact HB.out | apply b1_|apply b2_|apply b3_ | refine below_set ?_ GE156.out) | exact HB.out)) hb);have NB156_157:=nl_ hg BK156;have NB157_156:=ng_ hg BK156;replace BK156:=bb_ BK156 hb;clear hb hbox hg;have hnb11:=NB156_157.out;have hnc11:=NB157_156.out;obtain ⟨hcz12_0, hcz12_1, hcz12_2, hcz12_3⟩:=c4_ BK156.out;obtain ⟨hfz12_0, hfz12_1, hfz12_2, hfz12_3⟩:=z4_ BK156.out;obtain ⟨hcz13_0, hcz13_1⟩:=c2_ BK157.out;obtain ⟨hfz13_0, hfz13_1⟩:=z2_ BK157.out) | ((with_reducible refine gate_callee (f:=36) rfl ?_);refine goesL_ (some 13) rfl rfl Tryd.func36 (by kernel_rfl) rfl #[.agg #[.slice A0_0 l0_0.length c0_0, .slice A0_1 l0_1.length c0_1, .slice A0_2 l0_2.length c0_2, .int .i64 a0_3], .slice A2_0 l2_0.length c2_0] rfl (by (try simp only [List.map_toArray, List.map_cons, List.map_nil]);first|done|rfl|(simp only [List.length_drop, List.length_take];rfl)) ?_;(with_reducible refine (regis_Bound.calls k _ _ l0_0 _ _ l0_1 _ _ l0_2 a0_3 _ _ l2_0 t158 t159 _ ?side1 ?side2 ?side3 ?side4 ?side5 ?side6 ?side7 ?side8 A4.out).mono ?_);(case side1 => exact cb_ HR0_0 HB);(case side2 => exact HC0_0.out);(case side3 => exact cb_ HR0_1 HB);(case side4 => exact HC0_1.out);(case side5 => exact cb_ HR0_2 HB);(case side6 => exact HC0_2.out);(case side7 => exact cb_ HR2_0 HB);(case side8 => exact HC2_0.out);rintro e w14 ⟨rfl, hb⟩;refine ⟨_, rfl, ?_⟩;replace BK156:=bb_ BK156 hb;replace BK157:=bb_ BK157 hb;replace HB:=am_ (below_step (by repeat (first | (with_reducible first | exact HB.out | apply b1_|apply b2_|apply b3_ | refine below_set ?_ GE156.out | refine below_set ?_ GE157.out) | exact HB.out)) hb);(try clear hb);(try clear hb2);(try clear hk);(try clear hi);obtain ⟨hcz15_0, hcz15_1⟩:=c2_ BK157.out;obtain ⟨hfz15_0, hfz15_1⟩:=z2_ BK157.out;obtain ⟨hcz16_0, hcz16_1, hcz16_2, hcz16_3⟩:=c4_ BK156.out;obtain ⟨hfz16_0, hfz16_1, hfz16_2, hfz16_3⟩:=z4_ BK156.out) | (go_at_call 65;(with_reducible refine (cert_winded.calls k _ _ l0_0 _ _ l0_1 _ _ l0_2 a0_3 _ _ l2_0 true _ ?side1 ?side2 ?side3 ?side4 ?side5 ?side6 ?side7 ?side8 A7.out).mono ?_);(case side1 => exact cb_ HR0_0 HB);(case side2 => exact HC0_0.out);(case side3 => exact cb_ HR0_1 HB);(case side4 => exact HC0_1.out);(case side5 => exact cb_ HR0_2 HB);(case side6 => exact HC0_2.out);(case side7 => exact cb_ HR2_0 HB);(case side8 => exact HC2_0.out);rintro e w17 ⟨rfl, hb⟩;replace BK156:=bb_ BK156 hb;replace BK157:=bb_ BK157 hb;replace HB:=am_ (below_step (by repeat (first | (with_reducible first | exact HB.out | apply b1_|apply b2_|apply b3_ | refine below_set ?_ GE156.out | refine below_set ?_ GE157.out) | exact HB.out)) hb);(try clear hb);(try clear hb2);(try clear hk);(try clear hi)))
    go_ret
    exact ⟨by first | rfl | (simp [errW_none, errW_some] <;> rfl) | (simp [*, errW_none, errW_some] <;> rfl), by repeat (first | (with_reducible first | exact HB.out | apply b1_|apply b2_|apply b3_ | refine below_set ?_ GE156.out | refine below_set ?_ GE157.out) | exact HB.out)⟩
   ·replace c8:=Bool.eq_false_iff.mpr c8;subst c8;have H1 : (some (decide (t158 ≥ a1))) = some r:=by rw [if_neg (show ¬ (false = true) by decide)] at H;exact H
    clear H;have H:=H1;clear H1;obtain rfl:=Option.some.inj H;go_enter Tryd.func37, Tryd.ntmps37
    go_wp2_with (first | ((with_reducible refine gate_dst (N:=3) rfl ?_);refine box_event ?hg (N:=3) ?hd (cs:=#[.slice A0_0 l0_0.length c0_0, .slice A0_1 l0_1.length c0_1, .slice A0_2 l0_2.length c0_2, .int .i64 a0_3]) (t:=28) ?hr ?_;(case hd => rfl);(case hg => rfl);(case hr => first | (go_simp;done) | (go_simp;rfl));intro gb156 hg w18 hbox hb;have BK156:=am_ hbox;have GW156:=gz_ hg HB;have GE156:=gz_ hg HB;replace HB:=bs_ HB hb;clear hb hbox hg) | ((with_reducible refine gate_dst (N:=5) rfl ?_);refine box_event ?hg (N:=5) ?hd (cs:=#[.slice A2_0 l2_0.length c2_0, .int .i64 a2_1]) (t:=66) ?hr ?_;(case hd => rfl);(case hg => rfl);(case hr => first | (go_simp;done) | (go_simp;rfl));intro gb157 hg w19 hbox hb;have BK157:=am_ hbox;have GW157:=gz_ hg HB;have GE157:=gz_ hg HB;replace HB:=am_ (below_step (by repeat (first | (with_reducible first | exact HB.out | apply b1_|apply b2_|apply b3_ | refine below_set ?_ GE156.out) | exact HB.out)) hb);have NB156_157:=nl_ hg BK156;have NB157_156:=ng_ hg BK156;replace BK156:=bb_ BK156 hb;clear hb hbox hg;have hnb20:=NB156_157.out;have hnc20:=NB157_156.out;obtain ⟨hcz21_0, hcz21_1, hcz21_2, hcz21_3⟩:=c4_ BK156.out;obtain ⟨hfz21_0, hfz21_1, hfz21_2, hfz21_3⟩:=z4_ BK156.out;obtain ⟨hcz22_0, hcz22_1⟩:=c2_ BK157.out;obtain ⟨hfz22_0, hfz22_1⟩:=z2_ BK157.out) | ((with_reducible refine gate_callee (f:=36) rfl ?_);refine goesL_ (some 13) rfl rfl Tryd.func36 (by kernel_rfl) rfl #[.agg #[.slice A0_0 l0_0.length c0_0, .slice A0_1 l0_1.length c0_1, .slice A0_2 l0_2.length c0_2, .int .i64 a0_3], .slice A2_0 l2_0.length c2_0] rfl (by (try simp only [List.map_toArray, List.map_cons, List.map_nil]);first|done|rfl|(simp only [List.length_drop, List.length_take];rfl)) ?_;(with_reducible refine (regis_Bound.calls k _ _ l0_0 _ _ l0_1 _ _ l0_2 a0_3 _ _ l2_0 t158 t159 _ ?side1 ?side2 ?side3 ?side4 ?side5 ?side6 ?side7 ?side8 A4.out).mono ?_);(case side1 => exact cb_ HR0_0 HB);(case side2 => exact HC0_0.out);(case side3 => exact cb_ HR0_1 HB);(case side4 => exact HC0_1.out);(case side5 => exact cb_ HR0_2 HB);(case side6 => exact HC0_2.out);(case side7 => exact cb_ HR2_0 HB);(case side8 => exact HC2_0.out);rintro e w23 ⟨rfl, hb⟩;refine ⟨_, rfl, ?_⟩;replace BK156:=bb_ BK156 hb;replace BK157:=bb_ BK157 hb;replace HB:=am_ (below_step (by repeat (first | (with_reducible first | exact HB.out | apply b1_|apply b2_|apply b3_ | refine below_set ?_ GE156.out | refine below_set ?_ GE157.out) | exact HB.out)) hb);(try clear hb);(try clear hb2);(try clear hk);(try clear hi);obtain ⟨hcz24_0, hcz24_1⟩:=c2_ BK157.out;obtain ⟨hfz24_0, hfz24_1⟩:=z2_ BK157.out;obtain ⟨hcz25_0, hcz25_1, hcz25_2, hcz25_3⟩:=c4_ BK156.out;obtain ⟨hfz25_0, hfz25_1, hfz25_2, hfz25_3⟩:=z4_ BK156.out) | (go_at_call 65;(with_reducible refine (cert_winded.calls k _ _ l0_0 _ _ l0_1 _ _ l0_2 a0_3 _ _ l2_0 false _ ?side1 ?side2 ?side3 ?side4 ?side5 ?side6 ?side7 ?side8 A7.out).mono ?_);(case side1 => exact cb_ HR0_0 HB);(case side2 => exact HC0_0.out);(case side3 => exact cb_ HR0_1 HB);(case side4 => exact HC0_1.out);(case side5 => exact cb_ HR0_2 HB);(case side6 => exact HC0_2.out);(case side7 => exact cb_ HR2_0 HB);(case side8 => exact HC2_0.out);rintro e w26 ⟨rfl, hb⟩;replace BK156:=bb_ BK156 hb;replace BK157:=bb_ BK157 hb;replace HB:=am_ (below_step (by repeat (first | (with_reducible first | exact HB.out | apply b1_|apply b2_|apply b3_ | refine below_set ?_ GE156.out | refine below_set ?_ GE157.out) | exact HB.out)) hb);(try clear hb);(try clear hb2);(try clear hk);(try clear hi)))
    go_ret
    exact ⟨by first | rfl | (simp [errW_none, errW_some] <;> rfl) | (simp [*, errW_none, errW_some] <;> rfl), by repeat (first | (with_reducible first | exact HB.out | apply b1_|apply b2_|apply b3_ | refine below_set ?_ GE156.out | refine below_set ?_ GE157.out) | exact HB.out)⟩
  ·rw [if_neg c6] at H;have c6b0 : (t158 == a2_1) = false:=beq_eq_false_iff_ne.mpr c6;have c6b1 : (t158 != a2_1) = true:=bne_iff_ne.mpr c6;obtain rfl:=Option.some.inj H;go_enter Tryd.func37, Tryd.ntmps37
   go_wp2_with (first | ((with_reducible refine gate_dst (N:=3) rfl ?_);refine box_event ?hg (N:=3) ?hd (cs:=#[.slice A0_0 l0_0.length c0_0, .slice A0_1 l0_1.length c0_1, .slice A0_2 l0_2.length c0_2, .int .i64 a0_3]) (t:=28) ?hr ?_;(case hd => rfl);(case hg => rfl);(case hr => first | (go_simp;done) | (go_simp;rfl));intro gb156 hg w27 hbox hb;have BK156:=am_ hbox;have GW156:=gz_ hg HB;have GE156:=gz_ hg HB;replace HB:=bs_ HB hb;clear hb hbox hg) | ((with_reducible refine gate_dst (N:=5) rfl ?_);refine box_event ?hg (N:=5) ?hd (cs:=#[.slice A2_0 l2_0.length c2_0, .int .i64 a2_1]) (t:=66) ?hr ?_;(case hd => rfl);(case hg => rfl);(case hr => first | (go_simp;done) | (go_simp;rfl));intro gb157 hg w28 hbox hb;have BK157:=am_ hbox;have GW157:=gz_ hg HB;have GE157:=gz_ hg HB;replace HB:=am_ (below_step (by repeat (first | (with_reducible first | exact HB.out | apply b1_|apply b2_|apply b3_ | refine below_set ?_ GE156.out) | exact HB.out)) hb);have NB156_157:=nl_ hg BK156;have NB157_156:=ng_ hg BK156;replace BK156:=bb_ BK156 hb;clear hb hbox hg;have hnb29:=NB156_157.out;have hnc29:=NB157_156.out;obtain ⟨hcz30_0, hcz30_1, hcz30_2, hcz30_3⟩:=c4_ BK156.out;obtain ⟨hfz30_0, hfz30_1, hfz30_2, hfz30_3⟩:=z4_ BK156.out;obtain ⟨hcz31_0, hcz31_1⟩:=c2_ BK157.out;obtain ⟨hfz31_0, hfz31_1⟩:=z2_ BK157.out) | ((with_reducible refine gate_callee (f:=36) rfl ?_);refine goesL_ (some 13) rfl rfl Tryd.func36 (by kernel_rfl) rfl #[.agg #[.slice A0_0 l0_0.length c0_0, .slice A0_1 l0_1.length c0_1, .slice A0_2 l0_2.length c0_2, .int .i64 a0_3], .slice A2_0 l2_0.length c2_0] rfl (by (try simp only [List.map_toArray, List.map_cons, List.map_nil]);first|done|rfl|(simp only [List.length_drop, List.length_take];rfl)) ?_;(with_reducible refine (regis_Bound.calls k _ _ l0_0 _ _ l0_1 _ _ l0_2 a0_3 _ _ l2_0 t158 t159 _ ?side1 ?side2 ?side3 ?side4 ?side5 ?side6 ?side7 ?side8 A4.out).mono ?_);(case side1 => exact cb_ HR0_0 HB);(case side2 => exact HC0_0.out);(case side3 => exact cb_ HR0_1 HB);(case side4 => exact HC0_1.out);(case side5 => exact cb_ HR0_2 HB);(case side6 => exact HC0_2.out);(case side7 => exact cb_ HR2_0 HB);(case side8 => exact HC2_0.out);rintro e w32 ⟨rfl, hb⟩;refine ⟨_, rfl, ?_⟩;replace BK156:=bb_ BK156 hb;replace BK157:=bb_ BK157 hb;replace HB:=am_ (below_step (by repeat (first | (with_reducible first | exact HB.out | apply b1_|apply b2_|apply b3_ | refine below_set ?_ GE156.out | refine below_set ?_ GE157.out) | exact HB.out)) hb);(try clear hb);(try clear hb2);(try clear hk);(try clear hi);obtain ⟨hcz33_0, hcz33_1⟩:=c2_ BK157.out;obtain ⟨hfz33_0, hfz33_1⟩:=z2_ BK157.out))
   go_ret
   exact ⟨by first | rfl | (simp [errW_none, errW_some] <;> rfl) | (simp [*, errW_none, errW_some] <;> rfl), by repeat (first | (with_reducible first | exact HB.out | apply b1_|apply b2_|apply b3_ | refine below_set ?_ GE156.out | refine below_set ?_ GE157.out) | exact HB.out)⟩
 ·rw [if_neg c5] at H;have c5b0 : (t159 == 0) = false:=beq_eq_false_iff_ne.mpr c5;have c5b1 : (t159 != 0) = true:=bne_iff_ne.mpr c5;obtain rfl:=Option.some.inj H;go_enter Tryd.func37, Tryd.ntmps37
  go_wp2_with (first | ((with_reducible refine gate_dst (N:=3) rfl ?_);refine box_event ?hg (N:=3) ?hd (cs:=#[.slice A0_0 l0_0.length c0_0, .slice A0_1 l0_1.length c0_1, .slice A0_2 l0_2.length c0_2, .int .i64 a0_3]) (t:=28) ?hr ?_;(case hd => rfl);(case hg => rfl);(case hr => first | (go_simp;done) | (go_simp;rfl));intro gb156 hg w34 hbox hb;have BK156:=am_ hbox;have GW156:=gz_ hg HB;have GE156:=gz_ hg HB;replace HB:=bs_ HB hb;clear hb hbox hg) | ((with_reducible refine gate_dst (N:=5) rfl ?_);refine box_event ?hg (N:=5) ?hd (cs:=#[.slice A2_0 l2_0.length c2_0, .int .i64 a2_1]) (t:=66) ?hr ?_;(case hd => rfl);(case hg => rfl);(case hr => first | (go_simp;done) | (go_simp;rfl));intro gb157 hg w35 hbox hb;have BK157:=am_ hbox;have GW157:=gz_ hg HB;have GE157:=gz_ hg HB;replace HB:=am_ (below_step (by repeat (first | (with_reducible first | exact HB.out | apply b1_|apply b2_|apply b3_ | refine below_set ?_ GE156.out) | exact HB.out)) hb);have NB156_157:=nl_ hg BK156;have NB157_156:=ng_ hg BK156;replace BK156:=bb_ BK156 hb;clear hb hbox hg;have hnb36:=NB156_157.out;have hnc36:=NB157_156.out;obtain ⟨hcz37_0, hcz37_1, hcz37_2, hcz37_3⟩:=c4_ BK156.out;obtain ⟨hfz37_0, hfz37_1, hfz37_2, hfz37_3⟩:=z4_ BK156.out;obtain ⟨hcz38_0, hcz38_1⟩:=c2_ BK157.out;obtain ⟨hfz38_0, hfz38_1⟩:=z2_ BK157.out) | ((with_reducible refine gate_callee (f:=36) rfl ?_);refine goesL_ (some 13) rfl rfl Tryd.func36 (by kernel_rfl) rfl #[.agg #[.slice A0_0 l0_0.length c0_0, .slice A0_1 l0_1.length c0_1, .slice A0_2 l0_2.length c0_2, .int .i64 a0_3], .slice A2_0 l2_0.length c2_0] rfl (by (try simp only [List.map_toArray, List.map_cons, List.map_nil]);first|done|rfl|(simp only [List.length_drop, List.length_take];rfl)) ?_;(with_reducible refine (regis_Bound.calls k _ _ l0_0 _ _ l0_1 _ _ l0_2 a0_3 _ _ l2_0 t158 t159 _ ?side1 ?side2 ?side3 ?side4 ?side5 ?side6 ?side7 ?side8 A4.out).mono ?_);(case side1 => exact cb_ HR0_0 HB);(case side2 => exact HC0_0.out);(case side3 => exact cb_ HR0_1 HB);(case side4 => exact HC0_1.out);(case side5 => exact cb_ HR0_2 HB);(case side6 => exact HC0_2.out);(case side7 => exact cb_ HR2_0 HB);(case side8 => exact HC2_0.out);rintro e w39 ⟨rfl, hb⟩;refine ⟨_, rfl, ?_⟩;replace BK156:=bb_ BK156 hb;replace BK157:=bb_ BK157 hb;replace HB:=am_ (below_step (by repeat (first | (with_reducible first | exact HB.out | apply b1_|apply b2_|apply b3_ | refine below_set ?_ GE156.out | refine below_set ?_ GE157.out) | exact HB.out)) hb);(try clear hb);(try clear hb2);(try clear hk);(try clear hi)))
  go_ret
  exact ⟨by first | rfl | (simp [errW_none, errW_some] <;> rfl) | (simp [*, errW_none, errW_some] <;> rfl), by repeat (first | (with_reducible first | exact HB.out | apply b1_|apply b2_|apply b3_ | refine below_set ?_ GE156.out | refine below_set ?_ GE157.out) | exact HB.out)⟩

/-! ### slices_Clone_uint8_uint8: function 38 -/
def slices_Clone_uint8_uint8.f (l0 : List Int) : Option (List Int) := if l0.length * 1 ≤ 140737488355328 then some l0 else none
theorem slices_Clone_uint8_uint8.eqnil (w : World) (A : Option Addr) (n c : Nat) : (Go.binOp .eql 64 (.slice A n c) (.slice none 0 0)).run Tryd.prog w = .ok (.bool A.isNone) w := by
  have ht : Tryd.prog.underlying 64 = some (.slice 5) := Tryd.underlying64
  cases A with
  | none => exact Lib.run_eql_slice_nil w _ _ _ _ _ _ _ ht
  | some ad => exact Lib.run_eql_slice_nil w _ _ _ _ _ _ _ ht
set_option maxHeartbeats 2000000 in
set_option maxRecDepth 100000 in
theorem slices_Clone_uint8_uint8.calls (A0 : Option Addr) (c0 : Nat) (l0 : List Int) (r : List Int) (w : World) (hr0 : Kd.C (Kd.int .u8) w A0 l0.length l0) (hc0 : l0.length ≤ c0) (h : slices_Clone_uint8_uint8.f l0 = some r) :
    Calls Tryd.prog 38 #[.slice A0 l0.length c0] w fun e w' => ∃ v0_, e = .returned v0_ ∧ Kd.R (Kd.int .u8) 5 w' w.heap.size (fun _ => True) v0_ r ∧ Below w.heap.size w w' := by
  unfold slices_Clone_uint8_uint8.f at h
  split at h
  case isFalse => cases h
  case isTrue hl =>
  injection h with h
  subst h
  have hq := slices_Clone_uint8_uint8.eqnil
  have HR := Aside0.mk hr0
  clear hr0
  cases A0 with
  | none =>
    have h0 : l0 = [] := by
      refine List.eq_nil_of_length_eq_zero ?_
      rcases Nat.eq_zero_or_pos l0.length with h0 | h0
      · exact h0
      · obtain ⟨ad, h, _⟩ := HR.out.2.2 h0
        cases h
    subst h0
    go_enter Tryd.func38, Tryd.ntmps38
    go_wp2
    go_ret
    exact ⟨_, rfl, Kd.R_nil _ _ _ _ _, Below.refl _ _⟩
  | some ad =>
    go_enter Tryd.func38, Tryd.ntmps38
    have HO : Kd.R (Kd.int .u8) 5 (w.alloc (.cells #[] 5)) w.heap.size (fun _ => True) (.slice (some ⟨w.heap.size, 0, none⟩) 0 0) [] :=
      Kd.R_of_own (by refine ⟨rfl, .inr ⟨w.heap.size, 0, #[], rfl, Nat.le_refl _, blk_new w _, ?_⟩⟩; exact ⟨Nat.le_refl _, Nat.zero_le _, rfl, rfl⟩) (fun _ _ => trivial)
    go_wp2_with (at_builtin; refine Kd.R_append_row (w0 := w) (Value.int .u8) 0 w.heap.size rfl _ _ 64 5 (.int .u8 0) 1 rfl Tryd.underlying64 (by kernel_rfl) rfl (by decide) _ [] l0 _ _ _ (fun _ => True) rfl rfl (fun _ _ => trivial) HO (Kd.C_alloc HR.out _) (below_alloc (Below.refl _ _) _) (by simp) (by simpa using hl) ?_; intro v1 w1 hR hB hg hat)
    go_ret
    exact ⟨_, rfl, hR, hB⟩


end Go.Proofs.YtfcidgnbocijdaaDoor.PCertMakes
