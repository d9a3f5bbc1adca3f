-- Written by a program of this session (the kit's print, turned: wip/px).
import Derived.Test.YtfcidgnbocijdaaDoorPCertMakesx0
import Derived.Test.YtfcidgnbocijdaaDoorPCertMakesx1
import Derived.Test.YtfcidgnbocijdaaDoorSq2
namespace Go.Proofs.YtfcidgnbocijdaaDoor.PCertMakes
open Go.Proofs.YtfcidgnbocijdaaDoor.Sq
open Go.RowKit Go.Proofs.YtfcidgnbocijdaaDoorW.PrintWords Go.Proofs.YtfcidgnbocijdaaDoorW.PrintLast Go.Proofs.YtfcidgnbocijdaaDoorW.PrintMore
attribute [local go_sem] max2_int min2_int max_two min_two max_three min_three max_four min_four   -- for this text's walks alone
set_option linter.unusedVariables false
set_option linter.unusedSimpArgs false

/-! ### regis_Check: function 39 -/
mutual
def regis_Check.j0 : Nat → Int → Bool → List Int → List (List Int) → List Int → Int → Option (Int)
 | 0, _, _, _, _, _, _ => none
 | k + 1, x3, x34, x120000, x120001, x120002, x120003 => if x34 = true then (some 2) else ((slices_ContainsFunc_int_int_regis_wrong.f k x120000).bind fun t121 => (if t121 = true then (regis_Check.j1 k x3 true x120000 x120001 x120002 x120003) else ((slices_ContainsFunc_int_int_regis_wrong.f k x120002).bind fun t122 => (regis_Check.j1 k x3 t122 x120000 x120001 x120002 x120003))))
def regis_Check.j1 : Nat → Int → Bool → List Int → List (List Int) → List Int → Int → Option (Int)
 | 0, _, _, _, _, _, _ => none
 | k + 1, x3, x42, x120000, x120001, x120002, x120003 => if x42 = true then (some 2) else (regis_Check.l0 k x3 x120001 (x120001.length : Int) 0)
def regis_Check.l0 : Nat → Int → List (List Int) → Int → Int → Option (Int)
 | 0, _, _, _, _ => none
 | k + 1, x3, x44, x45, x46 => if x46 < x45 then (if 0 ≤ x46 then (if x46 < (x44.length : Int) then (if ((rd_L1 x44 x46).length : Int) = x3 then ((slices_ContainsFunc_int_int_regis_wrong.f k (rd_L1 x44 x46)).bind fun t124 => (if t124 = true then (some 2) else (regis_Check.l0 k x3 x44 x45 (wrap64 (x46 + 1))))) else (some 2)) else (none)) else (none)) else (some 0)
end
def regis_Check.f (k : Nat) (l0_0 : List Int) (l0_1 : List (List Int)) (l0_2 : List Int) (a0_3 : Int) : Option (Int) := if (l0_0.length : Int) = 0 then (regis_Check.j0 k (l0_0.length : Int) true l0_0 l0_1 l0_2 a0_3) else (if (l0_0.length : Int) > 16 then (regis_Check.j0 k (l0_0.length : Int) true l0_0 l0_1 l0_2 a0_3) else (if (l0_1.length : Int) > 16 then (regis_Check.j0 k (l0_0.length : Int) true l0_0 l0_1 l0_2 a0_3) else (if (l0_2.length : Int) = (l0_1.length : Int) then ((regis_wrong.f a0_3).bind fun t120 => (regis_Check.j0 k (l0_0.length : Int) t120 l0_0 l0_1 l0_2 a0_3)) else (regis_Check.j0 k (l0_0.length : Int) true l0_0 l0_1 l0_2 a0_3))))
theorem regis_Check.mono_l : ∀ k, (∀ y0 y1 y2 y3 y4 y5, LeO (regis_Check.j0 k y0 y1 y2 y3 y4 y5) (regis_Check.j0 (k + 1) y0 y1 y2 y3 y4 y5)) ∧ (∀ y0 y1 y2 y3 y4 y5, LeO (regis_Check.j1 k y0 y1 y2 y3 y4 y5) (regis_Check.j1 (k + 1) y0 y1 y2 y3 y4 y5)) ∧ (∀ y0 y1 y2 y3, LeO (regis_Check.l0 k y0 y1 y2 y3) (regis_Check.l0 (k + 1) y0 y1 y2 y3))
 | 0 => ⟨fun _ _ _ _ _ _ r h => by simp [regis_Check.j0] at h, fun _ _ _ _ _ _ r h => by simp [regis_Check.j1] at h, fun _ _ _ _ r h => by simp [regis_Check.l0] at h⟩
 | k + 1 => by
  obtain ⟨ih0, ih1, ih2⟩:=regis_Check.mono_l k;refine ⟨?_, ?_, ?_⟩
  ·intro y0 y1 y2 y3 y4 y5
   unfold regis_Check.j0
   repeat' first
   | (with_reducible exact ih0 _ _ _ _ _ _)
   | (with_reducible exact ih1 _ _ _ _ _ _)
   | (with_reducible exact ih2 _ _ _ _)
   | (with_reducible exact slices_ContainsFunc_int_int_regis_wrong.mono _ _)
   | (with_reducible exact LeO.refl _)
   | (with_reducible exact LeO.none _)
   | (with_reducible refine LeO.ite ?_ ?_)
   | (with_reducible refine LeO.bind ?_ (fun _ => ?_))
   | exact ih0 _ _ _ _ _ _
   | exact ih1 _ _ _ _ _ _
   | exact ih2 _ _ _ _
   | exact slices_ContainsFunc_int_int_regis_wrong.mono _ _
   | exact LeO.none _
   | refine LeO.ite ?_ ?_
   | refine LeO.bind ?_ (fun _ => ?_)
  ·intro y0 y1 y2 y3 y4 y5
   unfold regis_Check.j1
   repeat' first
   | (with_reducible exact ih0 _ _ _ _ _ _)
   | (with_reducible exact ih1 _ _ _ _ _ _)
   | (with_reducible exact ih2 _ _ _ _)
   | (with_reducible exact slices_ContainsFunc_int_int_regis_wrong.mono _ _)
   | (with_reducible exact LeO.refl _)
   | (with_reducible exact LeO.none _)
   | (with_reducible refine LeO.ite ?_ ?_)
   | (with_reducible refine LeO.bind ?_ (fun _ => ?_))
   | exact ih0 _ _ _ _ _ _
   | exact ih1 _ _ _ _ _ _
   | exact ih2 _ _ _ _
   | exact slices_ContainsFunc_int_int_regis_wrong.mono _ _
   | exact LeO.none _
   | refine LeO.ite ?_ ?_
   | refine LeO.bind ?_ (fun _ => ?_)
  ·intro y0 y1 y2 y3
   unfold regis_Check.l0
   repeat' first
   | (with_reducible exact ih0 _ _ _ _ _ _)
   | (with_reducible exact ih1 _ _ _ _ _ _)
   | (with_reducible exact ih2 _ _ _ _)
   | (with_reducible exact slices_ContainsFunc_int_int_regis_wrong.mono _ _)
   | (with_reducible exact LeO.refl _)
   | (with_reducible exact LeO.none _)
   | (with_reducible refine LeO.ite ?_ ?_)
   | (with_reducible refine LeO.bind ?_ (fun _ => ?_))
   | exact ih0 _ _ _ _ _ _
   | exact ih1 _ _ _ _ _ _
   | exact ih2 _ _ _ _
   | exact slices_ContainsFunc_int_int_regis_wrong.mono _ _
   | exact LeO.none _
   | refine LeO.ite ?_ ?_
   | refine LeO.bind ?_ (fun _ => ?_)
theorem regis_Check.mono : ∀ a0 a1 a2 a3 k, LeO (regis_Check.f k a0 a1 a2 a3) (regis_Check.f (k + 1) a0 a1 a2 a3) := by
 intro a0 a1 a2 a3 k;obtain ⟨ih0, ih1, ih2⟩:=regis_Check.mono_l k
 unfold regis_Check.f
 repeat' first
   | (with_reducible exact ih0 _ _ _ _ _ _)
   | (with_reducible exact ih1 _ _ _ _ _ _)
   | (with_reducible exact ih2 _ _ _ _)
   | (with_reducible exact slices_ContainsFunc_int_int_regis_wrong.mono _ _)
   | (with_reducible exact LeO.refl _)
   | (with_reducible exact LeO.none _)
   | (with_reducible refine LeO.ite ?_ ?_)
   | (with_reducible refine LeO.bind ?_ (fun _ => ?_))
   | exact ih0 _ _ _ _ _ _
   | exact ih1 _ _ _ _ _ _
   | exact ih2 _ _ _ _
   | exact slices_ContainsFunc_int_int_regis_wrong.mono _ _
   | exact LeO.none _
   | refine LeO.ite ?_ ?_
   | refine LeO.bind ?_ (fun _ => ?_)
set_option maxHeartbeats 8000000 in
set_option maxRecDepth 100000 in
theorem regis_Check.calls (k : Nat) (A0_0 : Option Addr) (c0_0 : Nat) (l0_0 : List Int) (A0_1 : Option Addr) (c0_1 : Nat) (l0_1 : List (List Int)) (A0_2 : Option Addr) (c0_2 : Nat) (l0_2 : List Int) (a0_3 : Int) (r : Int) (w : World) (hr0_0 : Kd.C (Kd.int .i64) w A0_0 l0_0.length l0_0) (hc0_0 : l0_0.length ≤ c0_0) (hr0_1 : Kd.C (Kd.slice 3 (Kd.int .i64)) w A0_1 l0_1.length l0_1) (hc0_1 : l0_1.length ≤ c0_1) (hr0_2 : Kd.C (Kd.int .i64) w A0_2 l0_2.length l0_2) (hc0_2 : l0_2.length ≤ c0_2) (h : regis_Check.f k l0_0 l0_1 l0_2 a0_3 = some r) :
  Calls Tryd.prog 39 #[.agg #[.slice A0_0 l0_0.length c0_0, .slice A0_1 l0_1.length c0_1, .slice A0_2 l0_2.length c0_2, .int .i64 a0_3]] w fun e w' => e = .returned (.int .i64 r) ∧ Below w.heap.size w w':=by
 have hu28:=Tryd.underlying28;have HR0_0:=am_ hr0_0;have HC0_0:=am_ hc0_0;clear hr0_0 hc0_0;have HR0_1:=am_ hr0_1;have HC0_1:=am_ hc0_1;clear hr0_1 hc0_1;have HR0_2:=am_ hr0_2;have HC0_2:=am_ hc0_2;clear hr0_2 hc0_2;have HB:=am_ (Below.refl w.heap.size w);have H : (if (l0_0.length : Int) = 0 then (regis_Check.j0 k (l0_0.length : Int) true l0_0 l0_1 l0_2 a0_3) else (if (l0_0.length : Int) > 16 then (regis_Check.j0 k (l0_0.length : Int) true l0_0 l0_1 l0_2 a0_3) else (if (l0_1.length : Int) > 16 then (regis_Check.j0 k (l0_0.length : Int) true l0_0 l0_1 l0_2 a0_3) else (if (l0_2.length : Int) = (l0_1.length : Int) then ((regis_wrong.f a0_3).bind fun t120 => (regis_Check.j0 k (l0_0.length : Int) t120 l0_0 l0_1 l0_2 a0_3)) else (regis_Check.j0 k (l0_0.length : Int) true l0_0 l0_1 l0_2 a0_3))))) = some r:=h;clear h;have HC2:=am_ H;clear H;go_enter Tryd.func39, Tryd.ntmps39
 go_upto_region 2 with (first | ((with_reducible refine gate_dst (N:=1) rfl ?_);(try (refine gate_guard (by rfl) ?_;dsimp only));refine box_event ?hg (N:=1) ?hd (cs:=#[.slice A0_0 l0_0.length c0_0, .slice A0_1 l0_1.length c0_1, .slice A0_2 l0_2.length c0_2, .int .i64 a0_3]) (t:=28) ?hr ?_;(case hd => rfl);(case hg => rfl);(case hr => first | (go_simp;done) | (go_simp;rfl));intro gb119 hg w3 hbox hb;have BK119:=am_ hbox;have GW119:=gz_ hg HB;have GE119:=gz_ hg HB;replace HB:=bs_ HB hb;clear hb hbox hg;obtain ⟨hcz4_0, hcz4_1, hcz4_2, hcz4_3⟩:=c4_ BK119.out;obtain ⟨hfz4_0, hfz4_1, hfz4_2, hfz4_3⟩:=z4_ BK119.out))
 (try simp only [Act.put, st_, s0_, s1_])
 go_cut [34] (fun v34 wc => ∃ (kq : Nat) (x34_1 : Bool), v34 = .bool x34_1 ∧ Aside0 (regis_Check.j0 kq (l0_0.length : Int) x34_1 l0_0 l0_1 l0_2 a0_3 = some r) ∧ Aside0 (kq ≤ k) ∧ Aside0 (wc.heap[gb119]? = some (.cells #[(.slice A0_0 l0_0.length c0_0), (.slice A0_1 l0_1.length c0_1), (.slice A0_2 l0_2.length c0_2), .int .i64 a0_3] 28 (0, 0))) ∧ Aside0 (Below w.heap.size w wc))
 case first =>
  have H:=HC2.out;clear HC2
  by_cases c5 : (l0_0.length : Int) = 0
  ·rw [if_pos c5] at H;have c5b0 : ((l0_0.length : Int) == 0) = true:=beq_iff_eq.mpr c5;have c5b1 : ((l0_0.length : Int) != 0) = false:=bne_eq_false_iff_eq.mpr c5;clear c5;(first | rw [c5b0] | (simp only [i64_w, i32_w];rw [c5b0]) | skip);have H':=am_ H;clear H
   go_wp2
   go_meet
   case rel => exact ⟨_, (true), (by first | rfl | (simp;done) | (simp [*];done)), H', ⟨by first | omega | exact Nat.le_refl _⟩, ⟨by (with_reducible repeat first|apply q1_|apply q2_|apply q3_);exact BK119.out⟩, ⟨by repeat (first | (with_reducible first | exact HB.out | apply b1_|apply b2_|apply b3_ | refine below_set ?_ GE119.out) | exact HB.out)⟩⟩
  ·rw [if_neg c5] at H;have c5b0 : ((l0_0.length : Int) == 0) = false:=beq_eq_false_iff_ne.mpr c5;have c5b1 : ((l0_0.length : Int) != 0) = true:=bne_iff_ne.mpr c5;have c5b2 : ¬ (l0_0 = []):=fun h_ => c5 (by rw [h_];rfl)
   (first | rw [c5b0] | (simp only [i64_w, i32_w];rw [c5b0]) | skip)
   by_cases c6 : (l0_0.length : Int) > 16
   ·rw [if_pos c6] at H;have c6b0 : decide (16 < (l0_0.length : Int)) = true:=decide_eq_true c6;have c6b1 : decide (16 < l0_0.length) = true:=decide_eq_true (by omega);clear c6;have H':=am_ H;clear H
    go_wp2
    go_meet
    case rel => exact ⟨_, (true), (by first | rfl | (simp;done) | (simp [*];done)), H', ⟨by first | omega | exact Nat.le_refl _⟩, ⟨by (with_reducible repeat first|apply q1_|apply q2_|apply q3_);exact BK119.out⟩, ⟨by repeat (first | (with_reducible first | exact HB.out | apply b1_|apply b2_|apply b3_ | refine below_set ?_ GE119.out) | exact HB.out)⟩⟩
   ·rw [if_neg c6] at H;have c6b0 : decide (16 < (l0_0.length : Int)) = false:=decide_eq_false c6;have c6b1 : decide (16 < l0_0.length) = false:=decide_eq_false (by omega);clear c6
    by_cases c7 : (l0_1.length : Int) > 16
    ·rw [if_pos c7] at H;have c7b0 : decide (16 < (l0_1.length : Int)) = true:=decide_eq_true c7;have c7b1 : decide (16 < l0_1.length) = true:=decide_eq_true (by omega);clear c7;have H':=am_ H;clear H;obtain ⟨hcz8_0, hcz8_1, hcz8_2, hcz8_3⟩:=c4_ BK119.out;obtain ⟨hfz8_0, hfz8_1, hfz8_2, hfz8_3⟩:=z4_ BK119.out
     go_wp2
     go_meet
     case rel => exact ⟨_, (true), (by first | rfl | (simp;done) | (simp [*];done)), H', ⟨by first | omega | exact Nat.le_refl _⟩, ⟨by (with_reducible repeat first|apply q1_|apply q2_|apply q3_);exact BK119.out⟩, ⟨by repeat (first | (with_reducible first | exact HB.out | apply b1_|apply b2_|apply b3_ | refine below_set ?_ GE119.out) | exact HB.out)⟩⟩
    ·rw [if_neg c7] at H;have c7b0 : decide (16 < (l0_1.length : Int)) = false:=decide_eq_false c7;have c7b1 : decide (16 < l0_1.length) = false:=decide_eq_false (by omega);clear c7
     by_cases c9 : (l0_2.length : Int) = (l0_1.length : Int)
     ·rw [if_pos c9] at H;have c9b0 : ((l0_2.length : Int) == (l0_1.length : Int)) = true:=beq_iff_eq.mpr c9;have c9b1 : ((l0_2.length : Int) != (l0_1.length : Int)) = false:=bne_eq_false_iff_eq.mpr c9;have c9b2 : (l0_2.length == l0_1.length) = true:=by first | simpa using c9 | (simp at c9 ⊢;omega)
      clear c9;replace H:=Option.bind_eq_some_iff.mp H;obtain ⟨t120, A100, H⟩:=H;replace H : (regis_Check.j0 k (l0_0.length : Int) t120 l0_0 l0_1 l0_2 a0_3) = some r:=H;have A10:=am_ A100;clear A100;have H':=am_ H;clear H;obtain ⟨hcz11_0, hcz11_1, hcz11_2, hcz11_3⟩:=c4_ BK119.out;obtain ⟨hfz11_0, hfz11_1, hfz11_2, hfz11_3⟩:=z4_ BK119.out
      go_wp2_with (first | (go_at_call 66;(with_reducible refine (regis_wrong.calls a0_3 t120 _ A10.out).mono ?_);rintro e w' ⟨rfl, ⟨nd, rfl⟩⟩))
      go_meet
      case rel => exact ⟨_, (t120), (by first | rfl | (simp;done) | (simp [*];done)), H', ⟨by first | omega | exact Nat.le_refl _⟩, ⟨by (with_reducible repeat first|apply q1_|apply q2_|apply q3_);exact BK119.out⟩, ⟨by repeat (first | (with_reducible first | exact HB.out | apply b1_|apply b2_|apply b3_ | refine below_set ?_ GE119.out) | exact HB.out)⟩⟩
     ·rw [if_neg c9] at H;have c9b0 : ((l0_2.length : Int) == (l0_1.length : Int)) = false:=beq_eq_false_iff_ne.mpr c9;have c9b1 : ((l0_2.length : Int) != (l0_1.length : Int)) = true:=bne_iff_ne.mpr c9;have c9b2 : (l0_2.length == l0_1.length) = false:=by first | simpa using c9 | (simp at c9 ⊢;omega)
      have H':=am_ H;clear H;obtain ⟨hcz12_0, hcz12_1, hcz12_2, hcz12_3⟩:=c4_ BK119.out;obtain ⟨hfz12_0, hfz12_1, hfz12_2, hfz12_3⟩:=z4_ BK119.out
      go_wp2
      go_meet
      case rel => exact ⟨_, (true), (by first | rfl | (simp;done) | (simp [*];done)), H', ⟨by first | omega | exact Nat.le_refl _⟩, ⟨by (with_reducible repeat first|apply q1_|apply q2_|apply q3_);exact BK119.out⟩, ⟨by repeat (first | (with_reducible first | exact HB.out | apply b1_|apply b2_|apply b3_ | refine below_set ?_ GE119.out) | exact HB.out)⟩⟩
 case rest =>
  clear HC2;(try clear p2);(try clear c3);(try clear c5);(try clear c5b0);(try clear c5b1);(try clear c5b2);(try clear c6);(try clear c6b0);(try clear c6b1);(try clear c7);(try clear c7b0);(try clear c7b1);(try clear c9);(try clear c9b0);(try clear c9b1);(try clear c9b2);(try clear hcz11_0);(try clear hcz11_1);(try clear hcz11_2);(try clear hcz11_3);(try clear hcz12_0);(try clear hcz12_1);(try clear hcz12_2);(try clear hcz12_3);(try clear hcz4_0);(try clear hcz4_1);(try clear hcz4_2);(try clear hcz4_3);(try clear hcz8_0);(try clear hcz8_1);(try clear hcz8_2);(try clear hcz8_3);(try clear hfz11_0);(try clear hfz11_1);(try clear hfz11_2);(try clear hfz11_3);(try clear hfz12_0);(try clear hfz12_1);(try clear hfz12_2);(try clear hfz12_3);(try clear hfz4_0);(try clear hfz4_1);(try clear hfz4_2);(try clear hfz4_3);(try clear hfz8_0);(try clear hfz8_1);(try clear hfz8_2);(try clear hfz8_3);obtain ⟨kq, x34_1, rfl, HA, HJ1, BK119, HB⟩:=hcut
  cases kq with
  | zero => exact absurd HA.out (by simp [regis_Check.j0])
  | succ kj1 =>
   have H:=HA.out;clear HA;simp only [regis_Check.j0] at H
   by_cases c13 : x34_1 = true
   ·subst c13;have H1 : (some 2) = some r:=by rw [if_pos rfl] at H;exact H
    clear H;have H:=H1;clear H1;obtain rfl:=Option.some.inj H
    go_wp2
    go_ret
    exact ⟨by first | rfl | (simp [errW_none, errW_some] <;> rfl) | (simp [*, errW_none, errW_some] <;> rfl), by repeat (first | (with_reducible first | exact HB.out | apply b1_|apply b2_|apply b3_ | refine below_set ?_ GE119.out) | exact HB.out)⟩
   ·replace c13:=Bool.eq_false_iff.mpr c13;subst c13;have H1 : ((slices_ContainsFunc_int_int_regis_wrong.f kj1 l0_0).bind fun t121 => (if t121 = true then (regis_Check.j1 kj1 (l0_0.length : Int) true l0_0 l0_1 l0_2 a0_3) else ((slices_ContainsFunc_int_int_regis_wrong.f kj1 l0_2).bind fun t122 => (regis_Check.j1 kj1 (l0_0.length : Int) t122 l0_0 l0_1 l0_2 a0_3)))) = some r:=by rw [if_neg (show ¬ (false = true) by decide)] at H;exact H
    clear H;have H:=H1;clear H1;have HC14:=am_ H;clear H
    go_upto_region 4 with (fail)
    go_cut [42] (fun v42 wc => ∃ (kq : Nat) (x42_13 : Bool), v42 = .bool x42_13 ∧ Aside0 (regis_Check.j1 kq (l0_0.length : Int) x42_13 l0_0 l0_1 l0_2 a0_3 = some r) ∧ Aside0 (kq ≤ kj1) ∧ Aside0 (wc.heap[gb119]? = some (.cells #[(.slice A0_0 l0_0.length c0_0), (.slice A0_1 l0_1.length c0_1), (.slice A0_2 l0_2.length c0_2), .int .i64 a0_3] 28 (0, 0))) ∧ Aside0 (Below w.heap.size w wc))
    case first =>
     have H:=HC14.out;clear HC14;replace H:=Option.bind_eq_some_iff.mp H;obtain ⟨t121, A150, H⟩:=H;replace H : (if t121 = true then (regis_Check.j1 kj1 (l0_0.length : Int) true l0_0 l0_1 l0_2 a0_3) else ((slices_ContainsFunc_int_int_regis_wrong.f kj1 l0_2).bind fun t122 => (regis_Check.j1 kj1 (l0_0.length : Int) t122 l0_0 l0_1 l0_2 a0_3))) = some r:=H;have A15:=am_ A150;clear A150
     by_cases c16 : t121 = true
     ·subst c16;have H1 : (regis_Check.j1 kj1 (l0_0.length : Int) true l0_0 l0_1 l0_2 a0_3) = some r:=by rw [if_pos rfl] at H;exact H
      clear H;have H:=H1;clear H1;have H':=am_ H;clear H;obtain ⟨hcz17_0, hcz17_1, hcz17_2, hcz17_3⟩:=c4_ BK119.out;obtain ⟨hfz17_0, hfz17_1, hfz17_2, hfz17_3⟩:=z4_ BK119.out
      go_wp2_with (first | (go_at_call 67;(with_reducible refine (slices_ContainsFunc_int_int_regis_wrong.calls kj1 _ _ l0_0  true _ ?side1 ?side2 A15.out).mono ?_);(case side1 => exact cb_ HR0_0 HB);(case side2 => exact HC0_0.out);rintro e w' ⟨rfl, ⟨nd, rfl⟩⟩))
      go_meet
      case rel => exact ⟨_, (true), (by first | rfl | (simp;done) | (simp [*];done)), H', ⟨by have:=HJ1.out;first | omega | exact Nat.le_refl _⟩, ⟨by (with_reducible repeat first|apply q1_|apply q2_|apply q3_);exact BK119.out⟩, ⟨by repeat (first | (with_reducible first | exact HB.out | apply b1_|apply b2_|apply b3_ | refine below_set ?_ GE119.out) | exact HB.out)⟩⟩
     ·replace c16:=Bool.eq_false_iff.mpr c16;subst c16;have H1 : ((slices_ContainsFunc_int_int_regis_wrong.f kj1 l0_2).bind fun t122 => (regis_Check.j1 kj1 (l0_0.length : Int) t122 l0_0 l0_1 l0_2 a0_3)) = some r:=by rw [if_neg (show ¬ (false = true) by decide)] at H;exact H
      clear H;have H:=H1;clear H1;replace H:=Option.bind_eq_some_iff.mp H;obtain ⟨t122, A180, H⟩:=H;replace H : (regis_Check.j1 kj1 (l0_0.length : Int) t122 l0_0 l0_1 l0_2 a0_3) = some r:=H;have A18:=am_ A180;clear A180;have H':=am_ H;clear H;obtain ⟨hcz19_0, hcz19_1, hcz19_2, hcz19_3⟩:=c4_ BK119.out;obtain ⟨hfz19_0, hfz19_1, hfz19_2, hfz19_3⟩:=z4_ BK119.out
      go_wp2_with (first | (go_at_call 67;(with_reducible refine (slices_ContainsFunc_int_int_regis_wrong.calls kj1 _ _ l0_0  false _ ?side1 ?side2 A15.out).mono ?_);(case side1 => exact cb_ HR0_0 HB);(case side2 => exact HC0_0.out);rintro e w' ⟨rfl, ⟨nd, rfl⟩⟩) | (go_at_call 67;(with_reducible refine (slices_ContainsFunc_int_int_regis_wrong.calls kj1 _ _ l0_2  t122 _ ?side1 ?side2 A18.out).mono ?_);(case side1 => repeat (first | exact (Kd.C_below HR0_2.out (by repeat (first | (with_reducible first | exact HB.out | apply b1_|apply b2_|apply b3_ | refine below_set ?_ GE119.out) | exact HB.out))) | (with_reducible refine Kd.C_alloc ?_ _) | (with_reducible refine Kd.C_drewN ?_ _) | (with_reducible refine Kd.C_drew ?_)));(case side2 => exact HC0_2.out);rintro e w' ⟨rfl, ⟨nd, rfl⟩⟩))
      go_meet
      case rel => exact ⟨_, (t122), (by first | rfl | (simp;done) | (simp [*];done)), H', ⟨by have:=HJ1.out;first | omega | exact Nat.le_refl _⟩, ⟨by (with_reducible repeat first|apply q1_|apply q2_|apply q3_);exact BK119.out⟩, ⟨by repeat (first | (with_reducible first | exact HB.out | apply b1_|apply b2_|apply b3_ | refine below_set ?_ GE119.out) | exact HB.out)⟩⟩
    case rest =>
     clear HC14;(try clear c1);(try clear p2);(try clear c3);(try clear c5);(try clear c5b0);(try clear c5b1);(try clear c5b2);(try clear c6);(try clear c6b0);(try clear c6b1);(try clear c7);(try clear c7b0);(try clear c7b1);(try clear c9);(try clear c9b0);(try clear c9b1);(try clear c9b2);(try clear c13);(try clear c16);(try clear hcz11_0);(try clear hcz11_1);(try clear hcz11_2);(try clear hcz11_3);(try clear hcz12_0);(try clear hcz12_1);(try clear hcz12_2);(try clear hcz12_3);(try clear hcz17_0);(try clear hcz17_1);(try clear hcz17_2);(try clear hcz17_3);(try clear hcz19_0);(try clear hcz19_1);(try clear hcz19_2);(try clear hcz19_3);(try clear hcz4_0);(try clear hcz4_1);(try clear hcz4_2);(try clear hcz4_3);(try clear hcz8_0);(try clear hcz8_1);(try clear hcz8_2);(try clear hcz8_3);(try clear hfz11_0);(try clear hfz11_1);(try clear hfz11_2);(try clear hfz11_3);(try clear hfz12_0);(try clear hfz12_1);(try clear hfz12_2);(try clear hfz12_3);(try clear hfz17_0);(try clear hfz17_1);(try clear hfz17_2);(try clear hfz17_3);(try clear hfz19_0);(try clear hfz19_1);(try clear hfz19_2);(try clear hfz19_3);(try clear hfz4_0);(try clear hfz4_1);(try clear hfz4_2);(try clear hfz4_3);(try clear hfz8_0);(try clear hfz8_1);(try clear hfz8_2);(try clear hfz8_3);(try clear p2);obtain ⟨kq, x42_13, rfl, HA, HJ13, BK119, HB⟩:=hcut
     cases kq with
     | zero => exact absurd HA.out (by simp [regis_Check.j1])
     | succ kj13 =>
      have H:=HA.out;clear HA;simp only [regis_Check.j1] at H
      by_cases c20 : x42_13 = true
      ·subst c20;have H1 : (some 2) = some r:=by rw [if_pos rfl] at H;exact H
       clear H;have H:=H1;clear H1;obtain rfl:=Option.some.inj H
       go_wp2
       go_ret
       exact ⟨by first | rfl | (simp [errW_none, errW_some] <;> rfl) | (simp [*, errW_none, errW_some] <;> rfl), by repeat (first | (with_reducible first | exact HB.out | apply b1_|apply b2_|apply b3_ | refine below_set ?_ GE119.out) | exact HB.out)⟩
      ·replace c20:=Bool.eq_false_iff.mpr c20;subst c20;have H1 : (regis_Check.l0 kj13 (l0_0.length : Int) l0_1 (l0_1.length : Int) 0) = some r:=by rw [if_neg (show ¬ (false = true) by decide)] at H;exact H
       clear H;have H:=H1;clear H1;have H':=am_ H;clear H;obtain ⟨hcz21_0, hcz21_1, hcz21_2, hcz21_3⟩:=c4_ BK119.out;obtain ⟨hfz21_0, hfz21_1, hfz21_2, hfz21_3⟩:=z4_ BK119.out
       go_wp2
       go_loopg [46] kj13 (fun kq v46 w' => ∃ (x46_3 : Int), v46 = .int .i64 x46_3 ∧ Aside0 (regis_Check.l0 kq (l0_0.length : Int) l0_1 (l0_1.length : Int) x46_3 = some r) ∧ Aside0 (kq ≤ kj13) ∧ Aside0 (w'.heap[gb119]? = some (.cells #[(.slice A0_0 l0_0.length c0_0), (.slice A0_1 l0_1.length c0_1), (.slice A0_2 l0_2.length c0_2), .int .i64 a0_3] 28 (0, 0))) ∧ Aside0 (Below w.heap.size w w'))
       case atStart => exact ⟨(0), (by first | rfl | (simp;done) | (simp [*];done)), H', ⟨Nat.le_refl _⟩, ⟨by (with_reducible repeat first|apply q1_|apply q2_|apply q3_);exact BK119.out⟩, ⟨by repeat (first | (with_reducible first | exact HB.out | apply b1_|apply b2_|apply b3_ | refine below_set ?_ GE119.out) | exact HB.out)⟩⟩
       case round =>
        clear H';(try clear c1);(try clear c2);(try clear p2);(try clear c3);(try clear c5);(try clear c5b0);(try clear c5b1);(try clear c5b2);(try clear c6);(try clear c6b0);(try clear c6b1);(try clear c7);(try clear c7b0);(try clear c7b1);(try clear c9);(try clear c9b0);(try clear c9b1);(try clear c9b2);(try clear c13);(try clear c16);(try clear c20);(try clear hcz11_0);(try clear hcz11_1);(try clear hcz11_2);(try clear hcz11_3);(try clear hcz12_0);(try clear hcz12_1);(try clear hcz12_2);(try clear hcz12_3);(try clear hcz17_0);(try clear hcz17_1);(try clear hcz17_2);(try clear hcz17_3);(try clear hcz19_0);(try clear hcz19_1);(try clear hcz19_2);(try clear hcz19_3);(try clear hcz21_0);(try clear hcz21_1);(try clear hcz21_2);(try clear hcz21_3);(try clear hcz4_0);(try clear hcz4_1);(try clear hcz4_2);(try clear hcz4_3);(try clear hcz8_0);(try clear hcz8_1);(try clear hcz8_2);(try clear hcz8_3);(try clear hfz11_0);(try clear hfz11_1);(try clear hfz11_2);(try clear hfz11_3);(try clear hfz12_0);(try clear hfz12_1);(try clear hfz12_2);(try clear hfz12_3);(try clear hfz17_0);(try clear hfz17_1);(try clear hfz17_2);(try clear hfz17_3);(try clear hfz19_0);(try clear hfz19_1);(try clear hfz19_2);(try clear hfz19_3);(try clear hfz21_0);(try clear hfz21_1);(try clear hfz21_2);(try clear hfz21_3);(try clear hfz4_0);(try clear hfz4_1);(try clear hfz4_2);(try clear hfz4_3);(try clear hfz8_0);(try clear hfz8_1);(try clear hfz8_2);(try clear hfz8_3);(try clear p2);obtain ⟨x46_3, rfl, HA, HK3, BK119, HB⟩:=hrel
        cases gk with
        | zero => exact absurd HA.out (by simp [regis_Check.l0])
        | succ k3 =>
         have H:=HA.out;clear HA;simp only [regis_Check.l0] at H
         by_cases c22 : x46_3 < (l0_1.length : Int)
         ·rw [if_pos c22] at H;have c22b0 : decide (x46_3 < (l0_1.length : Int)) = true:=decide_eq_true c22;clear c22
          by_cases c23 : 0 ≤ x46_3
          ·rw [if_pos c23] at H;have c23b0 : decide (0 ≤ x46_3) = true:=decide_eq_true c23;clear c23
           by_cases c24 : x46_3 < (l0_1.length : Int)
           ·rw [if_pos c24] at H;have c24b0 : decide (x46_3 < (l0_1.length : Int)) = true:=decide_eq_true c24;clear c24
            by_cases c25 : ((rd_L1 l0_1 x46_3).length : Int) = (l0_0.length : Int)
            ·rw [if_pos c25] at H;have c25b0 : (((rd_L1 l0_1 x46_3).length : Int) == (l0_0.length : Int)) = true:=beq_iff_eq.mpr c25;have c25b1 : (((rd_L1 l0_1 x46_3).length : Int) != (l0_0.length : Int)) = false:=bne_eq_false_iff_eq.mpr c25;have c25b2 : ((rd_L1 l0_1 x46_3).length == l0_0.length) = true:=by first | simpa using c25 | (simp at c25 ⊢;omega)
             clear c25;replace H:=Option.bind_eq_some_iff.mp H;obtain ⟨t124, A260, H⟩:=H;replace H : (if t124 = true then (some 2) else (regis_Check.l0 k3 (l0_0.length : Int) l0_1 (l0_1.length : Int) (wrap64 (x46_3 + 1)))) = some r:=H;have A26:=am_ A260;clear A260
             by_cases c27 : t124 = true
             ·subst c27;have H1 : (some 2) = some r:=by rw [if_pos rfl] at H;exact H
              clear H;have H:=H1;clear H1;obtain rfl:=Option.some.inj H;have p123 : 0 ≤ (x46_3 : Int):=of_decide_eq_true (by first | (with_reducible assumption) | assumption);have q123 : x46_3 < (l0_1.length : Int):=of_decide_eq_true (by first | (with_reducible assumption) | assumption);obtain ⟨ad123, A123_0, c123_0, e123, hx123_0, hl123_0, hi123_0⟩:=at_L1 HR0_1.out x46_3 p123 q123
              cases e123
              replace hx123_0:=(HB.out.cell (World.block_lt_of_cell? w _ hx123_0)).trans hx123_0;have HR123_0:=am_ hi123_0;have HC123_0:=am_ hl123_0;clear hi123_0 hl123_0;replace p123:=eq_true p123;replace q123:=eq_true q123
              go_wp2_with (first | (go_at_call 67;(with_reducible refine (slices_ContainsFunc_int_int_regis_wrong.calls k3 _ _ (rd_L1 l0_1 x46_3)  true _ ?side1 ?side2 A26.out).mono ?_);(case side1 => exact cb_ HR123_0 HB);(case side2 => exact HC123_0.out);rintro e w' ⟨rfl, ⟨nd, rfl⟩⟩))
              go_ret
              exact ⟨by first | rfl | (simp [errW_none, errW_some] <;> rfl) | (simp [*, errW_none, errW_some] <;> rfl), by repeat (first | (with_reducible first | exact HB.out | apply b1_|apply b2_|apply b3_ | refine below_set ?_ GE119.out) | exact HB.out)⟩
             ·replace c27:=Bool.eq_false_iff.mpr c27;subst c27;have H1 : (regis_Check.l0 k3 (l0_0.length : Int) l0_1 (l0_1.length : Int) (wrap64 (x46_3 + 1))) = some r:=by rw [if_neg (show ¬ (false = true) by decide)] at H;exact H
              clear H;have H:=H1;clear H1;have H':=am_ H;clear H;have p123 : 0 ≤ (x46_3 : Int):=of_decide_eq_true (by first | (with_reducible assumption) | assumption);have q123 : x46_3 < (l0_1.length : Int):=of_decide_eq_true (by first | (with_reducible assumption) | assumption);obtain ⟨ad123, A123_0, c123_0, e123, hx123_0, hl123_0, hi123_0⟩:=at_L1 HR0_1.out x46_3 p123 q123
              cases e123
              replace hx123_0:=(HB.out.cell (World.block_lt_of_cell? w _ hx123_0)).trans hx123_0;have HR123_0:=am_ hi123_0;have HC123_0:=am_ hl123_0;clear hi123_0 hl123_0;replace p123:=eq_true p123;replace q123:=eq_true q123
              go_wp2_with (first | (go_at_call 67;(with_reducible refine (slices_ContainsFunc_int_int_regis_wrong.calls k3 _ _ (rd_L1 l0_1 x46_3)  false _ ?side1 ?side2 A26.out).mono ?_);(case side1 => exact cb_ HR123_0 HB);(case side2 => exact HC123_0.out);rintro e w' ⟨rfl, ⟨nd, rfl⟩⟩))
              go_roundg k3
              case measure => have:=HJ1.out;have:=HJ13.out;have:=HK3.out;omega
              case rel => exact ⟨(wrap64 (x46_3 + 1)), (by first | rfl | (simp;done) | (simp [*];done)), H', ⟨by have:=HJ1.out;have:=HJ13.out;have:=HK3.out;omega⟩, ⟨by (with_reducible repeat first|apply q1_|apply q2_|apply q3_);exact BK119.out⟩, ⟨by repeat (first | (with_reducible first | exact HB.out | apply b1_|apply b2_|apply b3_ | refine below_set ?_ GE119.out) | exact HB.out)⟩⟩
            ·rw [if_neg c25] at H;have c25b0 : (((rd_L1 l0_1 x46_3).length : Int) == (l0_0.length : Int)) = false:=beq_eq_false_iff_ne.mpr c25;have c25b1 : (((rd_L1 l0_1 x46_3).length : Int) != (l0_0.length : Int)) = true:=bne_iff_ne.mpr c25;have c25b2 : ((rd_L1 l0_1 x46_3).length == l0_0.length) = false:=by first | simpa using c25 | (simp at c25 ⊢;omega)
             obtain rfl:=Option.some.inj H;have p123 : 0 ≤ (x46_3 : Int):=of_decide_eq_true (by first | (with_reducible assumption) | assumption);have q123 : x46_3 < (l0_1.length : Int):=of_decide_eq_true (by first | (with_reducible assumption) | assumption);obtain ⟨ad123, A123_0, c123_0, e123, hx123_0, hl123_0, hi123_0⟩:=at_L1 HR0_1.out x46_3 p123 q123
             cases e123
             replace hx123_0:=(HB.out.cell (World.block_lt_of_cell? w _ hx123_0)).trans hx123_0;have HR123_0:=am_ hi123_0;have HC123_0:=am_ hl123_0;clear hi123_0 hl123_0;replace p123:=eq_true p123;replace q123:=eq_true q123
             go_wp2
             go_ret
             exact ⟨by first | rfl | (simp [errW_none, errW_some] <;> rfl) | (simp [*, errW_none, errW_some] <;> rfl), by repeat (first | (with_reducible first | exact HB.out | apply b1_|apply b2_|apply b3_ | refine below_set ?_ GE119.out) | exact HB.out)⟩
           ·rw [if_neg c24] at H;exact absurd H (by simp)
          ·rw [if_neg c23] at H;exact absurd H (by simp)
         ·rw [if_neg c22] at H;have c22b0 : decide (x46_3 < (l0_1.length : Int)) = false:=decide_eq_false c22;clear c22;obtain rfl:=Option.some.inj H
          go_wp2
          go_ret
          exact ⟨by first | rfl | (simp [errW_none, errW_some] <;> rfl) | (simp [*, errW_none, errW_some] <;> rfl), by repeat (first | (with_reducible first | exact HB.out | apply b1_|apply b2_|apply b3_ | refine below_set ?_ GE119.out) | exact HB.out)⟩

end Go.Proofs.YtfcidgnbocijdaaDoor.PCertMakes
