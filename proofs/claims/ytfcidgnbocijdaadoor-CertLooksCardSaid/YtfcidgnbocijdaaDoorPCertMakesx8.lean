-- Written by a program of this session (the kit's print, turned: wip/px).
import Derived.Test.YtfcidgnbocijdaaDoorPCertMakesx0
import Derived.Test.YtfcidgnbocijdaaDoorPCertMakesx7
import Derived.Test.YtfcidgnbocijdaaDoorSq2
namespace Go.Proofs.YtfcidgnbocijdaaDoor.PCertMakes
open Go.Proofs.YtfcidgnbocijdaaDoor.Sq
open Go.RowKit Go.Proofs.YtfcidgnbocijdaaDoorW.PrintWords Go.Proofs.YtfcidgnbocijdaaDoorW.PrintLast Go.Proofs.YtfcidgnbocijdaaDoorW.PrintMore
attribute [local go_sem] max2_int min2_int max_two min_two max_three min_three max_four min_four   -- for this text's walks alone
set_option linter.unusedVariables false
set_option linter.unusedSimpArgs false

/-! ### diapasonref26_May: function 56 -/
mutual
def diapasonref26_May.j0 : Nat → Bool → List Int → List (List Int) → List Int → Int → Option (Bool)
 | 0, _, _, _, _, _ => none
 | k + 1, x36, x162000, x162001, x162002, x162003 => if x36 = true then (some false) else (diapasonref26_May.l0 k 0 x162000 x162001 x162002 x162003)
def diapasonref26_May.l0 : Nat → Int → List Int → List (List Int) → List Int → Int → Option (Bool)
 | 0, _, _, _, _, _ => none
 | k + 1, x3, x162000, x162001, x162002, x162003 => if x3 < (x162000.length : Int) then (if 0 ≤ x3 then ((diapasonref26_right.f (rd x162000 x3)).bind fun t164 => (if t164 = true then (diapasonref26_May.l0 k (wrap64 (x3 + 1)) x162000 x162001 x162002 x162003) else (some false))) else (none)) else (diapasonref26_May.l1 k 0 x162000 x162001 x162002 x162003)
def diapasonref26_May.l1 : Nat → Int → List Int → List (List Int) → List Int → Int → Option (Bool)
 | 0, _, _, _, _, _ => none
 | k + 1, x4, x162000, x162001, x162002, x162003 => if x4 < (x162001.length : Int) then (if 0 ≤ x4 then (if ((rd_L1 x162001 x4).length : Int) = (x162000.length : Int) then (if x4 < (x162002.length : Int) then ((diapasonref26_right.f (rd x162002 x4)).bind fun t167 => (diapasonref26_May.j3 k x4 (!t167) x162000 x162001 x162002 x162003)) else (none)) else (diapasonref26_May.j3 k x4 true x162000 x162001 x162002 x162003)) else (none)) else (some true)
def diapasonref26_May.j3 : Nat → Int → Bool → List Int → List (List Int) → List Int → Int → Option (Bool)
 | 0, _, _, _, _, _, _ => none
 | k + 1, x4, x76, x162000, x162001, x162002, x162003 => if x76 = true then (some false) else (diapasonref26_May.l2 k x4 0 x162000 x162001 x162002 x162003)
def diapasonref26_May.l2 : Nat → Int → Int → List Int → List (List Int) → List Int → Int → Option (Bool)
 | 0, _, _, _, _, _, _ => none
 | k + 1, x4, x5, x162000, x162001, x162002, x162003 => if 0 ≤ x4 then (if x4 < (x162001.length : Int) then (if x5 < ((rd_L1 x162001 x4).length : Int) then (if 0 ≤ x5 then ((diapasonref26_right.f (rd (rd_L1 x162001 x4) x5)).bind fun t171 => (if t171 = true then (diapasonref26_May.l2 k x4 (wrap64 (x5 + 1)) x162000 x162001 x162002 x162003) else (some false))) else (none)) else (diapasonref26_May.l1 k (wrap64 (x4 + 1)) x162000 x162001 x162002 x162003)) else (none)) else (none)
end
def diapasonref26_May.f (k : Nat) (l0_0 : List Int) (l0_1 : List (List Int)) (l0_2 : List Int) (a0_3 : Int) : Option (Bool) := if (l0_0.length : Int) < 1 then (diapasonref26_May.j0 k true l0_0 l0_1 l0_2 a0_3) else (if (l0_0.length : Int) > 16 then (diapasonref26_May.j0 k true l0_0 l0_1 l0_2 a0_3) else (if (l0_1.length : Int) > 16 then (diapasonref26_May.j0 k true l0_0 l0_1 l0_2 a0_3) else (if (l0_2.length : Int) = (l0_1.length : Int) then ((diapasonref26_right.f a0_3).bind fun t162 => (diapasonref26_May.j0 k (!t162) l0_0 l0_1 l0_2 a0_3)) else (diapasonref26_May.j0 k true l0_0 l0_1 l0_2 a0_3))))
theorem diapasonref26_May.mono_l : ∀ k, (∀ y0 y1 y2 y3 y4, LeO (diapasonref26_May.j0 k y0 y1 y2 y3 y4) (diapasonref26_May.j0 (k + 1) y0 y1 y2 y3 y4)) ∧ (∀ y0 y1 y2 y3 y4, LeO (diapasonref26_May.l0 k y0 y1 y2 y3 y4) (diapasonref26_May.l0 (k + 1) y0 y1 y2 y3 y4)) ∧ (∀ y0 y1 y2 y3 y4, LeO (diapasonref26_May.l1 k y0 y1 y2 y3 y4) (diapasonref26_May.l1 (k + 1) y0 y1 y2 y3 y4)) ∧ (∀ y0 y1 y2 y3 y4 y5, LeO (diapasonref26_May.j3 k y0 y1 y2 y3 y4 y5) (diapasonref26_May.j3 (k + 1) y0 y1 y2 y3 y4 y5)) ∧ (∀ y0 y1 y2 y3 y4 y5, LeO (diapasonref26_May.l2 k y0 y1 y2 y3 y4 y5) (diapasonref26_May.l2 (k + 1) y0 y1 y2 y3 y4 y5))
 | 0 => ⟨fun _ _ _ _ _ r h => by simp [diapasonref26_May.j0] at h, fun _ _ _ _ _ r h => by simp [diapasonref26_May.l0] at h, fun _ _ _ _ _ r h => by simp [diapasonref26_May.l1] at h, fun _ _ _ _ _ _ r h => by simp [diapasonref26_May.j3] at h, fun _ _ _ _ _ _ r h => by simp [diapasonref26_May.l2] at h⟩
 | k + 1 => by
  obtain ⟨ih0, ih1, ih2, ih3, ih4⟩:=diapasonref26_May.mono_l k;refine ⟨?_, ?_, ?_, ?_, ?_⟩
  ·intro y0 y1 y2 y3 y4
   unfold diapasonref26_May.j0
   repeat' first
   | (with_reducible exact ih0 _ _ _ _ _)
   | (with_reducible exact ih1 _ _ _ _ _)
   | (with_reducible exact ih2 _ _ _ _ _)
   | (with_reducible exact ih3 _ _ _ _ _ _)
   | (with_reducible exact ih4 _ _ _ _ _ _)
   | (with_reducible exact LeO.refl _)
   | (with_reducible exact LeO.none _)
   | (with_reducible refine LeO.ite ?_ ?_)
   | (with_reducible refine LeO.bind ?_ (fun _ => ?_))
   | exact ih0 _ _ _ _ _
   | exact ih1 _ _ _ _ _
   | exact ih2 _ _ _ _ _
   | exact ih3 _ _ _ _ _ _
   | exact ih4 _ _ _ _ _ _
   | exact LeO.none _
   | refine LeO.ite ?_ ?_
   | refine LeO.bind ?_ (fun _ => ?_)
  ·intro y0 y1 y2 y3 y4
   unfold diapasonref26_May.l0
   repeat' first
   | (with_reducible exact ih0 _ _ _ _ _)
   | (with_reducible exact ih1 _ _ _ _ _)
   | (with_reducible exact ih2 _ _ _ _ _)
   | (with_reducible exact ih3 _ _ _ _ _ _)
   | (with_reducible exact ih4 _ _ _ _ _ _)
   | (with_reducible exact LeO.refl _)
   | (with_reducible exact LeO.none _)
   | (with_reducible refine LeO.ite ?_ ?_)
   | (with_reducible refine LeO.bind ?_ (fun _ => ?_))
   | exact ih0 _ _ _ _ _
   | exact ih1 _ _ _ _ _
   | exact ih2 _ _ _ _ _
   | exact ih3 _ _ _ _ _ _
   | exact ih4 _ _ _ _ _ _
   | exact LeO.none _
   | refine LeO.ite ?_ ?_
   | refine LeO.bind ?_ (fun _ => ?_)
  ·intro y0 y1 y2 y3 y4
   unfold diapasonref26_May.l1
   repeat' first
   | (with_reducible exact ih0 _ _ _ _ _)
   | (with_reducible exact ih1 _ _ _ _ _)
   | (with_reducible exact ih2 _ _ _ _ _)
   | (with_reducible exact ih3 _ _ _ _ _ _)
   | (with_reducible exact ih4 _ _ _ _ _ _)
   | (with_reducible exact LeO.refl _)
   | (with_reducible exact LeO.none _)
   | (with_reducible refine LeO.ite ?_ ?_)
   | (with_reducible refine LeO.bind ?_ (fun _ => ?_))
   | exact ih0 _ _ _ _ _
   | exact ih1 _ _ _ _ _
   | exact ih2 _ _ _ _ _
   | exact ih3 _ _ _ _ _ _
   | exact ih4 _ _ _ _ _ _
   | exact LeO.none _
   | refine LeO.ite ?_ ?_
   | refine LeO.bind ?_ (fun _ => ?_)
  ·intro y0 y1 y2 y3 y4 y5
   unfold diapasonref26_May.j3
   repeat' first
   | (with_reducible exact ih0 _ _ _ _ _)
   | (with_reducible exact ih1 _ _ _ _ _)
   | (with_reducible exact ih2 _ _ _ _ _)
   | (with_reducible exact ih3 _ _ _ _ _ _)
   | (with_reducible exact ih4 _ _ _ _ _ _)
   | (with_reducible exact LeO.refl _)
   | (with_reducible exact LeO.none _)
   | (with_reducible refine LeO.ite ?_ ?_)
   | (with_reducible refine LeO.bind ?_ (fun _ => ?_))
   | exact ih0 _ _ _ _ _
   | exact ih1 _ _ _ _ _
   | exact ih2 _ _ _ _ _
   | exact ih3 _ _ _ _ _ _
   | exact ih4 _ _ _ _ _ _
   | exact LeO.none _
   | refine LeO.ite ?_ ?_
   | refine LeO.bind ?_ (fun _ => ?_)
  ·intro y0 y1 y2 y3 y4 y5
   unfold diapasonref26_May.l2
   repeat' first
   | (with_reducible exact ih0 _ _ _ _ _)
   | (with_reducible exact ih1 _ _ _ _ _)
   | (with_reducible exact ih2 _ _ _ _ _)
   | (with_reducible exact ih3 _ _ _ _ _ _)
   | (with_reducible exact ih4 _ _ _ _ _ _)
   | (with_reducible exact LeO.refl _)
   | (with_reducible exact LeO.none _)
   | (with_reducible refine LeO.ite ?_ ?_)
   | (with_reducible refine LeO.bind ?_ (fun _ => ?_))
   | exact ih0 _ _ _ _ _
   | exact ih1 _ _ _ _ _
   | exact ih2 _ _ _ _ _
   | exact ih3 _ _ _ _ _ _
   | exact ih4 _ _ _ _ _ _
   | exact LeO.none _
   | refine LeO.ite ?_ ?_
   | refine LeO.bind ?_ (fun _ => ?_)
theorem diapasonref26_May.mono : ∀ a0 a1 a2 a3 k, LeO (diapasonref26_May.f k a0 a1 a2 a3) (diapasonref26_May.f (k + 1) a0 a1 a2 a3) := by
 intro a0 a1 a2 a3 k;obtain ⟨ih0, ih1, ih2, ih3, ih4⟩:=diapasonref26_May.mono_l k
 unfold diapasonref26_May.f
 repeat' first
   | (with_reducible exact ih0 _ _ _ _ _)
   | (with_reducible exact ih1 _ _ _ _ _)
   | (with_reducible exact ih2 _ _ _ _ _)
   | (with_reducible exact ih3 _ _ _ _ _ _)
   | (with_reducible exact ih4 _ _ _ _ _ _)
   | (with_reducible exact LeO.refl _)
   | (with_reducible exact LeO.none _)
   | (with_reducible refine LeO.ite ?_ ?_)
   | (with_reducible refine LeO.bind ?_ (fun _ => ?_))
   | exact ih0 _ _ _ _ _
   | exact ih1 _ _ _ _ _
   | exact ih2 _ _ _ _ _
   | exact ih3 _ _ _ _ _ _
   | exact ih4 _ _ _ _ _ _
   | exact LeO.none _
   | refine LeO.ite ?_ ?_
   | refine LeO.bind ?_ (fun _ => ?_)
set_option maxHeartbeats 8000000 in
set_option maxRecDepth 100000 in
theorem diapasonref26_May.calls (k : Nat) (A0_0 : Option Addr) (c0_0 : Nat) (l0_0 : List Int) (A0_1 : Option Addr) (c0_1 : Nat) (l0_1 : List (List Int)) (A0_2 : Option Addr) (c0_2 : Nat) (l0_2 : List Int) (a0_3 : Int) (r : Bool) (w : World) (hr0_0 : Kd.C (Kd.int .i64) w A0_0 l0_0.length l0_0) (hc0_0 : l0_0.length ≤ c0_0) (hr0_1 : Kd.C (Kd.slice 3 (Kd.int .i64)) w A0_1 l0_1.length l0_1) (hc0_1 : l0_1.length ≤ c0_1) (hr0_2 : Kd.C (Kd.int .i64) w A0_2 l0_2.length l0_2) (hc0_2 : l0_2.length ≤ c0_2) (h : diapasonref26_May.f k l0_0 l0_1 l0_2 a0_3 = some r) :
  Calls Tryd.prog 56 #[.agg #[.slice A0_0 l0_0.length c0_0, .slice A0_1 l0_1.length c0_1, .slice A0_2 l0_2.length c0_2, .int .i64 a0_3]] w fun e w' => e = .returned (.bool r) ∧ Below w.heap.size w w':=by
 have hu28:=Tryd.underlying28;have HR0_0:=am_ hr0_0;have HC0_0:=am_ hc0_0;clear hr0_0 hc0_0;have HR0_1:=am_ hr0_1;have HC0_1:=am_ hc0_1;clear hr0_1 hc0_1;have HR0_2:=am_ hr0_2;have HC0_2:=am_ hc0_2;clear hr0_2 hc0_2;have HB:=am_ (Below.refl w.heap.size w);have H : (if (l0_0.length : Int) < 1 then (diapasonref26_May.j0 k true l0_0 l0_1 l0_2 a0_3) else (if (l0_0.length : Int) > 16 then (diapasonref26_May.j0 k true l0_0 l0_1 l0_2 a0_3) else (if (l0_1.length : Int) > 16 then (diapasonref26_May.j0 k true l0_0 l0_1 l0_2 a0_3) else (if (l0_2.length : Int) = (l0_1.length : Int) then ((diapasonref26_right.f a0_3).bind fun t162 => (diapasonref26_May.j0 k (!t162) l0_0 l0_1 l0_2 a0_3)) else (diapasonref26_May.j0 k true l0_0 l0_1 l0_2 a0_3))))) = some r:=h;clear h;have HC2:=am_ H;clear H;go_enter Tryd.func56, Tryd.ntmps56
 go_upto_region 1 with (first | ((with_reducible refine gate_dst (N:=1) rfl ?_);(try (refine gate_guard (by rfl) ?_;dsimp only));refine box_event ?hg (N:=1) ?hd (cs:=#[.slice A0_0 l0_0.length c0_0, .slice A0_1 l0_1.length c0_1, .slice A0_2 l0_2.length c0_2, .int .i64 a0_3]) (t:=28) ?hr ?_;(case hd => rfl);(case hg => rfl);(case hr => first | (go_simp;done) | (go_simp;rfl));intro gb161 hg w3 hbox hb;have BK161:=am_ hbox;have GW161:=gz_ hg HB;have GE161:=gz_ hg HB;replace HB:=bs_ HB hb;clear hb hbox hg))
 repeat (go_quiet (first | ((with_reducible refine gate_dst (N:=1) rfl ?_);(try (refine gate_guard (by rfl) ?_;dsimp only));refine box_event ?hg (N:=1) ?hd (cs:=#[.slice A0_0 l0_0.length c0_0, .slice A0_1 l0_1.length c0_1, .slice A0_2 l0_2.length c0_2, .int .i64 a0_3]) (t:=28) ?hr ?_;(case hd => rfl);(case hg => rfl);(case hr => first | (go_simp;done) | (go_simp;rfl));intro gb161 hg w3 hbox hb;have BK161:=am_ hbox;have GW161:=gz_ hg HB;have GE161:=gz_ hg HB;replace HB:=bs_ HB hb;clear hb hbox hg));go_upto_region 1 with (first | ((with_reducible refine gate_dst (N:=1) rfl ?_);(try (refine gate_guard (by rfl) ?_;dsimp only));refine box_event ?hg (N:=1) ?hd (cs:=#[.slice A0_0 l0_0.length c0_0, .slice A0_1 l0_1.length c0_1, .slice A0_2 l0_2.length c0_2, .int .i64 a0_3]) (t:=28) ?hr ?_;(case hd => rfl);(case hg => rfl);(case hr => first | (go_simp;done) | (go_simp;rfl));intro gb161 hg w3 hbox hb;have BK161:=am_ hbox;have GW161:=gz_ hg HB;have GE161:=gz_ hg HB;replace HB:=bs_ HB hb;clear hb hbox hg)))
 (try simp only [Act.put, st_, s0_, s1_])
 go_cut [36] (fun v36 wc => ∃ (kq : Nat) (x36_1 : Bool), v36 = .bool x36_1 ∧ Aside0 (diapasonref26_May.j0 kq x36_1 l0_0 l0_1 l0_2 a0_3 = some r) ∧ Aside0 (kq ≤ k) ∧ Aside0 (wc.heap[gb161]? = some (.cells #[(.slice A0_0 l0_0.length c0_0), (.slice A0_1 l0_1.length c0_1), (.slice A0_2 l0_2.length c0_2), .int .i64 a0_3] 28 (0, 0))) ∧ Aside0 (Below w.heap.size w wc))
 case first =>
  have H:=HC2.out;clear HC2
  by_cases c4 : (l0_0.length : Int) < 1
  ·rw [if_pos c4] at H;have c4b0 : decide ((l0_0.length : Int) < 1) = true:=decide_eq_true c4;have c4b1 : decide (l0_0.length < 1) = true:=decide_eq_true (by omega);clear c4;(first | rw [c4b0] | (simp only [i64_w, i32_w];rw [c4b0]) | skip);have H':=am_ H;clear H;obtain ⟨hcz5_0, hcz5_1, hcz5_2, hcz5_3⟩:=c4_ BK161.out;obtain ⟨hfz5_0, hfz5_1, hfz5_2, hfz5_3⟩:=z4_ BK161.out
   go_wp2
   repeat (go_quiet (fail);try go_wp2)
   go_meet
   case rel => exact ⟨_, (true), (by first | rfl | (simp;done) | (simp [*];done)), H', ⟨by first | omega | exact Nat.le_refl _⟩, ⟨by (with_reducible repeat first|apply q1_|apply q2_|apply q3_);exact BK161.out⟩, ⟨by repeat (first | (with_reducible first | exact HB.out | apply b1_|apply b2_|apply b3_ | refine below_set ?_ GE161.out) | exact HB.out)⟩⟩
  ·rw [if_neg c4] at H;have c4b0 : decide ((l0_0.length : Int) < 1) = false:=decide_eq_false c4;have c4b1 : decide (l0_0.length < 1) = false:=decide_eq_false (by omega);clear c4;(first | rw [c4b0] | (simp only [i64_w, i32_w];rw [c4b0]) | skip)
   by_cases c6 : (l0_0.length : Int) > 16
   ·rw [if_pos c6] at H;have c6b0 : decide (16 < (l0_0.length : Int)) = true:=decide_eq_true c6;have c6b1 : decide (16 < l0_0.length) = true:=decide_eq_true (by omega);clear c6;have H':=am_ H;clear H;obtain ⟨hcz7_0, hcz7_1, hcz7_2, hcz7_3⟩:=c4_ BK161.out;obtain ⟨hfz7_0, hfz7_1, hfz7_2, hfz7_3⟩:=z4_ BK161.out
    go_wp2
    repeat (go_quiet (fail);try go_wp2)
    go_meet
    case rel => exact ⟨_, (true), (by first | rfl | (simp;done) | (simp [*];done)), H', ⟨by first | omega | exact Nat.le_refl _⟩, ⟨by (with_reducible repeat first|apply q1_|apply q2_|apply q3_);exact BK161.out⟩, ⟨by repeat (first | (with_reducible first | exact HB.out | apply b1_|apply b2_|apply b3_ | refine below_set ?_ GE161.out) | exact HB.out)⟩⟩
   ·rw [if_neg c6] at H;have c6b0 : decide (16 < (l0_0.length : Int)) = false:=decide_eq_false c6;have c6b1 : decide (16 < l0_0.length) = false:=decide_eq_false (by omega);clear c6
    by_cases c8 : (l0_1.length : Int) > 16
    ·rw [if_pos c8] at H;have c8b0 : decide (16 < (l0_1.length : Int)) = true:=decide_eq_true c8;have c8b1 : decide (16 < l0_1.length) = true:=decide_eq_true (by omega);clear c8;have H':=am_ H;clear H;obtain ⟨hcz9_0, hcz9_1, hcz9_2, hcz9_3⟩:=c4_ BK161.out;obtain ⟨hfz9_0, hfz9_1, hfz9_2, hfz9_3⟩:=z4_ BK161.out
     go_wp2
     repeat (go_quiet (fail);try go_wp2)
     go_meet
     case rel => exact ⟨_, (true), (by first | rfl | (simp;done) | (simp [*];done)), H', ⟨by first | omega | exact Nat.le_refl _⟩, ⟨by (with_reducible repeat first|apply q1_|apply q2_|apply q3_);exact BK161.out⟩, ⟨by repeat (first | (with_reducible first | exact HB.out | apply b1_|apply b2_|apply b3_ | refine below_set ?_ GE161.out) | exact HB.out)⟩⟩
    ·rw [if_neg c8] at H;have c8b0 : decide (16 < (l0_1.length : Int)) = false:=decide_eq_false c8;have c8b1 : decide (16 < l0_1.length) = false:=decide_eq_false (by omega);clear c8
     by_cases c10 : (l0_2.length : Int) = (l0_1.length : Int)
     ·rw [if_pos c10] at H;have c10b0 : ((l0_2.length : Int) == (l0_1.length : Int)) = true:=beq_iff_eq.mpr c10;have c10b1 : ((l0_2.length : Int) != (l0_1.length : Int)) = false:=bne_eq_false_iff_eq.mpr c10;have c10b2 : (l0_2.length == l0_1.length) = true:=by first | simpa using c10 | (simp at c10 ⊢;omega)
      clear c10;replace H:=Option.bind_eq_some_iff.mp H;obtain ⟨t162, A110, H⟩:=H;replace H : (diapasonref26_May.j0 k (!t162) l0_0 l0_1 l0_2 a0_3) = some r:=H;have A11:=am_ A110;clear A110;have H':=am_ H;clear H;obtain ⟨hcz12_0, hcz12_1, hcz12_2, hcz12_3⟩:=c4_ BK161.out;obtain ⟨hfz12_0, hfz12_1, hfz12_2, hfz12_3⟩:=z4_ BK161.out
      go_wp2_with (first | (go_at_call 80;(with_reducible refine (diapasonref26_right.calls a0_3 t162 _ A11.out).mono ?_);rintro e w' ⟨rfl, ⟨nd, rfl⟩⟩;(try first | exact ⟨rfl, _, World.drewN_drewN _ _ _⟩ | exact ⟨rfl, _, Eq.trans (World.drewN_drewN _ _ _) (congrArg (World.drewN _) (Nat.add_assoc _ _ _))⟩)))
      repeat (go_quiet (first | (go_at_call 80;(with_reducible refine (diapasonref26_right.calls a0_3 t162 _ A11.out).mono ?_);rintro e w' ⟨rfl, ⟨nd, rfl⟩⟩;(try first | exact ⟨rfl, _, World.drewN_drewN _ _ _⟩ | exact ⟨rfl, _, Eq.trans (World.drewN_drewN _ _ _) (congrArg (World.drewN _) (Nat.add_assoc _ _ _))⟩)));try go_wp2_with (first | (go_at_call 80;(with_reducible refine (diapasonref26_right.calls a0_3 t162 _ A11.out).mono ?_);rintro e w' ⟨rfl, ⟨nd, rfl⟩⟩;(try first | exact ⟨rfl, _, World.drewN_drewN _ _ _⟩ | exact ⟨rfl, _, Eq.trans (World.drewN_drewN _ _ _) (congrArg (World.drewN _) (Nat.add_assoc _ _ _))⟩))))
      go_meet
      case rel => exact ⟨_, (!t162), (by first | rfl | (simp;done) | (simp [*];done)), H', ⟨by first | omega | exact Nat.le_refl _⟩, ⟨by (with_reducible repeat first|apply q1_|apply q2_|apply q3_);exact BK161.out⟩, ⟨by repeat (first | (with_reducible first | exact HB.out | apply b1_|apply b2_|apply b3_ | refine below_set ?_ GE161.out) | exact HB.out)⟩⟩
     ·rw [if_neg c10] at H;have c10b0 : ((l0_2.length : Int) == (l0_1.length : Int)) = false:=beq_eq_false_iff_ne.mpr c10;have c10b1 : ((l0_2.length : Int) != (l0_1.length : Int)) = true:=bne_iff_ne.mpr c10;have c10b2 : (l0_2.length == l0_1.length) = false:=by first | simpa using c10 | (simp at c10 ⊢;omega)
      have H':=am_ H;clear H;obtain ⟨hcz13_0, hcz13_1, hcz13_2, hcz13_3⟩:=c4_ BK161.out;obtain ⟨hfz13_0, hfz13_1, hfz13_2, hfz13_3⟩:=z4_ BK161.out
      go_wp2
      repeat (go_quiet (fail);try go_wp2)
      go_meet
      case rel => exact ⟨_, (true), (by first | rfl | (simp;done) | (simp [*];done)), H', ⟨by first | omega | exact Nat.le_refl _⟩, ⟨by (with_reducible repeat first|apply q1_|apply q2_|apply q3_);exact BK161.out⟩, ⟨by repeat (first | (with_reducible first | exact HB.out | apply b1_|apply b2_|apply b3_ | refine below_set ?_ GE161.out) | exact HB.out)⟩⟩
 case rest =>
  clear HC2;(try clear c1);(try clear p2);(try clear c4);(try clear c4b0);(try clear c4b1);(try clear c5);(try clear c6);(try clear c6b0);(try clear c6b1);(try clear c8);(try clear c8b0);(try clear c8b1);(try clear c10);(try clear c10b0);(try clear c10b1);(try clear c10b2);(try clear hcz12_0);(try clear hcz12_1);(try clear hcz12_2);(try clear hcz12_3);(try clear hcz13_0);(try clear hcz13_1);(try clear hcz13_2);(try clear hcz13_3);(try clear hcz5_0);(try clear hcz5_1);(try clear hcz5_2);(try clear hcz5_3);(try clear hcz7_0);(try clear hcz7_1);(try clear hcz7_2);(try clear hcz7_3);(try clear hcz9_0);(try clear hcz9_1);(try clear hcz9_2);(try clear hcz9_3);(try clear hfz12_0);(try clear hfz12_1);(try clear hfz12_2);(try clear hfz12_3);(try clear hfz13_0);(try clear hfz13_1);(try clear hfz13_2);(try clear hfz13_3);(try clear hfz5_0);(try clear hfz5_1);(try clear hfz5_2);(try clear hfz5_3);(try clear hfz7_0);(try clear hfz7_1);(try clear hfz7_2);(try clear hfz7_3);(try clear hfz9_0);(try clear hfz9_1);(try clear hfz9_2);(try clear hfz9_3);obtain ⟨kq, x36_1, rfl, HA, HJ1, BK161, HB⟩:=hcut
  cases kq with
  | zero => exact absurd HA.out (by simp [diapasonref26_May.j0])
  | succ kj1 =>
   have H:=HA.out;clear HA;simp only [diapasonref26_May.j0] at H
   by_cases c14 : x36_1 = true
   ·subst c14;have H1 : (some false) = some r:=by rw [if_pos rfl] at H;exact H
    clear H;have H:=H1;clear H1;obtain rfl:=Option.some.inj H
    go_wp2
    repeat (go_quiet (fail);try go_wp2)
    go_ret
    exact ⟨by first | rfl | (simp [errW_none, errW_some] <;> rfl) | (simp [*, errW_none, errW_some] <;> rfl), by repeat (first | (with_reducible first | exact HB.out | apply b1_|apply b2_|apply b3_ | refine below_set ?_ GE161.out) | exact HB.out)⟩
   ·replace c14:=Bool.eq_false_iff.mpr c14;subst c14;have H1 : (diapasonref26_May.l0 kj1 0 l0_0 l0_1 l0_2 a0_3) = some r:=by rw [if_neg (show ¬ (false = true) by decide)] at H;exact H
    clear H;have H:=H1;clear H1;have H':=am_ H;clear H
    go_wp2
    repeat (go_quiet (fail);try go_wp2)
    go_loopg [3] kj1 (fun kq v3 w' => ∃ (x3_2 : Int), v3 = .int .i64 x3_2 ∧ Aside0 (diapasonref26_May.l0 kq x3_2 l0_0 l0_1 l0_2 a0_3 = some r) ∧ Aside0 (kq ≤ kj1) ∧ Aside0 (w'.heap[gb161]? = some (.cells #[(.slice A0_0 l0_0.length c0_0), (.slice A0_1 l0_1.length c0_1), (.slice A0_2 l0_2.length c0_2), .int .i64 a0_3] 28 (0, 0))) ∧ Aside0 (Below w.heap.size w w'))
    case atStart => exact ⟨(0), (by first | rfl | (simp;done) | (simp [*];done)), H', ⟨Nat.le_refl _⟩, ⟨by (with_reducible repeat first|apply q1_|apply q2_|apply q3_);exact BK161.out⟩, ⟨by repeat (first | (with_reducible first | exact HB.out | apply b1_|apply b2_|apply b3_ | refine below_set ?_ GE161.out) | exact HB.out)⟩⟩
    case round =>
     clear H';(try clear c1);(try clear p2);(try clear c4);(try clear c4b0);(try clear c4b1);(try clear c5);(try clear c6);(try clear c6b0);(try clear c6b1);(try clear c8);(try clear c8b0);(try clear c8b1);(try clear c10);(try clear c10b0);(try clear c10b1);(try clear c10b2);(try clear c14);(try clear hcz12_0);(try clear hcz12_1);(try clear hcz12_2);(try clear hcz12_3);(try clear hcz13_0);(try clear hcz13_1);(try clear hcz13_2);(try clear hcz13_3);(try clear hcz5_0);(try clear hcz5_1);(try clear hcz5_2);(try clear hcz5_3);(try clear hcz7_0);(try clear hcz7_1);(try clear hcz7_2);(try clear hcz7_3);(try clear hcz9_0);(try clear hcz9_1);(try clear hcz9_2);(try clear hcz9_3);(try clear hfz12_0);(try clear hfz12_1);(try clear hfz12_2);(try clear hfz12_3);(try clear hfz13_0);(try clear hfz13_1);(try clear hfz13_2);(try clear hfz13_3);(try clear hfz5_0);(try clear hfz5_1);(try clear hfz5_2);(try clear hfz5_3);(try clear hfz7_0);(try clear hfz7_1);(try clear hfz7_2);(try clear hfz7_3);(try clear hfz9_0);(try clear hfz9_1);(try clear hfz9_2);(try clear hfz9_3);(try clear p2);obtain ⟨x3_2, rfl, HA, HK2, BK161, HB⟩:=hrel
     cases gk with
     | zero => exact absurd HA.out (by simp [diapasonref26_May.l0])
     | succ k2 =>
      have H:=HA.out;clear HA;simp only [diapasonref26_May.l0] at H
      by_cases c15 : x3_2 < (l0_0.length : Int)
      ·rw [if_pos c15] at H;have c15b0 : decide (x3_2 < (l0_0.length : Int)) = true:=decide_eq_true c15;clear c15
       by_cases c16 : 0 ≤ x3_2
       ·rw [if_pos c16] at H;have c16b0 : decide (0 ≤ x3_2) = true:=decide_eq_true c16;clear c16;replace H:=Option.bind_eq_some_iff.mp H;obtain ⟨t164, A170, H⟩:=H;replace H : (if t164 = true then (diapasonref26_May.l0 k2 (wrap64 (x3_2 + 1)) l0_0 l0_1 l0_2 a0_3) else (some false)) = some r:=H;have A17:=am_ A170;clear A170
        by_cases c18 : t164 = true
        ·subst c18;have H1 : (diapasonref26_May.l0 k2 (wrap64 (x3_2 + 1)) l0_0 l0_1 l0_2 a0_3) = some r:=by rw [if_pos rfl] at H;exact H
         clear H;have H:=H1;clear H1;have H':=am_ H;clear H;obtain ⟨hcz19_0, hcz19_1, hcz19_2, hcz19_3⟩:=c4_ BK161.out;obtain ⟨hfz19_0, hfz19_1, hfz19_2, hfz19_3⟩:=z4_ BK161.out;have p163 : 0 ≤ (x3_2 : Int):=of_decide_eq_true (by first | (with_reducible assumption) | assumption);have q163 : x3_2 < (l0_0.length : Int):=of_decide_eq_true (by first | (with_reducible assumption) | assumption);obtain ⟨ad163, e163, hx163_0⟩:=Kd.at_int HR0_0.out x3_2 p163 q163
         cases e163
         replace hx163_0:=(HB.out.cell (World.block_lt_of_cell? w _ hx163_0)).trans hx163_0;replace p163:=eq_true p163;replace q163:=eq_true q163
         go_wp2_with (first | (go_at_call 80;(with_reducible refine (diapasonref26_right.calls (rd l0_0 x3_2) true _ A17.out).mono ?_);rintro e w' ⟨rfl, ⟨nd, rfl⟩⟩;(try first | exact ⟨rfl, _, World.drewN_drewN _ _ _⟩ | exact ⟨rfl, _, Eq.trans (World.drewN_drewN _ _ _) (congrArg (World.drewN _) (Nat.add_assoc _ _ _))⟩)))
         repeat (go_quiet (first | (go_at_call 80;(with_reducible refine (diapasonref26_right.calls (rd l0_0 x3_2) true _ A17.out).mono ?_);rintro e w' ⟨rfl, ⟨nd, rfl⟩⟩;(try first | exact ⟨rfl, _, World.drewN_drewN _ _ _⟩ | exact ⟨rfl, _, Eq.trans (World.drewN_drewN _ _ _) (congrArg (World.drewN _) (Nat.add_assoc _ _ _))⟩)));try go_wp2_with (first | (go_at_call 80;(with_reducible refine (diapasonref26_right.calls (rd l0_0 x3_2) true _ A17.out).mono ?_);rintro e w' ⟨rfl, ⟨nd, rfl⟩⟩;(try first | exact ⟨rfl, _, World.drewN_drewN _ _ _⟩ | exact ⟨rfl, _, Eq.trans (World.drewN_drewN _ _ _) (congrArg (World.drewN _) (Nat.add_assoc _ _ _))⟩))))
         go_roundg k2
         case measure => have:=HJ1.out;have:=HK2.out;omega
         case rel => exact ⟨(wrap64 (x3_2 + 1)), (by first | rfl | (simp;done) | (simp [*];done)), H', ⟨by have:=HJ1.out;have:=HK2.out;omega⟩, ⟨by (with_reducible repeat first|apply q1_|apply q2_|apply q3_);exact BK161.out⟩, ⟨by repeat (first | (with_reducible first | exact HB.out | apply b1_|apply b2_|apply b3_ | refine below_set ?_ GE161.out) | exact HB.out)⟩⟩
        ·replace c18:=Bool.eq_false_iff.mpr c18;subst c18;have H1 : (some false) = some r:=by rw [if_neg (show ¬ (false = true) by decide)] at H;exact H
         clear H;have H:=H1;clear H1;obtain rfl:=Option.some.inj H;obtain ⟨hcz20_0, hcz20_1, hcz20_2, hcz20_3⟩:=c4_ BK161.out;obtain ⟨hfz20_0, hfz20_1, hfz20_2, hfz20_3⟩:=z4_ BK161.out;have p163 : 0 ≤ (x3_2 : Int):=of_decide_eq_true (by first | (with_reducible assumption) | assumption);have q163 : x3_2 < (l0_0.length : Int):=of_decide_eq_true (by first | (with_reducible assumption) | assumption);obtain ⟨ad163, e163, hx163_0⟩:=Kd.at_int HR0_0.out x3_2 p163 q163
         cases e163
         replace hx163_0:=(HB.out.cell (World.block_lt_of_cell? w _ hx163_0)).trans hx163_0;replace p163:=eq_true p163;replace q163:=eq_true q163
         go_wp2_with (first | (go_at_call 80;(with_reducible refine (diapasonref26_right.calls (rd l0_0 x3_2) false _ A17.out).mono ?_);rintro e w' ⟨rfl, ⟨nd, rfl⟩⟩;(try first | exact ⟨rfl, _, World.drewN_drewN _ _ _⟩ | exact ⟨rfl, _, Eq.trans (World.drewN_drewN _ _ _) (congrArg (World.drewN _) (Nat.add_assoc _ _ _))⟩)))
         repeat (go_quiet (first | (go_at_call 80;(with_reducible refine (diapasonref26_right.calls (rd l0_0 x3_2) false _ A17.out).mono ?_);rintro e w' ⟨rfl, ⟨nd, rfl⟩⟩;(try first | exact ⟨rfl, _, World.drewN_drewN _ _ _⟩ | exact ⟨rfl, _, Eq.trans (World.drewN_drewN _ _ _) (congrArg (World.drewN _) (Nat.add_assoc _ _ _))⟩)));try go_wp2_with (first | (go_at_call 80;(with_reducible refine (diapasonref26_right.calls (rd l0_0 x3_2) false _ A17.out).mono ?_);rintro e w' ⟨rfl, ⟨nd, rfl⟩⟩;(try first | exact ⟨rfl, _, World.drewN_drewN _ _ _⟩ | exact ⟨rfl, _, Eq.trans (World.drewN_drewN _ _ _) (congrArg (World.drewN _) (Nat.add_assoc _ _ _))⟩))))
         go_ret
         exact ⟨by first | rfl | (simp [errW_none, errW_some] <;> rfl) | (simp [*, errW_none, errW_some] <;> rfl), by repeat (first | (with_reducible first | exact HB.out | apply b1_|apply b2_|apply b3_ | refine below_set ?_ GE161.out) | exact HB.out)⟩
       ·rw [if_neg c16] at H;exact absurd H (by simp)
      ·rw [if_neg c15] at H;have c15b0 : decide (x3_2 < (l0_0.length : Int)) = false:=decide_eq_false c15;clear c15;have H':=am_ H;clear H;obtain ⟨hcz21_0, hcz21_1, hcz21_2, hcz21_3⟩:=c4_ BK161.out;obtain ⟨hfz21_0, hfz21_1, hfz21_2, hfz21_3⟩:=z4_ BK161.out
       go_wp2
       repeat (go_quiet (fail);try go_wp2)
       go_loopg [4] k2 (fun kq v4 w' => ∃ (x4_3 : Int), v4 = .int .i64 x4_3 ∧ Aside0 (diapasonref26_May.l1 kq x4_3 l0_0 l0_1 l0_2 a0_3 = some r) ∧ Aside0 (kq ≤ k2) ∧ Aside0 (w'.heap[gb161]? = some (.cells #[(.slice A0_0 l0_0.length c0_0), (.slice A0_1 l0_1.length c0_1), (.slice A0_2 l0_2.length c0_2), .int .i64 a0_3] 28 (0, 0))) ∧ Aside0 (Below w.heap.size w w'))
       case atStart => exact ⟨(0), (by first | rfl | (simp;done) | (simp [*];done)), H', ⟨Nat.le_refl _⟩, ⟨by (with_reducible repeat first|apply q1_|apply q2_|apply q3_);exact BK161.out⟩, ⟨by repeat (first | (with_reducible first | exact HB.out | apply b1_|apply b2_|apply b3_ | refine below_set ?_ GE161.out) | exact HB.out)⟩⟩
       case round =>
        clear H';(try clear c1);(try clear p1);(try clear q1);(try clear hx1);(try clear p2);(try clear c4);(try clear c4b0);(try clear c4b1);(try clear c5);(try clear c6);(try clear c6b0);(try clear c6b1);(try clear p6);(try clear c8);(try clear c8b0);(try clear c8b1);(try clear c10);(try clear c10b0);(try clear c10b1);(try clear c10b2);(try clear c14);(try clear c15);(try clear c15b0);(try clear c16);(try clear c16b0);(try clear p16);(try clear q16);(try clear hx16);(try clear c18);(try clear hcz12_0);(try clear hcz12_1);(try clear hcz12_2);(try clear hcz12_3);(try clear hcz13_0);(try clear hcz13_1);(try clear hcz13_2);(try clear hcz13_3);(try clear hcz19_0);(try clear hcz19_1);(try clear hcz19_2);(try clear hcz19_3);(try clear hcz20_0);(try clear hcz20_1);(try clear hcz20_2);(try clear hcz20_3);(try clear hcz21_0);(try clear hcz21_1);(try clear hcz21_2);(try clear hcz21_3);(try clear hcz5_0);(try clear hcz5_1);(try clear hcz5_2);(try clear hcz5_3);(try clear hcz7_0);(try clear hcz7_1);(try clear hcz7_2);(try clear hcz7_3);(try clear hcz9_0);(try clear hcz9_1);(try clear hcz9_2);(try clear hcz9_3);(try clear hfz12_0);(try clear hfz12_1);(try clear hfz12_2);(try clear hfz12_3);(try clear hfz13_0);(try clear hfz13_1);(try clear hfz13_2);(try clear hfz13_3);(try clear hfz19_0);(try clear hfz19_1);(try clear hfz19_2);(try clear hfz19_3);(try clear hfz20_0);(try clear hfz20_1);(try clear hfz20_2);(try clear hfz20_3);(try clear hfz21_0);(try clear hfz21_1);(try clear hfz21_2);(try clear hfz21_3);(try clear hfz5_0);(try clear hfz5_1);(try clear hfz5_2);(try clear hfz5_3);(try clear hfz7_0);(try clear hfz7_1);(try clear hfz7_2);(try clear hfz7_3);(try clear hfz9_0);(try clear hfz9_1);(try clear hfz9_2);(try clear hfz9_3);(try clear hx163_0);(try clear p163);(try clear p2);(try clear q163);obtain ⟨x4_3, rfl, HA, HK3, BK161, HB⟩:=hrel
        cases gk with
        | zero => exact absurd HA.out (by simp [diapasonref26_May.l1])
        | succ k3 =>
         have H:=HA.out;clear HA;simp only [diapasonref26_May.l1] at H
         by_cases c22 : x4_3 < (l0_1.length : Int)
         ·rw [if_pos c22] at H;have c22b0 : decide (x4_3 < (l0_1.length : Int)) = true:=decide_eq_true c22;clear c22;have HC23:=am_ H;clear H;obtain ⟨hcz24_0, hcz24_1, hcz24_2, hcz24_3⟩:=c4_ BK161.out;obtain ⟨hfz24_0, hfz24_1, hfz24_2, hfz24_3⟩:=z4_ BK161.out
          go_upto_region 11 with (fail)
          repeat (go_quiet (fail);go_upto_region 11 with (fail))
          go_cut [76] (fun v76 wc => ∃ (kq : Nat) (x76_22 : Bool), v76 = .bool x76_22 ∧ Aside0 (diapasonref26_May.j3 kq x4_3 x76_22 l0_0 l0_1 l0_2 a0_3 = some r) ∧ Aside0 (kq ≤ k3) ∧ Aside0 (wc.heap[gb161]? = some (.cells #[(.slice A0_0 l0_0.length c0_0), (.slice A0_1 l0_1.length c0_1), (.slice A0_2 l0_2.length c0_2), .int .i64 a0_3] 28 (0, 0))) ∧ Aside0 (Below w.heap.size w wc))
          case first =>
           have H:=HC23.out;clear HC23
           by_cases c25 : 0 ≤ x4_3
           ·rw [if_pos c25] at H;have c25b0 : decide (0 ≤ x4_3) = true:=decide_eq_true c25;clear c25;(first | rw [c25b0] | (simp only [i64_w, i32_w];rw [c25b0]) | skip)
            by_cases c26 : ((rd_L1 l0_1 x4_3).length : Int) = (l0_0.length : Int)
            ·rw [if_pos c26] at H;have c26b0 : (((rd_L1 l0_1 x4_3).length : Int) == (l0_0.length : Int)) = true:=beq_iff_eq.mpr c26;have c26b1 : (((rd_L1 l0_1 x4_3).length : Int) != (l0_0.length : Int)) = false:=bne_eq_false_iff_eq.mpr c26;have c26b2 : ((rd_L1 l0_1 x4_3).length == l0_0.length) = true:=by first | simpa using c26 | (simp at c26 ⊢;omega)
             clear c26
             by_cases c27 : x4_3 < (l0_2.length : Int)
             ·rw [if_pos c27] at H;have c27b0 : decide (x4_3 < (l0_2.length : Int)) = true:=decide_eq_true c27;clear c27;replace H:=Option.bind_eq_some_iff.mp H;obtain ⟨t167, A280, H⟩:=H;replace H : (diapasonref26_May.j3 k3 x4_3 (!t167) l0_0 l0_1 l0_2 a0_3) = some r:=H;have A28:=am_ A280;clear A280;have H':=am_ H;clear H;obtain ⟨hcz29_0, hcz29_1, hcz29_2, hcz29_3⟩:=c4_ BK161.out;obtain ⟨hfz29_0, hfz29_1, hfz29_2, hfz29_3⟩:=z4_ BK161.out;have p165 : 0 ≤ (x4_3 : Int):=of_decide_eq_true (by first | (with_reducible assumption) | assumption);have q165 : x4_3 < (l0_1.length : Int):=of_decide_eq_true (by first | (with_reducible assumption) | assumption);obtain ⟨ad165, A165_0, c165_0, e165, hx165_0, hl165_0, hi165_0⟩:=at_L1 HR0_1.out x4_3 p165 q165
              cases e165
              replace hx165_0:=(HB.out.cell (World.block_lt_of_cell? w _ hx165_0)).trans hx165_0;have HR165_0:=am_ hi165_0;have HC165_0:=am_ hl165_0;clear hi165_0 hl165_0;replace p165:=eq_true p165;replace q165:=eq_true q165;have p166 : 0 ≤ (x4_3 : Int):=of_decide_eq_true (by first | (with_reducible assumption) | assumption);have q166 : x4_3 < (l0_2.length : Int):=of_decide_eq_true (by first | (with_reducible assumption) | assumption);obtain ⟨ad166, e166, hx166_0⟩:=Kd.at_int HR0_2.out x4_3 p166 q166
              cases e166
              replace hx166_0:=(HB.out.cell (World.block_lt_of_cell? w _ hx166_0)).trans hx166_0;replace p166:=eq_true p166;replace q166:=eq_true q166
              go_wp2_with (first | (go_at_call 80;(with_reducible refine (diapasonref26_right.calls (rd l0_2 x4_3) t167 _ A28.out).mono ?_);rintro e w' ⟨rfl, ⟨nd, rfl⟩⟩;(try first | exact ⟨rfl, _, World.drewN_drewN _ _ _⟩ | exact ⟨rfl, _, Eq.trans (World.drewN_drewN _ _ _) (congrArg (World.drewN _) (Nat.add_assoc _ _ _))⟩)))
              repeat (go_quiet (first | (go_at_call 80;(with_reducible refine (diapasonref26_right.calls (rd l0_2 x4_3) t167 _ A28.out).mono ?_);rintro e w' ⟨rfl, ⟨nd, rfl⟩⟩;(try first | exact ⟨rfl, _, World.drewN_drewN _ _ _⟩ | exact ⟨rfl, _, Eq.trans (World.drewN_drewN _ _ _) (congrArg (World.drewN _) (Nat.add_assoc _ _ _))⟩)));try go_wp2_with (first | (go_at_call 80;(with_reducible refine (diapasonref26_right.calls (rd l0_2 x4_3) t167 _ A28.out).mono ?_);rintro e w' ⟨rfl, ⟨nd, rfl⟩⟩;(try first | exact ⟨rfl, _, World.drewN_drewN _ _ _⟩ | exact ⟨rfl, _, Eq.trans (World.drewN_drewN _ _ _) (congrArg (World.drewN _) (Nat.add_assoc _ _ _))⟩))))
              go_meet
              case rel => exact ⟨_, (!t167), (by first | rfl | (simp;done) | (simp [*];done)), H', ⟨by have:=HJ1.out;have:=HK2.out;have:=HK3.out;first | omega | exact Nat.le_refl _⟩, ⟨by (with_reducible repeat first|apply q1_|apply q2_|apply q3_);exact BK161.out⟩, ⟨by repeat (first | (with_reducible first | exact HB.out | apply b1_|apply b2_|apply b3_ | refine below_set ?_ GE161.out) | exact HB.out)⟩⟩
             ·rw [if_neg c27] at H;exact absurd H (by simp)
            ·rw [if_neg c26] at H;have c26b0 : (((rd_L1 l0_1 x4_3).length : Int) == (l0_0.length : Int)) = false:=beq_eq_false_iff_ne.mpr c26;have c26b1 : (((rd_L1 l0_1 x4_3).length : Int) != (l0_0.length : Int)) = true:=bne_iff_ne.mpr c26;have c26b2 : ((rd_L1 l0_1 x4_3).length == l0_0.length) = false:=by first | simpa using c26 | (simp at c26 ⊢;omega)
             have H':=am_ H;clear H;obtain ⟨hcz30_0, hcz30_1, hcz30_2, hcz30_3⟩:=c4_ BK161.out;obtain ⟨hfz30_0, hfz30_1, hfz30_2, hfz30_3⟩:=z4_ BK161.out;have p165 : 0 ≤ (x4_3 : Int):=of_decide_eq_true (by first | (with_reducible assumption) | assumption);have q165 : x4_3 < (l0_1.length : Int):=of_decide_eq_true (by first | (with_reducible assumption) | assumption);obtain ⟨ad165, A165_0, c165_0, e165, hx165_0, hl165_0, hi165_0⟩:=at_L1 HR0_1.out x4_3 p165 q165
             cases e165
             replace hx165_0:=(HB.out.cell (World.block_lt_of_cell? w _ hx165_0)).trans hx165_0;have HR165_0:=am_ hi165_0;have HC165_0:=am_ hl165_0;clear hi165_0 hl165_0;replace p165:=eq_true p165;replace q165:=eq_true q165
             go_wp2
             repeat (go_quiet (fail);try go_wp2)
             go_meet
             case rel => exact ⟨_, (true), (by first | rfl | (simp;done) | (simp [*];done)), H', ⟨by have:=HJ1.out;have:=HK2.out;have:=HK3.out;first | omega | exact Nat.le_refl _⟩, ⟨by (with_reducible repeat first|apply q1_|apply q2_|apply q3_);exact BK161.out⟩, ⟨by repeat (first | (with_reducible first | exact HB.out | apply b1_|apply b2_|apply b3_ | refine below_set ?_ GE161.out) | exact HB.out)⟩⟩
           ·rw [if_neg c25] at H;exact absurd H (by simp)
          case rest =>
           clear HC23;(try clear c1);(try clear p1);(try clear q1);(try clear hx1);(try clear c2);(try clear p2);(try clear c4);(try clear c4b0);(try clear c4b1);(try clear c5);(try clear c6);(try clear c6b0);(try clear c6b1);(try clear p6);(try clear c8);(try clear c8b0);(try clear c8b1);(try clear c10);(try clear c10b0);(try clear c10b1);(try clear c10b2);(try clear c14);(try clear c15);(try clear c15b0);(try clear c16);(try clear c16b0);(try clear p16);(try clear q16);(try clear hx16);(try clear c18);(try clear c22);(try clear c22b0);(try clear c25);(try clear c25b0);(try clear c26);(try clear c26b0);(try clear c26b1);(try clear c26b2);(try clear c27);(try clear c27b0);(try clear hcz12_0);(try clear hcz12_1);(try clear hcz12_2);(try clear hcz12_3);(try clear hcz13_0);(try clear hcz13_1);(try clear hcz13_2);(try clear hcz13_3);(try clear hcz19_0);(try clear hcz19_1);(try clear hcz19_2);(try clear hcz19_3);(try clear hcz20_0);(try clear hcz20_1);(try clear hcz20_2);(try clear hcz20_3);(try clear hcz21_0);(try clear hcz21_1);(try clear hcz21_2);(try clear hcz21_3);(try clear hcz24_0);(try clear hcz24_1);(try clear hcz24_2);(try clear hcz24_3);(try clear hcz29_0);(try clear hcz29_1);(try clear hcz29_2);(try clear hcz29_3);(try clear hcz30_0);(try clear hcz30_1);(try clear hcz30_2);(try clear hcz30_3);(try clear hcz5_0);(try clear hcz5_1);(try clear hcz5_2);(try clear hcz5_3);(try clear hcz7_0);(try clear hcz7_1);(try clear hcz7_2);(try clear hcz7_3);(try clear hcz9_0);(try clear hcz9_1);(try clear hcz9_2);(try clear hcz9_3);(try clear hfz12_0);(try clear hfz12_1);(try clear hfz12_2);(try clear hfz12_3);(try clear hfz13_0);(try clear hfz13_1);(try clear hfz13_2);(try clear hfz13_3);(try clear hfz19_0);(try clear hfz19_1);(try clear hfz19_2);(try clear hfz19_3);(try clear hfz20_0);(try clear hfz20_1);(try clear hfz20_2);(try clear hfz20_3);(try clear hfz21_0);(try clear hfz21_1);(try clear hfz21_2);(try clear hfz21_3);(try clear hfz24_0);(try clear hfz24_1);(try clear hfz24_2);(try clear hfz24_3);(try clear hfz29_0);(try clear hfz29_1);(try clear hfz29_2);(try clear hfz29_3);(try clear hfz30_0);(try clear hfz30_1);(try clear hfz30_2);(try clear hfz30_3);(try clear hfz5_0);(try clear hfz5_1);(try clear hfz5_2);(try clear hfz5_3);(try clear hfz7_0);(try clear hfz7_1);(try clear hfz7_2);(try clear hfz7_3);(try clear hfz9_0);(try clear hfz9_1);(try clear hfz9_2);(try clear hfz9_3);(try clear hx163_0);(try clear hx165_0);(try clear hx166_0);(try clear p1);(try clear p16);(try clear p163);(try clear p165);(try clear p166);(try clear p2);(try clear p6);(try clear q1);(try clear q16);(try clear q163);(try clear q165);(try clear q166);obtain ⟨kq, x76_22, rfl, HA, HJ22, BK161, HB⟩:=hcut
           cases kq with
           | zero => exact absurd HA.out (by simp [diapasonref26_May.j3])
           | succ kj22 =>
            have H:=HA.out;clear HA;simp only [diapasonref26_May.j3] at H
            by_cases c31 : x76_22 = true
            ·subst c31;have H1 : (some false) = some r:=by rw [if_pos rfl] at H;exact H
             clear H;have H:=H1;clear H1;obtain rfl:=Option.some.inj H
             go_wp2
             repeat (go_quiet (fail);try go_wp2)
             go_ret
             exact ⟨by first | rfl | (simp [errW_none, errW_some] <;> rfl) | (simp [*, errW_none, errW_some] <;> rfl), by repeat (first | (with_reducible first | exact HB.out | apply b1_|apply b2_|apply b3_ | refine below_set ?_ GE161.out) | exact HB.out)⟩
            ·replace c31:=Bool.eq_false_iff.mpr c31;subst c31;have H1 : (diapasonref26_May.l2 kj22 x4_3 0 l0_0 l0_1 l0_2 a0_3) = some r:=by rw [if_neg (show ¬ (false = true) by decide)] at H;exact H
             clear H;have H:=H1;clear H1;have H':=am_ H;clear H
             go_wp2
             repeat (go_quiet (fail);try go_wp2)
             go_loopg [5] kj22 (fun kq v5 w' => ∃ (x5_5 : Int), v5 = .int .i64 x5_5 ∧ Aside0 (diapasonref26_May.l2 kq x4_3 x5_5 l0_0 l0_1 l0_2 a0_3 = some r) ∧ Aside0 (kq ≤ kj22) ∧ Aside0 (w'.heap[gb161]? = some (.cells #[(.slice A0_0 l0_0.length c0_0), (.slice A0_1 l0_1.length c0_1), (.slice A0_2 l0_2.length c0_2), .int .i64 a0_3] 28 (0, 0))) ∧ Aside0 (Below w.heap.size w w'))
             case atStart => exact ⟨(0), (by first | rfl | (simp;done) | (simp [*];done)), H', ⟨Nat.le_refl _⟩, ⟨by (with_reducible repeat first|apply q1_|apply q2_|apply q3_);exact BK161.out⟩, ⟨by repeat (first | (with_reducible first | exact HB.out | apply b1_|apply b2_|apply b3_ | refine below_set ?_ GE161.out) | exact HB.out)⟩⟩
             case round =>
              clear H';(try clear c1);(try clear p1);(try clear q1);(try clear hx1);(try clear c2);(try clear p2);(try clear c3);(try clear c4);(try clear c4b0);(try clear c4b1);(try clear c5);(try clear c6);(try clear c6b0);(try clear c6b1);(try clear p6);(try clear c8);(try clear c8b0);(try clear c8b1);(try clear c10);(try clear c10b0);(try clear c10b1);(try clear c10b2);(try clear c14);(try clear c15);(try clear c15b0);(try clear c16);(try clear c16b0);(try clear p16);(try clear q16);(try clear hx16);(try clear c18);(try clear c22);(try clear c22b0);(try clear c25);(try clear c25b0);(try clear c26);(try clear c26b0);(try clear c26b1);(try clear c26b2);(try clear c27);(try clear c27b0);(try clear c31);(try clear hcz12_0);(try clear hcz12_1);(try clear hcz12_2);(try clear hcz12_3);(try clear hcz13_0);(try clear hcz13_1);(try clear hcz13_2);(try clear hcz13_3);(try clear hcz19_0);(try clear hcz19_1);(try clear hcz19_2);(try clear hcz19_3);(try clear hcz20_0);(try clear hcz20_1);(try clear hcz20_2);(try clear hcz20_3);(try clear hcz21_0);(try clear hcz21_1);(try clear hcz21_2);(try clear hcz21_3);(try clear hcz24_0);(try clear hcz24_1);(try clear hcz24_2);(try clear hcz24_3);(try clear hcz29_0);(try clear hcz29_1);(try clear hcz29_2);(try clear hcz29_3);(try clear hcz30_0);(try clear hcz30_1);(try clear hcz30_2);(try clear hcz30_3);(try clear hcz5_0);(try clear hcz5_1);(try clear hcz5_2);(try clear hcz5_3);(try clear hcz7_0);(try clear hcz7_1);(try clear hcz7_2);(try clear hcz7_3);(try clear hcz9_0);(try clear hcz9_1);(try clear hcz9_2);(try clear hcz9_3);(try clear hfz12_0);(try clear hfz12_1);(try clear hfz12_2);(try clear hfz12_3);(try clear hfz13_0);(try clear hfz13_1);(try clear hfz13_2);(try clear hfz13_3);(try clear hfz19_0);(try clear hfz19_1);(try clear hfz19_2);(try clear hfz19_3);(try clear hfz20_0);(try clear hfz20_1);(try clear hfz20_2);(try clear hfz20_3);(try clear hfz21_0);(try clear hfz21_1);(try clear hfz21_2);(try clear hfz21_3);(try clear hfz24_0);(try clear hfz24_1);(try clear hfz24_2);(try clear hfz24_3);(try clear hfz29_0);(try clear hfz29_1);(try clear hfz29_2);(try clear hfz29_3);(try clear hfz30_0);(try clear hfz30_1);(try clear hfz30_2);(try clear hfz30_3);(try clear hfz5_0);(try clear hfz5_1);(try clear hfz5_2);(try clear hfz5_3);(try clear hfz7_0);(try clear hfz7_1);(try clear hfz7_2);(try clear hfz7_3);(try clear hfz9_0);(try clear hfz9_1);(try clear hfz9_2);(try clear hfz9_3);(try clear hx163_0);(try clear hx165_0);(try clear hx166_0);(try clear p1);(try clear p16);(try clear p163);(try clear p165);(try clear p166);(try clear p2);(try clear p6);(try clear q1);(try clear q16);(try clear q163);(try clear q165);(try clear q166);obtain ⟨x5_5, rfl, HA, HK5, BK161, HB⟩:=hrel
              cases gk with
              | zero => exact absurd HA.out (by simp [diapasonref26_May.l2])
              | succ k5 =>
               have H:=HA.out;clear HA;simp only [diapasonref26_May.l2] at H
               by_cases c32 : 0 ≤ x4_3
               ·rw [if_pos c32] at H;have c32b0 : decide (0 ≤ x4_3) = true:=decide_eq_true c32;clear c32
                by_cases c33 : x4_3 < (l0_1.length : Int)
                ·rw [if_pos c33] at H;have c33b0 : decide (x4_3 < (l0_1.length : Int)) = true:=decide_eq_true c33;clear c33
                 by_cases c34 : x5_5 < ((rd_L1 l0_1 x4_3).length : Int)
                 ·rw [if_pos c34] at H;have c34b0 : decide (x5_5 < ((rd_L1 l0_1 x4_3).length : Int)) = true:=decide_eq_true c34;clear c34
                  by_cases c35 : 0 ≤ x5_5
                  ·rw [if_pos c35] at H;have c35b0 : decide (0 ≤ x5_5) = true:=decide_eq_true c35;clear c35;replace H:=Option.bind_eq_some_iff.mp H;obtain ⟨t171, A360, H⟩:=H;replace H : (if t171 = true then (diapasonref26_May.l2 k5 x4_3 (wrap64 (x5_5 + 1)) l0_0 l0_1 l0_2 a0_3) else (some false)) = some r:=H;have A36:=am_ A360;clear A360
                   by_cases c37 : t171 = true
                   ·subst c37;have H1 : (diapasonref26_May.l2 k5 x4_3 (wrap64 (x5_5 + 1)) l0_0 l0_1 l0_2 a0_3) = some r:=by rw [if_pos rfl] at H;exact H
                    clear H;have H:=H1;clear H1;have H':=am_ H;clear H;obtain ⟨hcz38_0, hcz38_1, hcz38_2, hcz38_3⟩:=c4_ BK161.out;obtain ⟨hfz38_0, hfz38_1, hfz38_2, hfz38_3⟩:=z4_ BK161.out;have p168 : 0 ≤ (x4_3 : Int):=of_decide_eq_true (by first | (with_reducible assumption) | assumption);have q168 : x4_3 < (l0_1.length : Int):=of_decide_eq_true (by first | (with_reducible assumption) | assumption);obtain ⟨ad168, A168_0, c168_0, e168, hx168_0, hl168_0, hi168_0⟩:=at_L1 HR0_1.out x4_3 p168 q168
                    cases e168
                    replace hx168_0:=(HB.out.cell (World.block_lt_of_cell? w _ hx168_0)).trans hx168_0;have HR168_0:=am_ hi168_0;have HC168_0:=am_ hl168_0;clear hi168_0 hl168_0;replace p168:=eq_true p168;replace q168:=eq_true q168;have p169 : 0 ≤ (x4_3 : Int):=of_decide_eq_true (by first | (with_reducible assumption) | assumption);have q169 : x4_3 < (l0_1.length : Int):=of_decide_eq_true (by first | (with_reducible assumption) | assumption);obtain ⟨ad169, A169_0, c169_0, e169, hx169_0, hl169_0, hi169_0⟩:=at_L1 HR0_1.out x4_3 p169 q169;obtain rfl : ad168 = ad169:=(by injection e169)
                    replace hx169_0:=(HB.out.cell (World.block_lt_of_cell? w _ hx169_0)).trans hx169_0;have HR169_0:=am_ hi169_0;have HC169_0:=am_ hl169_0;clear hi169_0 hl169_0;replace p169:=eq_true p169;replace q169:=eq_true q169;have ea_:=Option.some.inj (hx168_0.symm.trans hx169_0);injection ea_ with ea_ en_ ec_;subst ea_;subst ec_;clear en_;have p170 : 0 ≤ (x5_5 : Int):=of_decide_eq_true (by first | (with_reducible assumption) | assumption);have q170 : x5_5 < ((rd_L1 l0_1 x4_3).length : Int):=of_decide_eq_true (by first | (with_reducible assumption) | assumption);obtain ⟨ad170, e170, hx170_0⟩:=Kd.at_int HR169_0.out x5_5 p170 q170
                    cases e170
                    replace hx170_0:=(HB.out.cell (World.block_lt_of_cell? w _ hx170_0)).trans hx170_0;replace p170:=eq_true p170;replace q170:=eq_true q170
                    go_wp2_with (first | (go_at_call 80;(with_reducible refine (diapasonref26_right.calls (rd (rd_L1 l0_1 x4_3) x5_5) true _ A36.out).mono ?_);rintro e w' ⟨rfl, ⟨nd, rfl⟩⟩;(try first | exact ⟨rfl, _, World.drewN_drewN _ _ _⟩ | exact ⟨rfl, _, Eq.trans (World.drewN_drewN _ _ _) (congrArg (World.drewN _) (Nat.add_assoc _ _ _))⟩)))
                    repeat (go_quiet (first | (go_at_call 80;(with_reducible refine (diapasonref26_right.calls (rd (rd_L1 l0_1 x4_3) x5_5) true _ A36.out).mono ?_);rintro e w' ⟨rfl, ⟨nd, rfl⟩⟩;(try first | exact ⟨rfl, _, World.drewN_drewN _ _ _⟩ | exact ⟨rfl, _, Eq.trans (World.drewN_drewN _ _ _) (congrArg (World.drewN _) (Nat.add_assoc _ _ _))⟩)));try go_wp2_with (first | (go_at_call 80;(with_reducible refine (diapasonref26_right.calls (rd (rd_L1 l0_1 x4_3) x5_5) true _ A36.out).mono ?_);rintro e w' ⟨rfl, ⟨nd, rfl⟩⟩;(try first | exact ⟨rfl, _, World.drewN_drewN _ _ _⟩ | exact ⟨rfl, _, Eq.trans (World.drewN_drewN _ _ _) (congrArg (World.drewN _) (Nat.add_assoc _ _ _))⟩))))
                    go_roundg k5
                    case measure => have:=HJ1.out;have:=HK2.out;have:=HK3.out;have:=HJ22.out;have:=HK5.out;omega
                    case rel => exact ⟨(wrap64 (x5_5 + 1)), (by first | rfl | (simp;done) | (simp [*];done)), H', ⟨by have:=HJ1.out;have:=HK2.out;have:=HK3.out;have:=HJ22.out;have:=HK5.out;omega⟩, ⟨by (with_reducible repeat first|apply q1_|apply q2_|apply q3_);exact BK161.out⟩, ⟨by repeat (first | (with_reducible first | exact HB.out | apply b1_|apply b2_|apply b3_ | refine below_set ?_ GE161.out) | exact HB.out)⟩⟩
                   ·replace c37:=Bool.eq_false_iff.mpr c37;subst c37;have H1 : (some false) = some r:=by rw [if_neg (show ¬ (false = true) by decide)] at H;exact H
                    clear H;have H:=H1;clear H1;obtain rfl:=Option.some.inj H;obtain ⟨hcz39_0, hcz39_1, hcz39_2, hcz39_3⟩:=c4_ BK161.out;obtain ⟨hfz39_0, hfz39_1, hfz39_2, hfz39_3⟩:=z4_ BK161.out;have p168 : 0 ≤ (x4_3 : Int):=of_decide_eq_true (by first | (with_reducible assumption) | assumption);have q168 : x4_3 < (l0_1.length : Int):=of_decide_eq_true (by first | (with_reducible assumption) | assumption);obtain ⟨ad168, A168_0, c168_0, e168, hx168_0, hl168_0, hi168_0⟩:=at_L1 HR0_1.out x4_3 p168 q168
                    cases e168
                    replace hx168_0:=(HB.out.cell (World.block_lt_of_cell? w _ hx168_0)).trans hx168_0;have HR168_0:=am_ hi168_0;have HC168_0:=am_ hl168_0;clear hi168_0 hl168_0;replace p168:=eq_true p168;replace q168:=eq_true q168;have p169 : 0 ≤ (x4_3 : Int):=of_decide_eq_true (by first | (with_reducible assumption) | assumption);have q169 : x4_3 < (l0_1.length : Int):=of_decide_eq_true (by first | (with_reducible assumption) | assumption);obtain ⟨ad169, A169_0, c169_0, e169, hx169_0, hl169_0, hi169_0⟩:=at_L1 HR0_1.out x4_3 p169 q169;obtain rfl : ad168 = ad169:=(by injection e169)
                    replace hx169_0:=(HB.out.cell (World.block_lt_of_cell? w _ hx169_0)).trans hx169_0;have HR169_0:=am_ hi169_0;have HC169_0:=am_ hl169_0;clear hi169_0 hl169_0;replace p169:=eq_true p169;replace q169:=eq_true q169;have ea_:=Option.some.inj (hx168_0.symm.trans hx169_0);injection ea_ with ea_ en_ ec_;subst ea_;subst ec_;clear en_;have p170 : 0 ≤ (x5_5 : Int):=of_decide_eq_true (by first | (with_reducible assumption) | assumption);have q170 : x5_5 < ((rd_L1 l0_1 x4_3).length : Int):=of_decide_eq_true (by first | (with_reducible assumption) | assumption);obtain ⟨ad170, e170, hx170_0⟩:=Kd.at_int HR169_0.out x5_5 p170 q170
                    cases e170
                    replace hx170_0:=(HB.out.cell (World.block_lt_of_cell? w _ hx170_0)).trans hx170_0;replace p170:=eq_true p170;replace q170:=eq_true q170
                    go_wp2_with (first | (go_at_call 80;(with_reducible refine (diapasonref26_right.calls (rd (rd_L1 l0_1 x4_3) x5_5) false _ A36.out).mono ?_);rintro e w' ⟨rfl, ⟨nd, rfl⟩⟩;(try first | exact ⟨rfl, _, World.drewN_drewN _ _ _⟩ | exact ⟨rfl, _, Eq.trans (World.drewN_drewN _ _ _) (congrArg (World.drewN _) (Nat.add_assoc _ _ _))⟩)))
                    repeat (go_quiet (first | (go_at_call 80;(with_reducible refine (diapasonref26_right.calls (rd (rd_L1 l0_1 x4_3) x5_5) false _ A36.out).mono ?_);rintro e w' ⟨rfl, ⟨nd, rfl⟩⟩;(try first | exact ⟨rfl, _, World.drewN_drewN _ _ _⟩ | exact ⟨rfl, _, Eq.trans (World.drewN_drewN _ _ _) (congrArg (World.drewN _) (Nat.add_assoc _ _ _))⟩)));try go_wp2_with (first | (go_at_call 80;(with_reducible refine (diapasonref26_right.calls (rd (rd_L1 l0_1 x4_3) x5_5) false _ A36.out).mono ?_);rintro e w' ⟨rfl, ⟨nd, rfl⟩⟩;(try first | exact ⟨rfl, _, World.drewN_drewN _ _ _⟩ | exact ⟨rfl, _, Eq.trans (World.drewN_drewN _ _ _) (congrArg (World.drewN _) (Nat.add_assoc _ _ _))⟩))))
                    go_ret
                    exact ⟨by first | rfl | (simp [errW_none, errW_some] <;> rfl) | (simp [*, errW_none, errW_some] <;> rfl), by repeat (first | (with_reducible first | exact HB.out | apply b1_|apply b2_|apply b3_ | refine below_set ?_ GE161.out) | exact HB.out)⟩
                  ·rw [if_neg c35] at H;exact absurd H (by simp)
                 ·rw [if_neg c34] at H;have c34b0 : decide (x5_5 < ((rd_L1 l0_1 x4_3).length : Int)) = false:=decide_eq_false c34;clear c34;have H':=am_ H;clear H;obtain ⟨hcz40_0, hcz40_1, hcz40_2, hcz40_3⟩:=c4_ BK161.out;obtain ⟨hfz40_0, hfz40_1, hfz40_2, hfz40_3⟩:=z4_ BK161.out;have p168 : 0 ≤ (x4_3 : Int):=of_decide_eq_true (by first | (with_reducible assumption) | assumption);have q168 : x4_3 < (l0_1.length : Int):=of_decide_eq_true (by first | (with_reducible assumption) | assumption);obtain ⟨ad168, A168_0, c168_0, e168, hx168_0, hl168_0, hi168_0⟩:=at_L1 HR0_1.out x4_3 p168 q168
                  cases e168
                  replace hx168_0:=(HB.out.cell (World.block_lt_of_cell? w _ hx168_0)).trans hx168_0;have HR168_0:=am_ hi168_0;have HC168_0:=am_ hl168_0;clear hi168_0 hl168_0;replace p168:=eq_true p168;replace q168:=eq_true q168
                  go_wp2
                  repeat (go_quiet (fail);try go_wp2)
                  go_roundg k5
                  case measure => have:=HJ1.out;have:=HK2.out;have:=HK3.out;have:=HJ22.out;have:=HK5.out;omega
                  case rel => exact ⟨(wrap64 (x4_3 + 1)), (by first | rfl | (simp;done) | (simp [*];done)), H', ⟨by have:=HJ1.out;have:=HK2.out;have:=HK3.out;have:=HJ22.out;have:=HK5.out;omega⟩, ⟨by (with_reducible repeat first|apply q1_|apply q2_|apply q3_);exact BK161.out⟩, ⟨by repeat (first | (with_reducible first | exact HB.out | apply b1_|apply b2_|apply b3_ | refine below_set ?_ GE161.out) | exact HB.out)⟩⟩
                ·rw [if_neg c33] at H;exact absurd H (by simp)
               ·rw [if_neg c32] at H;exact absurd H (by simp)
         ·rw [if_neg c22] at H;have c22b0 : decide (x4_3 < (l0_1.length : Int)) = false:=decide_eq_false c22;clear c22;obtain rfl:=Option.some.inj H;obtain ⟨hcz41_0, hcz41_1, hcz41_2, hcz41_3⟩:=c4_ BK161.out;obtain ⟨hfz41_0, hfz41_1, hfz41_2, hfz41_3⟩:=z4_ BK161.out
          go_wp2
          repeat (go_quiet (fail);try go_wp2)
          go_ret
          exact ⟨by first | rfl | (simp [errW_none, errW_some] <;> rfl) | (simp [*, errW_none, errW_some] <;> rfl), by repeat (first | (with_reducible first | exact HB.out | apply b1_|apply b2_|apply b3_ | refine below_set ?_ GE161.out) | exact HB.out)⟩

end Go.Proofs.YtfcidgnbocijdaaDoor.PCertMakes
