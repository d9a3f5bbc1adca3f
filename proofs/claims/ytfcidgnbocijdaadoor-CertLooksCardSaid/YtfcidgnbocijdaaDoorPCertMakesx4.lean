-- Written by a program of this session (the kit's print, turned: wip/px).
import Derived.Test.YtfcidgnbocijdaaDoorPCertMakesx0
import Derived.Test.YtfcidgnbocijdaaDoorSq2
namespace Go.Proofs.YtfcidgnbocijdaaDoor.PCertMakes
open Go.Proofs.YtfcidgnbocijdaaDoor.Sq
open Go.RowKit Go.Proofs.YtfcidgnbocijdaaDoorW.PrintWords Go.Proofs.YtfcidgnbocijdaaDoorW.PrintLast Go.Proofs.YtfcidgnbocijdaaDoorW.PrintMore
attribute [local go_sem] max2_int min2_int max_two min_two max_three min_three max_four min_four   -- for this text's walks alone
set_option linter.unusedVariables false
set_option linter.unusedSimpArgs false

/-! ### regis_least: function 42 -/
mutual
def regis_least.l0 : Nat → List Int → Int → List Int → Int → Int → List Int → List (List Int) → List Int → Int → Option (Int)
 | 0, _, _, _, _, _, _, _, _, _ => none
 | k + 1, x1, x5, x13, x14, x15, x141000, x141001, x141002, x141003 => if x15 < x14 then (if 0 ≤ x15 then (if x15 < (x13.length : Int) then (regis_least.l1 k x1 x5 x15 (rd x13 x15) 0 0 x13 x14 x15 x141001 (x141001.length : Int) 0 x141000 x141001 x141002 x141003) else (none)) else (none)) else (some x5)
def regis_least.l1 : Nat → List Int → Int → Int → Int → Int → Int → List Int → Int → Int → List (List Int) → Int → Int → List Int → List (List Int) → List Int → Int → Option (Int)
 | 0, _, _, _, _, _, _, _, _, _, _, _, _, _, _, _, _ => none
 | k + 1, x1, x5, x6, x7, x8, x9, x13, x14, x15, x21, x22, x23, x141000, x141001, x141002, x141003 => if x23 < x22 then (if 0 ≤ x23 then (if x23 < (x21.length : Int) then (if x23 ≥ (x1.length : Int) then (if 0 ≤ x6 then (if x6 < ((rd_L1 x21 x23).length : Int) then (regis_least.l1 k x1 x5 x6 x7 x8 (wrap64 (x9 + (rd (rd_L1 x21 x23) x6))) x13 x14 x15 x21 x22 (wrap64 (x23 + 1)) x141000 x141001 x141002 x141003) else (none)) else (none)) else (if x23 < (x1.length : Int) then (if (rd x1 x23) = 1 then (if 0 ≤ x6 then (if x6 < ((rd_L1 x21 x23).length : Int) then (regis_least.l1 k x1 x5 x6 x7 (wrap64 (x8 + (rd (rd_L1 x21 x23) x6))) x9 x13 x14 x15 x21 x22 (wrap64 (x23 + 1)) x141000 x141001 x141002 x141003) else (none)) else (none)) else (regis_least.l1 k x1 x5 x6 x7 x8 x9 x13 x14 x15 x21 x22 (wrap64 (x23 + 1)) x141000 x141001 x141002 x141003)) else (none))) else (none)) else (none)) else (regis_least.l0 k x1 (wrap64 (x5 + (mx (mx 0 (wrap64 (x8 - x7))) (wrap64 ((wrap64 (x7 - x8)) - x9))))) x13 x14 (wrap64 (x15 + 1)) x141000 x141001 x141002 x141003)
end
def regis_least.f (k : Nat) (l0_0 : List Int) (l0_1 : List (List Int)) (l0_2 : List Int) (a0_3 : Int) (l1 : List Int) : Option (Int) := regis_least.l0 k l1 0 l0_0 (l0_0.length : Int) 0 l0_0 l0_1 l0_2 a0_3
theorem regis_least.mono_l : ∀ k, (∀ y0 y1 y2 y3 y4 y5 y6 y7 y8, LeO (regis_least.l0 k y0 y1 y2 y3 y4 y5 y6 y7 y8) (regis_least.l0 (k + 1) y0 y1 y2 y3 y4 y5 y6 y7 y8)) ∧ (∀ y0 y1 y2 y3 y4 y5 y6 y7 y8 y9 y10 y11 y12 y13 y14 y15, LeO (regis_least.l1 k y0 y1 y2 y3 y4 y5 y6 y7 y8 y9 y10 y11 y12 y13 y14 y15) (regis_least.l1 (k + 1) y0 y1 y2 y3 y4 y5 y6 y7 y8 y9 y10 y11 y12 y13 y14 y15))
 | 0 => ⟨fun _ _ _ _ _ _ _ _ _ r h => by simp [regis_least.l0] at h, fun _ _ _ _ _ _ _ _ _ _ _ _ _ _ _ _ r h => by simp [regis_least.l1] at h⟩
 | k + 1 => by
  obtain ⟨ih0, ih1⟩:=regis_least.mono_l k;refine ⟨?_, ?_⟩
  ·intro y0 y1 y2 y3 y4 y5 y6 y7 y8
   unfold regis_least.l0
   repeat' first
   | (with_reducible exact ih0 _ _ _ _ _ _ _ _ _)
   | (with_reducible exact ih1 _ _ _ _ _ _ _ _ _ _ _ _ _ _ _ _)
   | (with_reducible exact LeO.refl _)
   | (with_reducible exact LeO.none _)
   | (with_reducible refine LeO.ite ?_ ?_)
   | (with_reducible refine LeO.bind ?_ (fun _ => ?_))
   | exact ih0 _ _ _ _ _ _ _ _ _
   | exact ih1 _ _ _ _ _ _ _ _ _ _ _ _ _ _ _ _
   | exact LeO.none _
   | refine LeO.ite ?_ ?_
   | refine LeO.bind ?_ (fun _ => ?_)
  ·intro y0 y1 y2 y3 y4 y5 y6 y7 y8 y9 y10 y11 y12 y13 y14 y15
   unfold regis_least.l1
   repeat' first
   | (with_reducible exact ih0 _ _ _ _ _ _ _ _ _)
   | (with_reducible exact ih1 _ _ _ _ _ _ _ _ _ _ _ _ _ _ _ _)
   | (with_reducible exact LeO.refl _)
   | (with_reducible exact LeO.none _)
   | (with_reducible refine LeO.ite ?_ ?_)
   | (with_reducible refine LeO.bind ?_ (fun _ => ?_))
   | exact ih0 _ _ _ _ _ _ _ _ _
   | exact ih1 _ _ _ _ _ _ _ _ _ _ _ _ _ _ _ _
   | exact LeO.none _
   | refine LeO.ite ?_ ?_
   | refine LeO.bind ?_ (fun _ => ?_)
theorem regis_least.mono : ∀ a0 a1 a2 a3 a4 k, LeO (regis_least.f k a0 a1 a2 a3 a4) (regis_least.f (k + 1) a0 a1 a2 a3 a4) := by
 intro a0 a1 a2 a3 a4 k;obtain ⟨ih0, ih1⟩:=regis_least.mono_l k
 unfold regis_least.f
 repeat' first
   | (with_reducible exact ih0 _ _ _ _ _ _ _ _ _)
   | (with_reducible exact ih1 _ _ _ _ _ _ _ _ _ _ _ _ _ _ _ _)
   | (with_reducible exact LeO.refl _)
   | (with_reducible exact LeO.none _)
   | (with_reducible refine LeO.ite ?_ ?_)
   | (with_reducible refine LeO.bind ?_ (fun _ => ?_))
   | exact ih0 _ _ _ _ _ _ _ _ _
   | exact ih1 _ _ _ _ _ _ _ _ _ _ _ _ _ _ _ _
   | exact LeO.none _
   | refine LeO.ite ?_ ?_
   | refine LeO.bind ?_ (fun _ => ?_)
set_option maxHeartbeats 8000000 in
set_option maxRecDepth 100000 in
theorem regis_least.calls (k : Nat) (A0_0 : Option Addr) (c0_0 : Nat) (l0_0 : List Int) (A0_1 : Option Addr) (c0_1 : Nat) (l0_1 : List (List Int)) (A0_2 : Option Addr) (c0_2 : Nat) (l0_2 : List Int) (a0_3 : Int) (A1 : Option Addr) (c1 : Nat) (l1 : List Int) (r : Int) (w : World) (hr0_0 : Kd.C (Kd.int .i64) w A0_0 l0_0.length l0_0) (hc0_0 : l0_0.length ≤ c0_0) (hr0_1 : Kd.C (Kd.slice 3 (Kd.int .i64)) w A0_1 l0_1.length l0_1) (hc0_1 : l0_1.length ≤ c0_1) (hr0_2 : Kd.C (Kd.int .i64) w A0_2 l0_2.length l0_2) (hc0_2 : l0_2.length ≤ c0_2) (hr1 : Kd.C (Kd.int .u8) w A1 l1.length l1) (hc1 : l1.length ≤ c1) (h : regis_least.f k l0_0 l0_1 l0_2 a0_3 l1 = some r) :
  Calls Tryd.prog 42 #[.agg #[.slice A0_0 l0_0.length c0_0, .slice A0_1 l0_1.length c0_1, .slice A0_2 l0_2.length c0_2, .int .i64 a0_3], .slice A1 l1.length c1] w fun e w' => e = .returned (.int .i64 r) ∧ Below w.heap.size w w':=by
 have hu28:=Tryd.underlying28;have HR0_0:=am_ hr0_0;have HC0_0:=am_ hc0_0;clear hr0_0 hc0_0;have HR0_1:=am_ hr0_1;have HC0_1:=am_ hc0_1;clear hr0_1 hc0_1;have HR0_2:=am_ hr0_2;have HC0_2:=am_ hc0_2;clear hr0_2 hc0_2;have HR1:=am_ hr1;have HC1:=am_ hc1;clear hr1 hc1;have HB:=am_ (Below.refl w.heap.size w);have H : (regis_least.l0 k l1 0 l0_0 (l0_0.length : Int) 0 l0_0 l0_1 l0_2 a0_3) = some r:=h;clear h;have H':=am_ H;clear H;go_enter Tryd.func42, Tryd.ntmps42
 go_wp2_with (first | ((with_reducible refine gate_dst (N:=2) rfl ?_);refine box_event ?hg (N:=2) ?hd (cs:=#[.slice A0_0 l0_0.length c0_0, .slice A0_1 l0_1.length c0_1, .slice A0_2 l0_2.length c0_2, .int .i64 a0_3]) (t:=28) ?hr ?_;(case hd => rfl);(case hg => rfl);(case hr => first | (go_simp;done) | (go_simp;rfl));intro gb140 hg w3 hbox hb;have BK140:=am_ hbox;have GW140:=gz_ hg HB;have GE140:=gz_ hg HB;replace HB:=bs_ HB hb;clear hb hbox hg;obtain ⟨hcz4_0, hcz4_1, hcz4_2, hcz4_3⟩:=c4_ BK140.out;obtain ⟨hfz4_0, hfz4_1, hfz4_2, hfz4_3⟩:=z4_ BK140.out))
 go_loopg [5, 15] k (fun kq v5 v15 w' => ∃ (x5_1 : Int) (x15_1 : Int), v5 = .int .i64 x5_1 ∧ v15 = .int .i64 x15_1 ∧ Aside0 (regis_least.l0 kq l1 x5_1 l0_0 (l0_0.length : Int) x15_1 l0_0 l0_1 l0_2 a0_3 = some r) ∧ Aside0 (kq ≤ k) ∧ Aside0 (w'.heap[gb140]? = some (.cells #[(.slice A0_0 l0_0.length c0_0), (.slice A0_1 l0_1.length c0_1), (.slice A0_2 l0_2.length c0_2), .int .i64 a0_3] 28 (0, 0))) ∧ Aside0 (Below w.heap.size w w'))
 case atStart => exact ⟨(0), (0), (by first | rfl | (simp;done) | (simp [*];done)), (by first | rfl | (simp;done) | (simp [*];done)), H', ⟨Nat.le_refl _⟩, ⟨by (with_reducible repeat first|apply q1_|apply q2_|apply q3_);exact BK140.out⟩, ⟨by repeat (first | (with_reducible first | exact HB.out | apply b1_|apply b2_|apply b3_ | refine below_set ?_ GE140.out) | exact HB.out)⟩⟩
 case round =>
  clear H';(try clear c1);(try clear p2);(try clear c4);(try clear hcz4_0);(try clear hcz4_1);(try clear hcz4_2);(try clear hcz4_3);(try clear hfz4_0);(try clear hfz4_1);(try clear hfz4_2);(try clear hfz4_3);obtain ⟨x5_1, x15_1, rfl, rfl, HA, HK1, BK140, HB⟩:=hrel
  cases gk with
  | zero => exact absurd HA.out (by simp [regis_least.l0])
  | succ k1 =>
   have H:=HA.out;clear HA;simp only [regis_least.l0] at H
   by_cases c5 : x15_1 < (l0_0.length : Int)
   ·rw [if_pos c5] at H;have c5b0 : decide (x15_1 < (l0_0.length : Int)) = true:=decide_eq_true c5;clear c5
    by_cases c6 : 0 ≤ x15_1
    ·rw [if_pos c6] at H;have c6b0 : decide (0 ≤ x15_1) = true:=decide_eq_true c6;clear c6
     by_cases c7 : x15_1 < (l0_0.length : Int)
     ·rw [if_pos c7] at H;have c7b0 : decide (x15_1 < (l0_0.length : Int)) = true:=decide_eq_true c7;clear c7;have H':=am_ H;clear H;have p141 : 0 ≤ (x15_1 : Int):=of_decide_eq_true (by first | (with_reducible assumption) | assumption);have q141 : x15_1 < (l0_0.length : Int):=of_decide_eq_true (by first | (with_reducible assumption) | assumption);obtain ⟨ad141, e141, hx141_0⟩:=Kd.at_int HR0_0.out x15_1 p141 q141
      cases e141
      replace hx141_0:=(HB.out.cell (World.block_lt_of_cell? w _ hx141_0)).trans hx141_0;replace p141:=eq_true p141;replace q141:=eq_true q141;obtain ⟨hcz8_0, hcz8_1, hcz8_2, hcz8_3⟩:=c4_ BK140.out;obtain ⟨hfz8_0, hfz8_1, hfz8_2, hfz8_3⟩:=z4_ BK140.out
      go_wp2
      go_loopg [8, 9, 23] k1 (fun kq v8 v9 v23 w' => ∃ (x8_2 : Int) (x9_2 : Int) (x23_2 : Int), v8 = .int .i64 x8_2 ∧ v9 = .int .i64 x9_2 ∧ v23 = .int .i64 x23_2 ∧ Aside0 (regis_least.l1 kq l1 x5_1 x15_1 (rd l0_0 x15_1) x8_2 x9_2 l0_0 (l0_0.length : Int) x15_1 l0_1 (l0_1.length : Int) x23_2 l0_0 l0_1 l0_2 a0_3 = some r) ∧ Aside0 (kq ≤ k1) ∧ Aside0 (w'.heap[gb140]? = some (.cells #[(.slice (some ad141) l0_0.length c0_0), (.slice A0_1 l0_1.length c0_1), (.slice A0_2 l0_2.length c0_2), .int .i64 a0_3] 28 (0, 0))) ∧ Aside0 (Below w.heap.size w w'))
      case atStart => exact ⟨(0), (0), (0), (by first | rfl | (simp;done) | (simp [*];done)), (by first | rfl | (simp;done) | (simp [*];done)), (by first | rfl | (simp;done) | (simp [*];done)), H', ⟨Nat.le_refl _⟩, ⟨by (with_reducible repeat first|apply q1_|apply q2_|apply q3_);exact BK140.out⟩, ⟨by repeat (first | (with_reducible first | exact HB.out | apply b1_|apply b2_|apply b3_ | refine below_set ?_ GE140.out) | exact HB.out)⟩⟩
      case round =>
       clear H';(try clear c1);(try clear p1);(try clear q1);(try clear hx1);(try clear p2);(try clear c4);(try clear c5);(try clear c5b0);(try clear c6);(try clear c6b0);(try clear c7);(try clear c7b0);(try clear hcz4_0);(try clear hcz4_1);(try clear hcz4_2);(try clear hcz4_3);(try clear hcz8_0);(try clear hcz8_1);(try clear hcz8_2);(try clear hcz8_3);(try clear hfz4_0);(try clear hfz4_1);(try clear hfz4_2);(try clear hfz4_3);(try clear hfz8_0);(try clear hfz8_1);(try clear hfz8_2);(try clear hfz8_3);(try clear hx141_0);(try clear p141);(try clear p2);(try clear q141);obtain ⟨x8_2, x9_2, x23_2, rfl, rfl, rfl, HA, HK2, BK140, HB⟩:=hrel
       cases gk with
       | zero => exact absurd HA.out (by simp [regis_least.l1])
       | succ k2 =>
        have H:=HA.out;clear HA;simp only [regis_least.l1] at H
        by_cases c9 : x23_2 < (l0_1.length : Int)
        ·rw [if_pos c9] at H;have c9b0 : decide (x23_2 < (l0_1.length : Int)) = true:=decide_eq_true c9;clear c9
         by_cases c10 : 0 ≤ x23_2
         ·rw [if_pos c10] at H;have c10b0 : decide (0 ≤ x23_2) = true:=decide_eq_true c10;clear c10
          by_cases c11 : x23_2 < (l0_1.length : Int)
          ·rw [if_pos c11] at H;have c11b0 : decide (x23_2 < (l0_1.length : Int)) = true:=decide_eq_true c11;clear c11
           by_cases c12 : x23_2 ≥ (l1.length : Int)
           ·rw [if_pos c12] at H;have c12b0 : decide ((l1.length : Int) ≤ x23_2) = true:=decide_eq_true c12;clear c12
            by_cases c13 : 0 ≤ x15_1
            ·rw [if_pos c13] at H;have c13b0 : decide (0 ≤ x15_1) = true:=decide_eq_true c13;clear c13
             by_cases c14 : x15_1 < ((rd_L1 l0_1 x23_2).length : Int)
             ·rw [if_pos c14] at H;have c14b0 : decide (x15_1 < ((rd_L1 l0_1 x23_2).length : Int)) = true:=decide_eq_true c14;clear c14;have H':=am_ H;clear H;have p142 : 0 ≤ (x23_2 : Int):=of_decide_eq_true (by first | (with_reducible assumption) | assumption);have q142 : x23_2 < (l0_1.length : Int):=of_decide_eq_true (by first | (with_reducible assumption) | assumption);obtain ⟨ad142, A142_0, c142_0, e142, hx142_0, hl142_0, hi142_0⟩:=at_L1 HR0_1.out x23_2 p142 q142
              cases e142
              replace hx142_0:=(HB.out.cell (World.block_lt_of_cell? w _ hx142_0)).trans hx142_0;have HR142_0:=am_ hi142_0;have HC142_0:=am_ hl142_0;clear hi142_0 hl142_0;replace p142:=eq_true p142;replace q142:=eq_true q142;have p143 : 0 ≤ (x15_1 : Int):=of_decide_eq_true (by first | (with_reducible assumption) | assumption);have q143 : x15_1 < ((rd_L1 l0_1 x23_2).length : Int):=of_decide_eq_true (by first | (with_reducible assumption) | assumption);obtain ⟨ad143, e143, hx143_0⟩:=Kd.at_int HR142_0.out x15_1 p143 q143
              cases e143
              replace hx143_0:=(HB.out.cell (World.block_lt_of_cell? w _ hx143_0)).trans hx143_0;replace p143:=eq_true p143;replace q143:=eq_true q143
              go_wp2
              go_roundg k2
              case measure => have:=HK1.out;have:=HK2.out;omega
              case rel => exact ⟨(x8_2), (wrap64 (x9_2 + (rd (rd_L1 l0_1 x23_2) x15_1))), (wrap64 (x23_2 + 1)), (by first | rfl | (simp;done) | (simp [*];done)), (by first | rfl | (simp;done) | (simp [*];done)), (by first | rfl | (simp;done) | (simp [*];done)), H', ⟨by have:=HK1.out;have:=HK2.out;omega⟩, ⟨by (with_reducible repeat first|apply q1_|apply q2_|apply q3_);exact BK140.out⟩, ⟨by repeat (first | (with_reducible first | exact HB.out | apply b1_|apply b2_|apply b3_ | refine below_set ?_ GE140.out) | exact HB.out)⟩⟩
             ·rw [if_neg c14] at H;exact absurd H (by simp)
            ·rw [if_neg c13] at H;exact absurd H (by simp)
           ·rw [if_neg c12] at H;have c12b0 : decide ((l1.length : Int) ≤ x23_2) = false:=decide_eq_false c12;clear c12
            by_cases c15 : x23_2 < (l1.length : Int)
            ·rw [if_pos c15] at H;have c15b0 : decide (x23_2 < (l1.length : Int)) = true:=decide_eq_true c15;clear c15
             by_cases c16 : (rd l1 x23_2) = 1
             ·rw [if_pos c16] at H;have c16b0 : ((rd l1 x23_2) == 1) = true:=beq_iff_eq.mpr c16;have c16b1 : ((rd l1 x23_2) != 1) = false:=bne_eq_false_iff_eq.mpr c16;clear c16
              by_cases c17 : 0 ≤ x15_1
              ·rw [if_pos c17] at H;have c17b0 : decide (0 ≤ x15_1) = true:=decide_eq_true c17;clear c17
               by_cases c18 : x15_1 < ((rd_L1 l0_1 x23_2).length : Int)
               ·rw [if_pos c18] at H;have c18b0 : decide (x15_1 < ((rd_L1 l0_1 x23_2).length : Int)) = true:=decide_eq_true c18;clear c18;have H':=am_ H;clear H;have p142 : 0 ≤ (x23_2 : Int):=of_decide_eq_true (by first | (with_reducible assumption) | assumption);have q142 : x23_2 < (l0_1.length : Int):=of_decide_eq_true (by first | (with_reducible assumption) | assumption);obtain ⟨ad142, A142_0, c142_0, e142, hx142_0, hl142_0, hi142_0⟩:=at_L1 HR0_1.out x23_2 p142 q142
                cases e142
                replace hx142_0:=(HB.out.cell (World.block_lt_of_cell? w _ hx142_0)).trans hx142_0;have HR142_0:=am_ hi142_0;have HC142_0:=am_ hl142_0;clear hi142_0 hl142_0;replace p142:=eq_true p142;replace q142:=eq_true q142;have p144 : 0 ≤ (x23_2 : Int):=of_decide_eq_true (by first | (with_reducible assumption) | assumption);have q144 : x23_2 < (l1.length : Int):=of_decide_eq_true (by first | (with_reducible assumption) | assumption);obtain ⟨ad144, e144, hx144_0⟩:=Kd.at_int HR1.out x23_2 p144 q144
                cases e144
                replace hx144_0:=(HB.out.cell (World.block_lt_of_cell? w _ hx144_0)).trans hx144_0;replace p144:=eq_true p144;replace q144:=eq_true q144;have p145 : 0 ≤ (x15_1 : Int):=of_decide_eq_true (by first | (with_reducible assumption) | assumption);have q145 : x15_1 < ((rd_L1 l0_1 x23_2).length : Int):=of_decide_eq_true (by first | (with_reducible assumption) | assumption);obtain ⟨ad145, e145, hx145_0⟩:=Kd.at_int HR142_0.out x15_1 p145 q145
                cases e145
                replace hx145_0:=(HB.out.cell (World.block_lt_of_cell? w _ hx145_0)).trans hx145_0;replace p145:=eq_true p145;replace q145:=eq_true q145
                go_wp2
                go_roundg k2
                case measure => have:=HK1.out;have:=HK2.out;omega
                case rel => exact ⟨(wrap64 (x8_2 + (rd (rd_L1 l0_1 x23_2) x15_1))), (x9_2), (wrap64 (x23_2 + 1)), (by first | rfl | (simp;done) | (simp [*];done)), (by first | rfl | (simp;done) | (simp [*];done)), (by first | rfl | (simp;done) | (simp [*];done)), H', ⟨by have:=HK1.out;have:=HK2.out;omega⟩, ⟨by (with_reducible repeat first|apply q1_|apply q2_|apply q3_);exact BK140.out⟩, ⟨by repeat (first | (with_reducible first | exact HB.out | apply b1_|apply b2_|apply b3_ | refine below_set ?_ GE140.out) | exact HB.out)⟩⟩
               ·rw [if_neg c18] at H;exact absurd H (by simp)
              ·rw [if_neg c17] at H;exact absurd H (by simp)
             ·rw [if_neg c16] at H;have c16b0 : ((rd l1 x23_2) == 1) = false:=beq_eq_false_iff_ne.mpr c16;have c16b1 : ((rd l1 x23_2) != 1) = true:=bne_iff_ne.mpr c16;have H':=am_ H;clear H;have p142 : 0 ≤ (x23_2 : Int):=of_decide_eq_true (by first | (with_reducible assumption) | assumption);have q142 : x23_2 < (l0_1.length : Int):=of_decide_eq_true (by first | (with_reducible assumption) | assumption);obtain ⟨ad142, A142_0, c142_0, e142, hx142_0, hl142_0, hi142_0⟩:=at_L1 HR0_1.out x23_2 p142 q142
              cases e142
              replace hx142_0:=(HB.out.cell (World.block_lt_of_cell? w _ hx142_0)).trans hx142_0;have HR142_0:=am_ hi142_0;have HC142_0:=am_ hl142_0;clear hi142_0 hl142_0;replace p142:=eq_true p142;replace q142:=eq_true q142;have p144 : 0 ≤ (x23_2 : Int):=of_decide_eq_true (by first | (with_reducible assumption) | assumption);have q144 : x23_2 < (l1.length : Int):=of_decide_eq_true (by first | (with_reducible assumption) | assumption);obtain ⟨ad144, e144, hx144_0⟩:=Kd.at_int HR1.out x23_2 p144 q144
              cases e144
              replace hx144_0:=(HB.out.cell (World.block_lt_of_cell? w _ hx144_0)).trans hx144_0;replace p144:=eq_true p144;replace q144:=eq_true q144
              go_wp2
              go_roundg k2
              case measure => have:=HK1.out;have:=HK2.out;omega
              case rel => exact ⟨(x8_2), (x9_2), (wrap64 (x23_2 + 1)), (by first | rfl | (simp;done) | (simp [*];done)), (by first | rfl | (simp;done) | (simp [*];done)), (by first | rfl | (simp;done) | (simp [*];done)), H', ⟨by have:=HK1.out;have:=HK2.out;omega⟩, ⟨by (with_reducible repeat first|apply q1_|apply q2_|apply q3_);exact BK140.out⟩, ⟨by repeat (first | (with_reducible first | exact HB.out | apply b1_|apply b2_|apply b3_ | refine below_set ?_ GE140.out) | exact HB.out)⟩⟩
            ·rw [if_neg c15] at H;exact absurd H (by simp)
          ·rw [if_neg c11] at H;exact absurd H (by simp)
         ·rw [if_neg c10] at H;exact absurd H (by simp)
        ·rw [if_neg c9] at H;have c9b0 : decide (x23_2 < (l0_1.length : Int)) = false:=decide_eq_false c9;clear c9;obtain ⟨ji19, hji19⟩ : ∃ j_ : Int, (mx 0 (wrap64 (x8_2 - (rd l0_0 x15_1)))) = j_:=⟨_, rfl⟩
         replace H : (regis_least.l0 k2 l1 (wrap64 (x5_1 + (mx (ji19) (wrap64 ((wrap64 ((rd l0_0 x15_1) - x8_2)) - x9_2))))) l0_0 (l0_0.length : Int) (wrap64 (x15_1 + 1)) l0_0 l0_1 l0_2 a0_3) = some r:=by first | (rw [hji19] at H;exact H) | (simp only [hji19] at H ⊢;exact H)
         have hji19_ : (if 0 < (wrap64 (x8_2 - (rd l0_0 x15_1))) then (wrap64 (x8_2 - (rd l0_0 x15_1))) else 0) = ji19:=hji19;obtain ⟨ji20, hji20⟩ : ∃ j_ : Int, (mx (ji19) (wrap64 ((wrap64 ((rd l0_0 x15_1) - x8_2)) - x9_2))) = j_:=⟨_, rfl⟩
         replace H : (regis_least.l0 k2 l1 (wrap64 (x5_1 + (ji20))) l0_0 (l0_0.length : Int) (wrap64 (x15_1 + 1)) l0_0 l0_1 l0_2 a0_3) = some r:=by first | (rw [hji20] at H;exact H) | (simp only [hji20] at H ⊢;exact H)
         have hji20_ : (if (ji19) < (wrap64 ((wrap64 ((rd l0_0 x15_1) - x8_2)) - x9_2)) then (wrap64 ((wrap64 ((rd l0_0 x15_1) - x8_2)) - x9_2)) else (ji19)) = ji20:=hji20;have H':=am_ H;clear H
         go_wp2
         go_roundg k2
         case measure => have:=HK1.out;have:=HK2.out;omega
         case rel => exact ⟨(wrap64 (x5_1 + (ji20))), (wrap64 (x15_1 + 1)), (by first | rfl | (simp;done) | (simp only [← hji20] <;> (first | rfl | simp)) | (simp [*];done)), (by first | rfl | (simp;done) | (simp [*];done)), H', ⟨by have:=HK1.out;have:=HK2.out;omega⟩, ⟨by (with_reducible repeat first|apply q1_|apply q2_|apply q3_);exact BK140.out⟩, ⟨by repeat (first | (with_reducible first | exact HB.out | apply b1_|apply b2_|apply b3_ | refine below_set ?_ GE140.out) | exact HB.out)⟩⟩
     ·rw [if_neg c7] at H;exact absurd H (by simp)
    ·rw [if_neg c6] at H;exact absurd H (by simp)
   ·rw [if_neg c5] at H;have c5b0 : decide (x15_1 < (l0_0.length : Int)) = false:=decide_eq_false c5;clear c5;obtain rfl:=Option.some.inj H
    go_wp2
    go_ret
    exact ⟨by first | rfl | (simp [errW_none, errW_some] <;> rfl) | (simp [*, errW_none, errW_some] <;> rfl), by repeat (first | (with_reducible first | exact HB.out | apply b1_|apply b2_|apply b3_ | refine below_set ?_ GE140.out) | exact HB.out)⟩

/-! ### slices_Clone_int_int: function 43 -/
def slices_Clone_int_int.f (l0 : List Int) : Option (List Int) := if l0.length * 8 ≤ 140737488355328 then some l0 else none
theorem slices_Clone_int_int.eqnil (w : World) (A : Option Addr) (n c : Nat) : (Go.binOp .eql 25 (.slice A n c) (.slice none 0 0)).run Tryd.prog w = .ok (.bool A.isNone) w := by
  have ht : Tryd.prog.underlying 25 = some (.slice 3) := Tryd.underlying25
  cases A with
  | none => exact Lib.run_eql_slice_nil w _ _ _ _ _ _ _ ht
  | some ad => exact Lib.run_eql_slice_nil w _ _ _ _ _ _ _ ht
set_option maxHeartbeats 2000000 in
set_option maxRecDepth 100000 in
theorem slices_Clone_int_int.calls (A0 : Option Addr) (c0 : Nat) (l0 : List Int) (r : List Int) (w : World) (hr0 : Kd.C (Kd.int .i64) w A0 l0.length l0) (hc0 : l0.length ≤ c0) (h : slices_Clone_int_int.f l0 = some r) :
    Calls Tryd.prog 43 #[.slice A0 l0.length c0] w fun e w' => ∃ v0_, e = .returned v0_ ∧ Kd.R (Kd.int .i64) 3 w' w.heap.size (fun _ => True) v0_ r ∧ Below w.heap.size w w' := by
  unfold slices_Clone_int_int.f at h
  split at h
  case isFalse => cases h
  case isTrue hl =>
  injection h with h
  subst h
  have hq := slices_Clone_int_int.eqnil
  have HR := Aside0.mk hr0
  clear hr0
  cases A0 with
  | none =>
    have h0 : l0 = [] := by
      refine List.eq_nil_of_length_eq_zero ?_
      rcases Nat.eq_zero_or_pos l0.length with h0 | h0
      · exact h0
      · obtain ⟨ad, h, _⟩ := HR.out.2.2 h0
        cases h
    subst h0
    go_enter Tryd.func43, Tryd.ntmps43
    go_wp2
    go_ret
    exact ⟨_, rfl, Kd.R_nil _ _ _ _ _, Below.refl _ _⟩
  | some ad =>
    go_enter Tryd.func43, Tryd.ntmps43
    have HO : Kd.R (Kd.int .i64) 3 (w.alloc (.cells #[] 3)) w.heap.size (fun _ => True) (.slice (some ⟨w.heap.size, 0, none⟩) 0 0) [] :=
      Kd.R_of_own (by refine ⟨rfl, .inr ⟨w.heap.size, 0, #[], rfl, Nat.le_refl _, blk_new w _, ?_⟩⟩; exact ⟨Nat.le_refl _, Nat.zero_le _, rfl, rfl⟩) (fun _ _ => trivial)
    go_wp2_with (at_builtin; refine Kd.R_append_row (w0 := w) (Value.int .i64) 0 w.heap.size rfl _ _ 25 3 (.int .i64 0) 8 rfl Tryd.underlying25 (by kernel_rfl) rfl (by decide) _ [] l0 _ _ _ (fun _ => True) rfl rfl (fun _ _ => trivial) HO (Kd.C_alloc HR.out _) (below_alloc (Below.refl _ _) _) (by simp) (by simpa using hl) ?_; intro v1 w1 hR hB hg hat)
    go_ret
    exact ⟨_, rfl, hR, hB⟩


end Go.Proofs.YtfcidgnbocijdaaDoor.PCertMakes
