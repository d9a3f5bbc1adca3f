-- Written by a program of this session (the kit's print, turned: wip/px).
import Derived.Test.YtfcidgnbocijdaaDoorPCertMakesx0
import Derived.Test.YtfcidgnbocijdaaDoorSq2
namespace Go.Proofs.YtfcidgnbocijdaaDoor.PCertMakes
open Go.Proofs.YtfcidgnbocijdaaDoor.Sq
open Go.RowKit Go.Proofs.YtfcidgnbocijdaaDoorW.PrintWords Go.Proofs.YtfcidgnbocijdaaDoorW.PrintLast Go.Proofs.YtfcidgnbocijdaaDoorW.PrintMore
attribute [local go_sem] max2_int min2_int max_two min_two max_three min_three max_four min_four   -- for this text's walks alone
set_option linter.unusedVariables false
set_option linter.unusedSimpArgs false

/-! ### diapasonref26_Least: function 76 -/
mutual
def diapasonref26_Least.l0 : Nat → List Int → Int → Int → List Int → List (List Int) → List Int → Int → Option (Int)
 | 0, _, _, _, _, _, _, _ => none
 | k + 1, x1, x5, x6, x208000, x208001, x208002, x208003 => if x6 < (x208000.length : Int) then (diapasonref26_Least.l1 k x1 x5 x6 0 0 0 x208000 x208001 x208002 x208003) else (some x5)
def diapasonref26_Least.l1 : Nat → List Int → Int → Int → Int → Int → Int → List Int → List (List Int) → List Int → Int → Option (Int)
 | 0, _, _, _, _, _, _, _, _, _, _ => none
 | k + 1, x1, x5, x6, x7, x8, x9, x208000, x208001, x208002, x208003 => if x9 < (x208001.length : Int) then (if x9 < (x1.length : Int) then (if 0 ≤ x9 then (if (rd x1 x9) = 1 then (if 0 ≤ x6 then (if x6 < ((rd_L1 x208001 x9).length : Int) then (diapasonref26_Least.l1 k x1 x5 x6 (wrap64 (x7 + (rd (rd_L1 x208001 x9) x6))) (wrap64 (x8 + (rd (rd_L1 x208001 x9) x6))) (wrap64 (x9 + 1)) x208000 x208001 x208002 x208003) else (none)) else (none)) else (diapasonref26_Least.l1 k x1 x5 x6 x7 x8 (wrap64 (x9 + 1)) x208000 x208001 x208002 x208003)) else (none)) else (if 0 ≤ x9 then (if 0 ≤ x6 then (if x6 < ((rd_L1 x208001 x9).length : Int) then (diapasonref26_Least.l1 k x1 x5 x6 x7 (wrap64 (x8 + (rd (rd_L1 x208001 x9) x6))) (wrap64 (x9 + 1)) x208000 x208001 x208002 x208003) else (none)) else (none)) else (none))) else (if 0 ≤ x6 then (if x6 < (x208000.length : Int) then (if (rd x208000 x6) < x7 then (if (rd x208000 x6) > x8 then (diapasonref26_Least.l0 k x1 (wrap64 ((wrap64 ((wrap64 ((wrap64 (x5 + x7)) - (rd x208000 x6))) + (rd x208000 x6))) - x8)) (wrap64 (x6 + 1)) x208000 x208001 x208002 x208003) else (diapasonref26_Least.l0 k x1 (wrap64 ((wrap64 (x5 + x7)) - (rd x208000 x6))) (wrap64 (x6 + 1)) x208000 x208001 x208002 x208003)) else (if (rd x208000 x6) > x8 then (diapasonref26_Least.l0 k x1 (wrap64 ((wrap64 (x5 + (rd x208000 x6))) - x8)) (wrap64 (x6 + 1)) x208000 x208001 x208002 x208003) else (diapasonref26_Least.l0 k x1 x5 (wrap64 (x6 + 1)) x208000 x208001 x208002 x208003))) else (none)) else (none))
end
def diapasonref26_Least.f (k : Nat) (l0_0 : List Int) (l0_1 : List (List Int)) (l0_2 : List Int) (a0_3 : Int) (l1 : List Int) : Option (Int) := diapasonref26_Least.l0 k l1 0 0 l0_0 l0_1 l0_2 a0_3
theorem diapasonref26_Least.mono_l : ∀ k, (∀ y0 y1 y2 y3 y4 y5 y6, LeO (diapasonref26_Least.l0 k y0 y1 y2 y3 y4 y5 y6) (diapasonref26_Least.l0 (k + 1) y0 y1 y2 y3 y4 y5 y6)) ∧ (∀ y0 y1 y2 y3 y4 y5 y6 y7 y8 y9, LeO (diapasonref26_Least.l1 k y0 y1 y2 y3 y4 y5 y6 y7 y8 y9) (diapasonref26_Least.l1 (k + 1) y0 y1 y2 y3 y4 y5 y6 y7 y8 y9))
 | 0 => ⟨fun _ _ _ _ _ _ _ r h => by simp [diapasonref26_Least.l0] at h, fun _ _ _ _ _ _ _ _ _ _ r h => by simp [diapasonref26_Least.l1] at h⟩
 | k + 1 => by
  obtain ⟨ih0, ih1⟩:=diapasonref26_Least.mono_l k;refine ⟨?_, ?_⟩
  ·intro y0 y1 y2 y3 y4 y5 y6
   unfold diapasonref26_Least.l0
   repeat' first
   | (with_reducible exact ih0 _ _ _ _ _ _ _)
   | (with_reducible exact ih1 _ _ _ _ _ _ _ _ _ _)
   | (with_reducible exact LeO.refl _)
   | (with_reducible exact LeO.none _)
   | (with_reducible refine LeO.ite ?_ ?_)
   | (with_reducible refine LeO.bind ?_ (fun _ => ?_))
   | exact ih0 _ _ _ _ _ _ _
   | exact ih1 _ _ _ _ _ _ _ _ _ _
   | exact LeO.none _
   | refine LeO.ite ?_ ?_
   | refine LeO.bind ?_ (fun _ => ?_)
  ·intro y0 y1 y2 y3 y4 y5 y6 y7 y8 y9
   unfold diapasonref26_Least.l1
   repeat' first
   | (with_reducible exact ih0 _ _ _ _ _ _ _)
   | (with_reducible exact ih1 _ _ _ _ _ _ _ _ _ _)
   | (with_reducible exact LeO.refl _)
   | (with_reducible exact LeO.none _)
   | (with_reducible refine LeO.ite ?_ ?_)
   | (with_reducible refine LeO.bind ?_ (fun _ => ?_))
   | exact ih0 _ _ _ _ _ _ _
   | exact ih1 _ _ _ _ _ _ _ _ _ _
   | exact LeO.none _
   | refine LeO.ite ?_ ?_
   | refine LeO.bind ?_ (fun _ => ?_)
theorem diapasonref26_Least.mono : ∀ a0 a1 a2 a3 a4 k, LeO (diapasonref26_Least.f k a0 a1 a2 a3 a4) (diapasonref26_Least.f (k + 1) a0 a1 a2 a3 a4) := by
 intro a0 a1 a2 a3 a4 k;obtain ⟨ih0, ih1⟩:=diapasonref26_Least.mono_l k
 unfold diapasonref26_Least.f
 repeat' first
   | (with_reducible exact ih0 _ _ _ _ _ _ _)
   | (with_reducible exact ih1 _ _ _ _ _ _ _ _ _ _)
   | (with_reducible exact LeO.refl _)
   | (with_reducible exact LeO.none _)
   | (with_reducible refine LeO.ite ?_ ?_)
   | (with_reducible refine LeO.bind ?_ (fun _ => ?_))
   | exact ih0 _ _ _ _ _ _ _
   | exact ih1 _ _ _ _ _ _ _ _ _ _
   | exact LeO.none _
   | refine LeO.ite ?_ ?_
   | refine LeO.bind ?_ (fun _ => ?_)
set_option maxHeartbeats 8000000 in
set_option maxRecDepth 100000 in
theorem diapasonref26_Least.calls (k : Nat) (A0_0 : Option Addr) (c0_0 : Nat) (l0_0 : List Int) (A0_1 : Option Addr) (c0_1 : Nat) (l0_1 : List (List Int)) (A0_2 : Option Addr) (c0_2 : Nat) (l0_2 : List Int) (a0_3 : Int) (A1 : Option Addr) (c1 : Nat) (l1 : List Int) (r : Int) (w : World) (hr0_0 : Kd.C (Kd.int .i64) w A0_0 l0_0.length l0_0) (hc0_0 : l0_0.length ≤ c0_0) (hr0_1 : Kd.C (Kd.slice 3 (Kd.int .i64)) w A0_1 l0_1.length l0_1) (hc0_1 : l0_1.length ≤ c0_1) (hr0_2 : Kd.C (Kd.int .i64) w A0_2 l0_2.length l0_2) (hc0_2 : l0_2.length ≤ c0_2) (hr1 : Kd.C (Kd.int .u8) w A1 l1.length l1) (hc1 : l1.length ≤ c1) (h : diapasonref26_Least.f k l0_0 l0_1 l0_2 a0_3 l1 = some r) :
  Calls Tryd.prog 76 #[.agg #[.slice A0_0 l0_0.length c0_0, .slice A0_1 l0_1.length c0_1, .slice A0_2 l0_2.length c0_2, .int .i64 a0_3], .slice A1 l1.length c1] w fun e w' => e = .returned (.int .i64 r) ∧ Below w.heap.size w w':=by
 have hu28:=Tryd.underlying28;have HR0_0:=am_ hr0_0;have HC0_0:=am_ hc0_0;clear hr0_0 hc0_0;have HR0_1:=am_ hr0_1;have HC0_1:=am_ hc0_1;clear hr0_1 hc0_1;have HR0_2:=am_ hr0_2;have HC0_2:=am_ hc0_2;clear hr0_2 hc0_2;have HR1:=am_ hr1;have HC1:=am_ hc1;clear hr1 hc1;have HB:=am_ (Below.refl w.heap.size w);have H : (diapasonref26_Least.l0 k l1 0 0 l0_0 l0_1 l0_2 a0_3) = some r:=h;clear h;have H':=am_ H;clear H;go_enter Tryd.func76, Tryd.ntmps76
 go_wp2_with (first | ((with_reducible refine gate_dst (N:=2) rfl ?_);refine box_event ?hg (N:=2) ?hd (cs:=#[.slice A0_0 l0_0.length c0_0, .slice A0_1 l0_1.length c0_1, .slice A0_2 l0_2.length c0_2, .int .i64 a0_3]) (t:=28) ?hr ?_;(case hd => rfl);(case hg => rfl);(case hr => first | (go_simp;done) | (go_simp;rfl));intro gb207 hg w3 hbox hb;have BK207:=am_ hbox;have GW207:=gz_ hg HB;have GE207:=gz_ hg HB;replace HB:=bs_ HB hb;clear hb hbox hg))
 go_loopg [5, 6] k (fun kq v5 v6 w' => ∃ (x5_1 : Int) (x6_1 : Int), v5 = .int .i64 x5_1 ∧ v6 = .int .i64 x6_1 ∧ Aside0 (diapasonref26_Least.l0 kq l1 x5_1 x6_1 l0_0 l0_1 l0_2 a0_3 = some r) ∧ Aside0 (kq ≤ k) ∧ Aside0 (w'.heap[gb207]? = some (.cells #[(.slice A0_0 l0_0.length c0_0), (.slice A0_1 l0_1.length c0_1), (.slice A0_2 l0_2.length c0_2), .int .i64 a0_3] 28 (0, 0))) ∧ Aside0 (Below w.heap.size w w'))
 case atStart => exact ⟨(0), (0), (by first | rfl | (simp;done) | (simp [*];done)), (by first | rfl | (simp;done) | (simp [*];done)), H', ⟨Nat.le_refl _⟩, ⟨by (with_reducible repeat first|apply q1_|apply q2_|apply q3_);exact BK207.out⟩, ⟨by repeat (first | (with_reducible first | exact HB.out | apply b1_|apply b2_|apply b3_ | refine below_set ?_ GE207.out) | exact HB.out)⟩⟩
 case round =>
  clear H';(try clear c1);(try clear p2);obtain ⟨x5_1, x6_1, rfl, rfl, HA, HK1, BK207, HB⟩:=hrel
  cases gk with
  | zero => exact absurd HA.out (by simp [diapasonref26_Least.l0])
  | succ k1 =>
   have H:=HA.out;clear HA;simp only [diapasonref26_Least.l0] at H
   by_cases c4 : x6_1 < (l0_0.length : Int)
   ·rw [if_pos c4] at H;have c4b0 : decide (x6_1 < (l0_0.length : Int)) = true:=decide_eq_true c4;clear c4;have H':=am_ H;clear H;obtain ⟨hcz5_0, hcz5_1, hcz5_2, hcz5_3⟩:=c4_ BK207.out;obtain ⟨hfz5_0, hfz5_1, hfz5_2, hfz5_3⟩:=z4_ BK207.out
    go_wp2
    go_loopg [7, 8, 9] k1 (fun kq v7 v8 v9 w' => ∃ (x7_2 : Int) (x8_2 : Int) (x9_2 : Int), v7 = .int .i64 x7_2 ∧ v8 = .int .i64 x8_2 ∧ v9 = .int .i64 x9_2 ∧ Aside0 (diapasonref26_Least.l1 kq l1 x5_1 x6_1 x7_2 x8_2 x9_2 l0_0 l0_1 l0_2 a0_3 = some r) ∧ Aside0 (kq ≤ k1) ∧ Aside0 (w'.heap[gb207]? = some (.cells #[(.slice A0_0 l0_0.length c0_0), (.slice A0_1 l0_1.length c0_1), (.slice A0_2 l0_2.length c0_2), .int .i64 a0_3] 28 (0, 0))) ∧ Aside0 (Below w.heap.size w w'))
    case atStart => exact ⟨(0), (0), (0), (by first | rfl | (simp;done) | (simp [*];done)), (by first | rfl | (simp;done) | (simp [*];done)), (by first | rfl | (simp;done) | (simp [*];done)), H', ⟨Nat.le_refl _⟩, ⟨by (with_reducible repeat first|apply q1_|apply q2_|apply q3_);exact BK207.out⟩, ⟨by repeat (first | (with_reducible first | exact HB.out | apply b1_|apply b2_|apply b3_ | refine below_set ?_ GE207.out) | exact HB.out)⟩⟩
    case round =>
     clear H';(try clear c1);(try clear p2);(try clear c4);(try clear c4b0);(try clear hcz5_0);(try clear hcz5_1);(try clear hcz5_2);(try clear hcz5_3);(try clear hfz5_0);(try clear hfz5_1);(try clear hfz5_2);(try clear hfz5_3);(try clear p2);obtain ⟨x7_2, x8_2, x9_2, rfl, rfl, rfl, HA, HK2, BK207, HB⟩:=hrel
     cases gk with
     | zero => exact absurd HA.out (by simp [diapasonref26_Least.l1])
     | succ k2 =>
      have H:=HA.out;clear HA;simp only [diapasonref26_Least.l1] at H
      by_cases c6 : x9_2 < (l0_1.length : Int)
      ·rw [if_pos c6] at H;have c6b0 : decide (x9_2 < (l0_1.length : Int)) = true:=decide_eq_true c6;clear c6
       by_cases c7 : x9_2 < (l1.length : Int)
       ·rw [if_pos c7] at H;have c7b0 : decide (x9_2 < (l1.length : Int)) = true:=decide_eq_true c7;clear c7
        by_cases c8 : 0 ≤ x9_2
        ·rw [if_pos c8] at H;have c8b0 : decide (0 ≤ x9_2) = true:=decide_eq_true c8;clear c8
         by_cases c9 : (rd l1 x9_2) = 1
         ·rw [if_pos c9] at H;have c9b0 : ((rd l1 x9_2) == 1) = true:=beq_iff_eq.mpr c9;have c9b1 : ((rd l1 x9_2) != 1) = false:=bne_eq_false_iff_eq.mpr c9;clear c9
          by_cases c10 : 0 ≤ x6_1
          ·rw [if_pos c10] at H;have c10b0 : decide (0 ≤ x6_1) = true:=decide_eq_true c10;clear c10
           by_cases c11 : x6_1 < ((rd_L1 l0_1 x9_2).length : Int)
           ·rw [if_pos c11] at H;have c11b0 : decide (x6_1 < ((rd_L1 l0_1 x9_2).length : Int)) = true:=decide_eq_true c11;clear c11;have H':=am_ H;clear H;obtain ⟨hcz12_0, hcz12_1, hcz12_2, hcz12_3⟩:=c4_ BK207.out;obtain ⟨hfz12_0, hfz12_1, hfz12_2, hfz12_3⟩:=z4_ BK207.out;have p208 : 0 ≤ (x9_2 : Int):=of_decide_eq_true (by first | (with_reducible assumption) | assumption);have q208 : x9_2 < (l1.length : Int):=of_decide_eq_true (by first | (with_reducible assumption) | assumption);obtain ⟨ad208, e208, hx208_0⟩:=Kd.at_int HR1.out x9_2 p208 q208
            cases e208
            replace hx208_0:=(HB.out.cell (World.block_lt_of_cell? w _ hx208_0)).trans hx208_0;replace p208:=eq_true p208;replace q208:=eq_true q208;have p209 : 0 ≤ (x9_2 : Int):=of_decide_eq_true (by first | (with_reducible assumption) | assumption);have q209 : x9_2 < (l0_1.length : Int):=of_decide_eq_true (by first | (with_reducible assumption) | assumption);obtain ⟨ad209, A209_0, c209_0, e209, hx209_0, hl209_0, hi209_0⟩:=at_L1 HR0_1.out x9_2 p209 q209
            cases e209
            replace hx209_0:=(HB.out.cell (World.block_lt_of_cell? w _ hx209_0)).trans hx209_0;have HR209_0:=am_ hi209_0;have HC209_0:=am_ hl209_0;clear hi209_0 hl209_0;replace p209:=eq_true p209;replace q209:=eq_true q209;have p210 : 0 ≤ (x6_1 : Int):=of_decide_eq_true (by first | (with_reducible assumption) | assumption);have q210 : x6_1 < ((rd_L1 l0_1 x9_2).length : Int):=of_decide_eq_true (by first | (with_reducible assumption) | assumption);obtain ⟨ad210, e210, hx210_0⟩:=Kd.at_int HR209_0.out x6_1 p210 q210
            cases e210
            replace hx210_0:=(HB.out.cell (World.block_lt_of_cell? w _ hx210_0)).trans hx210_0;replace p210:=eq_true p210;replace q210:=eq_true q210;have p211 : 0 ≤ (x9_2 : Int):=of_decide_eq_true (by first | (with_reducible assumption) | assumption);have q211 : x9_2 < (l0_1.length : Int):=of_decide_eq_true (by first | (with_reducible assumption) | assumption);obtain ⟨ad211, A211_0, c211_0, e211, hx211_0, hl211_0, hi211_0⟩:=at_L1 HR0_1.out x9_2 p211 q211;obtain rfl : ad209 = ad211:=(by injection e211)
            replace hx211_0:=(HB.out.cell (World.block_lt_of_cell? w _ hx211_0)).trans hx211_0;have HR211_0:=am_ hi211_0;have HC211_0:=am_ hl211_0;clear hi211_0 hl211_0;replace p211:=eq_true p211;replace q211:=eq_true q211;have ea_:=Option.some.inj (hx209_0.symm.trans hx211_0);injection ea_ with ea_ en_ ec_;subst ea_;subst ec_;clear en_;have p212 : 0 ≤ (x6_1 : Int):=of_decide_eq_true (by first | (with_reducible assumption) | assumption);have q212 : x6_1 < ((rd_L1 l0_1 x9_2).length : Int):=of_decide_eq_true (by first | (with_reducible assumption) | assumption);obtain ⟨ad212, e212, hx212_0⟩:=Kd.at_int HR211_0.out x6_1 p212 q212
            cases e212
            replace hx212_0:=(HB.out.cell (World.block_lt_of_cell? w _ hx212_0)).trans hx212_0;replace p212:=eq_true p212;replace q212:=eq_true q212
            go_wp2
            go_roundg k2
            case measure => have:=HK1.out;have:=HK2.out;omega
            case rel => exact ⟨(wrap64 (x7_2 + (rd (rd_L1 l0_1 x9_2) x6_1))), (wrap64 (x8_2 + (rd (rd_L1 l0_1 x9_2) x6_1))), (wrap64 (x9_2 + 1)), (by first | rfl | (simp;done) | (simp [*];done)), (by first | rfl | (simp;done) | (simp [*];done)), (by first | rfl | (simp;done) | (simp [*];done)), H', ⟨by have:=HK1.out;have:=HK2.out;omega⟩, ⟨by (with_reducible repeat first|apply q1_|apply q2_|apply q3_);exact BK207.out⟩, ⟨by repeat (first | (with_reducible first | exact HB.out | apply b1_|apply b2_|apply b3_ | refine below_set ?_ GE207.out) | exact HB.out)⟩⟩
           ·rw [if_neg c11] at H;exact absurd H (by simp)
          ·rw [if_neg c10] at H;exact absurd H (by simp)
         ·rw [if_neg c9] at H;have c9b0 : ((rd l1 x9_2) == 1) = false:=beq_eq_false_iff_ne.mpr c9;have c9b1 : ((rd l1 x9_2) != 1) = true:=bne_iff_ne.mpr c9;have H':=am_ H;clear H;obtain ⟨hcz13_0, hcz13_1, hcz13_2, hcz13_3⟩:=c4_ BK207.out;obtain ⟨hfz13_0, hfz13_1, hfz13_2, hfz13_3⟩:=z4_ BK207.out;have p208 : 0 ≤ (x9_2 : Int):=of_decide_eq_true (by first | (with_reducible assumption) | assumption);have q208 : x9_2 < (l1.length : Int):=of_decide_eq_true (by first | (with_reducible assumption) | assumption);obtain ⟨ad208, e208, hx208_0⟩:=Kd.at_int HR1.out x9_2 p208 q208
          cases e208
          replace hx208_0:=(HB.out.cell (World.block_lt_of_cell? w _ hx208_0)).trans hx208_0;replace p208:=eq_true p208;replace q208:=eq_true q208
          go_wp2
          go_roundg k2
          case measure => have:=HK1.out;have:=HK2.out;omega
          case rel => exact ⟨(x7_2), (x8_2), (wrap64 (x9_2 + 1)), (by first | rfl | (simp;done) | (simp [*];done)), (by first | rfl | (simp;done) | (simp [*];done)), (by first | rfl | (simp;done) | (simp [*];done)), H', ⟨by have:=HK1.out;have:=HK2.out;omega⟩, ⟨by (with_reducible repeat first|apply q1_|apply q2_|apply q3_);exact BK207.out⟩, ⟨by repeat (first | (with_reducible first | exact HB.out | apply b1_|apply b2_|apply b3_ | refine below_set ?_ GE207.out) | exact HB.out)⟩⟩
        ·rw [if_neg c8] at H;exact absurd H (by simp)
       ·rw [if_neg c7] at H;have c7b0 : decide (x9_2 < (l1.length : Int)) = false:=decide_eq_false c7;clear c7
        by_cases c14 : 0 ≤ x9_2
        ·rw [if_pos c14] at H;have c14b0 : decide (0 ≤ x9_2) = true:=decide_eq_true c14;clear c14
         by_cases c15 : 0 ≤ x6_1
         ·rw [if_pos c15] at H;have c15b0 : decide (0 ≤ x6_1) = true:=decide_eq_true c15;clear c15
          by_cases c16 : x6_1 < ((rd_L1 l0_1 x9_2).length : Int)
          ·rw [if_pos c16] at H;have c16b0 : decide (x6_1 < ((rd_L1 l0_1 x9_2).length : Int)) = true:=decide_eq_true c16;clear c16;have H':=am_ H;clear H;obtain ⟨hcz17_0, hcz17_1, hcz17_2, hcz17_3⟩:=c4_ BK207.out;obtain ⟨hfz17_0, hfz17_1, hfz17_2, hfz17_3⟩:=z4_ BK207.out;have p213 : 0 ≤ (x9_2 : Int):=of_decide_eq_true (by first | (with_reducible assumption) | assumption);have q213 : x9_2 < (l0_1.length : Int):=of_decide_eq_true (by first | (with_reducible assumption) | assumption);obtain ⟨ad213, A213_0, c213_0, e213, hx213_0, hl213_0, hi213_0⟩:=at_L1 HR0_1.out x9_2 p213 q213
           cases e213
           replace hx213_0:=(HB.out.cell (World.block_lt_of_cell? w _ hx213_0)).trans hx213_0;have HR213_0:=am_ hi213_0;have HC213_0:=am_ hl213_0;clear hi213_0 hl213_0;replace p213:=eq_true p213;replace q213:=eq_true q213;have p214 : 0 ≤ (x6_1 : Int):=of_decide_eq_true (by first | (with_reducible assumption) | assumption);have q214 : x6_1 < ((rd_L1 l0_1 x9_2).length : Int):=of_decide_eq_true (by first | (with_reducible assumption) | assumption);obtain ⟨ad214, e214, hx214_0⟩:=Kd.at_int HR213_0.out x6_1 p214 q214
           cases e214
           replace hx214_0:=(HB.out.cell (World.block_lt_of_cell? w _ hx214_0)).trans hx214_0;replace p214:=eq_true p214;replace q214:=eq_true q214
           go_wp2
           go_roundg k2
           case measure => have:=HK1.out;have:=HK2.out;omega
           case rel => exact ⟨(x7_2), (wrap64 (x8_2 + (rd (rd_L1 l0_1 x9_2) x6_1))), (wrap64 (x9_2 + 1)), (by first | rfl | (simp;done) | (simp [*];done)), (by first | rfl | (simp;done) | (simp [*];done)), (by first | rfl | (simp;done) | (simp [*];done)), H', ⟨by have:=HK1.out;have:=HK2.out;omega⟩, ⟨by (with_reducible repeat first|apply q1_|apply q2_|apply q3_);exact BK207.out⟩, ⟨by repeat (first | (with_reducible first | exact HB.out | apply b1_|apply b2_|apply b3_ | refine below_set ?_ GE207.out) | exact HB.out)⟩⟩
          ·rw [if_neg c16] at H;exact absurd H (by simp)
         ·rw [if_neg c15] at H;exact absurd H (by simp)
        ·rw [if_neg c14] at H;exact absurd H (by simp)
      ·rw [if_neg c6] at H;have c6b0 : decide (x9_2 < (l0_1.length : Int)) = false:=decide_eq_false c6;clear c6
       by_cases c18 : 0 ≤ x6_1
       ·rw [if_pos c18] at H;have c18b0 : decide (0 ≤ x6_1) = true:=decide_eq_true c18;clear c18
        by_cases c19 : x6_1 < (l0_0.length : Int)
        ·rw [if_pos c19] at H;have c19b0 : decide (x6_1 < (l0_0.length : Int)) = true:=decide_eq_true c19;clear c19
         by_cases c20 : (rd l0_0 x6_1) < x7_2
         ·rw [if_pos c20] at H;have c20b0 : decide ((rd l0_0 x6_1) < x7_2) = true:=decide_eq_true c20;clear c20
          by_cases c21 : (rd l0_0 x6_1) > x8_2
          ·rw [if_pos c21] at H;have c21b0 : decide (x8_2 < (rd l0_0 x6_1)) = true:=decide_eq_true c21;clear c21;have H':=am_ H;clear H;obtain ⟨hcz22_0, hcz22_1, hcz22_2, hcz22_3⟩:=c4_ BK207.out;obtain ⟨hfz22_0, hfz22_1, hfz22_2, hfz22_3⟩:=z4_ BK207.out;have p215 : 0 ≤ (x6_1 : Int):=of_decide_eq_true (by first | (with_reducible assumption) | assumption);have q215 : x6_1 < (l0_0.length : Int):=of_decide_eq_true (by first | (with_reducible assumption) | assumption);obtain ⟨ad215, e215, hx215_0⟩:=Kd.at_int HR0_0.out x6_1 p215 q215
           cases e215
           replace hx215_0:=(HB.out.cell (World.block_lt_of_cell? w _ hx215_0)).trans hx215_0;replace p215:=eq_true p215;replace q215:=eq_true q215;have p216 : 0 ≤ (x6_1 : Int):=of_decide_eq_true (by first | (with_reducible assumption) | assumption);have q216 : x6_1 < (l0_0.length : Int):=of_decide_eq_true (by first | (with_reducible assumption) | assumption);obtain ⟨ad216, e216, hx216_0⟩:=Kd.at_int HR0_0.out x6_1 p216 q216;obtain rfl : ad215 = ad216:=(by injection e216)
           replace hx216_0:=(HB.out.cell (World.block_lt_of_cell? w _ hx216_0)).trans hx216_0;replace p216:=eq_true p216;replace q216:=eq_true q216;have p217 : 0 ≤ (x6_1 : Int):=of_decide_eq_true (by first | (with_reducible assumption) | assumption);have q217 : x6_1 < (l0_0.length : Int):=of_decide_eq_true (by first | (with_reducible assumption) | assumption);obtain ⟨ad217, e217, hx217_0⟩:=Kd.at_int HR0_0.out x6_1 p217 q217;obtain rfl : ad215 = ad217:=(by injection e217)
           replace hx217_0:=(HB.out.cell (World.block_lt_of_cell? w _ hx217_0)).trans hx217_0;replace p217:=eq_true p217;replace q217:=eq_true q217;have p218 : 0 ≤ (x6_1 : Int):=of_decide_eq_true (by first | (with_reducible assumption) | assumption);have q218 : x6_1 < (l0_0.length : Int):=of_decide_eq_true (by first | (with_reducible assumption) | assumption);obtain ⟨ad218, e218, hx218_0⟩:=Kd.at_int HR0_0.out x6_1 p218 q218;obtain rfl : ad215 = ad218:=(by injection e218)
           replace hx218_0:=(HB.out.cell (World.block_lt_of_cell? w _ hx218_0)).trans hx218_0;replace p218:=eq_true p218;replace q218:=eq_true q218
           go_wp2
           go_roundg k2
           case measure => have:=HK1.out;have:=HK2.out;omega
           case rel => exact ⟨(wrap64 ((wrap64 ((wrap64 ((wrap64 (x5_1 + x7_2)) - (rd l0_0 x6_1))) + (rd l0_0 x6_1))) - x8_2)), (wrap64 (x6_1 + 1)), (by first | rfl | (simp;done) | (simp [*];done)), (by first | rfl | (simp;done) | (simp [*];done)), H', ⟨by have:=HK1.out;have:=HK2.out;omega⟩, ⟨by (with_reducible repeat first|apply q1_|apply q2_|apply q3_);exact BK207.out⟩, ⟨by repeat (first | (with_reducible first | exact HB.out | apply b1_|apply b2_|apply b3_ | refine below_set ?_ GE207.out) | exact HB.out)⟩⟩
          ·rw [if_neg c21] at H;have c21b0 : decide (x8_2 < (rd l0_0 x6_1)) = false:=decide_eq_false c21;clear c21;have H':=am_ H;clear H;obtain ⟨hcz23_0, hcz23_1, hcz23_2, hcz23_3⟩:=c4_ BK207.out;obtain ⟨hfz23_0, hfz23_1, hfz23_2, hfz23_3⟩:=z4_ BK207.out;have p215 : 0 ≤ (x6_1 : Int):=of_decide_eq_true (by first | (with_reducible assumption) | assumption);have q215 : x6_1 < (l0_0.length : Int):=of_decide_eq_true (by first | (with_reducible assumption) | assumption);obtain ⟨ad215, e215, hx215_0⟩:=Kd.at_int HR0_0.out x6_1 p215 q215
           cases e215
           replace hx215_0:=(HB.out.cell (World.block_lt_of_cell? w _ hx215_0)).trans hx215_0;replace p215:=eq_true p215;replace q215:=eq_true q215;have p216 : 0 ≤ (x6_1 : Int):=of_decide_eq_true (by first | (with_reducible assumption) | assumption);have q216 : x6_1 < (l0_0.length : Int):=of_decide_eq_true (by first | (with_reducible assumption) | assumption);obtain ⟨ad216, e216, hx216_0⟩:=Kd.at_int HR0_0.out x6_1 p216 q216;obtain rfl : ad215 = ad216:=(by injection e216)
           replace hx216_0:=(HB.out.cell (World.block_lt_of_cell? w _ hx216_0)).trans hx216_0;replace p216:=eq_true p216;replace q216:=eq_true q216;have p217 : 0 ≤ (x6_1 : Int):=of_decide_eq_true (by first | (with_reducible assumption) | assumption);have q217 : x6_1 < (l0_0.length : Int):=of_decide_eq_true (by first | (with_reducible assumption) | assumption);obtain ⟨ad217, e217, hx217_0⟩:=Kd.at_int HR0_0.out x6_1 p217 q217;obtain rfl : ad215 = ad217:=(by injection e217)
           replace hx217_0:=(HB.out.cell (World.block_lt_of_cell? w _ hx217_0)).trans hx217_0;replace p217:=eq_true p217;replace q217:=eq_true q217
           go_wp2
           go_roundg k2
           case measure => have:=HK1.out;have:=HK2.out;omega
           case rel => exact ⟨(wrap64 ((wrap64 (x5_1 + x7_2)) - (rd l0_0 x6_1))), (wrap64 (x6_1 + 1)), (by first | rfl | (simp;done) | (simp [*];done)), (by first | rfl | (simp;done) | (simp [*];done)), H', ⟨by have:=HK1.out;have:=HK2.out;omega⟩, ⟨by (with_reducible repeat first|apply q1_|apply q2_|apply q3_);exact BK207.out⟩, ⟨by repeat (first | (with_reducible first | exact HB.out | apply b1_|apply b2_|apply b3_ | refine below_set ?_ GE207.out) | exact HB.out)⟩⟩
         ·rw [if_neg c20] at H;have c20b0 : decide ((rd l0_0 x6_1) < x7_2) = false:=decide_eq_false c20;clear c20
          by_cases c24 : (rd l0_0 x6_1) > x8_2
          ·rw [if_pos c24] at H;have c24b0 : decide (x8_2 < (rd l0_0 x6_1)) = true:=decide_eq_true c24;clear c24;have H':=am_ H;clear H;obtain ⟨hcz25_0, hcz25_1, hcz25_2, hcz25_3⟩:=c4_ BK207.out;obtain ⟨hfz25_0, hfz25_1, hfz25_2, hfz25_3⟩:=z4_ BK207.out;have p215 : 0 ≤ (x6_1 : Int):=of_decide_eq_true (by first | (with_reducible assumption) | assumption);have q215 : x6_1 < (l0_0.length : Int):=of_decide_eq_true (by first | (with_reducible assumption) | assumption);obtain ⟨ad215, e215, hx215_0⟩:=Kd.at_int HR0_0.out x6_1 p215 q215
           cases e215
           replace hx215_0:=(HB.out.cell (World.block_lt_of_cell? w _ hx215_0)).trans hx215_0;replace p215:=eq_true p215;replace q215:=eq_true q215;have p219 : 0 ≤ (x6_1 : Int):=of_decide_eq_true (by first | (with_reducible assumption) | assumption);have q219 : x6_1 < (l0_0.length : Int):=of_decide_eq_true (by first | (with_reducible assumption) | assumption);obtain ⟨ad219, e219, hx219_0⟩:=Kd.at_int HR0_0.out x6_1 p219 q219;obtain rfl : ad215 = ad219:=(by injection e219)
           replace hx219_0:=(HB.out.cell (World.block_lt_of_cell? w _ hx219_0)).trans hx219_0;replace p219:=eq_true p219;replace q219:=eq_true q219;have p220 : 0 ≤ (x6_1 : Int):=of_decide_eq_true (by first | (with_reducible assumption) | assumption);have q220 : x6_1 < (l0_0.length : Int):=of_decide_eq_true (by first | (with_reducible assumption) | assumption);obtain ⟨ad220, e220, hx220_0⟩:=Kd.at_int HR0_0.out x6_1 p220 q220;obtain rfl : ad215 = ad220:=(by injection e220)
           replace hx220_0:=(HB.out.cell (World.block_lt_of_cell? w _ hx220_0)).trans hx220_0;replace p220:=eq_true p220;replace q220:=eq_true q220
           go_wp2
           go_roundg k2
           case measure => have:=HK1.out;have:=HK2.out;omega
           case rel => exact ⟨(wrap64 ((wrap64 (x5_1 + (rd l0_0 x6_1))) - x8_2)), (wrap64 (x6_1 + 1)), (by first | rfl | (simp;done) | (simp [*];done)), (by first | rfl | (simp;done) | (simp [*];done)), H', ⟨by have:=HK1.out;have:=HK2.out;omega⟩, ⟨by (with_reducible repeat first|apply q1_|apply q2_|apply q3_);exact BK207.out⟩, ⟨by repeat (first | (with_reducible first | exact HB.out | apply b1_|apply b2_|apply b3_ | refine below_set ?_ GE207.out) | exact HB.out)⟩⟩
          ·rw [if_neg c24] at H;have c24b0 : decide (x8_2 < (rd l0_0 x6_1)) = false:=decide_eq_false c24;clear c24;have H':=am_ H;clear H;obtain ⟨hcz26_0, hcz26_1, hcz26_2, hcz26_3⟩:=c4_ BK207.out;obtain ⟨hfz26_0, hfz26_1, hfz26_2, hfz26_3⟩:=z4_ BK207.out;have p215 : 0 ≤ (x6_1 : Int):=of_decide_eq_true (by first | (with_reducible assumption) | assumption);have q215 : x6_1 < (l0_0.length : Int):=of_decide_eq_true (by first | (with_reducible assumption) | assumption);obtain ⟨ad215, e215, hx215_0⟩:=Kd.at_int HR0_0.out x6_1 p215 q215
           cases e215
           replace hx215_0:=(HB.out.cell (World.block_lt_of_cell? w _ hx215_0)).trans hx215_0;replace p215:=eq_true p215;replace q215:=eq_true q215;have p219 : 0 ≤ (x6_1 : Int):=of_decide_eq_true (by first | (with_reducible assumption) | assumption);have q219 : x6_1 < (l0_0.length : Int):=of_decide_eq_true (by first | (with_reducible assumption) | assumption);obtain ⟨ad219, e219, hx219_0⟩:=Kd.at_int HR0_0.out x6_1 p219 q219;obtain rfl : ad215 = ad219:=(by injection e219)
           replace hx219_0:=(HB.out.cell (World.block_lt_of_cell? w _ hx219_0)).trans hx219_0;replace p219:=eq_true p219;replace q219:=eq_true q219
           go_wp2
           go_roundg k2
           case measure => have:=HK1.out;have:=HK2.out;omega
           case rel => exact ⟨(x5_1), (wrap64 (x6_1 + 1)), (by first | rfl | (simp;done) | (simp [*];done)), (by first | rfl | (simp;done) | (simp [*];done)), H', ⟨by have:=HK1.out;have:=HK2.out;omega⟩, ⟨by (with_reducible repeat first|apply q1_|apply q2_|apply q3_);exact BK207.out⟩, ⟨by repeat (first | (with_reducible first | exact HB.out | apply b1_|apply b2_|apply b3_ | refine below_set ?_ GE207.out) | exact HB.out)⟩⟩
        ·rw [if_neg c19] at H;exact absurd H (by simp)
       ·rw [if_neg c18] at H;exact absurd H (by simp)
   ·rw [if_neg c4] at H;have c4b0 : decide (x6_1 < (l0_0.length : Int)) = false:=decide_eq_false c4;clear c4;obtain rfl:=Option.some.inj H;obtain ⟨hcz27_0, hcz27_1, hcz27_2, hcz27_3⟩:=c4_ BK207.out;obtain ⟨hfz27_0, hfz27_1, hfz27_2, hfz27_3⟩:=z4_ BK207.out
    go_wp2
    go_ret
    exact ⟨by first | rfl | (simp [errW_none, errW_some] <;> rfl) | (simp [*, errW_none, errW_some] <;> rfl), by repeat (first | (with_reducible first | exact HB.out | apply b1_|apply b2_|apply b3_ | refine below_set ?_ GE207.out) | exact HB.out)⟩

/-! ### diapasonref26_Settled: function 82 -/
def diapasonref26_Settled.l0 : Nat → List Int → Int → Option (Bool)
 | 0, _, _ => none
 | k + 1, x1, x5 => if x5 < (x1.length : Int) then (if 0 ≤ x5 then (if (rd x1 x5) = 1 then (diapasonref26_Settled.l0 k x1 (wrap64 (x5 + 1))) else (if (rd x1 x5) = 2 then (diapasonref26_Settled.l0 k x1 (wrap64 (x5 + 1))) else (some false))) else (none)) else (some true)
def diapasonref26_Settled.f (k : Nat) (l0_0 : List Int) (l0_1 : List (List Int)) (l0_2 : List Int) (a0_3 : Int) (l1 : List Int) : Option (Bool) := if (l1.length : Int) > (l0_1.length : Int) then (some false) else (diapasonref26_Settled.l0 k l1 0)
theorem diapasonref26_Settled.mono_l : ∀ k, (∀ y0 y1, LeO (diapasonref26_Settled.l0 k y0 y1) (diapasonref26_Settled.l0 (k + 1) y0 y1))
 | 0 => fun _ _ r h => by simp [diapasonref26_Settled.l0] at h
 | k + 1 => by
  have ih0:=diapasonref26_Settled.mono_l k
  ·intro y0 y1
   unfold diapasonref26_Settled.l0
   repeat' first
   | (with_reducible exact ih0 _ _)
   | (with_reducible exact LeO.refl _)
   | (with_reducible exact LeO.none _)
   | (with_reducible refine LeO.ite ?_ ?_)
   | (with_reducible refine LeO.bind ?_ (fun _ => ?_))
   | exact ih0 _ _
   | exact LeO.none _
   | refine LeO.ite ?_ ?_
   | refine LeO.bind ?_ (fun _ => ?_)
theorem diapasonref26_Settled.mono : ∀ a0 a1 a2 a3 a4 k, LeO (diapasonref26_Settled.f k a0 a1 a2 a3 a4) (diapasonref26_Settled.f (k + 1) a0 a1 a2 a3 a4) := by
 intro a0 a1 a2 a3 a4 k;have ih0:=diapasonref26_Settled.mono_l k
 unfold diapasonref26_Settled.f
 repeat' first
   | (with_reducible exact ih0 _ _)
   | (with_reducible exact LeO.refl _)
   | (with_reducible exact LeO.none _)
   | (with_reducible refine LeO.ite ?_ ?_)
   | (with_reducible refine LeO.bind ?_ (fun _ => ?_))
   | exact ih0 _ _
   | exact LeO.none _
   | refine LeO.ite ?_ ?_
   | refine LeO.bind ?_ (fun _ => ?_)
set_option maxHeartbeats 8000000 in
set_option maxRecDepth 100000 in
theorem diapasonref26_Settled.calls (k : Nat) (A0_0 : Option Addr) (c0_0 : Nat) (l0_0 : List Int) (A0_1 : Option Addr) (c0_1 : Nat) (l0_1 : List (List Int)) (A0_2 : Option Addr) (c0_2 : Nat) (l0_2 : List Int) (a0_3 : Int) (A1 : Option Addr) (c1 : Nat) (l1 : List Int) (r : Bool) (w : World) (hr0_0 : Kd.C (Kd.int .i64) w A0_0 l0_0.length l0_0) (hc0_0 : l0_0.length ≤ c0_0) (hr0_1 : Kd.C (Kd.slice 3 (Kd.int .i64)) w A0_1 l0_1.length l0_1) (hc0_1 : l0_1.length ≤ c0_1) (hr0_2 : Kd.C (Kd.int .i64) w A0_2 l0_2.length l0_2) (hc0_2 : l0_2.length ≤ c0_2) (hr1 : Kd.C (Kd.int .u8) w A1 l1.length l1) (hc1 : l1.length ≤ c1) (h : diapasonref26_Settled.f k l0_0 l0_1 l0_2 a0_3 l1 = some r) :
  Calls Tryd.prog 82 #[.agg #[.slice A0_0 l0_0.length c0_0, .slice A0_1 l0_1.length c0_1, .slice A0_2 l0_2.length c0_2, .int .i64 a0_3], .slice A1 l1.length c1] w fun e w' => e = .returned (.bool r) ∧ Below w.heap.size w w':=by
 have hu28:=Tryd.underlying28;have HR0_0:=am_ hr0_0;have HC0_0:=am_ hc0_0;clear hr0_0 hc0_0;have HR0_1:=am_ hr0_1;have HC0_1:=am_ hc0_1;clear hr0_1 hc0_1;have HR0_2:=am_ hr0_2;have HC0_2:=am_ hc0_2;clear hr0_2 hc0_2;have HR1:=am_ hr1;have HC1:=am_ hc1;clear hr1 hc1;have HB:=am_ (Below.refl w.heap.size w);have H : (if (l1.length : Int) > (l0_1.length : Int) then (some false) else (diapasonref26_Settled.l0 k l1 0)) = some r:=h;clear h
 by_cases c3 : (l1.length : Int) > (l0_1.length : Int)
 ·rw [if_pos c3] at H;have c3b0 : decide ((l0_1.length : Int) < (l1.length : Int)) = true:=decide_eq_true c3;have c3b1 : decide (l0_1.length < l1.length) = true:=decide_eq_true (Int.ofNat_lt.mp c3);clear c3;obtain rfl:=Option.some.inj H;go_enter Tryd.func82, Tryd.ntmps82
  go_wp2_with (first | ((with_reducible refine gate_dst (N:=2) rfl ?_);refine box_event ?hg (N:=2) ?hd (cs:=#[.slice A0_0 l0_0.length c0_0, .slice A0_1 l0_1.length c0_1, .slice A0_2 l0_2.length c0_2, .int .i64 a0_3]) (t:=28) ?hr ?_;(case hd => rfl);(case hg => rfl);(case hr => first | (go_simp;done) | (go_simp;rfl));intro gb221 hg w4 hbox hb;have BK221:=am_ hbox;have GW221:=gz_ hg HB;have GE221:=gz_ hg HB;replace HB:=bs_ HB hb;clear hb hbox hg;obtain ⟨hcz5_0, hcz5_1, hcz5_2, hcz5_3⟩:=c4_ BK221.out;obtain ⟨hfz5_0, hfz5_1, hfz5_2, hfz5_3⟩:=z4_ BK221.out))
  go_ret
  exact ⟨by first | rfl | (simp [errW_none, errW_some] <;> rfl) | (simp [*, errW_none, errW_some] <;> rfl), by repeat (first | (with_reducible first | exact HB.out | apply b1_|apply b2_|apply b3_ | refine below_set ?_ GE221.out) | exact HB.out)⟩
 ·rw [if_neg c3] at H;have c3b0 : decide ((l0_1.length : Int) < (l1.length : Int)) = false:=decide_eq_false c3;have c3b1 : decide (l0_1.length < l1.length) = false:=decide_eq_false (fun h => c3 (Int.ofNat_lt.mpr h));clear c3;have H':=am_ H;clear H;go_enter Tryd.func82, Tryd.ntmps82
  go_wp2_with (first | ((with_reducible refine gate_dst (N:=2) rfl ?_);refine box_event ?hg (N:=2) ?hd (cs:=#[.slice A0_0 l0_0.length c0_0, .slice A0_1 l0_1.length c0_1, .slice A0_2 l0_2.length c0_2, .int .i64 a0_3]) (t:=28) ?hr ?_;(case hd => rfl);(case hg => rfl);(case hr => first | (go_simp;done) | (go_simp;rfl));intro gb221 hg w6 hbox hb;have BK221:=am_ hbox;have GW221:=gz_ hg HB;have GE221:=gz_ hg HB;replace HB:=bs_ HB hb;clear hb hbox hg;obtain ⟨hcz7_0, hcz7_1, hcz7_2, hcz7_3⟩:=c4_ BK221.out;obtain ⟨hfz7_0, hfz7_1, hfz7_2, hfz7_3⟩:=z4_ BK221.out))
  go_loopg [5] k (fun kq v5 w' => ∃ (x5_1 : Int), v5 = .int .i64 x5_1 ∧ Aside0 (diapasonref26_Settled.l0 kq l1 x5_1 = some r) ∧ Aside0 (kq ≤ k) ∧ Aside0 (w'.heap[gb221]? = some (.cells #[(.slice A0_0 l0_0.length c0_0), (.slice A0_1 l0_1.length c0_1), (.slice A0_2 l0_2.length c0_2), .int .i64 a0_3] 28 (0, 0))) ∧ Aside0 (Below w.heap.size w w'))
  case atStart => exact ⟨(0), (by first | rfl | (simp;done) | (simp [*];done)), H', ⟨Nat.le_refl _⟩, ⟨by (with_reducible repeat first|apply q1_|apply q2_|apply q3_);exact BK221.out⟩, ⟨by repeat (first | (with_reducible first | exact HB.out | apply b1_|apply b2_|apply b3_ | refine below_set ?_ GE221.out) | exact HB.out)⟩⟩
  case round =>
   clear H';(try clear c1);(try clear p2);(try clear c3);(try clear c3b0);(try clear c3b1);(try clear hcz5_0);(try clear hcz5_1);(try clear hcz5_2);(try clear hcz5_3);(try clear hcz7_0);(try clear hcz7_1);(try clear hcz7_2);(try clear hcz7_3);(try clear hfz5_0);(try clear hfz5_1);(try clear hfz5_2);(try clear hfz5_3);(try clear hfz7_0);(try clear hfz7_1);(try clear hfz7_2);(try clear hfz7_3);obtain ⟨x5_1, rfl, HA, HK1, BK221, HB⟩:=hrel
   cases gk with
   | zero => exact absurd HA.out (by simp [diapasonref26_Settled.l0])
   | succ k1 =>
    have H:=HA.out;clear HA;simp only [diapasonref26_Settled.l0] at H
    by_cases c8 : x5_1 < (l1.length : Int)
    ·rw [if_pos c8] at H;have c8b0 : decide (x5_1 < (l1.length : Int)) = true:=decide_eq_true c8;clear c8
     by_cases c9 : 0 ≤ x5_1
     ·rw [if_pos c9] at H;have c9b0 : decide (0 ≤ x5_1) = true:=decide_eq_true c9;clear c9
      by_cases c10 : (rd l1 x5_1) = 1
      ·rw [if_pos c10] at H;have c10b0 : ((rd l1 x5_1) == 1) = true:=beq_iff_eq.mpr c10;have c10b1 : ((rd l1 x5_1) != 1) = false:=bne_eq_false_iff_eq.mpr c10;clear c10;have H':=am_ H;clear H;have p222 : 0 ≤ (x5_1 : Int):=of_decide_eq_true (by first | (with_reducible assumption) | assumption);have q222 : x5_1 < (l1.length : Int):=of_decide_eq_true (by first | (with_reducible assumption) | assumption);obtain ⟨ad222, e222, hx222_0⟩:=Kd.at_int HR1.out x5_1 p222 q222
       cases e222
       replace hx222_0:=(HB.out.cell (World.block_lt_of_cell? w _ hx222_0)).trans hx222_0;replace p222:=eq_true p222;replace q222:=eq_true q222
       go_wp2
       go_roundg k1
       case measure => have:=HK1.out;omega
       case rel => exact ⟨(wrap64 (x5_1 + 1)), (by first | rfl | (simp;done) | (simp [*];done)), H', ⟨by have:=HK1.out;omega⟩, ⟨by (with_reducible repeat first|apply q1_|apply q2_|apply q3_);exact BK221.out⟩, ⟨by repeat (first | (with_reducible first | exact HB.out | apply b1_|apply b2_|apply b3_ | refine below_set ?_ GE221.out) | exact HB.out)⟩⟩
      ·rw [if_neg c10] at H;have c10b0 : ((rd l1 x5_1) == 1) = false:=beq_eq_false_iff_ne.mpr c10;have c10b1 : ((rd l1 x5_1) != 1) = true:=bne_iff_ne.mpr c10
       by_cases c11 : (rd l1 x5_1) = 2
       ·rw [if_pos c11] at H;have c11b0 : ((rd l1 x5_1) == 2) = true:=beq_iff_eq.mpr c11;have c11b1 : ((rd l1 x5_1) != 2) = false:=bne_eq_false_iff_eq.mpr c11;clear c11;have H':=am_ H;clear H;have p222 : 0 ≤ (x5_1 : Int):=of_decide_eq_true (by first | (with_reducible assumption) | assumption);have q222 : x5_1 < (l1.length : Int):=of_decide_eq_true (by first | (with_reducible assumption) | assumption);obtain ⟨ad222, e222, hx222_0⟩:=Kd.at_int HR1.out x5_1 p222 q222
        cases e222
        replace hx222_0:=(HB.out.cell (World.block_lt_of_cell? w _ hx222_0)).trans hx222_0;replace p222:=eq_true p222;replace q222:=eq_true q222;have p223 : 0 ≤ (x5_1 : Int):=of_decide_eq_true (by first | (with_reducible assumption) | assumption);have q223 : x5_1 < (l1.length : Int):=of_decide_eq_true (by first | (with_reducible assumption) | assumption);obtain ⟨ad223, e223, hx223_0⟩:=Kd.at_int HR1.out x5_1 p223 q223;obtain rfl : ad222 = ad223:=(by injection e223)
        replace hx223_0:=(HB.out.cell (World.block_lt_of_cell? w _ hx223_0)).trans hx223_0;replace p223:=eq_true p223;replace q223:=eq_true q223
        go_wp2
        go_roundg k1
        case measure => have:=HK1.out;omega
        case rel => exact ⟨(wrap64 (x5_1 + 1)), (by first | rfl | (simp;done) | (simp [*];done)), H', ⟨by have:=HK1.out;omega⟩, ⟨by (with_reducible repeat first|apply q1_|apply q2_|apply q3_);exact BK221.out⟩, ⟨by repeat (first | (with_reducible first | exact HB.out | apply b1_|apply b2_|apply b3_ | refine below_set ?_ GE221.out) | exact HB.out)⟩⟩
       ·rw [if_neg c11] at H;have c11b0 : ((rd l1 x5_1) == 2) = false:=beq_eq_false_iff_ne.mpr c11;have c11b1 : ((rd l1 x5_1) != 2) = true:=bne_iff_ne.mpr c11;obtain rfl:=Option.some.inj H;have p222 : 0 ≤ (x5_1 : Int):=of_decide_eq_true (by first | (with_reducible assumption) | assumption);have q222 : x5_1 < (l1.length : Int):=of_decide_eq_true (by first | (with_reducible assumption) | assumption);obtain ⟨ad222, e222, hx222_0⟩:=Kd.at_int HR1.out x5_1 p222 q222
        cases e222
        replace hx222_0:=(HB.out.cell (World.block_lt_of_cell? w _ hx222_0)).trans hx222_0;replace p222:=eq_true p222;replace q222:=eq_true q222;have p223 : 0 ≤ (x5_1 : Int):=of_decide_eq_true (by first | (with_reducible assumption) | assumption);have q223 : x5_1 < (l1.length : Int):=of_decide_eq_true (by first | (with_reducible assumption) | assumption);obtain ⟨ad223, e223, hx223_0⟩:=Kd.at_int HR1.out x5_1 p223 q223;obtain rfl : ad222 = ad223:=(by injection e223)
        replace hx223_0:=(HB.out.cell (World.block_lt_of_cell? w _ hx223_0)).trans hx223_0;replace p223:=eq_true p223;replace q223:=eq_true q223
        go_wp2
        go_ret
        exact ⟨by first | rfl | (simp [errW_none, errW_some] <;> rfl) | (simp [*, errW_none, errW_some] <;> rfl), by repeat (first | (with_reducible first | exact HB.out | apply b1_|apply b2_|apply b3_ | refine below_set ?_ GE221.out) | exact HB.out)⟩
     ·rw [if_neg c9] at H;exact absurd H (by simp)
    ·rw [if_neg c8] at H;have c8b0 : decide (x5_1 < (l1.length : Int)) = false:=decide_eq_false c8;clear c8;obtain rfl:=Option.some.inj H
     go_wp2
     go_ret
     exact ⟨by first | rfl | (simp [errW_none, errW_some] <;> rfl) | (simp [*, errW_none, errW_some] <;> rfl), by repeat (first | (with_reducible first | exact HB.out | apply b1_|apply b2_|apply b3_ | refine below_set ?_ GE221.out) | exact HB.out)⟩

/-! ### diapasonref27_takes: function 83 -/
def diapasonref27_takes.l0 : Nat → List Int → Int → Int → List Int → List (List Int) → List Int → Int → Option (Int)
 | 0, _, _, _, _, _, _, _ => none
 | k + 1, x1, x5, x6, x225000, x225001, x225002, x225003 => if x6 < (x1.length : Int) then (if 0 ≤ x6 then (if (rd x1 x6) = 1 then (if x6 < (x225002.length : Int) then (diapasonref27_takes.l0 k x1 (wrap64 (x5 + (rd x225002 x6))) (wrap64 (x6 + 1)) x225000 x225001 x225002 x225003) else (none)) else (diapasonref27_takes.l0 k x1 x5 (wrap64 (x6 + 1)) x225000 x225001 x225002 x225003)) else (none)) else (some x5)
def diapasonref27_takes.f (k : Nat) (l0_0 : List Int) (l0_1 : List (List Int)) (l0_2 : List Int) (a0_3 : Int) (l1 : List Int) : Option (Int) := diapasonref27_takes.l0 k l1 0 0 l0_0 l0_1 l0_2 a0_3
theorem diapasonref27_takes.mono_l : ∀ k, (∀ y0 y1 y2 y3 y4 y5 y6, LeO (diapasonref27_takes.l0 k y0 y1 y2 y3 y4 y5 y6) (diapasonref27_takes.l0 (k + 1) y0 y1 y2 y3 y4 y5 y6))
 | 0 => fun _ _ _ _ _ _ _ r h => by simp [diapasonref27_takes.l0] at h
 | k + 1 => by
  have ih0:=diapasonref27_takes.mono_l k
  ·intro y0 y1 y2 y3 y4 y5 y6
   unfold diapasonref27_takes.l0
   repeat' first
   | (with_reducible exact ih0 _ _ _ _ _ _ _)
   | (with_reducible exact LeO.refl _)
   | (with_reducible exact LeO.none _)
   | (with_reducible refine LeO.ite ?_ ?_)
   | (with_reducible refine LeO.bind ?_ (fun _ => ?_))
   | exact ih0 _ _ _ _ _ _ _
   | exact LeO.none _
   | refine LeO.ite ?_ ?_
   | refine LeO.bind ?_ (fun _ => ?_)
theorem diapasonref27_takes.mono : ∀ a0 a1 a2 a3 a4 k, LeO (diapasonref27_takes.f k a0 a1 a2 a3 a4) (diapasonref27_takes.f (k + 1) a0 a1 a2 a3 a4) := by
 intro a0 a1 a2 a3 a4 k;have ih0:=diapasonref27_takes.mono_l k
 unfold diapasonref27_takes.f
 repeat' first
   | (with_reducible exact ih0 _ _ _ _ _ _ _)
   | (with_reducible exact LeO.refl _)
   | (with_reducible exact LeO.none _)
   | (with_reducible refine LeO.ite ?_ ?_)
   | (with_reducible refine LeO.bind ?_ (fun _ => ?_))
   | exact ih0 _ _ _ _ _ _ _
   | exact LeO.none _
   | refine LeO.ite ?_ ?_
   | refine LeO.bind ?_ (fun _ => ?_)
set_option maxHeartbeats 8000000 in
set_option maxRecDepth 100000 in
theorem diapasonref27_takes.calls (k : Nat) (A0_0 : Option Addr) (c0_0 : Nat) (l0_0 : List Int) (A0_1 : Option Addr) (c0_1 : Nat) (l0_1 : List (List Int)) (A0_2 : Option Addr) (c0_2 : Nat) (l0_2 : List Int) (a0_3 : Int) (A1 : Option Addr) (c1 : Nat) (l1 : List Int) (r : Int) (w : World) (hr0_0 : Kd.C (Kd.int .i64) w A0_0 l0_0.length l0_0) (hc0_0 : l0_0.length ≤ c0_0) (hr0_1 : Kd.C (Kd.slice 3 (Kd.int .i64)) w A0_1 l0_1.length l0_1) (hc0_1 : l0_1.length ≤ c0_1) (hr0_2 : Kd.C (Kd.int .i64) w A0_2 l0_2.length l0_2) (hc0_2 : l0_2.length ≤ c0_2) (hr1 : Kd.C (Kd.int .u8) w A1 l1.length l1) (hc1 : l1.length ≤ c1) (h : diapasonref27_takes.f k l0_0 l0_1 l0_2 a0_3 l1 = some r) :
  Calls Tryd.prog 83 #[.agg #[.slice A0_0 l0_0.length c0_0, .slice A0_1 l0_1.length c0_1, .slice A0_2 l0_2.length c0_2, .int .i64 a0_3], .slice A1 l1.length c1] w fun e w' => e = .returned (.int .i64 r) ∧ Below w.heap.size w w':=by
 have hu28:=Tryd.underlying28;have HR0_0:=am_ hr0_0;have HC0_0:=am_ hc0_0;clear hr0_0 hc0_0;have HR0_1:=am_ hr0_1;have HC0_1:=am_ hc0_1;clear hr0_1 hc0_1;have HR0_2:=am_ hr0_2;have HC0_2:=am_ hc0_2;clear hr0_2 hc0_2;have HR1:=am_ hr1;have HC1:=am_ hc1;clear hr1 hc1;have HB:=am_ (Below.refl w.heap.size w);have H : (diapasonref27_takes.l0 k l1 0 0 l0_0 l0_1 l0_2 a0_3) = some r:=h;clear h;have H':=am_ H;clear H;go_enter Tryd.func83, Tryd.ntmps83
 go_wp2_with (first | ((with_reducible refine gate_dst (N:=2) rfl ?_);refine box_event ?hg (N:=2) ?hd (cs:=#[.slice A0_0 l0_0.length c0_0, .slice A0_1 l0_1.length c0_1, .slice A0_2 l0_2.length c0_2, .int .i64 a0_3]) (t:=28) ?hr ?_;(case hd => rfl);(case hg => rfl);(case hr => first | (go_simp;done) | (go_simp;rfl));intro gb224 hg w3 hbox hb;have BK224:=am_ hbox;have GW224:=gz_ hg HB;have GE224:=gz_ hg HB;replace HB:=bs_ HB hb;clear hb hbox hg))
 go_loopg [5, 6] k (fun kq v5 v6 w' => ∃ (x5_1 : Int) (x6_1 : Int), v5 = .int .i64 x5_1 ∧ v6 = .int .i64 x6_1 ∧ Aside0 (diapasonref27_takes.l0 kq l1 x5_1 x6_1 l0_0 l0_1 l0_2 a0_3 = some r) ∧ Aside0 (kq ≤ k) ∧ Aside0 (w'.heap[gb224]? = some (.cells #[(.slice A0_0 l0_0.length c0_0), (.slice A0_1 l0_1.length c0_1), (.slice A0_2 l0_2.length c0_2), .int .i64 a0_3] 28 (0, 0))) ∧ Aside0 (Below w.heap.size w w'))
 case atStart => exact ⟨(0), (0), (by first | rfl | (simp;done) | (simp [*];done)), (by first | rfl | (simp;done) | (simp [*];done)), H', ⟨Nat.le_refl _⟩, ⟨by (with_reducible repeat first|apply q1_|apply q2_|apply q3_);exact BK224.out⟩, ⟨by repeat (first | (with_reducible first | exact HB.out | apply b1_|apply b2_|apply b3_ | refine below_set ?_ GE224.out) | exact HB.out)⟩⟩
 case round =>
  clear H';(try clear c1);(try clear p2);obtain ⟨x5_1, x6_1, rfl, rfl, HA, HK1, BK224, HB⟩:=hrel
  cases gk with
  | zero => exact absurd HA.out (by simp [diapasonref27_takes.l0])
  | succ k1 =>
   have H:=HA.out;clear HA;simp only [diapasonref27_takes.l0] at H
   by_cases c4 : x6_1 < (l1.length : Int)
   ·rw [if_pos c4] at H;have c4b0 : decide (x6_1 < (l1.length : Int)) = true:=decide_eq_true c4;clear c4
    by_cases c5 : 0 ≤ x6_1
    ·rw [if_pos c5] at H;have c5b0 : decide (0 ≤ x6_1) = true:=decide_eq_true c5;clear c5
     by_cases c6 : (rd l1 x6_1) = 1
     ·rw [if_pos c6] at H;have c6b0 : ((rd l1 x6_1) == 1) = true:=beq_iff_eq.mpr c6;have c6b1 : ((rd l1 x6_1) != 1) = false:=bne_eq_false_iff_eq.mpr c6;clear c6
      by_cases c7 : x6_1 < (l0_2.length : Int)
      ·rw [if_pos c7] at H;have c7b0 : decide (x6_1 < (l0_2.length : Int)) = true:=decide_eq_true c7;clear c7;have H':=am_ H;clear H;have p225 : 0 ≤ (x6_1 : Int):=of_decide_eq_true (by first | (with_reducible assumption) | assumption);have q225 : x6_1 < (l1.length : Int):=of_decide_eq_true (by first | (with_reducible assumption) | assumption);obtain ⟨ad225, e225, hx225_0⟩:=Kd.at_int HR1.out x6_1 p225 q225
       cases e225
       replace hx225_0:=(HB.out.cell (World.block_lt_of_cell? w _ hx225_0)).trans hx225_0;replace p225:=eq_true p225;replace q225:=eq_true q225;obtain ⟨hcz8_0, hcz8_1, hcz8_2, hcz8_3⟩:=c4_ BK224.out;obtain ⟨hfz8_0, hfz8_1, hfz8_2, hfz8_3⟩:=z4_ BK224.out;have p226 : 0 ≤ (x6_1 : Int):=of_decide_eq_true (by first | (with_reducible assumption) | assumption);have q226 : x6_1 < (l0_2.length : Int):=of_decide_eq_true (by first | (with_reducible assumption) | assumption);obtain ⟨ad226, e226, hx226_0⟩:=Kd.at_int HR0_2.out x6_1 p226 q226
       cases e226
       replace hx226_0:=(HB.out.cell (World.block_lt_of_cell? w _ hx226_0)).trans hx226_0;replace p226:=eq_true p226;replace q226:=eq_true q226
       go_wp2
       go_roundg k1
       case measure => have:=HK1.out;omega
       case rel => exact ⟨(wrap64 (x5_1 + (rd l0_2 x6_1))), (wrap64 (x6_1 + 1)), (by first | rfl | (simp;done) | (simp [*];done)), (by first | rfl | (simp;done) | (simp [*];done)), H', ⟨by have:=HK1.out;omega⟩, ⟨by (with_reducible repeat first|apply q1_|apply q2_|apply q3_);exact BK224.out⟩, ⟨by repeat (first | (with_reducible first | exact HB.out | apply b1_|apply b2_|apply b3_ | refine below_set ?_ GE224.out) | exact HB.out)⟩⟩
      ·rw [if_neg c7] at H;exact absurd H (by simp)
     ·rw [if_neg c6] at H;have c6b0 : ((rd l1 x6_1) == 1) = false:=beq_eq_false_iff_ne.mpr c6;have c6b1 : ((rd l1 x6_1) != 1) = true:=bne_iff_ne.mpr c6;have H':=am_ H;clear H;have p225 : 0 ≤ (x6_1 : Int):=of_decide_eq_true (by first | (with_reducible assumption) | assumption);have q225 : x6_1 < (l1.length : Int):=of_decide_eq_true (by first | (with_reducible assumption) | assumption);obtain ⟨ad225, e225, hx225_0⟩:=Kd.at_int HR1.out x6_1 p225 q225
      cases e225
      replace hx225_0:=(HB.out.cell (World.block_lt_of_cell? w _ hx225_0)).trans hx225_0;replace p225:=eq_true p225;replace q225:=eq_true q225
      go_wp2
      go_roundg k1
      case measure => have:=HK1.out;omega
      case rel => exact ⟨(x5_1), (wrap64 (x6_1 + 1)), (by first | rfl | (simp;done) | (simp [*];done)), (by first | rfl | (simp;done) | (simp [*];done)), H', ⟨by have:=HK1.out;omega⟩, ⟨by (with_reducible repeat first|apply q1_|apply q2_|apply q3_);exact BK224.out⟩, ⟨by repeat (first | (with_reducible first | exact HB.out | apply b1_|apply b2_|apply b3_ | refine below_set ?_ GE224.out) | exact HB.out)⟩⟩
    ·rw [if_neg c5] at H;exact absurd H (by simp)
   ·rw [if_neg c4] at H;have c4b0 : decide (x6_1 < (l1.length : Int)) = false:=decide_eq_false c4;clear c4;obtain rfl:=Option.some.inj H
    go_wp2
    go_ret
    exact ⟨by first | rfl | (simp [errW_none, errW_some] <;> rfl) | (simp [*, errW_none, errW_some] <;> rfl), by repeat (first | (with_reducible first | exact HB.out | apply b1_|apply b2_|apply b3_ | refine below_set ?_ GE224.out) | exact HB.out)⟩

end Go.Proofs.YtfcidgnbocijdaaDoor.PCertMakes
