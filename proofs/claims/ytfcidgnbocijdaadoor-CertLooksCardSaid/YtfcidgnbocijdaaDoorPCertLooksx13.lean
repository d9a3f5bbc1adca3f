-- Written by a program of this session (the kit's print, turned: wip/px).
import Derived.Test.YtfcidgnbocijdaaDoorPCertLooksx0
import Derived.Test.YtfcidgnbocijdaaDoorPCertMakesx0
import Derived.Test.YtfcidgnbocijdaaDoorPCertMakesx1
import Derived.Test.YtfcidgnbocijdaaDoorPCertMakesx2
import Derived.Test.YtfcidgnbocijdaaDoorPCertMakesx3
import Derived.Test.YtfcidgnbocijdaaDoorPCertMakesx4
import Derived.Test.YtfcidgnbocijdaaDoorPCertMakesx5
import Derived.Test.YtfcidgnbocijdaaDoorPCertMakesx6
import Derived.Test.YtfcidgnbocijdaaDoorPCertMakesx7
import Derived.Test.YtfcidgnbocijdaaDoorPCertMakesx8
import Derived.Test.YtfcidgnbocijdaaDoorPCertMakesx9
import Derived.Test.YtfcidgnbocijdaaDoorPCertMakesx12
import Derived.Test.YtfcidgnbocijdaaDoorPCertMakesx13
import Derived.Test.YtfcidgnbocijdaaDoorPCertLooksx1
import Derived.Test.YtfcidgnbocijdaaDoorPCertLooksx8
import Derived.Test.YtfcidgnbocijdaaDoorPCertLooksx9
import Derived.Test.YtfcidgnbocijdaaDoorPCertLooksx10
import Derived.Test.YtfcidgnbocijdaaDoorPCertLooksx11
import Derived.Test.YtfcidgnbocijdaaDoorSq2
namespace Go.Proofs.YtfcidgnbocijdaaDoor.PCertLooks
open Go.Proofs.YtfcidgnbocijdaaDoor.PCertMakes
open Go.Proofs.YtfcidgnbocijdaaDoor.Sq
open Go.RowKit Go.Proofs.YtfcidgnbocijdaaDoorW.PrintWords Go.Proofs.YtfcidgnbocijdaaDoorW.PrintLast Go.Proofs.YtfcidgnbocijdaaDoorW.PrintMore
attribute [local go_sem] max2_int min2_int max_two min_two max_three min_three max_four min_four   -- for this text's walks alone
set_option linter.unusedVariables false
set_option linter.unusedSimpArgs false

/-! ### diapasonref26_Rises: function 57 -/
def diapasonref26_Rises.l0 : Nat → List Int → Int → List Int → List (List Int) → List Int → Int → Option (Bool)
 | 0, _, _, _, _, _, _ => none
 | k + 1, x1, x5, x237000, x237001, x237002, x237003 => if x5 < (x1.length : Int) then (if 0 ≤ x5 then (if (rd x1 x5) < 0 then (some false) else (if (rd x1 x5) ≥ (x237001.length : Int) then (some false) else (if x5 > 0 then (if 0 ≤ (wrap64 (x5 - 1)) then (if (wrap64 (x5 - 1)) < (x1.length : Int) then (if (rd x1 x5) ≤ (rd x1 (wrap64 (x5 - 1))) then (some false) else (diapasonref26_Rises.l0 k x1 (wrap64 (x5 + 1)) x237000 x237001 x237002 x237003)) else (none)) else (none)) else (diapasonref26_Rises.l0 k x1 (wrap64 (x5 + 1)) x237000 x237001 x237002 x237003)))) else (none)) else (some true)
def diapasonref26_Rises.f (k : Nat) (l0_0 : List Int) (l0_1 : List (List Int)) (l0_2 : List Int) (a0_3 : Int) (l1 : List Int) : Option (Bool) := diapasonref26_Rises.l0 k l1 0 l0_0 l0_1 l0_2 a0_3
theorem diapasonref26_Rises.mono_l : ∀ k, (∀ y0 y1 y2 y3 y4 y5, LeO (diapasonref26_Rises.l0 k y0 y1 y2 y3 y4 y5) (diapasonref26_Rises.l0 (k + 1) y0 y1 y2 y3 y4 y5))
 | 0 => fun _ _ _ _ _ _ r h => by simp [diapasonref26_Rises.l0] at h
 | k + 1 => by
  have ih0:=diapasonref26_Rises.mono_l k
  ·intro y0 y1 y2 y3 y4 y5
   unfold diapasonref26_Rises.l0
   repeat' first
   | (with_reducible exact ih0 _ _ _ _ _ _)
   | (with_reducible exact LeO.refl _)
   | (with_reducible exact LeO.none _)
   | (with_reducible refine LeO.ite ?_ ?_)
   | (with_reducible refine LeO.bind ?_ (fun _ => ?_))
   | exact ih0 _ _ _ _ _ _
   | exact LeO.none _
   | refine LeO.ite ?_ ?_
   | refine LeO.bind ?_ (fun _ => ?_)
theorem diapasonref26_Rises.mono : ∀ a0 a1 a2 a3 a4 k, LeO (diapasonref26_Rises.f k a0 a1 a2 a3 a4) (diapasonref26_Rises.f (k + 1) a0 a1 a2 a3 a4) := by
 intro a0 a1 a2 a3 a4 k;have ih0:=diapasonref26_Rises.mono_l k
 unfold diapasonref26_Rises.f
 repeat' first
   | (with_reducible exact ih0 _ _ _ _ _ _)
   | (with_reducible exact LeO.refl _)
   | (with_reducible exact LeO.none _)
   | (with_reducible refine LeO.ite ?_ ?_)
   | (with_reducible refine LeO.bind ?_ (fun _ => ?_))
   | exact ih0 _ _ _ _ _ _
   | exact LeO.none _
   | refine LeO.ite ?_ ?_
   | refine LeO.bind ?_ (fun _ => ?_)
set_option maxHeartbeats 8000000 in
set_option maxRecDepth 100000 in
theorem diapasonref26_Rises.calls (k : Nat) (A0_0 : Option Addr) (c0_0 : Nat) (l0_0 : List Int) (A0_1 : Option Addr) (c0_1 : Nat) (l0_1 : List (List Int)) (A0_2 : Option Addr) (c0_2 : Nat) (l0_2 : List Int) (a0_3 : Int) (A1 : Option Addr) (c1 : Nat) (l1 : List Int) (r : Bool) (w : World) (hr0_0 : Kd.C (Kd.int .i64) w A0_0 l0_0.length l0_0) (hc0_0 : l0_0.length ≤ c0_0) (hr0_1 : Kd.C (Kd.slice 3 (Kd.int .i64)) w A0_1 l0_1.length l0_1) (hc0_1 : l0_1.length ≤ c0_1) (hr0_2 : Kd.C (Kd.int .i64) w A0_2 l0_2.length l0_2) (hc0_2 : l0_2.length ≤ c0_2) (hr1 : Kd.C (Kd.int .i64) w A1 l1.length l1) (hc1 : l1.length ≤ c1) (h : diapasonref26_Rises.f k l0_0 l0_1 l0_2 a0_3 l1 = some r) :
  Calls Tryd.prog 57 #[.agg #[.slice A0_0 l0_0.length c0_0, .slice A0_1 l0_1.length c0_1, .slice A0_2 l0_2.length c0_2, .int .i64 a0_3], .slice A1 l1.length c1] w fun e w' => e = .returned (.bool r) ∧ Below w.heap.size w w':=by
 have hu28:=Tryd.underlying28;have HR0_0:=am_ hr0_0;have HC0_0:=am_ hc0_0;clear hr0_0 hc0_0;have HR0_1:=am_ hr0_1;have HC0_1:=am_ hc0_1;clear hr0_1 hc0_1;have HR0_2:=am_ hr0_2;have HC0_2:=am_ hc0_2;clear hr0_2 hc0_2;have HR1:=am_ hr1;have HC1:=am_ hc1;clear hr1 hc1;have HB:=am_ (Below.refl w.heap.size w);have H : (diapasonref26_Rises.l0 k l1 0 l0_0 l0_1 l0_2 a0_3) = some r:=h;clear h;have H':=am_ H;clear H;go_enter Tryd.func57, Tryd.ntmps57
 go_wp2_with (first | ((with_reducible refine gate_dst (N:=2) rfl ?_);(try (refine gate_guard (by rfl) ?_;dsimp only));refine box_event ?hg (N:=2) ?hd (cs:=#[.slice A0_0 l0_0.length c0_0, .slice A0_1 l0_1.length c0_1, .slice A0_2 l0_2.length c0_2, .int .i64 a0_3]) (t:=28) ?hr ?_;(case hd => rfl);(case hg => rfl);(case hr => first | (go_simp;done) | (go_simp;rfl));intro gb236 hg w3 hbox hb;have BK236:=am_ hbox;have GW236:=gz_ hg HB;have GE236:=gz_ hg HB;replace HB:=bs_ HB hb;clear hb hbox hg))
 repeat (go_quiet (first | ((with_reducible refine gate_dst (N:=2) rfl ?_);(try (refine gate_guard (by rfl) ?_;dsimp only));refine box_event ?hg (N:=2) ?hd (cs:=#[.slice A0_0 l0_0.length c0_0, .slice A0_1 l0_1.length c0_1, .slice A0_2 l0_2.length c0_2, .int .i64 a0_3]) (t:=28) ?hr ?_;(case hd => rfl);(case hg => rfl);(case hr => first | (go_simp;done) | (go_simp;rfl));intro gb236 hg w3 hbox hb;have BK236:=am_ hbox;have GW236:=gz_ hg HB;have GE236:=gz_ hg HB;replace HB:=bs_ HB hb;clear hb hbox hg));try go_wp2_with (first | ((with_reducible refine gate_dst (N:=2) rfl ?_);(try (refine gate_guard (by rfl) ?_;dsimp only));refine box_event ?hg (N:=2) ?hd (cs:=#[.slice A0_0 l0_0.length c0_0, .slice A0_1 l0_1.length c0_1, .slice A0_2 l0_2.length c0_2, .int .i64 a0_3]) (t:=28) ?hr ?_;(case hd => rfl);(case hg => rfl);(case hr => first | (go_simp;done) | (go_simp;rfl));intro gb236 hg w3 hbox hb;have BK236:=am_ hbox;have GW236:=gz_ hg HB;have GE236:=gz_ hg HB;replace HB:=bs_ HB hb;clear hb hbox hg)))
 go_loopg [5] k (fun kq v5 w' => ∃ (x5_1 : Int), v5 = .int .i64 x5_1 ∧ Aside0 (diapasonref26_Rises.l0 kq l1 x5_1 l0_0 l0_1 l0_2 a0_3 = some r) ∧ Aside0 (kq ≤ k) ∧ Aside0 (w'.heap[gb236]? = some (.cells #[(.slice A0_0 l0_0.length c0_0), (.slice A0_1 l0_1.length c0_1), (.slice A0_2 l0_2.length c0_2), .int .i64 a0_3] 28 (0, 0))) ∧ Aside0 (Below w.heap.size w w'))
 case atStart => exact ⟨(0), (by first | rfl | (simp;done) | (simp [*];done)), H', ⟨Nat.le_refl _⟩, ⟨by (with_reducible repeat first|apply q1_|apply q2_|apply q3_);exact BK236.out⟩, ⟨by repeat (first | (with_reducible first | exact HB.out | apply b1_|apply b2_|apply b3_ | refine below_set ?_ GE236.out) | exact HB.out)⟩⟩
 case round =>
  clear H';(try clear c1);(try clear p2);obtain ⟨x5_1, rfl, HA, HK1, BK236, HB⟩:=hrel
  cases gk with
  | zero => exact absurd HA.out (by simp [diapasonref26_Rises.l0])
  | succ k1 =>
   have H:=HA.out;clear HA;simp only [diapasonref26_Rises.l0] at H
   by_cases c4 : x5_1 < (l1.length : Int)
   ·rw [if_pos c4] at H;have c4b0 : decide (x5_1 < (l1.length : Int)) = true:=decide_eq_true c4;clear c4
    by_cases c5 : 0 ≤ x5_1
    ·rw [if_pos c5] at H;have c5b0 : decide (0 ≤ x5_1) = true:=decide_eq_true c5;clear c5
     by_cases c6 : (rd l1 x5_1) < 0
     ·rw [if_pos c6] at H;have c6b0 : decide ((rd l1 x5_1) < 0) = true:=decide_eq_true c6;clear c6;obtain rfl:=Option.some.inj H;have p237 : 0 ≤ (x5_1 : Int):=of_decide_eq_true (by first | (with_reducible assumption) | assumption);have q237 : x5_1 < (l1.length : Int):=of_decide_eq_true (by first | (with_reducible assumption) | assumption);obtain ⟨ad237, e237, hx237_0⟩:=Kd.at_int HR1.out x5_1 p237 q237
      cases e237
      replace hx237_0:=(HB.out.cell (World.block_lt_of_cell? w _ hx237_0)).trans hx237_0;replace p237:=eq_true p237;replace q237:=eq_true q237
      go_wp2
      repeat (go_quiet (fail);try go_wp2)
      go_ret
      exact ⟨by first | rfl | (simp [errW_none, errW_some] <;> rfl) | (simp [*, errW_none, errW_some] <;> rfl), by repeat (first | (with_reducible first | exact HB.out | apply b1_|apply b2_|apply b3_ | refine below_set ?_ GE236.out) | exact HB.out)⟩
     ·rw [if_neg c6] at H;have c6b0 : decide ((rd l1 x5_1) < 0) = false:=decide_eq_false c6;clear c6
      by_cases c7 : (rd l1 x5_1) ≥ (l0_1.length : Int)
      ·rw [if_pos c7] at H;have c7b0 : decide ((l0_1.length : Int) ≤ (rd l1 x5_1)) = true:=decide_eq_true c7;clear c7;obtain rfl:=Option.some.inj H;have p237 : 0 ≤ (x5_1 : Int):=of_decide_eq_true (by first | (with_reducible assumption) | assumption);have q237 : x5_1 < (l1.length : Int):=of_decide_eq_true (by first | (with_reducible assumption) | assumption);obtain ⟨ad237, e237, hx237_0⟩:=Kd.at_int HR1.out x5_1 p237 q237
       cases e237
       replace hx237_0:=(HB.out.cell (World.block_lt_of_cell? w _ hx237_0)).trans hx237_0;replace p237:=eq_true p237;replace q237:=eq_true q237;have p238 : 0 ≤ (x5_1 : Int):=of_decide_eq_true (by first | (with_reducible assumption) | assumption);have q238 : x5_1 < (l1.length : Int):=of_decide_eq_true (by first | (with_reducible assumption) | assumption);obtain ⟨ad238, e238, hx238_0⟩:=Kd.at_int HR1.out x5_1 p238 q238;obtain rfl : ad237 = ad238:=(by injection e238)
       replace hx238_0:=(HB.out.cell (World.block_lt_of_cell? w _ hx238_0)).trans hx238_0;replace p238:=eq_true p238;replace q238:=eq_true q238;obtain ⟨hcz8_0, hcz8_1, hcz8_2, hcz8_3⟩:=c4_ BK236.out;obtain ⟨hfz8_0, hfz8_1, hfz8_2, hfz8_3⟩:=z4_ BK236.out
       go_wp2
       repeat (go_quiet (fail);try go_wp2)
       go_ret
       exact ⟨by first | rfl | (simp [errW_none, errW_some] <;> rfl) | (simp [*, errW_none, errW_some] <;> rfl), by repeat (first | (with_reducible first | exact HB.out | apply b1_|apply b2_|apply b3_ | refine below_set ?_ GE236.out) | exact HB.out)⟩
      ·rw [if_neg c7] at H;have c7b0 : decide ((l0_1.length : Int) ≤ (rd l1 x5_1)) = false:=decide_eq_false c7;clear c7
       by_cases c9 : x5_1 > 0
       ·rw [if_pos c9] at H;have c9b0 : decide (0 < x5_1) = true:=decide_eq_true c9;clear c9;obtain ⟨ji10, hji10⟩ : ∃ j_ : Int, (wrap64 (x5_1 - 1)) = j_:=⟨_, rfl⟩
        replace H : (if 0 ≤ (ji10) then (if (ji10) < (l1.length : Int) then (if (rd l1 x5_1) ≤ (rd l1 (ji10)) then (some false) else (diapasonref26_Rises.l0 k1 l1 (wrap64 (x5_1 + 1)) l0_0 l0_1 l0_2 a0_3)) else (none)) else (none)) = some r:=by first | (rw [hji10] at H;exact H) | (simp only [hji10] at H ⊢;exact H)
        have hji10w : (IntKind.i64.wrap (x5_1 - 1)) = ji10:=(i64_w _).trans hji10
        by_cases c11 : 0 ≤ (ji10)
        ·rw [if_pos c11] at H;have c11b0 : decide (0 ≤ (ji10)) = true:=decide_eq_true c11;clear c11
         by_cases c12 : (ji10) < (l1.length : Int)
         ·rw [if_pos c12] at H;have c12b0 : decide ((ji10) < (l1.length : Int)) = true:=decide_eq_true c12;clear c12
          by_cases c13 : (rd l1 x5_1) ≤ (rd l1 (ji10))
          ·rw [if_pos c13] at H;have c13b0 : decide ((rd l1 x5_1) ≤ (rd l1 (ji10))) = true:=decide_eq_true c13;clear c13;obtain rfl:=Option.some.inj H;have p237 : 0 ≤ (x5_1 : Int):=of_decide_eq_true (by first | (with_reducible assumption) | assumption);have q237 : x5_1 < (l1.length : Int):=of_decide_eq_true (by first | (with_reducible assumption) | assumption);obtain ⟨ad237, e237, hx237_0⟩:=Kd.at_int HR1.out x5_1 p237 q237
           cases e237
           replace hx237_0:=(HB.out.cell (World.block_lt_of_cell? w _ hx237_0)).trans hx237_0;replace p237:=eq_true p237;replace q237:=eq_true q237;have p238 : 0 ≤ (x5_1 : Int):=of_decide_eq_true (by first | (with_reducible assumption) | assumption);have q238 : x5_1 < (l1.length : Int):=of_decide_eq_true (by first | (with_reducible assumption) | assumption);obtain ⟨ad238, e238, hx238_0⟩:=Kd.at_int HR1.out x5_1 p238 q238;obtain rfl : ad237 = ad238:=(by injection e238)
           replace hx238_0:=(HB.out.cell (World.block_lt_of_cell? w _ hx238_0)).trans hx238_0;replace p238:=eq_true p238;replace q238:=eq_true q238;obtain ⟨hcz14_0, hcz14_1, hcz14_2, hcz14_3⟩:=c4_ BK236.out;obtain ⟨hfz14_0, hfz14_1, hfz14_2, hfz14_3⟩:=z4_ BK236.out;have p239 : 0 ≤ (x5_1 : Int):=of_decide_eq_true (by first | (with_reducible assumption) | assumption);have q239 : x5_1 < (l1.length : Int):=of_decide_eq_true (by first | (with_reducible assumption) | assumption);obtain ⟨ad239, e239, hx239_0⟩:=Kd.at_int HR1.out x5_1 p239 q239;obtain rfl : ad237 = ad239:=(by injection e239)
           replace hx239_0:=(HB.out.cell (World.block_lt_of_cell? w _ hx239_0)).trans hx239_0;replace p239:=eq_true p239;replace q239:=eq_true q239;have p240 : 0 ≤ ((ji10) : Int):=of_decide_eq_true (by first | (with_reducible assumption) | assumption);have q240 : (ji10) < (l1.length : Int):=of_decide_eq_true (by first | (with_reducible assumption) | assumption);obtain ⟨ad240, e240, hx240_0⟩:=Kd.at_int HR1.out (ji10) p240 q240;obtain rfl : ad237 = ad240:=(by injection e240)
           replace hx240_0:=(HB.out.cell (World.block_lt_of_cell? w _ hx240_0)).trans hx240_0;replace p240:=eq_true p240;replace q240:=eq_true q240
           go_wp2
           repeat (go_quiet (fail);try go_wp2)
           go_ret
           exact ⟨by first | rfl | (simp [errW_none, errW_some] <;> rfl) | (simp only [← hji10];first | rfl | (simp [errW_none, errW_some] <;> rfl)) | (simp [*, errW_none, errW_some] <;> rfl), by repeat (first | (with_reducible first | exact HB.out | apply b1_|apply b2_|apply b3_ | refine below_set ?_ GE236.out) | exact HB.out)⟩
          ·rw [if_neg c13] at H;have c13b0 : decide ((rd l1 x5_1) ≤ (rd l1 (ji10))) = false:=decide_eq_false c13;clear c13;have H':=am_ H;clear H;have p237 : 0 ≤ (x5_1 : Int):=of_decide_eq_true (by first | (with_reducible assumption) | assumption);have q237 : x5_1 < (l1.length : Int):=of_decide_eq_true (by first | (with_reducible assumption) | assumption);obtain ⟨ad237, e237, hx237_0⟩:=Kd.at_int HR1.out x5_1 p237 q237
           cases e237
           replace hx237_0:=(HB.out.cell (World.block_lt_of_cell? w _ hx237_0)).trans hx237_0;replace p237:=eq_true p237;replace q237:=eq_true q237;have p238 : 0 ≤ (x5_1 : Int):=of_decide_eq_true (by first | (with_reducible assumption) | assumption);have q238 : x5_1 < (l1.length : Int):=of_decide_eq_true (by first | (with_reducible assumption) | assumption);obtain ⟨ad238, e238, hx238_0⟩:=Kd.at_int HR1.out x5_1 p238 q238;obtain rfl : ad237 = ad238:=(by injection e238)
           replace hx238_0:=(HB.out.cell (World.block_lt_of_cell? w _ hx238_0)).trans hx238_0;replace p238:=eq_true p238;replace q238:=eq_true q238;obtain ⟨hcz15_0, hcz15_1, hcz15_2, hcz15_3⟩:=c4_ BK236.out;obtain ⟨hfz15_0, hfz15_1, hfz15_2, hfz15_3⟩:=z4_ BK236.out;have p239 : 0 ≤ (x5_1 : Int):=of_decide_eq_true (by first | (with_reducible assumption) | assumption);have q239 : x5_1 < (l1.length : Int):=of_decide_eq_true (by first | (with_reducible assumption) | assumption);obtain ⟨ad239, e239, hx239_0⟩:=Kd.at_int HR1.out x5_1 p239 q239;obtain rfl : ad237 = ad239:=(by injection e239)
           replace hx239_0:=(HB.out.cell (World.block_lt_of_cell? w _ hx239_0)).trans hx239_0;replace p239:=eq_true p239;replace q239:=eq_true q239;have p240 : 0 ≤ ((ji10) : Int):=of_decide_eq_true (by first | (with_reducible assumption) | assumption);have q240 : (ji10) < (l1.length : Int):=of_decide_eq_true (by first | (with_reducible assumption) | assumption);obtain ⟨ad240, e240, hx240_0⟩:=Kd.at_int HR1.out (ji10) p240 q240;obtain rfl : ad237 = ad240:=(by injection e240)
           replace hx240_0:=(HB.out.cell (World.block_lt_of_cell? w _ hx240_0)).trans hx240_0;replace p240:=eq_true p240;replace q240:=eq_true q240
           go_wp2
           repeat (go_quiet (fail);try go_wp2)
           go_roundg k1
           case measure => have:=HK1.out;omega
           case rel => exact ⟨(wrap64 (x5_1 + 1)), (by first | rfl | (simp;done) | (simp [*];done)), H', ⟨by have:=HK1.out;omega⟩, ⟨by (with_reducible repeat first|apply q1_|apply q2_|apply q3_);exact BK236.out⟩, ⟨by repeat (first | (with_reducible first | exact HB.out | apply b1_|apply b2_|apply b3_ | refine below_set ?_ GE236.out) | exact HB.out)⟩⟩
         ·rw [if_neg c12] at H;exact absurd H (by simp)
        ·rw [if_neg c11] at H;exact absurd H (by simp)
       ·rw [if_neg c9] at H;have c9b0 : decide (0 < x5_1) = false:=decide_eq_false c9;clear c9;have H':=am_ H;clear H;have p237 : 0 ≤ (x5_1 : Int):=of_decide_eq_true (by first | (with_reducible assumption) | assumption);have q237 : x5_1 < (l1.length : Int):=of_decide_eq_true (by first | (with_reducible assumption) | assumption);obtain ⟨ad237, e237, hx237_0⟩:=Kd.at_int HR1.out x5_1 p237 q237
        cases e237
        replace hx237_0:=(HB.out.cell (World.block_lt_of_cell? w _ hx237_0)).trans hx237_0;replace p237:=eq_true p237;replace q237:=eq_true q237;have p238 : 0 ≤ (x5_1 : Int):=of_decide_eq_true (by first | (with_reducible assumption) | assumption);have q238 : x5_1 < (l1.length : Int):=of_decide_eq_true (by first | (with_reducible assumption) | assumption);obtain ⟨ad238, e238, hx238_0⟩:=Kd.at_int HR1.out x5_1 p238 q238;obtain rfl : ad237 = ad238:=(by injection e238)
        replace hx238_0:=(HB.out.cell (World.block_lt_of_cell? w _ hx238_0)).trans hx238_0;replace p238:=eq_true p238;replace q238:=eq_true q238;obtain ⟨hcz16_0, hcz16_1, hcz16_2, hcz16_3⟩:=c4_ BK236.out;obtain ⟨hfz16_0, hfz16_1, hfz16_2, hfz16_3⟩:=z4_ BK236.out
        go_wp2
        repeat (go_quiet (fail);try go_wp2)
        go_roundg k1
        case measure => have:=HK1.out;omega
        case rel => exact ⟨(wrap64 (x5_1 + 1)), (by first | rfl | (simp;done) | (simp [*];done)), H', ⟨by have:=HK1.out;omega⟩, ⟨by (with_reducible repeat first|apply q1_|apply q2_|apply q3_);exact BK236.out⟩, ⟨by repeat (first | (with_reducible first | exact HB.out | apply b1_|apply b2_|apply b3_ | refine below_set ?_ GE236.out) | exact HB.out)⟩⟩
    ·rw [if_neg c5] at H;exact absurd H (by simp)
   ·rw [if_neg c4] at H;have c4b0 : decide (x5_1 < (l1.length : Int)) = false:=decide_eq_false c4;clear c4;obtain rfl:=Option.some.inj H
    go_wp2
    repeat (go_quiet (fail);try go_wp2)
    go_ret
    exact ⟨by first | rfl | (simp [errW_none, errW_some] <;> rfl) | (simp [*, errW_none, errW_some] <;> rfl), by repeat (first | (with_reducible first | exact HB.out | apply b1_|apply b2_|apply b3_ | refine below_set ?_ GE236.out) | exact HB.out)⟩

end Go.Proofs.YtfcidgnbocijdaaDoor.PCertLooks
