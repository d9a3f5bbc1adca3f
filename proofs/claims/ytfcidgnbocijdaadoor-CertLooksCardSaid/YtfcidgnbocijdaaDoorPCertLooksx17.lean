-- Written by a program of this session (the kit's print, turned: wip/px).
import Derived.Test.YtfcidgnbocijdaaDoorPCertLooksx0
import Derived.Test.YtfcidgnbocijdaaDoorPCertMakesx0
import Derived.Test.YtfcidgnbocijdaaDoorPCertMakesx1
import Derived.Test.YtfcidgnbocijdaaDoorPCertMakesx2
import Derived.Test.YtfcidgnbocijdaaDoorPCertMakesx3
import Derived.Test.YtfcidgnbocijdaaDoorPCertMakesx4
import Derived.Test.YtfcidgnbocijdaaDoorPCertMakesx5
import Derived.Test.YtfcidgnbocijdaaDoorPCertMakesx6
import Derived.Test.YtfcidgnbocijdaaDoorPCertMakesx7
import Derived.Test.YtfcidgnbocijdaaDoorPCertMakesx8
import Derived.Test.YtfcidgnbocijdaaDoorPCertMakesx9
import Derived.Test.YtfcidgnbocijdaaDoorPCertMakesx12
import Derived.Test.YtfcidgnbocijdaaDoorPCertMakesx13
import Derived.Test.YtfcidgnbocijdaaDoorPCertLooksx1
import Derived.Test.YtfcidgnbocijdaaDoorPCertLooksx8
import Derived.Test.YtfcidgnbocijdaaDoorPCertLooksx9
import Derived.Test.YtfcidgnbocijdaaDoorPCertLooksx10
import Derived.Test.YtfcidgnbocijdaaDoorPCertLooksx11
import Derived.Test.YtfcidgnbocijdaaDoorPCertLooksx13
import Derived.Test.YtfcidgnbocijdaaDoorSq2
namespace Go.Proofs.YtfcidgnbocijdaaDoor.PCertLooks
open Go.Proofs.YtfcidgnbocijdaaDoor.PCertMakes
open Go.Proofs.YtfcidgnbocijdaaDoor.Sq
open Go.RowKit Go.Proofs.YtfcidgnbocijdaaDoorW.PrintWords Go.Proofs.YtfcidgnbocijdaaDoorW.PrintLast Go.Proofs.YtfcidgnbocijdaaDoorW.PrintMore
attribute [local go_sem] max2_int min2_int max_two min_two max_three min_three max_four min_four   -- for this text's walks alone
set_option linter.unusedVariables false
set_option linter.unusedSimpArgs false

/-! ### diapasonref27_last: function 61 -/
def diapasonref27_last.l0 : Nat → List Int → Int → Int → Option (Int)
 | 0, _, _, _ => none
 | k + 1, x0, x3, x4 => if x4 < (x0.length : Int) then (if 0 ≤ x4 then (if (rd x0 x4) = 1 then (diapasonref27_last.l0 k x0 x4 (wrap64 (x4 + 1))) else (diapasonref27_last.l0 k x0 x3 (wrap64 (x4 + 1)))) else (none)) else (some x3)
def diapasonref27_last.f (k : Nat) (l0 : List Int) : Option (Int) := diapasonref27_last.l0 k l0 (-1) 0
theorem diapasonref27_last.mono_l : ∀ k, (∀ y0 y1 y2, LeO (diapasonref27_last.l0 k y0 y1 y2) (diapasonref27_last.l0 (k + 1) y0 y1 y2))
 | 0 => fun _ _ _ r h => by simp [diapasonref27_last.l0] at h
 | k + 1 => by
  have ih0:=diapasonref27_last.mono_l k
  ·intro y0 y1 y2
   unfold diapasonref27_last.l0
   repeat' first
   | (with_reducible exact ih0 _ _ _)
   | (with_reducible exact LeO.refl _)
   | (with_reducible exact LeO.none _)
   | (with_reducible refine LeO.ite ?_ ?_)
   | (with_reducible refine LeO.bind ?_ (fun _ => ?_))
   | exact ih0 _ _ _
   | exact LeO.none _
   | refine LeO.ite ?_ ?_
   | refine LeO.bind ?_ (fun _ => ?_)
theorem diapasonref27_last.mono : ∀ a0 k, LeO (diapasonref27_last.f k a0) (diapasonref27_last.f (k + 1) a0) := by
 intro a0 k;have ih0:=diapasonref27_last.mono_l k
 unfold diapasonref27_last.f
 repeat' first
   | (with_reducible exact ih0 _ _ _)
   | (with_reducible exact LeO.refl _)
   | (with_reducible exact LeO.none _)
   | (with_reducible refine LeO.ite ?_ ?_)
   | (with_reducible refine LeO.bind ?_ (fun _ => ?_))
   | exact ih0 _ _ _
   | exact LeO.none _
   | refine LeO.ite ?_ ?_
   | refine LeO.bind ?_ (fun _ => ?_)
set_option maxHeartbeats 8000000 in
set_option maxRecDepth 100000 in
theorem diapasonref27_last.calls (k : Nat) (A0 : Option Addr) (c0 : Nat) (l0 : List Int) (r : Int) (w : World) (hr0 : Kd.C (Kd.int .u8) w A0 l0.length l0) (hc0 : l0.length ≤ c0) (h : diapasonref27_last.f k l0 = some r) :
  Calls Tryd.prog 61 #[.slice A0 l0.length c0] w fun e w' => e = .returned (.int .i64 r) ∧ Drawn0 w w':=by
 have HR0:=am_ hr0;have HC0:=am_ hc0;clear hr0 hc0;have H : (diapasonref27_last.l0 k l0 (-1) 0) = some r:=h;clear h;have H':=am_ H;clear H;go_enter Tryd.func61, Tryd.ntmps61
 go_wp2
 go_loopg [3, 4] k (fun kq v3 v4 w' => ∃ (x3_1 : Int) (x4_1 : Int), v3 = .int .i64 x3_1 ∧ v4 = .int .i64 x4_1 ∧ Aside0 (diapasonref27_last.l0 kq l0 x3_1 x4_1 = some r) ∧ Aside0 (kq ≤ k) ∧ Drawn0 w w')
 case atStart => exact ⟨((-1)), (0), (by first | rfl | (simp;done) | (simp [*];done)), (by first | rfl | (simp;done) | (simp [*];done)), H', ⟨Nat.le_refl _⟩, by repeat (first | exact Drawn0.refl _ | apply Drawn0.step)⟩
 case round =>
  clear H';obtain ⟨x3_1, x4_1, rfl, rfl, HA, HK1, ⟨m1, rfl⟩⟩:=hrel
  cases gk with
  | zero => exact absurd HA.out (by simp [diapasonref27_last.l0])
  | succ k1 =>
   have H:=HA.out;clear HA;simp only [diapasonref27_last.l0] at H
   by_cases c2 : x4_1 < (l0.length : Int)
   ·rw [if_pos c2] at H;have c2b0 : decide (x4_1 < (l0.length : Int)) = true:=decide_eq_true c2;clear c2
    by_cases c3 : 0 ≤ x4_1
    ·rw [if_pos c3] at H;have c3b0 : decide (0 ≤ x4_1) = true:=decide_eq_true c3;clear c3
     by_cases c4 : (rd l0 x4_1) = 1
     ·rw [if_pos c4] at H;have c4b0 : ((rd l0 x4_1) == 1) = true:=beq_iff_eq.mpr c4;have c4b1 : ((rd l0 x4_1) != 1) = false:=bne_eq_false_iff_eq.mpr c4;clear c4;have H':=am_ H;clear H;have p276 : 0 ≤ (x4_1 : Int):=of_decide_eq_true (by first | (with_reducible assumption) | assumption);have q276 : x4_1 < (l0.length : Int):=of_decide_eq_true (by first | (with_reducible assumption) | assumption);obtain ⟨ad276, e276, hx276_0⟩:=Kd.at_int HR0.out x4_1 p276 q276
      cases e276
      replace p276:=eq_true p276;replace q276:=eq_true q276
      go_wp2
      go_roundg k1
      case measure => have:=HK1.out;omega
      case rel => exact ⟨(x4_1), (wrap64 (x4_1 + 1)), (by first | rfl | (simp;done) | (simp [*];done)), (by first | rfl | (simp;done) | (simp [*];done)), H', ⟨by have:=HK1.out;omega⟩, by repeat (first | exact Drawn0.refl _ | apply Drawn0.step)⟩
     ·rw [if_neg c4] at H;have c4b0 : ((rd l0 x4_1) == 1) = false:=beq_eq_false_iff_ne.mpr c4;have c4b1 : ((rd l0 x4_1) != 1) = true:=bne_iff_ne.mpr c4;have H':=am_ H;clear H;have p276 : 0 ≤ (x4_1 : Int):=of_decide_eq_true (by first | (with_reducible assumption) | assumption);have q276 : x4_1 < (l0.length : Int):=of_decide_eq_true (by first | (with_reducible assumption) | assumption);obtain ⟨ad276, e276, hx276_0⟩:=Kd.at_int HR0.out x4_1 p276 q276
      cases e276
      replace p276:=eq_true p276;replace q276:=eq_true q276
      go_wp2
      go_roundg k1
      case measure => have:=HK1.out;omega
      case rel => exact ⟨(x3_1), (wrap64 (x4_1 + 1)), (by first | rfl | (simp;done) | (simp [*];done)), (by first | rfl | (simp;done) | (simp [*];done)), H', ⟨by have:=HK1.out;omega⟩, by repeat (first | exact Drawn0.refl _ | apply Drawn0.step)⟩
    ·rw [if_neg c3] at H;exact absurd H (by simp)
   ·rw [if_neg c2] at H;have c2b0 : decide (x4_1 < (l0.length : Int)) = false:=decide_eq_false c2;clear c2;obtain rfl:=Option.some.inj H
    go_wp2
    go_ret
    exact ⟨by first | rfl | (simp;done) | (simp [*];done), by repeat (first | exact Drawn0.refl _ | apply Drawn0.step)⟩

/-! ### diapasonref27_follows: function 60 -/
mutual
def diapasonref27_follows.j0 : Nat → List (S66) → Int → List Int → Option (Bool)
 | 0, _, _, _ => none
 | k + 1, x0, x1, x5 => if 0 ≤ x1 then (if x1 < (x0.length : Int) then (if (((rd_T66 x0 x1).f0).length : Int) < (x5.length : Int) then (some false) else (diapasonref27_follows.l0 k x5 ((rd_T66 x0 x1).f0) 0)) else (none)) else (none)
def diapasonref27_follows.l0 : Nat → List Int → List Int → Int → Option (Bool)
 | 0, _, _, _ => none
 | k + 1, x5, x7, x8 => if x8 < (x7.length : Int) then (if x8 < (x5.length : Int) then (if 0 ≤ x8 then (if (rd x7 x8) = (rd x5 x8) then (if x8 ≥ (x5.length : Int) then (if (rd x7 x8) = 1 then (diapasonref27_follows.l0 k x5 x7 (wrap64 (x8 + 1))) else (some false)) else (diapasonref27_follows.l0 k x5 x7 (wrap64 (x8 + 1)))) else (some false)) else (none)) else (if x8 ≥ (x5.length : Int) then (if 0 ≤ x8 then (if (rd x7 x8) = 1 then (diapasonref27_follows.l0 k x5 x7 (wrap64 (x8 + 1))) else (some false)) else (none)) else (diapasonref27_follows.l0 k x5 x7 (wrap64 (x8 + 1))))) else (some true)
end
def diapasonref27_follows.f (k : Nat) (l0 : List (S66)) (a1 : Int) : Option (Bool) := if a1 > 0 then (if 0 ≤ (wrap64 (a1 - 1)) then (if (wrap64 (a1 - 1)) < (l0.length : Int) then ((diapasonref27_last.f k ((rd_T66 l0 (wrap64 (a1 - 1))).f0)).bind fun t278 => (if t278 < 0 then (some false) else (if 0 ≤ t278 then (if t278 ≤ (((rd_T66 l0 (wrap64 (a1 - 1))).f0).length : Int) then (if ([] : List Int).length + (((rd_T66 l0 (wrap64 (a1 - 1))).f0).take (t278 : Int).toNat).length < 140737488355328 then ((some (([] : List Int) ++ (((rd_T66 l0 (wrap64 (a1 - 1))).f0).take (t278 : Int).toNat) : List Int)).bind fun y281 => (if y281.length < 140737488355328 then (diapasonref27_follows.j0 k l0 a1 (y281 ++ [2])) else (none))) else (none)) else (none)) else (none)))) else (none)) else (none)) else (diapasonref27_follows.j0 k l0 a1 ([] : List Int))
theorem diapasonref27_follows.mono_l : ∀ k, (∀ y0 y1 y2, LeO (diapasonref27_follows.j0 k y0 y1 y2) (diapasonref27_follows.j0 (k + 1) y0 y1 y2)) ∧ (∀ y0 y1 y2, LeO (diapasonref27_follows.l0 k y0 y1 y2) (diapasonref27_follows.l0 (k + 1) y0 y1 y2))
 | 0 => ⟨fun _ _ _ r h => by simp [diapasonref27_follows.j0] at h, fun _ _ _ r h => by simp [diapasonref27_follows.l0] at h⟩
 | k + 1 => by
  obtain ⟨ih0, ih1⟩:=diapasonref27_follows.mono_l k;refine ⟨?_, ?_⟩
  ·intro y0 y1 y2
   unfold diapasonref27_follows.j0
   repeat' first
   | (with_reducible exact ih0 _ _ _)
   | (with_reducible exact ih1 _ _ _)
   | (with_reducible exact diapasonref27_last.mono _ _)
   | (with_reducible exact LeO.refl _)
   | (with_reducible exact LeO.none _)
   | (with_reducible refine LeO.ite ?_ ?_)
   | (with_reducible refine LeO.bind ?_ (fun _ => ?_))
   | exact ih0 _ _ _
   | exact ih1 _ _ _
   | exact diapasonref27_last.mono _ _
   | exact LeO.none _
   | refine LeO.ite ?_ ?_
   | refine LeO.bind ?_ (fun _ => ?_)
  ·intro y0 y1 y2
   unfold diapasonref27_follows.l0
   repeat' first
   | (with_reducible exact ih0 _ _ _)
   | (with_reducible exact ih1 _ _ _)
   | (with_reducible exact diapasonref27_last.mono _ _)
   | (with_reducible exact LeO.refl _)
   | (with_reducible exact LeO.none _)
   | (with_reducible refine LeO.ite ?_ ?_)
   | (with_reducible refine LeO.bind ?_ (fun _ => ?_))
   | exact ih0 _ _ _
   | exact ih1 _ _ _
   | exact diapasonref27_last.mono _ _
   | exact LeO.none _
   | refine LeO.ite ?_ ?_
   | refine LeO.bind ?_ (fun _ => ?_)
theorem diapasonref27_follows.mono : ∀ a0 a1 k, LeO (diapasonref27_follows.f k a0 a1) (diapasonref27_follows.f (k + 1) a0 a1) := by
 intro a0 a1 k;obtain ⟨ih0, ih1⟩:=diapasonref27_follows.mono_l k
 unfold diapasonref27_follows.f
 repeat' first
   | (with_reducible exact ih0 _ _ _)
   | (with_reducible exact ih1 _ _ _)
   | (with_reducible exact diapasonref27_last.mono _ _)
   | (with_reducible exact LeO.refl _)
   | (with_reducible exact LeO.none _)
   | (with_reducible refine LeO.ite ?_ ?_)
   | (with_reducible refine LeO.bind ?_ (fun _ => ?_))
   | exact ih0 _ _ _
   | exact ih1 _ _ _
   | exact diapasonref27_last.mono _ _
   | exact LeO.none _
   | refine LeO.ite ?_ ?_
   | refine LeO.bind ?_ (fun _ => ?_)
set_option maxHeartbeats 8000000 in
set_option maxRecDepth 100000 in
theorem diapasonref27_follows.calls (k : Nat) (A0 : Option Addr) (c0 : Nat) (l0 : List (S66)) (a1 : Int) (r : Bool) (w : World) (hr0 : Kd.C k66 w A0 l0.length l0) (hc0 : l0.length ≤ c0) (h : diapasonref27_follows.f k l0 a1 = some r) :
  Calls Tryd.prog 60 #[.slice A0 l0.length c0, .int .i64 a1] w fun e w' => e = .returned (.bool r) ∧ Below w.heap.size w w':=by
 have HR0:=am_ hr0;have HC0:=am_ hc0;clear hr0 hc0;have HB:=am_ (Below.refl w.heap.size w);have H : (if a1 > 0 then (if 0 ≤ (wrap64 (a1 - 1)) then (if (wrap64 (a1 - 1)) < (l0.length : Int) then ((diapasonref27_last.f k ((rd_T66 l0 (wrap64 (a1 - 1))).f0)).bind fun t278 => (if t278 < 0 then (some false) else (if 0 ≤ t278 then (if t278 ≤ (((rd_T66 l0 (wrap64 (a1 - 1))).f0).length : Int) then (if ([] : List Int).length + (((rd_T66 l0 (wrap64 (a1 - 1))).f0).take (t278 : Int).toNat).length < 140737488355328 then ((some (([] : List Int) ++ (((rd_T66 l0 (wrap64 (a1 - 1))).f0).take (t278 : Int).toNat) : List Int)).bind fun y281 => (if y281.length < 140737488355328 then (diapasonref27_follows.j0 k l0 a1 (y281 ++ [2])) else (none))) else (none)) else (none)) else (none)))) else (none)) else (none)) else (diapasonref27_follows.j0 k l0 a1 ([] : List Int))) = some r:=h;clear h;have HC3:=am_ H;clear H;go_enter Tryd.func60, Tryd.ntmps60
 go_upto_if 10 with (fail)
 repeat (go_quiet (fail);go_upto_if 10 with (fail))
 go_cut [5] (fun v5 wc => ∃ (kq : Nat) (x5_2 : List Int), Aside0 (diapasonref27_follows.j0 kq l0 a1 x5_2 = some r) ∧ Aside0 (kq ≤ k) ∧ Aside0 (Kd.R (Kd.int .u8) 5 wc w.heap.size (fun _ => True) v5 x5_2) ∧ Aside0 (Below w.heap.size w wc))
 case first =>
  have H:=HC3.out;clear HC3
  by_cases c4 : a1 > 0
  ·rw [if_pos c4] at H;have c4b0 : decide (0 < a1) = true:=decide_eq_true c4;clear c4;(first | rw [c4b0] | (simp only [i64_w, i32_w];rw [c4b0]) | skip);obtain ⟨ji5, hji5⟩ : ∃ j_ : Int, (wrap64 (a1 - 1)) = j_:=⟨_, rfl⟩
   replace H : (if 0 ≤ (ji5) then (if (ji5) < (l0.length : Int) then ((diapasonref27_last.f k ((rd_T66 l0 (ji5)).f0)).bind fun t278 => (if t278 < 0 then (some false) else (if 0 ≤ t278 then (if t278 ≤ (((rd_T66 l0 (ji5)).f0).length : Int) then (if ([] : List Int).length + (((rd_T66 l0 (ji5)).f0).take (t278 : Int).toNat).length < 140737488355328 then ((some (([] : List Int) ++ (((rd_T66 l0 (ji5)).f0).take (t278 : Int).toNat) : List Int)).bind fun y281 => (if y281.length < 140737488355328 then (diapasonref27_follows.j0 k l0 a1 (y281 ++ [2])) else (none))) else (none)) else (none)) else (none)))) else (none)) else (none)) = some r:=by first | (rw [hji5] at H;exact H) | (simp only [hji5] at H ⊢;exact H)
   have hji5w : (IntKind.i64.wrap (a1 - 1)) = ji5:=(i64_w _).trans hji5
   by_cases c6 : 0 ≤ (ji5)
   ·rw [if_pos c6] at H;have c6b0 : decide (0 ≤ (ji5)) = true:=decide_eq_true c6;clear c6
    by_cases c7 : (ji5) < (l0.length : Int)
    ·rw [if_pos c7] at H;have c7b0 : decide ((ji5) < (l0.length : Int)) = true:=decide_eq_true c7;clear c7;replace H:=Option.bind_eq_some_iff.mp H;obtain ⟨t278, A80, H⟩:=H;replace H : (if t278 < 0 then (some false) else (if 0 ≤ t278 then (if t278 ≤ (((rd_T66 l0 (ji5)).f0).length : Int) then (if ([] : List Int).length + (((rd_T66 l0 (ji5)).f0).take (t278 : Int).toNat).length < 140737488355328 then ((some (([] : List Int) ++ (((rd_T66 l0 (ji5)).f0).take (t278 : Int).toNat) : List Int)).bind fun y281 => (if y281.length < 140737488355328 then (diapasonref27_follows.j0 k l0 a1 (y281 ++ [2])) else (none))) else (none)) else (none)) else (none))) = some r:=H;have A8:=am_ A80;clear A80
     by_cases c9 : t278 < 0
     ·rw [if_pos c9] at H;have c9b0 : decide (t278 < 0) = true:=decide_eq_true c9;clear c9;obtain rfl:=Option.some.inj H;have p277 : 0 ≤ ((ji5) : Int):=of_decide_eq_true (by first | (with_reducible assumption) | assumption);have q277 : (ji5) < (l0.length : Int):=of_decide_eq_true (by first | (with_reducible assumption) | assumption);obtain ⟨ad277, A277_0, c277_0, e277, hx277_0, hx277_1, hl277_0, hi277_0⟩:=at_T66 HR0.out (ji5) p277 q277
      cases e277
      replace hx277_0:=(HB.out.cell (World.block_lt_of_cell? w _ hx277_0)).trans hx277_0;replace hx277_1:=(HB.out.cell (World.block_lt_of_cell? w _ hx277_1)).trans hx277_1;have HR277_0:=am_ hi277_0;have HC277_0:=am_ hl277_0;clear hi277_0 hl277_0;replace p277:=eq_true p277;replace q277:=eq_true q277
      go_wp2_with (first | (go_at_call 61;(with_reducible refine (diapasonref27_last.calls k _ _ ((rd_T66 l0 (ji5)).f0) t278 _ ?side1 ?side2 A8.out).mono ?_);(case side1 => exact cb_ HR277_0 HB);(case side2 => exact HC277_0.out);rintro e w' ⟨rfl, ⟨nd, rfl⟩⟩;(try first | exact ⟨rfl, _, World.drewN_drewN _ _ _⟩ | exact ⟨rfl, _, Eq.trans (World.drewN_drewN _ _ _) (congrArg (World.drewN _) (Nat.add_assoc _ _ _))⟩)))
      repeat (go_quiet (first | (go_at_call 61;(with_reducible refine (diapasonref27_last.calls k _ _ ((rd_T66 l0 (ji5)).f0) t278 _ ?side1 ?side2 A8.out).mono ?_);(case side1 => exact cb_ HR277_0 HB);(case side2 => exact HC277_0.out);rintro e w' ⟨rfl, ⟨nd, rfl⟩⟩;(try first | exact ⟨rfl, _, World.drewN_drewN _ _ _⟩ | exact ⟨rfl, _, Eq.trans (World.drewN_drewN _ _ _) (congrArg (World.drewN _) (Nat.add_assoc _ _ _))⟩)));try go_wp2_with (first | (go_at_call 61;(with_reducible refine (diapasonref27_last.calls k _ _ ((rd_T66 l0 (ji5)).f0) t278 _ ?side1 ?side2 A8.out).mono ?_);(case side1 => exact cb_ HR277_0 HB);(case side2 => exact HC277_0.out);rintro e w' ⟨rfl, ⟨nd, rfl⟩⟩;(try first | exact ⟨rfl, _, World.drewN_drewN _ _ _⟩ | exact ⟨rfl, _, Eq.trans (World.drewN_drewN _ _ _) (congrArg (World.drewN _) (Nat.add_assoc _ _ _))⟩))))
      go_ret
      exact ⟨by first | rfl | (simp [errW_none, errW_some] <;> rfl) | (simp only [← hji5];first | rfl | (simp [errW_none, errW_some] <;> rfl)) | (simp [*, errW_none, errW_some] <;> rfl), by repeat (first | (with_reducible first | exact HB.out | apply b1_|apply b2_|apply b3_) | exact HB.out)⟩
     ·rw [if_neg c9] at H;have c9b0 : decide (t278 < 0) = false:=decide_eq_false c9;clear c9
      by_cases c10 : 0 ≤ t278
      ·rw [if_pos c10] at H;have c10b0:=eq_true c10;have c10b1 : decide (0 ≤ t278) = true:=decide_eq_true c10;clear c10
       by_cases c11 : t278 ≤ (((rd_T66 l0 (ji5)).f0).length : Int)
       ·rw [if_pos c11] at H;have c11b0:=eq_true c11;have c11b1 : decide (t278 ≤ (((rd_T66 l0 (ji5)).f0).length : Int)) = true:=decide_eq_true c11;clear c11
        by_cases c12 : ([] : List Int).length + (((rd_T66 l0 (ji5)).f0).take (t278 : Int).toNat).length < 140737488355328
        ·rw [if_pos c12] at H;have LMc12:=am_ c12;clear c12;obtain ⟨y281, hy281⟩ : ∃ y_ : List Int, y_ = (([] : List Int) ++ (((rd_T66 l0 (ji5)).f0).take (t278 : Int).toNat)):=⟨_, rfl⟩
         replace H : (if y281.length < 140737488355328 then (diapasonref27_follows.j0 k l0 a1 (y281 ++ [2])) else (none)) = some r:=by first | (rw [hy281];with_reducible exact H) | (have H2_:=(Option.bind_some _ _).symm.trans H;rw [hy281];with_reducible exact H2_) | (have H2_:=(Option.bind_some _ _).symm.trans H;with_reducible exact H2_) | with_reducible exact H | (rw [hy281];exact H) | exact H
         have Ny281:=am_ hy281;clear hy281
         by_cases c13 : y281.length < 140737488355328
         ·rw [if_pos c13] at H;have LMc13:=am_ c13;clear c13;obtain ⟨y284, hy284⟩ : ∃ y_ : List Int, y_ = (y281 ++ [2]):=⟨_, rfl⟩
          replace H : (diapasonref27_follows.j0 k l0 a1 y284) = some r:=by first | (rw [hy284];with_reducible exact H) | (have H2_:=(Option.bind_some _ _).symm.trans H;rw [hy284];with_reducible exact H2_) | (have H2_:=(Option.bind_some _ _).symm.trans H;with_reducible exact H2_) | with_reducible exact H | (rw [hy284];exact H) | exact H
          have Ny284:=am_ hy284;clear hy284;have H':=am_ H;clear H;have p277 : 0 ≤ ((ji5) : Int):=of_decide_eq_true (by first | (with_reducible assumption) | assumption);have q277 : (ji5) < (l0.length : Int):=of_decide_eq_true (by first | (with_reducible assumption) | assumption);obtain ⟨ad277, A277_0, c277_0, e277, hx277_0, hx277_1, hl277_0, hi277_0⟩:=at_T66 HR0.out (ji5) p277 q277
          cases e277
          replace hx277_0:=(HB.out.cell (World.block_lt_of_cell? w _ hx277_0)).trans hx277_0;replace hx277_1:=(HB.out.cell (World.block_lt_of_cell? w _ hx277_1)).trans hx277_1;have HR277_0:=am_ hi277_0;have HC277_0:=am_ hl277_0;clear hi277_0 hl277_0;replace p277:=eq_true p277;replace q277:=eq_true q277
          go_wp2_with (first | (go_at_call 61;(with_reducible refine (diapasonref27_last.calls k _ _ ((rd_T66 l0 (ji5)).f0) t278 _ ?side1 ?side2 A8.out).mono ?_);(case side1 => exact cb_ HR277_0 HB);(case side2 => exact HC277_0.out);rintro e w' ⟨rfl, ⟨nd, rfl⟩⟩;(try first | exact ⟨rfl, _, World.drewN_drewN _ _ _⟩ | exact ⟨rfl, _, Eq.trans (World.drewN_drewN _ _ _) (congrArg (World.drewN _) (Nat.add_assoc _ _ _))⟩);have p279 : 0 ≤ ((ji5) : Int):=of_decide_eq_true (by first | (with_reducible assumption) | assumption);have q279 : (ji5) < (l0.length : Int):=of_decide_eq_true (by first | (with_reducible assumption) | assumption);obtain ⟨ad279, A279_0, c279_0, e279, hx279_0, hx279_1, hl279_0, hi279_0⟩:=at_T66 HR0.out (ji5) p279 q279;obtain rfl : ad277 = ad279:=(by injection e279);replace hx279_0:=(HB.out.cell (World.block_lt_of_cell? w _ hx279_0)).trans hx279_0;replace hx279_1:=(HB.out.cell (World.block_lt_of_cell? w _ hx279_1)).trans hx279_1;have HR279_0:=am_ hi279_0;have HC279_0:=am_ hl279_0;clear hi279_0 hl279_0;replace p279:=eq_true p279;replace q279:=eq_true q279;have ea_:=Option.some.inj (hx277_0.symm.trans hx279_0);injection ea_ with ea_ en_ ec_;subst ea_;subst ec_;clear en_;obtain ⟨i014, hi014, _, hsz14, _⟩:=info_parts info5;obtain ⟨hcut14, hA14, hC14⟩:=print_take_of (P:=Tryd.prog) (Value.int .u8) 0 64 5 .i64 Tryd.underlying64 hi014 hsz14 A277_0 c277_0 ((rd_T66 l0 (ji5)).f0) t278 (of_decide_eq_true (by first | (with_reducible assumption) | assumption)) (of_decide_eq_true (by first | (with_reducible assumption) | assumption)) HC279_0.out;have HR280:=am_ (Kd.C_of_reads (h1:=fun _ => rfl) (hA14 _ (Kd.reads_of_C HR279_0.out)));have HC280:=am_ hC14;clear hA14 hC14 hi014 hsz14) | ((with_reducible refine gate_builtin (b:=.append) (xs:=#[.tmp 20, .tmp 28]) rfl ?_);(try (refine gate_guard (by rfl) ?_;dsimp only));at_builtin;refine Kd.R_append_rows (Kd.int .u8) (w0:=w) w.heap.size rfl (.tmp 20) (.tmp 28) 64 5 (.int .u8 0) 1 rfl Tryd.underlying64 info5 rfl (by decide) (by omega) (.slice none 0 0) ([] : List Int) (((rd_T66 l0 (ji5)).f0).take (t278 : Int).toNat) _ _ _ (fun _ => True) (fun _ => False) rfl rfl ?aO ?aR (fun _ _ h => h) (fun _ h => h.elim) ?aF ?aB ?aS ?aL ?_;(case aR => first | (have hl_ : (((rd_T66 l0 (ji5)).f0).take (t278 : Int).toNat).length = t278.toNat:=(by rw [List.length_take];have h_ : (t278 : Int) ≤ (((rd_T66 l0 (ji5)).f0).length : Int):=of_decide_eq_true (by first | (with_reducible assumption) | assumption);omega);repeat (first | exact (Kd.C_below HR280.out (by repeat (first | (with_reducible first | exact HB.out | apply b1_|apply b2_|apply b3_) | exact HB.out))) | exact (by have hx_:=(Kd.C_below HR280.out (by repeat (first | (with_reducible first | exact HB.out | apply b1_|apply b2_|apply b3_) | exact HB.out)));rw [hl_] at hx_;exact hx_) | (with_reducible refine Kd.C_alloc ?_ _) | (with_reducible refine Kd.C_drewN ?_ _) | (with_reducible refine Kd.C_drew ?_))) | (repeat (first | exact (Kd.C_below HR280.out (by repeat (first | (with_reducible first | exact HB.out | apply b1_|apply b2_|apply b3_) | exact HB.out))) | (with_reducible refine Kd.C_alloc ?_ _) | (with_reducible refine Kd.C_drewN ?_ _) | (with_reducible refine Kd.C_drew ?_))));(case aB => exact (by repeat (first | (with_reducible first | exact HB.out | apply b1_|apply b2_|apply b3_) | exact HB.out)));(case aF => exact (fun _ _ => trivial));(case aO => exact ((Kd.R_nil _ _ _ _ (fun _ => True))));(case aS => exact (bz_ HB));(case aL => have:=LMc12.out;have hlx_:=(show (((rd_T66 l0 (ji5)).f0).take (t278 : Int).toNat).length = t278.toNat from (by rw [List.length_take];have h_ : (t278 : Int) ≤ (((rd_T66 l0 (ji5)).f0).length : Int):=of_decide_eq_true (by first | (with_reducible assumption) | assumption);omega));omega);intro v282 w15 ho hb hg hat;rw [← Ny281.out] at ho;replace HB:=am_ hb;have HO283:=am_ ho;clear ho hb hg hat) | ((with_reducible refine gate_builtin (b:=.append) (xs:=#[.tmp 30, .tmp 31]) rfl ?_);(try (refine gate_guard (by rfl) ?_;dsimp only));at_builtin;refine Kd.R_append (Kd.int .u8) (w0:=w) w.heap.size rfl (.tmp 30) (.tmp 31) 64 5 (.int .u8 0) 1 rfl Tryd.underlying64 info5 rfl (by decide) (by omega) v282 y281 2 [.int .u8 2] (fun _ => True) (fun _ => False) rfl rfl ?aP (fun _ hk => hk.elim) ?aF ?aO ?aB ?aS ?aL ?_;(case aP => exact rfl);(case aB => exact (by repeat (first | (with_reducible first | exact HB.out | apply b1_|apply b2_|apply b3_) | exact HB.out)));(case aF => exact (fun _ _ => trivial));(case aO => exact (ru_ HO283));(case aS => exact (bz_ HB));(case aL => have:=LMc13.out;omega);intro v285 w16 ho hb hg hat;rw [← Ny284.out] at ho;replace HB:=am_ hb;have HO286:=am_ ho;clear HO283;clear ho hb hg hat))
          repeat (go_quiet (first | (go_at_call 61;(with_reducible refine (diapasonref27_last.calls k _ _ ((rd_T66 l0 (ji5)).f0) t278 _ ?side1 ?side2 A8.out).mono ?_);(case side1 => exact cb_ HR277_0 HB);(case side2 => exact HC277_0.out);rintro e w' ⟨rfl, ⟨nd, rfl⟩⟩;(try first | exact ⟨rfl, _, World.drewN_drewN _ _ _⟩ | exact ⟨rfl, _, Eq.trans (World.drewN_drewN _ _ _) (congrArg (World.drewN _) (Nat.add_assoc _ _ _))⟩);have p279 : 0 ≤ ((ji5) : Int):=of_decide_eq_true (by first | (with_reducible assumption) | assumption);have q279 : (ji5) < (l0.length : Int):=of_decide_eq_true (by first | (with_reducible assumption) | assumption);obtain ⟨ad279, A279_0, c279_0, e279, hx279_0, hx279_1, hl279_0, hi279_0⟩:=at_T66 HR0.out (ji5) p279 q279;obtain rfl : ad277 = ad279:=(by injection e279);replace hx279_0:=(HB.out.cell (World.block_lt_of_cell? w _ hx279_0)).trans hx279_0;replace hx279_1:=(HB.out.cell (World.block_lt_of_cell? w _ hx279_1)).trans hx279_1;have HR279_0:=am_ hi279_0;have HC279_0:=am_ hl279_0;clear hi279_0 hl279_0;replace p279:=eq_true p279;replace q279:=eq_true q279;have ea_:=Option.some.inj (hx277_0.symm.trans hx279_0);injection ea_ with ea_ en_ ec_;subst ea_;subst ec_;clear en_;obtain ⟨i014, hi014, _, hsz14, _⟩:=info_parts info5;obtain ⟨hcut14, hA14, hC14⟩:=print_take_of (P:=Tryd.prog) (Value.int .u8) 0 64 5 .i64 Tryd.underlying64 hi014 hsz14 A277_0 c277_0 ((rd_T66 l0 (ji5)).f0) t278 (of_decide_eq_true (by first | (with_reducible assumption) | assumption)) (of_decide_eq_true (by first | (with_reducible assumption) | assumption)) HC279_0.out;have HR280:=am_ (Kd.C_of_reads (h1:=fun _ => rfl) (hA14 _ (Kd.reads_of_C HR279_0.out)));have HC280:=am_ hC14;clear hA14 hC14 hi014 hsz14) | ((with_reducible refine gate_builtin (b:=.append) (xs:=#[.tmp 20, .tmp 28]) rfl ?_);(try (refine gate_guard (by rfl) ?_;dsimp only));at_builtin;refine Kd.R_append_rows (Kd.int .u8) (w0:=w) w.heap.size rfl (.tmp 20) (.tmp 28) 64 5 (.int .u8 0) 1 rfl Tryd.underlying64 info5 rfl (by decide) (by omega) (.slice none 0 0) ([] : List Int) (((rd_T66 l0 (ji5)).f0).take (t278 : Int).toNat) _ _ _ (fun _ => True) (fun _ => False) rfl rfl ?aO ?aR (fun _ _ h => h) (fun _ h => h.elim) ?aF ?aB ?aS ?aL ?_;(case aR => first | (have hl_ : (((rd_T66 l0 (ji5)).f0).take (t278 : Int).toNat).length = t278.toNat:=(by rw [List.length_take];have h_ : (t278 : Int) ≤ (((rd_T66 l0 (ji5)).f0).length : Int):=of_decide_eq_true (by first | (with_reducible assumption) | assumption);omega);repeat (first | exact (Kd.C_below HR280.out (by repeat (first | (with_reducible first | exact HB.out | apply b1_|apply b2_|apply b3_) | exact HB.out))) | exact (by have hx_:=(Kd.C_below HR280.out (by repeat (first | (with_reducible first | exact HB.out | apply b1_|apply b2_|apply b3_) | exact HB.out)));rw [hl_] at hx_;exact hx_) | (with_reducible refine Kd.C_alloc ?_ _) | (with_reducible refine Kd.C_drewN ?_ _) | (with_reducible refine Kd.C_drew ?_))) | (repeat (first | exact (Kd.C_below HR280.out (by repeat (first | (with_reducible first | exact HB.out | apply b1_|apply b2_|apply b3_) | exact HB.out))) | (with_reducible refine Kd.C_alloc ?_ _) | (with_reducible refine Kd.C_drewN ?_ _) | (with_reducible refine Kd.C_drew ?_))));(case aB => exact (by repeat (first | (with_reducible first | exact HB.out | apply b1_|apply b2_|apply b3_) | exact HB.out)));(case aF => exact (fun _ _ => trivial));(case aO => exact ((Kd.R_nil _ _ _ _ (fun _ => True))));(case aS => exact (bz_ HB));(case aL => have:=LMc12.out;have hlx_:=(show (((rd_T66 l0 (ji5)).f0).take (t278 : Int).toNat).length = t278.toNat from (by rw [List.length_take];have h_ : (t278 : Int) ≤ (((rd_T66 l0 (ji5)).f0).length : Int):=of_decide_eq_true (by first | (with_reducible assumption) | assumption);omega));omega);intro v282 w15 ho hb hg hat;rw [← Ny281.out] at ho;replace HB:=am_ hb;have HO283:=am_ ho;clear ho hb hg hat) | ((with_reducible refine gate_builtin (b:=.append) (xs:=#[.tmp 30, .tmp 31]) rfl ?_);(try (refine gate_guard (by rfl) ?_;dsimp only));at_builtin;refine Kd.R_append (Kd.int .u8) (w0:=w) w.heap.size rfl (.tmp 30) (.tmp 31) 64 5 (.int .u8 0) 1 rfl Tryd.underlying64 info5 rfl (by decide) (by omega) v282 y281 2 [.int .u8 2] (fun _ => True) (fun _ => False) rfl rfl ?aP (fun _ hk => hk.elim) ?aF ?aO ?aB ?aS ?aL ?_;(case aP => exact rfl);(case aB => exact (by repeat (first | (with_reducible first | exact HB.out | apply b1_|apply b2_|apply b3_) | exact HB.out)));(case aF => exact (fun _ _ => trivial));(case aO => exact (ru_ HO283));(case aS => exact (bz_ HB));(case aL => have:=LMc13.out;omega);intro v285 w16 ho hb hg hat;rw [← Ny284.out] at ho;replace HB:=am_ hb;have HO286:=am_ ho;clear HO283;clear ho hb hg hat));try go_wp2_with (first | (go_at_call 61;(with_reducible refine (diapasonref27_last.calls k _ _ ((rd_T66 l0 (ji5)).f0) t278 _ ?side1 ?side2 A8.out).mono ?_);(case side1 => exact cb_ HR277_0 HB);(case side2 => exact HC277_0.out);rintro e w' ⟨rfl, ⟨nd, rfl⟩⟩;(try first | exact ⟨rfl, _, World.drewN_drewN _ _ _⟩ | exact ⟨rfl, _, Eq.trans (World.drewN_drewN _ _ _) (congrArg (World.drewN _) (Nat.add_assoc _ _ _))⟩);have p279 : 0 ≤ ((ji5) : Int):=of_decide_eq_true (by first | (with_reducible assumption) | assumption);have q279 : (ji5) < (l0.length : Int):=of_decide_eq_true (by first | (with_reducible assumption) | assumption);obtain ⟨ad279, A277_0, c277_0, e279, hx279_0, hx279_1, hl279_0, hi279_0⟩:=at_T66 HR0.out (ji5) p279 q279;obtain rfl : ad277 = ad279:=(by injection e279);replace hx279_0:=(HB.out.cell (World.block_lt_of_cell? w _ hx279_0)).trans hx279_0;replace hx279_1:=(HB.out.cell (World.block_lt_of_cell? w _ hx279_1)).trans hx279_1;have HR279_0:=am_ hi279_0;have HC279_0:=am_ hl279_0;clear hi279_0 hl279_0;replace p279:=eq_true p279;replace q279:=eq_true q279;have ea_:=Option.some.inj (hx277_0.symm.trans hx279_0);injection ea_ with ea_ en_ ec_;subst ea_;subst ec_;clear en_;obtain ⟨i014, hi014, _, hsz14, _⟩:=info_parts info5;obtain ⟨hcut14, hA14, hC14⟩:=print_take_of (P:=Tryd.prog) (Value.int .u8) 0 64 5 .i64 Tryd.underlying64 hi014 hsz14 A277_0 c277_0 ((rd_T66 l0 (ji5)).f0) t278 (of_decide_eq_true (by first | (with_reducible assumption) | assumption)) (of_decide_eq_true (by first | (with_reducible assumption) | assumption)) HC279_0.out;have HR280:=am_ (Kd.C_of_reads (h1:=fun _ => rfl) (hA14 _ (Kd.reads_of_C HR279_0.out)));have HC280:=am_ hC14;clear hA14 hC14 hi014 hsz14) | ((with_reducible refine gate_builtin (b:=.append) (xs:=#[.tmp 20, .tmp 28]) rfl ?_);(try (refine gate_guard (by rfl) ?_;dsimp only));at_builtin;refine Kd.R_append_rows (Kd.int .u8) (w0:=w) w.heap.size rfl (.tmp 20) (.tmp 28) 64 5 (.int .u8 0) 1 rfl Tryd.underlying64 info5 rfl (by decide) (by omega) (.slice none 0 0) ([] : List Int) (((rd_T66 l0 (ji5)).f0).take (t278 : Int).toNat) _ _ _ (fun _ => True) (fun _ => False) rfl rfl ?aO ?aR (fun _ _ h => h) (fun _ h => h.elim) ?aF ?aB ?aS ?aL ?_;(case aR => first | (have hl_ : (((rd_T66 l0 (ji5)).f0).take (t278 : Int).toNat).length = t278.toNat:=(by rw [List.length_take];have h_ : (t278 : Int) ≤ (((rd_T66 l0 (ji5)).f0).length : Int):=of_decide_eq_true (by first | (with_reducible assumption) | assumption);omega);repeat (first | exact (Kd.C_below HR280.out (by repeat (first | (with_reducible first | exact HB.out | apply b1_|apply b2_|apply b3_) | exact HB.out))) | exact (by have hx_:=(Kd.C_below HR280.out (by repeat (first | (with_reducible first | exact HB.out | apply b1_|apply b2_|apply b3_) | exact HB.out)));rw [hl_] at hx_;exact hx_) | (with_reducible refine Kd.C_alloc ?_ _) | (with_reducible refine Kd.C_drewN ?_ _) | (with_reducible refine Kd.C_drew ?_))) | (repeat (first | exact (Kd.C_below HR280.out (by repeat (first | (with_reducible first | exact HB.out | apply b1_|apply b2_|apply b3_) | exact HB.out))) | (with_reducible refine Kd.C_alloc ?_ _) | (with_reducible refine Kd.C_drewN ?_ _) | (with_reducible refine Kd.C_drew ?_))));(case aB => exact (by repeat (first | (with_reducible first | exact HB.out | apply b1_|apply b2_|apply b3_) | exact HB.out)));(case aF => exact (fun _ _ => trivial));(case aO => exact ((Kd.R_nil _ _ _ _ (fun _ => True))));(case aS => exact (bz_ HB));(case aL => have:=LMc12.out;have hlx_:=(show (((rd_T66 l0 (ji5)).f0).take (t278 : Int).toNat).length = t278.toNat from (by rw [List.length_take];have h_ : (t278 : Int) ≤ (((rd_T66 l0 (ji5)).f0).length : Int):=of_decide_eq_true (by first | (with_reducible assumption) | assumption);omega));omega);intro v282 w15 ho hb hg hat;rw [← Ny281.out] at ho;replace HB:=am_ hb;have HO283:=am_ ho;clear ho hb hg hat) | ((with_reducible refine gate_builtin (b:=.append) (xs:=#[.tmp 30, .tmp 31]) rfl ?_);(try (refine gate_guard (by rfl) ?_;dsimp only));at_builtin;refine Kd.R_append (Kd.int .u8) (w0:=w) w.heap.size rfl (.tmp 30) (.tmp 31) 64 5 (.int .u8 0) 1 rfl Tryd.underlying64 info5 rfl (by decide) (by omega) v282 y281 2 [.int .u8 2] (fun _ => True) (fun _ => False) rfl rfl ?aP (fun _ hk => hk.elim) ?aF ?aO ?aB ?aS ?aL ?_;(case aP => exact rfl);(case aB => exact (by repeat (first | (with_reducible first | exact HB.out | apply b1_|apply b2_|apply b3_) | exact HB.out)));(case aF => exact (fun _ _ => trivial));(case aO => exact (ru_ HO283));(case aS => exact (bz_ HB));(case aL => have:=LMc13.out;omega);intro v285 w16 ho hb hg hat;rw [← Ny284.out] at ho;replace HB:=am_ hb;have HO286:=am_ ho;clear HO283;clear ho hb hg hat)))
          go_meet
          case rel => exact ⟨_, (y284), H', ⟨by first | omega | exact Nat.le_refl _⟩, ⟨by (with_reducible repeat (first | apply Kd.R_alloc | apply Kd.R_drewN | apply Kd.R_drew));exact HO286.out⟩, ⟨by repeat (first | (with_reducible first | exact HB.out | apply b1_|apply b2_|apply b3_) | exact HB.out)⟩⟩
         ·rw [if_neg c13] at H;exact absurd H (by simp)
        ·rw [if_neg c12] at H;exact absurd H (by simp)
       ·rw [if_neg c11] at H;exact absurd H (by simp)
      ·rw [if_neg c10] at H;exact absurd H (by simp)
    ·rw [if_neg c7] at H;exact absurd H (by simp)
   ·rw [if_neg c6] at H;exact absurd H (by simp)
  ·rw [if_neg c4] at H;have c4b0 : decide (0 < a1) = false:=decide_eq_false c4;clear c4;(first | rw [c4b0] | (simp only [i64_w, i32_w];rw [c4b0]) | skip);have H':=am_ H;clear H
   go_wp2
   repeat (go_quiet (fail);try go_wp2)
   go_meet
   case rel => exact ⟨_, (([] : List Int)), H', ⟨by first | omega | exact Nat.le_refl _⟩, ⟨by first | exact Kd.R_nil _ _ _ _ _ | exact Kd.N_nil _ _ _ _ _ | exact Kd.V_nil _ _ _ _ _ | exact Kd.Q_nil _ _ _ _ _ | exact Kd.S_nil _ _ _ _ _⟩, ⟨by repeat (first | (with_reducible first | exact HB.out | apply b1_|apply b2_|apply b3_) | exact HB.out)⟩⟩
 case rest =>
  clear HC3;(try clear c1);(try clear c2);(try clear p2);(try clear q2);(try clear hx2);(try clear c4);(try clear c4b0);(try clear c6);(try clear c6b0);(try clear p6);(try clear c7);(try clear c7b0);(try clear c9);(try clear c9b0);(try clear c10);(try clear c10b0);(try clear c10b1);(try clear c11);(try clear c11b0);(try clear c11b1);(try clear c12);(try clear c13);(try clear hx277_0);(try clear hx277_1);(try clear hx279_0);(try clear hx279_1);(try clear p277);(try clear p279);(try clear q277);(try clear q279);obtain ⟨kq, x5_2, HA, HJ2, HO_5, HB⟩:=hcut
  cases kq with
  | zero => exact absurd HA.out (by simp [diapasonref27_follows.j0])
  | succ kj2 =>
   have H:=HA.out;clear HA;simp only [diapasonref27_follows.j0] at H
   by_cases c17 : 0 ≤ a1
   ·rw [if_pos c17] at H;have c17b0 : decide (0 ≤ a1) = true:=decide_eq_true c17;clear c17
    by_cases c18 : a1 < (l0.length : Int)
    ·rw [if_pos c18] at H;have c18b0 : decide (a1 < (l0.length : Int)) = true:=decide_eq_true c18;clear c18
     by_cases c19 : (((rd_T66 l0 a1).f0).length : Int) < (x5_2.length : Int)
     ·rw [if_pos c19] at H;have c19b0 : decide ((((rd_T66 l0 a1).f0).length : Int) < (x5_2.length : Int)) = true:=decide_eq_true c19;have c19b1 : decide (((rd_T66 l0 a1).f0).length < x5_2.length) = true:=decide_eq_true (Int.ofNat_lt.mp c19);clear c19;obtain rfl:=Option.some.inj H;have p287 : 0 ≤ (a1 : Int):=of_decide_eq_true (by first | (with_reducible assumption) | assumption);have q287 : a1 < (l0.length : Int):=of_decide_eq_true (by first | (with_reducible assumption) | assumption);obtain ⟨ad287, A287_0, c287_0, e287, hx287_0, hx287_1, hl287_0, hi287_0⟩:=at_T66 HR0.out a1 p287 q287
      cases e287
      replace hx287_0:=(HB.out.cell (World.block_lt_of_cell? w _ hx287_0)).trans hx287_0;replace hx287_1:=(HB.out.cell (World.block_lt_of_cell? w _ hx287_1)).trans hx287_1;have HR287_0:=am_ hi287_0;have HC287_0:=am_ hl287_0;clear hi287_0 hl287_0;replace p287:=eq_true p287;replace q287:=eq_true q287;obtain ⟨Ao20, co20, eo20⟩:=Kd.R_slice HO_5.out;subst eo20
      go_wp2
      repeat (go_quiet (fail);try go_wp2)
      go_ret
      exact ⟨by first | rfl | (simp [errW_none, errW_some] <;> rfl) | (simp [*, errW_none, errW_some] <;> rfl), by repeat (first | (with_reducible first | exact HB.out | apply b1_|apply b2_|apply b3_) | exact HB.out)⟩
     ·rw [if_neg c19] at H;have c19b0 : decide ((((rd_T66 l0 a1).f0).length : Int) < (x5_2.length : Int)) = false:=decide_eq_false c19;have c19b1 : decide (((rd_T66 l0 a1).f0).length < x5_2.length) = false:=decide_eq_false (fun h => c19 (Int.ofNat_lt.mpr h));clear c19;have H':=am_ H;clear H;have p287 : 0 ≤ (a1 : Int):=of_decide_eq_true (by first | (with_reducible assumption) | assumption);have q287 : a1 < (l0.length : Int):=of_decide_eq_true (by first | (with_reducible assumption) | assumption);obtain ⟨ad287, A287_0, c287_0, e287, hx287_0, hx287_1, hl287_0, hi287_0⟩:=at_T66 HR0.out a1 p287 q287
      cases e287
      replace hx287_0:=(HB.out.cell (World.block_lt_of_cell? w _ hx287_0)).trans hx287_0;replace hx287_1:=(HB.out.cell (World.block_lt_of_cell? w _ hx287_1)).trans hx287_1;have HR287_0:=am_ hi287_0;have HC287_0:=am_ hl287_0;clear hi287_0 hl287_0;replace p287:=eq_true p287;replace q287:=eq_true q287;obtain ⟨Ao21, co21, eo21⟩:=Kd.R_slice HO_5.out;subst eo21
      go_wp2
      repeat (go_quiet (fail);try go_wp2)
      go_loopg [8] kj2 (fun kq v8 w' => ∃ (x8_2 : Int), v8 = .int .i64 x8_2 ∧ Aside0 (diapasonref27_follows.l0 kq x5_2 ((rd_T66 l0 a1).f0) x8_2 = some r) ∧ Aside0 (kq ≤ kj2) ∧ Aside0 (Kd.R (Kd.int .u8) 5 w' w.heap.size (fun _ => True) (.slice Ao21 x5_2.length co21) x5_2) ∧ Aside0 (Below w.heap.size w w'))
      case atStart => exact ⟨(0), (by first | rfl | (simp;done) | (simp [*];done)), H', ⟨Nat.le_refl _⟩, ⟨by (with_reducible repeat (first | apply Kd.R_alloc | apply Kd.R_drewN | apply Kd.R_drew));exact HO_5.out⟩, ⟨by repeat (first | (with_reducible first | exact HB.out | apply b1_|apply b2_|apply b3_) | exact HB.out)⟩⟩
      case round =>
       clear H';(try clear c1);(try clear c2);(try clear p2);(try clear q2);(try clear hx2);(try clear c4);(try clear c4b0);(try clear c6);(try clear c6b0);(try clear p6);(try clear c7);(try clear c7b0);(try clear c9);(try clear c9b0);(try clear c10);(try clear c10b0);(try clear c10b1);(try clear c11);(try clear c11b0);(try clear c11b1);(try clear c12);(try clear c13);(try clear c17);(try clear c17b0);(try clear c18);(try clear c18b0);(try clear c19);(try clear c19b0);(try clear c19b1);(try clear hx277_0);(try clear hx277_1);(try clear hx279_0);(try clear hx279_1);(try clear hx287_0);(try clear hx287_1);(try clear p2);(try clear p277);(try clear p279);(try clear p287);(try clear p6);(try clear q2);(try clear q277);(try clear q279);(try clear q287);obtain ⟨x8_2, rfl, HA, HK2, HO_5, HB⟩:=hrel
       cases gk with
       | zero => exact absurd HA.out (by simp [diapasonref27_follows.l0])
       | succ k2 =>
        have H:=HA.out;clear HA;simp only [diapasonref27_follows.l0] at H
        by_cases c22 : x8_2 < (((rd_T66 l0 a1).f0).length : Int)
        ·rw [if_pos c22] at H;have c22b0 : decide (x8_2 < (((rd_T66 l0 a1).f0).length : Int)) = true:=decide_eq_true c22;clear c22
         by_cases c23 : x8_2 < (x5_2.length : Int)
         ·rw [if_pos c23] at H;have c23b0 : decide (x8_2 < (x5_2.length : Int)) = true:=decide_eq_true c23;clear c23
          by_cases c24 : 0 ≤ x8_2
          ·rw [if_pos c24] at H;have c24b0 : decide (0 ≤ x8_2) = true:=decide_eq_true c24;clear c24
           by_cases c25 : (rd ((rd_T66 l0 a1).f0) x8_2) = (rd x5_2 x8_2)
           ·rw [if_pos c25] at H;have c25b0 : ((rd ((rd_T66 l0 a1).f0) x8_2) == (rd x5_2 x8_2)) = true:=beq_iff_eq.mpr c25;have c25b1 : ((rd ((rd_T66 l0 a1).f0) x8_2) != (rd x5_2 x8_2)) = false:=bne_eq_false_iff_eq.mpr c25;clear c25
            by_cases c26 : x8_2 ≥ (x5_2.length : Int)
            ·rw [if_pos c26] at H;have c26b0 : decide ((x5_2.length : Int) ≤ x8_2) = true:=decide_eq_true c26;clear c26
             by_cases c27 : (rd ((rd_T66 l0 a1).f0) x8_2) = 1
             ·rw [if_pos c27] at H;have c27b0 : ((rd ((rd_T66 l0 a1).f0) x8_2) == 1) = true:=beq_iff_eq.mpr c27;have c27b1 : ((rd ((rd_T66 l0 a1).f0) x8_2) != 1) = false:=bne_eq_false_iff_eq.mpr c27;clear c27;have H':=am_ H;clear H;have p288 : 0 ≤ (x8_2 : Int):=of_decide_eq_true (by first | (with_reducible assumption) | assumption);have q288 : x8_2 < (((rd_T66 l0 a1).f0).length : Int):=of_decide_eq_true (by first | (with_reducible assumption) | assumption);obtain ⟨ad288, e288, hx288_0⟩:=Kd.at_int HR287_0.out x8_2 p288 q288
              cases e288
              replace hx288_0:=(HB.out.cell (World.block_lt_of_cell? w _ hx288_0)).trans hx288_0;replace p288:=eq_true p288;replace q288:=eq_true q288;have p289 : 0 ≤ (x8_2 : Int):=of_decide_eq_true (by first | (with_reducible assumption) | assumption);have q289 : x8_2 < (x5_2.length : Int):=of_decide_eq_true (by first | (with_reducible assumption) | assumption);obtain ⟨ad289, e289, hx289_0⟩:=Kd.at_int (Kd.R_reads' HO_5.out).2.2 x8_2 p289 q289
              cases e289
              replace p289:=eq_true p289;replace q289:=eq_true q289;have p290 : 0 ≤ (x8_2 : Int):=of_decide_eq_true (by first | (with_reducible assumption) | assumption);have q290 : x8_2 < (((rd_T66 l0 a1).f0).length : Int):=of_decide_eq_true (by first | (with_reducible assumption) | assumption);obtain ⟨ad290, e290, hx290_0⟩:=Kd.at_int HR287_0.out x8_2 p290 q290;obtain rfl : ad288 = ad290:=(by injection e290)
              replace hx290_0:=(HB.out.cell (World.block_lt_of_cell? w _ hx290_0)).trans hx290_0;replace p290:=eq_true p290;replace q290:=eq_true q290
              go_wp2
              repeat (go_quiet (fail);try go_wp2)
              go_roundg k2
              case measure => have:=HJ2.out;have:=HK2.out;omega
              case rel => exact ⟨(wrap64 (x8_2 + 1)), (by first | rfl | (simp;done) | (simp [*];done)), H', ⟨by have:=HJ2.out;have:=HK2.out;omega⟩, ⟨by (with_reducible repeat (first | apply Kd.R_alloc | apply Kd.R_drewN | apply Kd.R_drew));exact HO_5.out⟩, ⟨by repeat (first | (with_reducible first | exact HB.out | apply b1_|apply b2_|apply b3_) | exact HB.out)⟩⟩
             ·rw [if_neg c27] at H;have c27b0 : ((rd ((rd_T66 l0 a1).f0) x8_2) == 1) = false:=beq_eq_false_iff_ne.mpr c27;have c27b1 : ((rd ((rd_T66 l0 a1).f0) x8_2) != 1) = true:=bne_iff_ne.mpr c27;obtain rfl:=Option.some.inj H;have p288 : 0 ≤ (x8_2 : Int):=of_decide_eq_true (by first | (with_reducible assumption) | assumption);have q288 : x8_2 < (((rd_T66 l0 a1).f0).length : Int):=of_decide_eq_true (by first | (with_reducible assumption) | assumption);obtain ⟨ad288, e288, hx288_0⟩:=Kd.at_int HR287_0.out x8_2 p288 q288
              cases e288
              replace hx288_0:=(HB.out.cell (World.block_lt_of_cell? w _ hx288_0)).trans hx288_0;replace p288:=eq_true p288;replace q288:=eq_true q288;have p289 : 0 ≤ (x8_2 : Int):=of_decide_eq_true (by first | (with_reducible assumption) | assumption);have q289 : x8_2 < (x5_2.length : Int):=of_decide_eq_true (by first | (with_reducible assumption) | assumption);obtain ⟨ad289, e289, hx289_0⟩:=Kd.at_int (Kd.R_reads' HO_5.out).2.2 x8_2 p289 q289
              cases e289
              replace p289:=eq_true p289;replace q289:=eq_true q289;have p290 : 0 ≤ (x8_2 : Int):=of_decide_eq_true (by first | (with_reducible assumption) | assumption);have q290 : x8_2 < (((rd_T66 l0 a1).f0).length : Int):=of_decide_eq_true (by first | (with_reducible assumption) | assumption);obtain ⟨ad290, e290, hx290_0⟩:=Kd.at_int HR287_0.out x8_2 p290 q290;obtain rfl : ad288 = ad290:=(by injection e290)
              replace hx290_0:=(HB.out.cell (World.block_lt_of_cell? w _ hx290_0)).trans hx290_0;replace p290:=eq_true p290;replace q290:=eq_true q290
              go_wp2
              repeat (go_quiet (fail);try go_wp2)
              go_ret
              exact ⟨by first | rfl | (simp [errW_none, errW_some] <;> rfl) | (simp [*, errW_none, errW_some] <;> rfl), by repeat (first | (with_reducible first | exact HB.out | apply b1_|apply b2_|apply b3_) | exact HB.out)⟩
            ·rw [if_neg c26] at H;have c26b0 : decide ((x5_2.length : Int) ≤ x8_2) = false:=decide_eq_false c26;clear c26;have H':=am_ H;clear H;have p288 : 0 ≤ (x8_2 : Int):=of_decide_eq_true (by first | (with_reducible assumption) | assumption);have q288 : x8_2 < (((rd_T66 l0 a1).f0).length : Int):=of_decide_eq_true (by first | (with_reducible assumption) | assumption);obtain ⟨ad288, e288, hx288_0⟩:=Kd.at_int HR287_0.out x8_2 p288 q288
             cases e288
             replace hx288_0:=(HB.out.cell (World.block_lt_of_cell? w _ hx288_0)).trans hx288_0;replace p288:=eq_true p288;replace q288:=eq_true q288;have p289 : 0 ≤ (x8_2 : Int):=of_decide_eq_true (by first | (with_reducible assumption) | assumption);have q289 : x8_2 < (x5_2.length : Int):=of_decide_eq_true (by first | (with_reducible assumption) | assumption);obtain ⟨ad289, e289, hx289_0⟩:=Kd.at_int (Kd.R_reads' HO_5.out).2.2 x8_2 p289 q289
             cases e289
             replace p289:=eq_true p289;replace q289:=eq_true q289
             go_wp2
             repeat (go_quiet (fail);try go_wp2)
             go_roundg k2
             case measure => have:=HJ2.out;have:=HK2.out;omega
             case rel => exact ⟨(wrap64 (x8_2 + 1)), (by first | rfl | (simp;done) | (simp [*];done)), H', ⟨by have:=HJ2.out;have:=HK2.out;omega⟩, ⟨by (with_reducible repeat (first | apply Kd.R_alloc | apply Kd.R_drewN | apply Kd.R_drew));exact HO_5.out⟩, ⟨by repeat (first | (with_reducible first | exact HB.out | apply b1_|apply b2_|apply b3_) | exact HB.out)⟩⟩
           ·rw [if_neg c25] at H;have c25b0 : ((rd ((rd_T66 l0 a1).f0) x8_2) == (rd x5_2 x8_2)) = false:=beq_eq_false_iff_ne.mpr c25;have c25b1 : ((rd ((rd_T66 l0 a1).f0) x8_2) != (rd x5_2 x8_2)) = true:=bne_iff_ne.mpr c25;obtain rfl:=Option.some.inj H;have p288 : 0 ≤ (x8_2 : Int):=of_decide_eq_true (by first | (with_reducible assumption) | assumption);have q288 : x8_2 < (((rd_T66 l0 a1).f0).length : Int):=of_decide_eq_true (by first | (with_reducible assumption) | assumption);obtain ⟨ad288, e288, hx288_0⟩:=Kd.at_int HR287_0.out x8_2 p288 q288
            cases e288
            replace hx288_0:=(HB.out.cell (World.block_lt_of_cell? w _ hx288_0)).trans hx288_0;replace p288:=eq_true p288;replace q288:=eq_true q288;have p289 : 0 ≤ (x8_2 : Int):=of_decide_eq_true (by first | (with_reducible assumption) | assumption);have q289 : x8_2 < (x5_2.length : Int):=of_decide_eq_true (by first | (with_reducible assumption) | assumption);obtain ⟨ad289, e289, hx289_0⟩:=Kd.at_int (Kd.R_reads' HO_5.out).2.2 x8_2 p289 q289
            cases e289
            replace p289:=eq_true p289;replace q289:=eq_true q289
            go_wp2
            repeat (go_quiet (fail);try go_wp2)
            go_ret
            exact ⟨by first | rfl | (simp [errW_none, errW_some] <;> rfl) | (simp [*, errW_none, errW_some] <;> rfl), by repeat (first | (with_reducible first | exact HB.out | apply b1_|apply b2_|apply b3_) | exact HB.out)⟩
          ·rw [if_neg c24] at H;exact absurd H (by simp)
         ·rw [if_neg c23] at H;have c23b0 : decide (x8_2 < (x5_2.length : Int)) = false:=decide_eq_false c23;clear c23
          by_cases c28 : x8_2 ≥ (x5_2.length : Int)
          ·rw [if_pos c28] at H;have c28b0 : decide ((x5_2.length : Int) ≤ x8_2) = true:=decide_eq_true c28;clear c28
           by_cases c29 : 0 ≤ x8_2
           ·rw [if_pos c29] at H;have c29b0 : decide (0 ≤ x8_2) = true:=decide_eq_true c29;clear c29
            by_cases c30 : (rd ((rd_T66 l0 a1).f0) x8_2) = 1
            ·rw [if_pos c30] at H;have c30b0 : ((rd ((rd_T66 l0 a1).f0) x8_2) == 1) = true:=beq_iff_eq.mpr c30;have c30b1 : ((rd ((rd_T66 l0 a1).f0) x8_2) != 1) = false:=bne_eq_false_iff_eq.mpr c30;clear c30;have H':=am_ H;clear H;have p291 : 0 ≤ (x8_2 : Int):=of_decide_eq_true (by first | (with_reducible assumption) | assumption);have q291 : x8_2 < (((rd_T66 l0 a1).f0).length : Int):=of_decide_eq_true (by first | (with_reducible assumption) | assumption);obtain ⟨ad291, e291, hx291_0⟩:=Kd.at_int HR287_0.out x8_2 p291 q291
             cases e291
             replace hx291_0:=(HB.out.cell (World.block_lt_of_cell? w _ hx291_0)).trans hx291_0;replace p291:=eq_true p291;replace q291:=eq_true q291
             go_wp2
             repeat (go_quiet (fail);try go_wp2)
             go_roundg k2
             case measure => have:=HJ2.out;have:=HK2.out;omega
             case rel => exact ⟨(wrap64 (x8_2 + 1)), (by first | rfl | (simp;done) | (simp [*];done)), H', ⟨by have:=HJ2.out;have:=HK2.out;omega⟩, ⟨by (with_reducible repeat (first | apply Kd.R_alloc | apply Kd.R_drewN | apply Kd.R_drew));exact HO_5.out⟩, ⟨by repeat (first | (with_reducible first | exact HB.out | apply b1_|apply b2_|apply b3_) | exact HB.out)⟩⟩
            ·rw [if_neg c30] at H;have c30b0 : ((rd ((rd_T66 l0 a1).f0) x8_2) == 1) = false:=beq_eq_false_iff_ne.mpr c30;have c30b1 : ((rd ((rd_T66 l0 a1).f0) x8_2) != 1) = true:=bne_iff_ne.mpr c30;obtain rfl:=Option.some.inj H;have p291 : 0 ≤ (x8_2 : Int):=of_decide_eq_true (by first | (with_reducible assumption) | assumption);have q291 : x8_2 < (((rd_T66 l0 a1).f0).length : Int):=of_decide_eq_true (by first | (with_reducible assumption) | assumption);obtain ⟨ad291, e291, hx291_0⟩:=Kd.at_int HR287_0.out x8_2 p291 q291
             cases e291
             replace hx291_0:=(HB.out.cell (World.block_lt_of_cell? w _ hx291_0)).trans hx291_0;replace p291:=eq_true p291;replace q291:=eq_true q291
             go_wp2
             repeat (go_quiet (fail);try go_wp2)
             go_ret
             exact ⟨by first | rfl | (simp [errW_none, errW_some] <;> rfl) | (simp [*, errW_none, errW_some] <;> rfl), by repeat (first | (with_reducible first | exact HB.out | apply b1_|apply b2_|apply b3_) | exact HB.out)⟩
           ·rw [if_neg c29] at H;exact absurd H (by simp)
          ·rw [if_neg c28] at H;have c28b0 : decide ((x5_2.length : Int) ≤ x8_2) = false:=decide_eq_false c28;clear c28;have H':=am_ H;clear H
           go_wp2
           repeat (go_quiet (fail);try go_wp2)
           go_roundg k2
           case measure => have:=HJ2.out;have:=HK2.out;omega
           case rel => exact ⟨(wrap64 (x8_2 + 1)), (by first | rfl | (simp;done) | (simp [*];done)), H', ⟨by have:=HJ2.out;have:=HK2.out;omega⟩, ⟨by (with_reducible repeat (first | apply Kd.R_alloc | apply Kd.R_drewN | apply Kd.R_drew));exact HO_5.out⟩, ⟨by repeat (first | (with_reducible first | exact HB.out | apply b1_|apply b2_|apply b3_) | exact HB.out)⟩⟩
        ·rw [if_neg c22] at H;have c22b0 : decide (x8_2 < (((rd_T66 l0 a1).f0).length : Int)) = false:=decide_eq_false c22;clear c22;obtain rfl:=Option.some.inj H
         go_wp2
         repeat (go_quiet (fail);try go_wp2)
         go_ret
         exact ⟨by first | rfl | (simp [errW_none, errW_some] <;> rfl) | (simp [*, errW_none, errW_some] <;> rfl), by repeat (first | (with_reducible first | exact HB.out | apply b1_|apply b2_|apply b3_) | exact HB.out)⟩
    ·rw [if_neg c18] at H;exact absurd H (by simp)
   ·rw [if_neg c17] at H;exact absurd H (by simp)

end Go.Proofs.YtfcidgnbocijdaaDoor.PCertLooks
