-- Written by a program of this session (the kit's print, turned: wip/px).
import Derived.Test.YtfcidgnbocijdaaDoorPCertMakesx0
import Derived.Test.YtfcidgnbocijdaaDoorSq2
namespace Go.Proofs.YtfcidgnbocijdaaDoor.PCertMakes
open Go.Proofs.YtfcidgnbocijdaaDoor.Sq
open Go.RowKit Go.Proofs.YtfcidgnbocijdaaDoorW.PrintWords Go.Proofs.YtfcidgnbocijdaaDoorW.PrintLast Go.Proofs.YtfcidgnbocijdaaDoorW.PrintMore
attribute [local go_sem] max2_int min2_int max_two min_two max_three min_three max_four min_four   -- for this text's walks alone
set_option linter.unusedVariables false
set_option linter.unusedSimpArgs false

/-! ### diapasonref26_Stops: function 74 -/
def diapasonref26_Stops.l0 : Nat → Int → Int → List Int → Int → Option (List Int)
 | 0, _, _, _, _ => none
 | k + 1, x0, x1, x5, x6 => if x6 < x0 then (if 0 ≤ x6 then (if (Go.bits .and .i64 (shr .i64 x1 x6) 1) = 1 then (if x5.length < 17592186044416 then (diapasonref26_Stops.l0 k x0 x1 (x5 ++ [x6]) (wrap64 (x6 + 1))) else (none)) else (diapasonref26_Stops.l0 k x0 x1 x5 (wrap64 (x6 + 1)))) else (none)) else (some x5)
def diapasonref26_Stops.f (k : Nat) (a0 : Int) (a1 : Int) : Option (List Int) := diapasonref26_Stops.l0 k a0 a1 ([] : List Int) 0
theorem diapasonref26_Stops.mono_l : ∀ k, (∀ y0 y1 y2 y3, LeO (diapasonref26_Stops.l0 k y0 y1 y2 y3) (diapasonref26_Stops.l0 (k + 1) y0 y1 y2 y3))
 | 0 => fun _ _ _ _ r h => by simp [diapasonref26_Stops.l0] at h
 | k + 1 => by
  have ih0:=diapasonref26_Stops.mono_l k
  ·intro y0 y1 y2 y3
   unfold diapasonref26_Stops.l0
   repeat' first
   | (with_reducible exact ih0 _ _ _ _)
   | (with_reducible exact LeO.refl _)
   | (with_reducible exact LeO.none _)
   | (with_reducible refine LeO.ite ?_ ?_)
   | (with_reducible refine LeO.bind ?_ (fun _ => ?_))
   | exact ih0 _ _ _ _
   | exact LeO.none _
   | refine LeO.ite ?_ ?_
   | refine LeO.bind ?_ (fun _ => ?_)
theorem diapasonref26_Stops.mono : ∀ a0 a1 k, LeO (diapasonref26_Stops.f k a0 a1) (diapasonref26_Stops.f (k + 1) a0 a1) := by
 intro a0 a1 k;have ih0:=diapasonref26_Stops.mono_l k
 unfold diapasonref26_Stops.f
 repeat' first
   | (with_reducible exact ih0 _ _ _ _)
   | (with_reducible exact LeO.refl _)
   | (with_reducible exact LeO.none _)
   | (with_reducible refine LeO.ite ?_ ?_)
   | (with_reducible refine LeO.bind ?_ (fun _ => ?_))
   | exact ih0 _ _ _ _
   | exact LeO.none _
   | refine LeO.ite ?_ ?_
   | refine LeO.bind ?_ (fun _ => ?_)
set_option maxHeartbeats 8000000 in
set_option maxRecDepth 100000 in
theorem diapasonref26_Stops.calls (k : Nat) (a0 : Int) (a1 : Int) (r : List Int) (w : World) (h : diapasonref26_Stops.f k a0 a1 = some r) :
  Calls Tryd.prog 74 #[.int .i64 a0, .int .i64 a1] w fun e w' => ∃ v0_ : Value, e = .returned (v0_) ∧ Kd.R (Kd.int .i64) 3 w' w.heap.size (fun _ => True) v0_ r ∧ Below w.heap.size w w':=by
 have HB:=am_ (Below.refl w.heap.size w);have H : (diapasonref26_Stops.l0 k a0 a1 ([] : List Int) 0) = some r:=h;clear h;have H':=am_ H;clear H;go_enter Tryd.func74, Tryd.ntmps74
 go_wp2
 go_loopg [5, 6] k (fun kq v5 v6 w' => ∃ (x5_1 : List Int) (x6_1 : Int), v6 = .int .i64 x6_1 ∧ Aside0 (diapasonref26_Stops.l0 kq a0 a1 x5_1 x6_1 = some r) ∧ Aside0 (kq ≤ k) ∧ Aside0 (Kd.R (Kd.int .i64) 3 w' w.heap.size (fun _ => True) v5 x5_1) ∧ Aside0 (Below w.heap.size w w'))
 case atStart => exact ⟨(([] : List Int)), (0), (by first | rfl | (simp;done) | (simp [*];done)), H', ⟨Nat.le_refl _⟩, ⟨by first | exact Kd.R_nil _ _ _ _ _ | exact Kd.N_nil _ _ _ _ _ | exact Kd.V_nil _ _ _ _ _ | exact Kd.Q_nil _ _ _ _ _ | exact Kd.S_nil _ _ _ _ _⟩, ⟨by repeat (first | (with_reducible first | exact HB.out | apply b1_|apply b2_|apply b3_) | exact HB.out)⟩⟩
 case round =>
  clear H';(try clear p2);obtain ⟨x5_1, x6_1, rfl, HA, HK1, HO_5, HB⟩:=hrel
  cases gk with
  | zero => exact absurd HA.out (by simp [diapasonref26_Stops.l0])
  | succ k1 =>
   have H:=HA.out;clear HA;simp only [diapasonref26_Stops.l0] at H
   by_cases c3 : x6_1 < a0
   ·rw [if_pos c3] at H;have c3b0 : decide (x6_1 < a0) = true:=decide_eq_true c3;clear c3
    by_cases c4 : 0 ≤ x6_1
    ·rw [if_pos c4] at H;have c4b0:=eq_true c4;have c4b1 : decide (0 ≤ x6_1) = true:=decide_eq_true c4;clear c4;obtain ⟨ji5, hji5⟩ : ∃ j_ : Int, (shr .i64 a1 x6_1) = j_:=⟨_, rfl⟩
     replace H : (if (Go.bits .and .i64 (ji5) 1) = 1 then (if x5_1.length < 17592186044416 then (diapasonref26_Stops.l0 k1 a0 a1 (x5_1 ++ [x6_1]) (wrap64 (x6_1 + 1))) else (none)) else (diapasonref26_Stops.l0 k1 a0 a1 x5_1 (wrap64 (x6_1 + 1)))) = some r:=by first | (rw [hji5] at H;exact H) | (simp only [hji5] at H ⊢;exact H)
     have hji5_ : (a1 / 2 ^ min x6_1.toNat 64) = ji5:=hji5;have hji5z : x6_1 ≤ 64 → (a1 / 2 ^ x6_1.toNat) = ji5:=shr_small hji5
     by_cases c6 : (Go.bits .and .i64 (ji5) 1) = 1
     ·rw [if_pos c6] at H;have c6b0 : ((Go.bits .and .i64 (ji5) 1) == 1) = true:=beq_iff_eq.mpr c6;have c6b1 : ((Go.bits .and .i64 (ji5) 1) != 1) = false:=bne_eq_false_iff_eq.mpr c6;clear c6
      by_cases c7 : x5_1.length < 17592186044416
      ·rw [if_pos c7] at H;have LMc7:=am_ c7;clear c7;obtain ⟨y182, hy182⟩ : ∃ y_ : List Int, y_ = (x5_1 ++ [x6_1]):=⟨_, rfl⟩
       replace H : (diapasonref26_Stops.l0 k1 a0 a1 y182 (wrap64 (x6_1 + 1))) = some r:=by first | (rw [hy182];with_reducible exact H) | (have H2_:=(Option.bind_some _ _).symm.trans H;rw [hy182];with_reducible exact H2_) | (have H2_:=(Option.bind_some _ _).symm.trans H;with_reducible exact H2_) | with_reducible exact H | (rw [hy182];exact H) | exact H
       have Ny182:=am_ hy182;clear hy182;have H':=am_ H;clear H
       go_wp2_with (first | ((with_reducible refine gate_builtin (b:=.append) (xs:=#[.tmp 17, .tmp 19]) rfl ?_);at_builtin;refine Kd.R_append (Kd.int .i64) (w0:=w) w.heap.size rfl (.tmp 17) (.tmp 19) 25 3 (.int .i64 0) 8 rfl Tryd.underlying25 info3 rfl (by decide) (by omega) u5 x5_1 x6_1 [.int .i64 x6_1] (fun _ => True) (fun _ => False) rfl rfl ?aP (fun _ hk => hk.elim) ?aF ?aO ?aB ?aS ?aL ?_;(case aP => exact rfl);(case aB => exact (by repeat (first | (with_reducible first | exact HB.out | apply b1_|apply b2_|apply b3_) | exact HB.out)));(case aF => exact (fun _ _ => trivial));(case aO => exact (ru_ HO_5));(case aS => exact (bz_ HB));(case aL => have:=LMc7.out;omega);intro v183 w8 ho hb hg hat;rw [← Ny182.out] at ho;replace HB:=am_ hb;have HO184:=am_ ho;clear HO_5;clear ho hb hg hat))
       go_roundg k1
       case measure => have:=HK1.out;omega
       case rel => exact ⟨(y182), (wrap64 (x6_1 + 1)), (by first | rfl | (simp;done) | (simp [*];done)), H', ⟨by have:=HK1.out;omega⟩, ⟨by (with_reducible repeat (first | apply Kd.R_alloc | apply Kd.R_drewN | apply Kd.R_drew));exact HO184.out⟩, ⟨by repeat (first | (with_reducible first | exact HB.out | apply b1_|apply b2_|apply b3_) | exact HB.out)⟩⟩
      ·rw [if_neg c7] at H;exact absurd H (by simp)
     ·rw [if_neg c6] at H;have c6b0 : ((Go.bits .and .i64 (ji5) 1) == 1) = false:=beq_eq_false_iff_ne.mpr c6;have c6b1 : ((Go.bits .and .i64 (ji5) 1) != 1) = true:=bne_iff_ne.mpr c6;have H':=am_ H;clear H
      go_wp2
      go_roundg k1
      case measure => have:=HK1.out;omega
      case rel => exact ⟨(x5_1), (wrap64 (x6_1 + 1)), (by first | rfl | (simp;done) | (simp [*];done)), H', ⟨by have:=HK1.out;omega⟩, ⟨by (with_reducible repeat (first | apply Kd.R_alloc | apply Kd.R_drewN | apply Kd.R_drew));exact HO_5.out⟩, ⟨by repeat (first | (with_reducible first | exact HB.out | apply b1_|apply b2_|apply b3_) | exact HB.out)⟩⟩
    ·rw [if_neg c4] at H;exact absurd H (by simp)
   ·rw [if_neg c3] at H;have c3b0 : decide (x6_1 < a0) = false:=decide_eq_false c3;clear c3;obtain rfl:=Option.some.inj H
    go_wp2
    go_ret
    exact ⟨_, by first | rfl | (simp [errW_none, errW_some] <;> rfl) | (simp [*, errW_none, errW_some] <;> rfl), by (with_reducible repeat (first | apply Kd.R_alloc | apply Kd.R_drewN | apply Kd.R_drew));exact HO_5.out, by repeat (first | (with_reducible first | exact HB.out | apply b1_|apply b2_|apply b3_) | exact HB.out)⟩

/-! ### diapasonref26_ahead: function 94 -/
mutual
def diapasonref26_ahead.l0 : Nat → List Int → List Int → Int → Option (Bool)
 | 0, _, _, _ => none
 | k + 1, x0, x1, x5 => if x5 < (x0.length : Int) then (diapasonref26_ahead.j1 k x0 x1 x5 (decide (x5 < (x1.length : Int)))) else (diapasonref26_ahead.j1 k x0 x1 x5 false)
def diapasonref26_ahead.j1 : Nat → List Int → List Int → Int → Bool → Option (Bool)
 | 0, _, _, _, _ => none
 | k + 1, x0, x1, x5, x15 => if x15 = true then (if 0 ≤ x5 then (if x5 < (x0.length : Int) then (if x5 < (x1.length : Int) then (if (rd x0 x5) = (rd x1 x5) then (diapasonref26_ahead.l0 k x0 x1 (wrap64 (x5 + 1))) else (some (decide ((rd x0 x5) < (rd x1 x5))))) else (none)) else (none)) else (none)) else (some (decide ((x0.length : Int) < (x1.length : Int))))
end
def diapasonref26_ahead.f (k : Nat) (l0 : List Int) (l1 : List Int) : Option (Bool) := diapasonref26_ahead.l0 k l0 l1 0
theorem diapasonref26_ahead.mono_l : ∀ k, (∀ y0 y1 y2, LeO (diapasonref26_ahead.l0 k y0 y1 y2) (diapasonref26_ahead.l0 (k + 1) y0 y1 y2)) ∧ (∀ y0 y1 y2 y3, LeO (diapasonref26_ahead.j1 k y0 y1 y2 y3) (diapasonref26_ahead.j1 (k + 1) y0 y1 y2 y3))
 | 0 => ⟨fun _ _ _ r h => by simp [diapasonref26_ahead.l0] at h, fun _ _ _ _ r h => by simp [diapasonref26_ahead.j1] at h⟩
 | k + 1 => by
  obtain ⟨ih0, ih1⟩:=diapasonref26_ahead.mono_l k;refine ⟨?_, ?_⟩
  ·intro y0 y1 y2
   unfold diapasonref26_ahead.l0
   repeat' first
   | (with_reducible exact ih0 _ _ _)
   | (with_reducible exact ih1 _ _ _ _)
   | (with_reducible exact LeO.refl _)
   | (with_reducible exact LeO.none _)
   | (with_reducible refine LeO.ite ?_ ?_)
   | (with_reducible refine LeO.bind ?_ (fun _ => ?_))
   | exact ih0 _ _ _
   | exact ih1 _ _ _ _
   | exact LeO.none _
   | refine LeO.ite ?_ ?_
   | refine LeO.bind ?_ (fun _ => ?_)
  ·intro y0 y1 y2 y3
   unfold diapasonref26_ahead.j1
   repeat' first
   | (with_reducible exact ih0 _ _ _)
   | (with_reducible exact ih1 _ _ _ _)
   | (with_reducible exact LeO.refl _)
   | (with_reducible exact LeO.none _)
   | (with_reducible refine LeO.ite ?_ ?_)
   | (with_reducible refine LeO.bind ?_ (fun _ => ?_))
   | exact ih0 _ _ _
   | exact ih1 _ _ _ _
   | exact LeO.none _
   | refine LeO.ite ?_ ?_
   | refine LeO.bind ?_ (fun _ => ?_)
theorem diapasonref26_ahead.mono : ∀ a0 a1 k, LeO (diapasonref26_ahead.f k a0 a1) (diapasonref26_ahead.f (k + 1) a0 a1) := by
 intro a0 a1 k;obtain ⟨ih0, ih1⟩:=diapasonref26_ahead.mono_l k
 unfold diapasonref26_ahead.f
 repeat' first
   | (with_reducible exact ih0 _ _ _)
   | (with_reducible exact ih1 _ _ _ _)
   | (with_reducible exact LeO.refl _)
   | (with_reducible exact LeO.none _)
   | (with_reducible refine LeO.ite ?_ ?_)
   | (with_reducible refine LeO.bind ?_ (fun _ => ?_))
   | exact ih0 _ _ _
   | exact ih1 _ _ _ _
   | exact LeO.none _
   | refine LeO.ite ?_ ?_
   | refine LeO.bind ?_ (fun _ => ?_)
set_option maxHeartbeats 8000000 in
set_option maxRecDepth 100000 in
theorem diapasonref26_ahead.calls (k : Nat) (A0 : Option Addr) (c0 : Nat) (l0 : List Int) (A1 : Option Addr) (c1 : Nat) (l1 : List Int) (r : Bool) (w : World) (hr0 : Kd.C (Kd.int .i64) w A0 l0.length l0) (hc0 : l0.length ≤ c0) (hr1 : Kd.C (Kd.int .i64) w A1 l1.length l1) (hc1 : l1.length ≤ c1) (h : diapasonref26_ahead.f k l0 l1 = some r) :
  Calls Tryd.prog 94 #[.slice A0 l0.length c0, .slice A1 l1.length c1] w fun e w' => e = .returned (.bool r) ∧ Drawn0 w w':=by
 have HR0:=am_ hr0;have HC0:=am_ hc0;clear hr0 hc0;have HR1:=am_ hr1;have HC1:=am_ hc1;clear hr1 hc1;have H : (diapasonref26_ahead.l0 k l0 l1 0) = some r:=h;clear h;have H':=am_ H;clear H;go_enter Tryd.func94, Tryd.ntmps94
 go_wp2
 repeat (go_quiet (fail);try go_wp2)
 go_loopg [5] k (fun kq v5 w' => ∃ (x5_1 : Int), v5 = .int .i64 x5_1 ∧ Aside0 (diapasonref26_ahead.l0 kq l0 l1 x5_1 = some r) ∧ Aside0 (kq ≤ k) ∧ Drawn0 w w')
 case atStart => exact ⟨(0), (by first | rfl | (simp;done) | (simp [*];done)), H', ⟨Nat.le_refl _⟩, by repeat (first | exact Drawn0.refl _ | apply Drawn0.step)⟩
 case round =>
  clear H';(try clear c1);(try clear p2);obtain ⟨x5_1, rfl, HA, HK1, ⟨m1, rfl⟩⟩:=hrel
  cases gk with
  | zero => exact absurd HA.out (by simp [diapasonref26_ahead.l0])
  | succ k1 =>
   have H:=HA.out;clear HA;simp only [diapasonref26_ahead.l0] at H;have HC3:=am_ H;clear H
   go_upto_region 2 with (fail)
   repeat (go_quiet (fail);go_upto_region 2 with (fail))
   go_cut [15] (fun v15 wc => ∃ (kq : Nat) (x15_2 : Bool), v15 = .bool x15_2 ∧ Aside0 (diapasonref26_ahead.j1 kq l0 l1 x5_1 x15_2 = some r) ∧ Aside0 (kq ≤ k1) ∧ Drawn0 w wc)
   case first =>
    have H:=HC3.out;clear HC3
    by_cases c4 : x5_1 < (l0.length : Int)
    ·rw [if_pos c4] at H;have c4b0 : decide (x5_1 < (l0.length : Int)) = true:=decide_eq_true c4;clear c4;(first | rw [c4b0] | (simp only [i64_w, i32_w];rw [c4b0]) | skip);have H':=am_ H;clear H
     go_wp2
     repeat (go_quiet (fail);try go_wp2)
     go_meet
     case rel => exact ⟨_, (decide (x5_1 < (l1.length : Int))), (by first | rfl | (simp;done) | (simp [*];done)), H', ⟨by have:=HK1.out;first | omega | exact Nat.le_refl _⟩, by repeat (first | exact Drawn0.refl _ | apply Drawn0.step)⟩
    ·rw [if_neg c4] at H;have c4b0 : decide (x5_1 < (l0.length : Int)) = false:=decide_eq_false c4;clear c4;(first | rw [c4b0] | (simp only [i64_w, i32_w];rw [c4b0]) | skip);have H':=am_ H;clear H
     go_wp2
     repeat (go_quiet (fail);try go_wp2)
     go_meet
     case rel => exact ⟨_, (false), (by first | rfl | (simp;done) | (simp [*];done)), H', ⟨by have:=HK1.out;first | omega | exact Nat.le_refl _⟩, by repeat (first | exact Drawn0.refl _ | apply Drawn0.step)⟩
   case rest =>
    clear HC3;(try clear c1);(try clear p2);(try clear c4);(try clear c4b0);(try clear p2);obtain ⟨kq, x15_2, rfl, HA, HJ2, ⟨mc2, rfl⟩⟩:=hcut
    cases kq with
    | zero => exact absurd HA.out (by simp [diapasonref26_ahead.j1])
    | succ kj2 =>
     have H:=HA.out;clear HA;simp only [diapasonref26_ahead.j1] at H
     by_cases c5 : x15_2 = true
     ·subst c5;have H1 : (if 0 ≤ x5_1 then (if x5_1 < (l0.length : Int) then (if x5_1 < (l1.length : Int) then (if (rd l0 x5_1) = (rd l1 x5_1) then (diapasonref26_ahead.l0 kj2 l0 l1 (wrap64 (x5_1 + 1))) else (some (decide ((rd l0 x5_1) < (rd l1 x5_1))))) else (none)) else (none)) else (none)) = some r:=by rw [if_pos rfl] at H;exact H
      clear H;have H:=H1;clear H1
      by_cases c6 : 0 ≤ x5_1
      ·rw [if_pos c6] at H;have c6b0 : decide (0 ≤ x5_1) = true:=decide_eq_true c6;clear c6
       by_cases c7 : x5_1 < (l0.length : Int)
       ·rw [if_pos c7] at H;have c7b0 : decide (x5_1 < (l0.length : Int)) = true:=decide_eq_true c7;clear c7
        by_cases c8 : x5_1 < (l1.length : Int)
        ·rw [if_pos c8] at H;have c8b0 : decide (x5_1 < (l1.length : Int)) = true:=decide_eq_true c8;clear c8
         by_cases c9 : (rd l0 x5_1) = (rd l1 x5_1)
         ·rw [if_pos c9] at H;have c9b0 : ((rd l0 x5_1) == (rd l1 x5_1)) = true:=beq_iff_eq.mpr c9;have c9b1 : ((rd l0 x5_1) != (rd l1 x5_1)) = false:=bne_eq_false_iff_eq.mpr c9;clear c9;have H':=am_ H;clear H;have p185 : 0 ≤ (x5_1 : Int):=of_decide_eq_true (by first | (with_reducible assumption) | assumption);have q185 : x5_1 < (l0.length : Int):=of_decide_eq_true (by first | (with_reducible assumption) | assumption);obtain ⟨ad185, e185, hx185_0⟩:=Kd.at_int HR0.out x5_1 p185 q185
          cases e185
          replace p185:=eq_true p185;replace q185:=eq_true q185;have p186 : 0 ≤ (x5_1 : Int):=of_decide_eq_true (by first | (with_reducible assumption) | assumption);have q186 : x5_1 < (l1.length : Int):=of_decide_eq_true (by first | (with_reducible assumption) | assumption);obtain ⟨ad186, e186, hx186_0⟩:=Kd.at_int HR1.out x5_1 p186 q186
          cases e186
          replace p186:=eq_true p186;replace q186:=eq_true q186
          go_wp2
          repeat (go_quiet (fail);try go_wp2)
          go_roundg kj2
          case measure => have:=HK1.out;have:=HJ2.out;omega
          case rel => exact ⟨(wrap64 (x5_1 + 1)), (by first | rfl | (simp;done) | (simp [*];done)), H', ⟨by have:=HK1.out;have:=HJ2.out;omega⟩, by repeat (first | exact Drawn0.refl _ | apply Drawn0.step)⟩
         ·rw [if_neg c9] at H;have c9b0 : ((rd l0 x5_1) == (rd l1 x5_1)) = false:=beq_eq_false_iff_ne.mpr c9;have c9b1 : ((rd l0 x5_1) != (rd l1 x5_1)) = true:=bne_iff_ne.mpr c9;obtain rfl:=Option.some.inj H;have p185 : 0 ≤ (x5_1 : Int):=of_decide_eq_true (by first | (with_reducible assumption) | assumption);have q185 : x5_1 < (l0.length : Int):=of_decide_eq_true (by first | (with_reducible assumption) | assumption);obtain ⟨ad185, e185, hx185_0⟩:=Kd.at_int HR0.out x5_1 p185 q185
          cases e185
          replace p185:=eq_true p185;replace q185:=eq_true q185;have p186 : 0 ≤ (x5_1 : Int):=of_decide_eq_true (by first | (with_reducible assumption) | assumption);have q186 : x5_1 < (l1.length : Int):=of_decide_eq_true (by first | (with_reducible assumption) | assumption);obtain ⟨ad186, e186, hx186_0⟩:=Kd.at_int HR1.out x5_1 p186 q186
          cases e186
          replace p186:=eq_true p186;replace q186:=eq_true q186;have p187 : 0 ≤ (x5_1 : Int):=of_decide_eq_true (by first | (with_reducible assumption) | assumption);have q187 : x5_1 < (l0.length : Int):=of_decide_eq_true (by first | (with_reducible assumption) | assumption);obtain ⟨ad187, e187, hx187_0⟩:=Kd.at_int HR0.out x5_1 p187 q187;obtain rfl : ad185 = ad187:=(by injection e187)
          replace p187:=eq_true p187;replace q187:=eq_true q187;have p188 : 0 ≤ (x5_1 : Int):=of_decide_eq_true (by first | (with_reducible assumption) | assumption);have q188 : x5_1 < (l1.length : Int):=of_decide_eq_true (by first | (with_reducible assumption) | assumption);obtain ⟨ad188, e188, hx188_0⟩:=Kd.at_int HR1.out x5_1 p188 q188;obtain rfl : ad186 = ad188:=(by injection e188)
          replace p188:=eq_true p188;replace q188:=eq_true q188
          go_wp2
          repeat (go_quiet (fail);try go_wp2)
          go_ret
          exact ⟨by first | rfl | (simp;done) | (simp [*];done), by repeat (first | exact Drawn0.refl _ | apply Drawn0.step)⟩
        ·rw [if_neg c8] at H;exact absurd H (by simp)
       ·rw [if_neg c7] at H;exact absurd H (by simp)
      ·rw [if_neg c6] at H;exact absurd H (by simp)
     ·replace c5:=Bool.eq_false_iff.mpr c5;subst c5;have H1 : (some (decide ((l0.length : Int) < (l1.length : Int)))) = some r:=by rw [if_neg (show ¬ (false = true) by decide)] at H;exact H
      clear H;have H:=H1;clear H1;obtain rfl:=Option.some.inj H
      go_wp2
      repeat (go_quiet (fail);try go_wp2)
      go_ret
      exact ⟨by first | rfl | (simp;done) | (simp [*];done), by repeat (first | exact Drawn0.refl _ | apply Drawn0.step)⟩

/-! ### diapasonref26_Better: function 75 -/
def diapasonref26_Better.f (k : Nat) (l0_0 : List Int) (a0_1 : Int) (a0_2 : Int) (l1_0 : List Int) (a1_1 : Int) (a1_2 : Int) : Option (Bool) := if a0_1 = a1_1 then (if a0_2 = a1_2 then ((diapasonref26_ahead.f k l0_0 l1_0).bind fun t191 => (some t191)) else (some (decide (a0_2 < a1_2)))) else (some (decide (a0_1 < a1_1)))
theorem diapasonref26_Better.mono : ∀ a0 a1 a2 a3 a4 a5 k, LeO (diapasonref26_Better.f k a0 a1 a2 a3 a4 a5) (diapasonref26_Better.f (k + 1) a0 a1 a2 a3 a4 a5) := by
 intro a0 a1 a2 a3 a4 a5 k
 unfold diapasonref26_Better.f
 repeat' first
   | (with_reducible exact diapasonref26_ahead.mono _ _ _)
   | (with_reducible exact LeO.refl _)
   | (with_reducible exact LeO.none _)
   | (with_reducible refine LeO.ite ?_ ?_)
   | (with_reducible refine LeO.bind ?_ (fun _ => ?_))
   | exact diapasonref26_ahead.mono _ _ _
   | exact LeO.none _
   | refine LeO.ite ?_ ?_
   | refine LeO.bind ?_ (fun _ => ?_)
set_option maxHeartbeats 8000000 in
set_option maxRecDepth 100000 in
theorem diapasonref26_Better.calls (k : Nat) (A0_0 : Option Addr) (c0_0 : Nat) (l0_0 : List Int) (a0_1 : Int) (a0_2 : Int) (A1_0 : Option Addr) (c1_0 : Nat) (l1_0 : List Int) (a1_1 : Int) (a1_2 : Int) (r : Bool) (w : World) (hr0_0 : Kd.C (Kd.int .i64) w A0_0 l0_0.length l0_0) (hc0_0 : l0_0.length ≤ c0_0) (hr1_0 : Kd.C (Kd.int .i64) w A1_0 l1_0.length l1_0) (hc1_0 : l1_0.length ≤ c1_0) (h : diapasonref26_Better.f k l0_0 a0_1 a0_2 l1_0 a1_1 a1_2 = some r) :
  Calls Tryd.prog 75 #[.agg #[.slice A0_0 l0_0.length c0_0, .int .i64 a0_1, .int .i64 a0_2], .agg #[.slice A1_0 l1_0.length c1_0, .int .i64 a1_1, .int .i64 a1_2]] w fun e w' => e = .returned (.bool r) ∧ Below w.heap.size w w':=by
 have hu31:=Tryd.underlying31;have HR0_0:=am_ hr0_0;have HC0_0:=am_ hc0_0;clear hr0_0 hc0_0;have HR1_0:=am_ hr1_0;have HC1_0:=am_ hc1_0;clear hr1_0 hc1_0;have HB:=am_ (Below.refl w.heap.size w);have H : (if a0_1 = a1_1 then (if a0_2 = a1_2 then ((diapasonref26_ahead.f k l0_0 l1_0).bind fun t191 => (some t191)) else (some (decide (a0_2 < a1_2)))) else (some (decide (a0_1 < a1_1)))) = some r:=h;clear h
 by_cases c3 : a0_1 = a1_1
 ·rw [if_pos c3] at H;have c3b0 : (a0_1 == a1_1) = true:=beq_iff_eq.mpr c3;have c3b1 : (a0_1 != a1_1) = false:=bne_eq_false_iff_eq.mpr c3;clear c3
  by_cases c4 : a0_2 = a1_2
  ·rw [if_pos c4] at H;have c4b0 : (a0_2 == a1_2) = true:=beq_iff_eq.mpr c4;have c4b1 : (a0_2 != a1_2) = false:=bne_eq_false_iff_eq.mpr c4;clear c4;replace H:=Option.bind_eq_some_iff.mp H;obtain ⟨t191, A50, H⟩:=H;replace H : (some t191) = some r:=H;have A5:=am_ A50;clear A50;obtain rfl:=Option.some.inj H;go_enter Tryd.func75, Tryd.ntmps75
   go_wp2_with (first | ((with_reducible refine gate_dst (N:=2) rfl ?_);refine box_event ?hg (N:=2) ?hd (cs:=#[.slice A0_0 l0_0.length c0_0, .int .i64 a0_1, .int .i64 a0_2]) (t:=31) ?hr ?_;(case hd => rfl);(case hg => rfl);(case hr => first | (go_simp;done) | (go_simp;rfl));intro gb189 hg w6 hbox hb;have BK189:=am_ hbox;have GW189:=gz_ hg HB;have GE189:=gz_ hg HB;replace HB:=bs_ HB hb;clear hb hbox hg) | ((with_reducible refine gate_dst (N:=3) rfl ?_);refine box_event ?hg (N:=3) ?hd (cs:=#[.slice A1_0 l1_0.length c1_0, .int .i64 a1_1, .int .i64 a1_2]) (t:=31) ?hr ?_;(case hd => rfl);(case hg => rfl);(case hr => first | (go_simp;done) | (go_simp;rfl));intro gb190 hg w7 hbox hb;have BK190:=am_ hbox;have GW190:=gz_ hg HB;have GE190:=gz_ hg HB;replace HB:=am_ (below_step (by repeat (first | (with_reducible first | exact HB.out | apply b1_|apply b2_|apply b3_ | refine below_set ?_ GE189.out) | exact HB.out)) hb);have NB189_190:=nl_ hg BK189;have NB190_189:=ng_ hg BK189;replace BK189:=bb_ BK189 hb;clear hb hbox hg;have hnb8:=NB189_190.out;have hnc8:=NB190_189.out;obtain ⟨hcz9_0, hcz9_1, hcz9_2⟩:=c3_ BK189.out;obtain ⟨hfz9_0, hfz9_1, hfz9_2⟩:=z3_ BK189.out;obtain ⟨hcz10_0, hcz10_1, hcz10_2⟩:=c3_ BK190.out;obtain ⟨hfz10_0, hfz10_1, hfz10_2⟩:=z3_ BK190.out) | ((with_reducible refine gate_callee (f:=94) rfl ?_);refine goesL_ (some 29) rfl rfl Tryd.func94 (by kernel_rfl) rfl #[.slice A0_0 l0_0.length c0_0, .slice A1_0 l1_0.length c1_0] rfl (by (try simp only [List.map_toArray, List.map_cons, List.map_nil]);first|done|rfl|(simp only [List.length_drop, List.length_take];rfl)) ?_;(with_reducible refine (diapasonref26_ahead.calls k _ _ l0_0 _ _ l1_0 t191 _ ?side1 ?side2 ?side3 ?side4 A5.out).mono ?_);(case side1 => exact cb_ HR0_0 HB);(case side2 => exact HC0_0.out);(case side3 => exact cb_ HR1_0 HB);(case side4 => exact HC1_0.out);rintro e w' ⟨rfl, ⟨nd, rfl⟩⟩;refine ⟨_, rfl, ?_⟩))
   go_ret
   exact ⟨by first | rfl | (simp [errW_none, errW_some] <;> rfl) | (simp [*, errW_none, errW_some] <;> rfl), by repeat (first | (with_reducible first | exact HB.out | apply b1_|apply b2_|apply b3_ | refine below_set ?_ GE189.out | refine below_set ?_ GE190.out) | exact HB.out)⟩
  ·rw [if_neg c4] at H;have c4b0 : (a0_2 == a1_2) = false:=beq_eq_false_iff_ne.mpr c4;have c4b1 : (a0_2 != a1_2) = true:=bne_iff_ne.mpr c4;obtain rfl:=Option.some.inj H;go_enter Tryd.func75, Tryd.ntmps75
   go_wp2_with (first | ((with_reducible refine gate_dst (N:=2) rfl ?_);refine box_event ?hg (N:=2) ?hd (cs:=#[.slice A0_0 l0_0.length c0_0, .int .i64 a0_1, .int .i64 a0_2]) (t:=31) ?hr ?_;(case hd => rfl);(case hg => rfl);(case hr => first | (go_simp;done) | (go_simp;rfl));intro gb189 hg w11 hbox hb;have BK189:=am_ hbox;have GW189:=gz_ hg HB;have GE189:=gz_ hg HB;replace HB:=bs_ HB hb;clear hb hbox hg) | ((with_reducible refine gate_dst (N:=3) rfl ?_);refine box_event ?hg (N:=3) ?hd (cs:=#[.slice A1_0 l1_0.length c1_0, .int .i64 a1_1, .int .i64 a1_2]) (t:=31) ?hr ?_;(case hd => rfl);(case hg => rfl);(case hr => first | (go_simp;done) | (go_simp;rfl));intro gb190 hg w12 hbox hb;have BK190:=am_ hbox;have GW190:=gz_ hg HB;have GE190:=gz_ hg HB;replace HB:=am_ (below_step (by repeat (first | (with_reducible first | exact HB.out | apply b1_|apply b2_|apply b3_ | refine below_set ?_ GE189.out) | exact HB.out)) hb);have NB189_190:=nl_ hg BK189;have NB190_189:=ng_ hg BK189;replace BK189:=bb_ BK189 hb;clear hb hbox hg;have hnb13:=NB189_190.out;have hnc13:=NB190_189.out;obtain ⟨hcz14_0, hcz14_1, hcz14_2⟩:=c3_ BK189.out;obtain ⟨hfz14_0, hfz14_1, hfz14_2⟩:=z3_ BK189.out;obtain ⟨hcz15_0, hcz15_1, hcz15_2⟩:=c3_ BK190.out;obtain ⟨hfz15_0, hfz15_1, hfz15_2⟩:=z3_ BK190.out))
   go_ret
   exact ⟨by first | rfl | (simp [errW_none, errW_some] <;> rfl) | (simp [*, errW_none, errW_some] <;> rfl), by repeat (first | (with_reducible first | exact HB.out | apply b1_|apply b2_|apply b3_ | refine below_set ?_ GE189.out | refine below_set ?_ GE190.out) | exact HB.out)⟩
 ·rw [if_neg c3] at H;have c3b0 : (a0_1 == a1_1) = false:=beq_eq_false_iff_ne.mpr c3;have c3b1 : (a0_1 != a1_1) = true:=bne_iff_ne.mpr c3;obtain rfl:=Option.some.inj H;go_enter Tryd.func75, Tryd.ntmps75
  go_wp2_with (first | ((with_reducible refine gate_dst (N:=2) rfl ?_);refine box_event ?hg (N:=2) ?hd (cs:=#[.slice A0_0 l0_0.length c0_0, .int .i64 a0_1, .int .i64 a0_2]) (t:=31) ?hr ?_;(case hd => rfl);(case hg => rfl);(case hr => first | (go_simp;done) | (go_simp;rfl));intro gb189 hg w16 hbox hb;have BK189:=am_ hbox;have GW189:=gz_ hg HB;have GE189:=gz_ hg HB;replace HB:=bs_ HB hb;clear hb hbox hg) | ((with_reducible refine gate_dst (N:=3) rfl ?_);refine box_event ?hg (N:=3) ?hd (cs:=#[.slice A1_0 l1_0.length c1_0, .int .i64 a1_1, .int .i64 a1_2]) (t:=31) ?hr ?_;(case hd => rfl);(case hg => rfl);(case hr => first | (go_simp;done) | (go_simp;rfl));intro gb190 hg w17 hbox hb;have BK190:=am_ hbox;have GW190:=gz_ hg HB;have GE190:=gz_ hg HB;replace HB:=am_ (below_step (by repeat (first | (with_reducible first | exact HB.out | apply b1_|apply b2_|apply b3_ | refine below_set ?_ GE189.out) | exact HB.out)) hb);have NB189_190:=nl_ hg BK189;have NB190_189:=ng_ hg BK189;replace BK189:=bb_ BK189 hb;clear hb hbox hg;have hnb18:=NB189_190.out;have hnc18:=NB190_189.out;obtain ⟨hcz19_0, hcz19_1, hcz19_2⟩:=c3_ BK189.out;obtain ⟨hfz19_0, hfz19_1, hfz19_2⟩:=z3_ BK189.out;obtain ⟨hcz20_0, hcz20_1, hcz20_2⟩:=c3_ BK190.out;obtain ⟨hfz20_0, hfz20_1, hfz20_2⟩:=z3_ BK190.out))
  go_ret
  exact ⟨by first | rfl | (simp [errW_none, errW_some] <;> rfl) | (simp [*, errW_none, errW_some] <;> rfl), by repeat (first | (with_reducible first | exact HB.out | apply b1_|apply b2_|apply b3_ | refine below_set ?_ GE189.out | refine below_set ?_ GE190.out) | exact HB.out)⟩

end Go.Proofs.YtfcidgnbocijdaaDoor.PCertMakes
