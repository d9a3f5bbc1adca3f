-- Written by a program of this session (the kit's print, turned: wip/px).
import Derived.Test.YtfcomoledfdojaaPRecordTellsx0
import Derived.Test.YtfcomoledfdojaaPRecordTellsx3
import Derived.Test.YtfcomoledfdojaaPRecordTellsx4
import Derived.Test.YtfcomoledfdojaaPRecordTellsx5
import Derived.Test.YtfcomoledfdojaaPRecordTellsx6
import Derived.Test.YtfcomoledfdojaaPRecordTellsx7
import Derived.Test.YtfcomoledfdojaaPRecordTellsx8
namespace Go.Proofs.Ytfcomoledfdojaa.PRecordTells
open Go.RowKit Go.Proofs.YtfcomoledfdojaaW.PrintWords Go.Proofs.YtfcomoledfdojaaW.PrintLast Go.Proofs.YtfcomoledfdojaaW.PrintMore
attribute [local go_sem] max2_int min2_int max_two min_two max_three min_three max_four min_four   -- for this text's walks alone
set_option linter.unusedVariables false
set_option linter.unusedSimpArgs false

/-! ### diapasonlaw29_RecordTells: function 7 -/
/-! the marked room -/
def diapasonlaw29_RecordTells.sp : List S45 := [(⟨7, (⟨0, 0⟩ : S43), false⟩ : S45), (⟨8, (⟨0, 0⟩ : S43), false⟩ : S45)]
set_option maxHeartbeats 8000000 in
set_option maxRecDepth 100000 in
theorem diapasonlaw29_RecordTells.spare_calls (A0 : Option Addr) (c0 : Nat) (l0 : List S45) (w : World) (hr0 : Kd.C k45 w A0 l0.length l0) (hc0 : l0.length ≤ c0) (hl : l0.length * 32 ≤ 140737488351232) :
    Calls Try.prog 17 #[.slice A0 l0.length c0] w fun e w' => ∃ (ad : Addr) (cap : Nat), e = .returned (.slice (some ad) l0.length cap) ∧ l0.length + 2 ≤ cap ∧ Kd.C k45 w' (some ad) (l0.length + 2) (l0 ++ diapasonlaw29_RecordTells.sp) ∧ Below w.heap.size w w' := by
  have hu45 := Try.underlying45
  have HR0 := Aside0.mk hr0
  have HC0 := Aside0.mk hc0
  clear hr0 hc0
  have HB := Aside0.mk (Below.refl w.heap.size w)
  obtain ⟨y128, hy128⟩ : ∃ y_ : List (S45), y_ = (([] : List (S45)) ++ l0) := ⟨_, rfl⟩
  obtain ⟨y131, hy131⟩ : ∃ y_ : List (S45), y_ = (([(⟨7, (⟨0, 0⟩ : S43), false⟩ : S45), (⟨8, (⟨0, 0⟩ : S43), false⟩ : S45)] : List (S45))) := ⟨_, rfl⟩
  obtain ⟨y134, hy134⟩ : ∃ y_ : List (S45), y_ = (y128 ++ y131) := ⟨_, rfl⟩
  obtain ⟨y137, hy137⟩ : ∃ y_ : List (S45), y_ = (y134.take ((l0.length : Int) : Int).toNat) := ⟨_, rfl⟩
  have e128 : y128 = l0 := by rw [hy128, List.nil_append]
  have e131 : y131.length = 2 := by rw [hy131]; rfl
  have e134 : y134.length = l0.length + 2 := by rw [hy134, List.length_append, e128, e131]
  have LMc2 : Aside0 (([] : List (S45)).length + l0.length < 4398046511104) := Aside0.mk (by simp; omega)
  have LMc3 : Aside0 (y128.length + y131.length < 4398046511104) := Aside0.mk (by rw [e128, e131]; omega)
  have c4 : 0 ≤ (l0.length : Int) := by omega
  have c5 : (l0.length : Int) ≤ (y134.length : Int) := by omega
  have c4b0 := eq_true c4
  have c4b1 : decide (0 ≤ (l0.length : Int)) = true := decide_eq_true c4
  have c5b0 := eq_true c5
  have c5b1 : decide ((l0.length : Int) ≤ (y134.length : Int)) = true := decide_eq_true c5
  clear c4 c5
  have E134 := Aside0.mk (show y134 = l0 ++ diapasonlaw29_RecordTells.sp by rw [hy134, e128, hy131]; rfl)
  have L134 := Aside0.mk e134
  have L137 := Aside0.mk (show y137.length = l0.length by rw [hy137, List.length_take, e134]; omega)
  have Ny128 := Aside0.mk hy128
  have Ny131 := Aside0.mk hy131
  have Ny134 := Aside0.mk hy134
  have Ny137 := Aside0.mk hy137
  clear hy128 hy131 hy134 hy137 e128 e131
  go_enter Try.func17, Try.ntmps17
  go_wp2_with (first | ((with_reducible refine gate_builtin (b := .append) (xs := #[.tmp 4, .tmp 5]) rfl ?_); at_builtin; refine Kd.R_append_rows k45 (w0 := w) w.heap.size rfl (.tmp 4) (.tmp 5) 22 45 (.agg #[(.int .u64 0), (.int .i64 0), (.int .i64 0), (.bool false)]) 32 rfl Try.underlying22 info45 rfl (by decide) (by omega) (.slice none 0 0) ([] : List (S45)) l0 _ _ _ (fun _ => True) (fun _ => False) rfl rfl ?aO ?aR (fun _ _ h => h) (fun _ h => h.elim) ?aF ?aB ?aS ?aL ?_; (case aR => repeat (first | exact HR0.out | (with_reducible refine Kd.C_alloc ?_ _) | (with_reducible refine Kd.C_drewN ?_ _) | (with_reducible refine Kd.C_drew ?_))); (case aB => exact (by repeat (first | (with_reducible first | exact HB.out | apply below_alloc | apply pw_below_drewN | apply below_drew1) | exact HB.out))); (case aF => exact (fun _ _ => trivial)); (case aO => exact ((Kd.R_nil _ _ _ _ (fun _ => True)))); (case aS => exact (below_size (by repeat (first | (with_reducible first | exact HB.out | apply below_alloc | apply pw_below_drewN | apply below_drew1) | exact HB.out)))); (case aL => have := LMc2.out; omega); intro v129 w6 ho hb hg hat; rw [← Ny128.out] at ho; have n0_ := Aside0.mk (hb); have n1_ := Aside0.mk (ho); clear HB; have HB := n0_; have HO130 := n1_; clear n0_ n1_; clear ho hb hg hat) | ((with_reducible refine gate_dst (N := 10) rfl ?_); refine Kd.R_lit k45 _ 45 ?hg (N := 10) ?hd (xs := ([(⟨7, (⟨0, 0⟩ : S43), false⟩ : S45), (⟨8, (⟨0, 0⟩ : S43), false⟩ : S45)] : List (S45))) (inner := [.int .u64 7, .int .i64 0, .int .i64 0, .bool false, .int .u64 8, .int .i64 0, .int .i64 0, .bool false]) (ok := fun _ => True) (okp := fun _ => True) ?hr ?hp (fun _ hk => hk) trivial (Below.refl _ _) (Nat.le_refl _) (by simp) ?_; (case hd => rfl); (case hg => rfl); (case hr => first | (go_simp; done) | (go_simp; rfl)); (case hp => exact (Reps.c4 (show Kd.M k45 _ _ _ (⟨7, (⟨0, 0⟩ : S43), false⟩ : S45) [.int .u64 7, .int .i64 0, .int .i64 0, .bool false] from (k45_mkM _ _ _ (⟨7, (⟨0, 0⟩ : S43), false⟩ : S45) )) (Reps.c4 (show Kd.M k45 _ _ _ (⟨8, (⟨0, 0⟩ : S43), false⟩ : S45) [.int .u64 8, .int .i64 0, .int .i64 0, .bool false] from (k45_mkM _ _ _ (⟨8, (⟨0, 0⟩ : S43), false⟩ : S45) )) (Reps.none _ _)))); intro v132 w7 ho8 hb hg_ hnew_; clear hg_ hnew_; (first | rw [← Ny131.out] at ho8 | (simp only [Int.reduceToNat] at ho8; rw [← Ny131.out] at ho8)); have n0_ := Aside0.mk (Kd.R_elder' (by (with_reducible repeat (first | apply Kd.R_alloc | apply Kd.R_drewN | apply Kd.R_drew)); exact HO130.out) (Kd.R_base ho8) hb); have n1_ := Aside0.mk (Kd.R_lower (Kd.R_new' ho8 (Kd.R_lt (by (with_reducible repeat (first | apply Kd.R_alloc | apply Kd.R_drewN | apply Kd.R_drew)); exact HO130.out))) (below_size (by repeat (first | (with_reducible first | exact HB.out | apply below_alloc | apply pw_below_drewN | apply below_drew1) | exact HB.out)))); have n2_ := Aside0.mk (below_step (by repeat (first | (with_reducible first | exact HB.out | apply below_alloc | apply pw_below_drewN | apply below_drew1) | exact HB.out)) hb); clear HO130; clear HB; have HO130 := n0_; have HO133 := n1_; have HB := n2_; clear n0_ n1_ n2_; clear hb ho8; obtain ⟨Ao10, co10, eo10⟩ := Kd.R_slice HO133.out; subst eo10) | ((with_reducible refine gate_builtin (b := .append) (xs := #[.tmp 7, .tmp 10]) rfl ?_); at_builtin; refine Kd.R_append_rows k45 (w0 := w) w.heap.size rfl (.tmp 7) (.tmp 10) 22 45 (.agg #[(.int .u64 0), (.int .i64 0), (.int .i64 0), (.bool false)]) 32 rfl Try.underlying22 info45 rfl (by decide) (by omega) v129 y128 y131 _ _ _ (fun k_ => some k_ ≠ (.slice Ao10 y131.length co10 : Value).ownBlock) (fun _ => False) rfl rfl ?aO ?aR (fun _ _ h => h) (fun _ h => h.elim) ?aF ?aB ?aS ?aL ?_; (case aR => repeat (first | exact (Kd.R_reads' HO133.out).2.2 | (with_reducible refine Kd.C_alloc ?_ _) | (with_reducible refine Kd.C_drewN ?_ _) | (with_reducible refine Kd.C_drew ?_))); (case aB => exact (by repeat (first | (with_reducible first | exact HB.out | apply below_alloc | apply pw_below_drewN | apply below_drew1) | exact HB.out))); (case aF => exact (fun k_ hk => Kd.fresh' (Kd.R_lt (by (with_reducible repeat (first | apply Kd.R_alloc | apply Kd.R_drewN | apply Kd.R_drew)); exact HO133.out)) k_ hk)); (case aO => exact (by (with_reducible repeat (first | apply Kd.R_alloc | apply Kd.R_drewN | apply Kd.R_drew)); exact Kd.R_mono HO130.out (fun _ hk => hk.2))); (case aS => exact (below_size (by repeat (first | (with_reducible first | exact HB.out | apply below_alloc | apply pw_below_drewN | apply below_drew1) | exact HB.out)))); (case aL => have := LMc3.out; omega); intro v135 w9 ho hb hg hat; rw [← Ny134.out] at ho; have n0_ := Aside0.mk (Kd.R_after (ok := (fun _ => True)) (by (with_reducible repeat (first | apply Kd.R_alloc | apply Kd.R_drewN | apply Kd.R_drew)); exact HO133.out) hg hat); have n1_ := Aside0.mk (hb); have n2_ := Aside0.mk (ho); clear HO133; clear HB; clear HO130; have HO133 := n0_; have HB := n1_; have HO136 := n2_; clear n0_ n1_ n2_; clear ho hb hg hat; obtain ⟨Ao11, co11, eo11⟩ := Kd.R_slice HO136.out; subst eo11; have q12 : ((l0.length : Int) : Int) ≤ ((y134.length : Int) : Int) := of_decide_eq_true (by first | (with_reducible assumption) | assumption); obtain ⟨i012, hi012, _, hsz12, _⟩ := info_parts info45; have hcut12 := cut_to (P := Try.prog) 22 45 .i64 Try.underlying22 hi012 Ao11 y134.length co11 (l0.length : Int) (of_decide_eq_true (by first | (with_reducible assumption) | assumption)) q12 (Kd.R_reads' HO136.out).2.1; have hco12 : l0.length ≤ co11 := (by have := (Kd.R_reads' HO136.out).2.1; have := L134.out; omega); have hy12 : y137.length = ((l0.length : Int) : Int).toNat := (by rw [Ny137.out, List.length_take]; omega); rw [← hy12] at hcut12; clear hy12 hi012 hsz12; replace q12 := eq_true q12))
  go_ret
  have hrd := Kd.R_reads' HO136.out
  have hC := hrd.2.2
  have hcp := hrd.2.1
  rw [L134.out] at hC hcp
  obtain ⟨ad, ea, _⟩ := hC.2.2 (by omega)
  subst ea
  rw [E134.out] at hC
  refine ⟨ad, _, rfl, hcp, ?_, by repeat (first | (with_reducible first | exact HB.out | apply below_alloc | apply pw_below_drewN | apply below_drew1) | exact HB.out)⟩
  repeat (first | exact hC | (with_reducible refine Kd.C_alloc ?_ _) | (with_reducible refine Kd.C_drewN ?_ _) | (with_reducible refine Kd.C_drew ?_))
theorem diapasonlaw29_RecordTells.short {w : World} {ad : Addr} {l0 : List S45} (h : Kd.C k45 w (some ad) (l0.length + 2) (l0 ++ diapasonlaw29_RecordTells.sp)) : Kd.C k45 w (some ad) l0.length l0 := by
  have e : (l0 ++ diapasonlaw29_RecordTells.sp).length = l0.length + 2 := by rw [List.length_append]; rfl
  have h2 : Kd.C k45 w (some ad) (l0 ++ diapasonlaw29_RecordTells.sp).length (l0 ++ diapasonlaw29_RecordTells.sp) := by rw [e]; exact h
  have h3 := Kd.C_take (m := l0.length) h2 (by rw [e]; omega)
  rw [List.take_left] at h3
  exact h3
theorem diapasonlaw29_RecordTells.marks {w : World} {ad : Addr} {l0 : List S45} (h : Kd.C k45 w (some ad) (l0.length + 2) (l0 ++ diapasonlaw29_RecordTells.sp)) : w.cell? (ad.add (l0.length * 4)) = some (.int .u64 7) ∧ w.cell? (ad.add ((l0.length + 1) * 4)) = some (.int .u64 8) := by
  obtain ⟨a1, e1, x1, _⟩ := at_T45 h ((l0.length : Nat) : Int) (by omega) (by omega)
  obtain ⟨a2, e2, x2, _⟩ := at_T45 h ((l0.length + 1 : Nat) : Int) (by omega) (by omega)
  injection e1 with e1
  injection e2 with e2
  subst e1
  subst e2
  rw [Int.toNat_natCast] at x1 x2
  have h1 : rd_T45 (l0 ++ diapasonlaw29_RecordTells.sp) ((l0.length : Nat) : Int) = ⟨7, ⟨0, 0⟩, false⟩ := by
    unfold rd_T45
    rw [Int.toNat_natCast, List.getD_eq_getElem?_getD, List.getElem?_append_right (Nat.le_refl _), Nat.sub_self]; rfl
  have h2 : rd_T45 (l0 ++ diapasonlaw29_RecordTells.sp) ((l0.length + 1 : Nat) : Int) = ⟨8, ⟨0, 0⟩, false⟩ := by
    unfold rd_T45
    rw [Int.toNat_natCast, List.getD_eq_getElem?_getD, List.getElem?_append_right (by omega), show l0.length + 1 - l0.length = 1 by omega]; rfl
  rw [h1] at x1
  rw [h2] at x2
  exact ⟨x1, x2⟩
set_option maxHeartbeats 8000000 in
set_option maxRecDepth 100000 in
theorem diapasonlaw29_RecordTells.kept_calls (k : Nat) (ad : Addr) (cap : Nat) (A1 : Option Addr) (c1 : Nat) (l0 : List S45) (w : World) (hr0 : Kd.C k45 w (some ad) (l0.length + 2) (l0 ++ diapasonlaw29_RecordTells.sp)) (hcap : l0.length + 2 ≤ cap) (hr1 : Kd.C k45 w A1 l0.length l0) (hc1 : l0.length ≤ c1) (hl : l0.length * 32 ≤ 140737488351232) (hs : diapasonref29_Same.f k l0 l0 = some true) :
    Calls Try.prog 20 #[.slice (some ad) l0.length cap, .slice A1 l0.length c1] w fun e w' => e = .returned (.bool true) ∧ Drawn0 w w' := by
  have hu45 := Try.underlying45
  obtain ⟨hx1, hx2⟩ := diapasonlaw29_RecordTells.marks hr0
  have HS := Aside0.mk (diapasonlaw29_RecordTells.short hr0)
  have HR1 := Aside0.mk hr1
  have HM := Aside0.mk hs
  have hc2 : l0.length ≤ cap := by omega
  clear hr0 hr1 hs
  go_enter Try.func20, Try.ntmps20
  go_wp2_with (go_at_call 11; refine (diapasonref29_Same.calls k (some ad) cap l0 A1 c1 l0 true _ HS.out hc2 HR1.out hc1 HM.out).mono ?_; rintro e w1 ⟨rfl, n, rfl⟩)
  go_ret
  exact ⟨rfl, ⟨n, rfl⟩⟩
/-! the statement: true, or no answer -/
def diapasonlaw29_RecordTells.f (k : Nat) (l0 : List S45) (a1 a2 a3 : Int) : Option Bool :=
  (record_Check.f l0).bind fun c => (diapasonref29_Check.f k l0).bind fun c' => (record_Write.f k l0).bind fun s => (diapasonref29_Write.f k l0).bind fun s' => (record_Held.f l0 a1).bind fun a => (diapasonref29_Held.f k l0 a1).bind fun a' => (diapasonref29_SameKeys.f k a.1 a'.1).bind fun t1 => (record_Transpose.f l0 a2 a3).bind fun d => (diapasonref29_Transpose.f k l0 a2 a3).bind fun d' => (diapasonref29_Same.f k d.1 d'.1).bind fun t2 => (diapasonref29_Same.f k l0 l0).bind fun t3 => (diapasonlaw29_works.f k).bind fun t4 =>
    if c = c' ∧ s.1.data = s'.1.data ∧ s.2 = s'.2 ∧ a.2 = a'.2 ∧ t1 = true ∧ d.2 = d'.2 ∧ t2 = true ∧ t3 = true ∧ t4 = true ∧ l0.length * 32 ≤ 140737488351232 then some true else none
theorem diapasonlaw29_RecordTells.parts {k : Nat} {l0 : List S45} {a1 a2 a3 : Int} {r : Bool} (h : diapasonlaw29_RecordTells.f k l0 a1 a2 a3 = some r) : r = true ∧ l0.length * 32 ≤ 140737488351232 ∧ ∃ (c1 c2 : Int) (s1 : ByteArray) (s2 : Int) (x y : List S43) (x2 : Int) (d e : List S45) (d2 d3 : Int), record_Check.f l0 = some (c1, c2) ∧ diapasonref29_Check.f k l0 = some (c1, c2) ∧ record_Write.f k l0 = some (s1, s2) ∧ diapasonref29_Write.f k l0 = some (s1, s2) ∧ record_Held.f l0 a1 = some (x, x2) ∧ diapasonref29_Held.f k l0 a1 = some (y, x2) ∧ diapasonref29_SameKeys.f k x y = some true ∧ record_Transpose.f l0 a2 a3 = some (d, d2, d3) ∧ diapasonref29_Transpose.f k l0 a2 a3 = some (e, d2, d3) ∧ diapasonref29_Same.f k d e = some true ∧ diapasonref29_Same.f k l0 l0 = some true ∧ diapasonlaw29_works.f k = some true := by
  unfold diapasonlaw29_RecordTells.f at h
  obtain ⟨⟨c1, c2⟩, A1, h⟩ := Option.bind_eq_some_iff.mp h
  obtain ⟨c', A2, h⟩ := Option.bind_eq_some_iff.mp h
  obtain ⟨⟨s1, s2⟩, A3, h⟩ := Option.bind_eq_some_iff.mp h
  obtain ⟨⟨s1', s2'⟩, A4, h⟩ := Option.bind_eq_some_iff.mp h
  obtain ⟨⟨x, x2⟩, A5, h⟩ := Option.bind_eq_some_iff.mp h
  obtain ⟨⟨y, y2⟩, A6, h⟩ := Option.bind_eq_some_iff.mp h
  obtain ⟨t1, A7, h⟩ := Option.bind_eq_some_iff.mp h
  obtain ⟨⟨d, d2, d3⟩, A8, h⟩ := Option.bind_eq_some_iff.mp h
  obtain ⟨⟨e, e23⟩, A9, h⟩ := Option.bind_eq_some_iff.mp h
  obtain ⟨t2, A10, h⟩ := Option.bind_eq_some_iff.mp h
  obtain ⟨t3, A11, h⟩ := Option.bind_eq_some_iff.mp h
  obtain ⟨t4, A12, hfin⟩ := Option.bind_eq_some_iff.mp h
  simp only at hfin
  by_cases hq : (c1, c2) = c' ∧ s1.data = s1'.data ∧ s2 = s2' ∧ x2 = y2 ∧ t1 = true ∧ (d2, d3) = e23 ∧ t2 = true ∧ t3 = true ∧ t4 = true ∧ l0.length * 32 ≤ 140737488351232
  · rw [if_pos hq] at hfin
    have hr : r = true := by injection hfin with hfin; exact hfin.symm
    obtain ⟨rfl, q2, q3, q4, rfl, q6, rfl, rfl, rfl, q10⟩ := hq
    obtain rfl := ByteArray.ext q2
    subst q3
    subst q4
    subst q6
    exact ⟨hr, q10, c1, c2, s1, s2, x, y, x2, d, e, d2, d3, A1, A2, A3, A4, A5, A6, A7, A8, A9, A10, A11, A12⟩
  · rw [if_neg hq] at hfin; cases hfin
set_option maxHeartbeats 8000000 in
set_option maxRecDepth 100000 in
theorem diapasonlaw29_RecordTells.calls (k : Nat) (A0 : Option Addr) (c0 : Nat) (l0 : List S45) (a1 : Int) (a2 : Int) (a3 : Int) (r : Bool) (w : World) (hr0 : Kd.C k45 w A0 l0.length l0) (hc0 : l0.length ≤ c0) (h : diapasonlaw29_RecordTells.f k l0 a1 a2 a3 = some r) :
    Calls Try.prog 7 #[.slice A0 l0.length c0, .agg #[.int .u64 a1, .int .i64 a2, .int .i64 a3]] w fun e w' => e = .returned (.bool r) ∧ Below w.heap.size w w' := by
  obtain ⟨rfl, hl, p1, p2, s1, s2, x, y, x2, d, u, d2, d3, F1, F2, F3, F4, F5, F6, F7, F8, F9, F10, F11, F12⟩ := diapasonlaw29_RecordTells.parts h
  clear h
  replace F1 := Aside0.mk F1
  replace F2 := Aside0.mk F2
  replace F3 := Aside0.mk F3
  replace F4 := Aside0.mk F4
  replace F5 := Aside0.mk F5
  replace F6 := Aside0.mk F6
  replace F7 := Aside0.mk F7
  replace F8 := Aside0.mk F8
  replace F9 := Aside0.mk F9
  replace F10 := Aside0.mk F10
  replace F11 := Aside0.mk F11
  replace F12 := Aside0.mk F12
  have hu45 := Try.underlying45
  have hu43 := Try.underlying43
  have hu52 := Try.underlying52
  have HR0 := Aside0.mk hr0
  clear hr0
  go_enter Try.func7, Try.ntmps7
  go_wp2_with fail
  refine (diapasonlaw29_RecordTells.spare_calls A0 c0 l0 _ (Kd.C_alloc HR0.out _) hc0 hl).mono ?_
  rintro e w1 ⟨ad, cap, rfl, hcap, hI, hb⟩
  have hcl : l0.length ≤ cap := by omega
  have HI1 := Aside0.mk hI
  have HZ1 := Aside0.mk (blk_below (blk_new w (.cells #[.int .u64 a1, .int .i64 a2, .int .i64 a3] 52 (0, 0))) hb)
  have HB1 := Aside0.mk (below_step (below_alloc (Below.refl _ _) _) hb)
  clear hI hb
  go_wp2_with fail
  refine (record_Check.calls (some ad) cap l0 p1 p2 _ (diapasonlaw29_RecordTells.short HI1.out) hcl F1.out).mono ?_
  rintro e w2 ⟨rfl, hb⟩
  have HI2 := Aside0.mk (Kd.C_below HI1.out hb)
  have HZ2 := Aside0.mk (blk_below HZ1.out hb)
  have HB2 := Aside0.mk (below_step HB1.out hb)
  clear hb HI1 HZ1 HB1
  go_wp2_with fail
  refine (diapasonref29_Check.calls k A0 c0 l0 p1 p2 _ (Kd.C_below HR0.out HB2.out) hc0 F2.out).mono ?_
  rintro e w3 ⟨rfl, hb⟩
  have HI3 := Aside0.mk (Kd.C_below HI2.out hb)
  have HZ3 := Aside0.mk (blk_below HZ2.out hb)
  have HB3 := Aside0.mk (below_step HB2.out hb)
  clear hb HI2 HZ2 HB2
  go_wp2_with fail
  refine (record_Write.calls k (some ad) cap l0 s1 s2 _ (diapasonlaw29_RecordTells.short HI3.out) hcl F3.out).mono ?_
  rintro e w4 ⟨rfl, hb⟩
  have HI4 := Aside0.mk (Kd.C_below HI3.out hb)
  have HZ4 := Aside0.mk (blk_below HZ3.out hb)
  have HB4 := Aside0.mk (below_step HB3.out hb)
  clear hb HI3 HZ3 HB3
  go_wp2_with fail
  refine (diapasonref29_Write.calls k A0 c0 l0 s1 s2 _ (Kd.C_below HR0.out HB4.out) hc0 F4.out).mono ?_
  rintro e w5 ⟨rfl, hb⟩
  have HI5 := Aside0.mk (Kd.C_below HI4.out hb)
  have hz5 := blk_below HZ4.out hb
  have HB5 := Aside0.mk (below_step HB4.out hb)
  clear hb HI4 HZ4 HB4
  have e0 : w5.cell? ⟨w.heap.size, 0, none⟩ = some (.int .u64 a1) := (blk_cell hz5 0).trans rfl
  have HZ5 := Aside0.mk hz5
  clear hz5
  go_wp2_with fail
  refine (record_Held.calls (some ad) cap l0 a1 x x2 _ (diapasonlaw29_RecordTells.short HI5.out) hcl F5.out).mono ?_
  rintro e w6 ⟨v1, rfl, hv, hb⟩
  obtain ⟨Ax, cx, rfl⟩ := Kd.R_slice hv
  have HX6 := Aside0.mk hv
  have HI6 := Aside0.mk (Kd.C_below HI5.out hb)
  have hz6 := blk_below HZ5.out hb
  have HB6 := Aside0.mk (below_step HB5.out hb)
  clear hb hv HI5 HZ5 HB5 e0
  have e0 : w6.cell? ⟨w.heap.size, 0, none⟩ = some (.int .u64 a1) := (blk_cell hz6 0).trans rfl
  have HZ6 := Aside0.mk hz6
  clear hz6
  go_wp2_with fail
  refine (diapasonref29_Held.calls k A0 c0 l0 a1 y x2 _ (Kd.C_below HR0.out HB6.out) hc0 F6.out).mono ?_
  rintro e w7 ⟨v1, rfl, hv, hb⟩
  obtain ⟨Ay, cy, rfl⟩ := Kd.R_slice hv
  have HX7 := Aside0.mk (Kd.R_reads' (Kd.R_below HX6.out hb))
  have HY7 := Aside0.mk (Kd.R_reads' hv)
  have HI7 := Aside0.mk (Kd.C_below HI6.out hb)
  have hz7 := blk_below HZ6.out hb
  have HB7 := Aside0.mk (below_step HB6.out hb)
  clear hb hv HI6 HZ6 HB6 HX6 e0
  go_wp2_with fail
  refine (diapasonref29_SameKeys.calls k Ax cx x Ay cy y true _ HX7.out.2.2 HX7.out.2.1 HY7.out.2.2 HY7.out.2.1 F7.out).mono ?_
  rintro e w8 ⟨rfl, n8, rfl⟩
  have HI8 := Aside0.mk (show Kd.C k45 (w7.drewN n8) (some ad) (l0.length + 2) (l0 ++ diapasonlaw29_RecordTells.sp) from Kd.C_drewN HI7.out _)
  have hz8 : (w7.drewN n8).heap[w.heap.size]? = _ := hz7
  have HB8 := Aside0.mk (show Below w.heap.size w (w7.drewN n8) from pw_below_drewN HB7.out _)
  clear HI7 HB7 HX7 HY7 hz7
  generalize w7.drewN n8 = w8 at *
  have e1 : w8.cell? ⟨w.heap.size, 1, none⟩ = some (.int .i64 a2) := (blk_cell hz8 1).trans rfl
  have e2 : w8.cell? ⟨w.heap.size, 2, none⟩ = some (.int .i64 a3) := (blk_cell hz8 2).trans rfl
  have HZ8 := Aside0.mk hz8
  clear hz8
  go_wp2_with fail
  refine (record_Transpose.calls (some ad) cap l0 a2 a3 d d2 d3 _ (diapasonlaw29_RecordTells.short HI8.out) hcl F8.out).mono ?_
  rintro e w9 ⟨v1, rfl, hv, hb⟩
  obtain ⟨Ad, cd, rfl⟩ := Kd.R_slice hv
  have HD9 := Aside0.mk hv
  have HI9 := Aside0.mk (Kd.C_below HI8.out hb)
  have hz9 := blk_below HZ8.out hb
  have HB9 := Aside0.mk (below_step HB8.out hb)
  have HQ9 := Aside0.mk hb
  clear hb hv HZ8 e1 e2 HI9
  have e1 : w9.cell? ⟨w.heap.size, 1, none⟩ = some (.int .i64 a2) := (blk_cell hz9 1).trans rfl
  have e2 : w9.cell? ⟨w.heap.size, 2, none⟩ = some (.int .i64 a3) := (blk_cell hz9 2).trans rfl
  clear hz9
  go_wp2_with fail
  refine (diapasonref29_Transpose.calls k A0 c0 l0 a2 a3 u d2 d3 _ (Kd.C_below HR0.out HB9.out) hc0 F9.out).mono ?_
  rintro e w10 ⟨v1, rfl, hv, hb⟩
  obtain ⟨Au, cu, rfl⟩ := Kd.R_slice hv
  have HD10 := Aside0.mk (Kd.R_below HD9.out hb)
  have HU10 := Aside0.mk (Kd.R_reads' hv)
  have HQ10 := Aside0.mk (below_step HQ9.out hb)
  have hr10 := Kd.R_reads' HD10.out
  have HE10 := Aside0.mk hr10
  have hdm := Kd.C_max hr10.2.2
  clear hb hv HB9 HQ9 HD9 e1 e2 hr10
  go_wp2_with fail
  refine (diapasonref29_Same.calls k Ad cd d Au cu u true _ HE10.out.2.2 HE10.out.2.1 HU10.out.2.2 HU10.out.2.1 F10.out).mono ?_
  rintro e w11 ⟨rfl, n11, rfl⟩
  have HQ11 := Aside0.mk (show Below w8.heap.size w8 (w10.drewN n11) from pw_below_drewN HQ10.out _)
  have HD11 := Aside0.mk (Kd.R_drewN HD10.out n11)
  clear HQ10 HD10 HE10 HU10
  generalize w10.drewN n11 = w11 at *
  have HG11 : Aside0 (d.length = 0 ∨ ∃ (ad0 : Addr) (g : Nat) (cur : Array Value), Ad = some ad0 ∧ ad0 = ⟨g, 0, none⟩ ∧ w8.heap.size ≤ g ∧ d.length ≤ cd ∧ w11.heap[g]? = some (.cells cur 45 (0, 0)) ∧ cur.size = cd * 4) := Aside0.mk (by
    obtain ⟨_, inner, ⟨_, ho⟩, _⟩ := HD11.out
    rcases ho with ⟨e, h0⟩ | ⟨g, cap', cur, e, hg, hb, hle, _, hs, _⟩
    · exact .inl h0
    · injection e with e1 _ e3
      subst e3
      exact .inr ⟨_, g, cur, e1, rfl, hg, hle, hb, hs⟩)
  clear HD11
  go_wp2_with fail
  go_loopw [18] (fun v18 wr => ∃ i : Nat, v18 = .int .i64 i ∧ i ≤ d.length ∧ Aside0 (Below w8.heap.size w8 wr) ∧ Aside0 (d.length = 0 ∨ ∃ (ad0 : Addr) (g : Nat) (cur : Array Value), Ad = some ad0 ∧ ad0 = ⟨g, 0, none⟩ ∧ w8.heap.size ≤ g ∧ d.length ≤ cd ∧ wr.heap[g]? = some (.cells cur 45 (0, 0)) ∧ cur.size = cd * 4)) (fun v18 _ => d.length - (intOf v18).toNat)
  case atStart => exact ⟨0, rfl, Nat.zero_le _, HQ11, HG11⟩
  case round =>
    obtain ⟨i, rfl, hi, HQ, HG⟩ := hrel
    clear HG11 HQ11
    by_cases hlt : i < d.length
    · obtain ⟨ad0, g, cur, rfl, had, hg, hdc, hb, hs⟩ : ∃ (ad0 : Addr) (g : Nat) (cur : Array Value), Ad = some ad0 ∧ ad0 = ⟨g, 0, none⟩ ∧ w8.heap.size ≤ g ∧ d.length ≤ cd ∧ wr.heap[g]? = some (.cells cur 45 (0, 0)) ∧ cur.size = cd * 4 := by
        rcases HG.out with h | h
        · omega
        · exact h
      clear HG
      have hadd : ad0.add (i * 4) = ⟨g, i * 4, none⟩ := by rw [had, record_Held.add0]
      have hx : wr.cell? (ad0.add (i * 4)) = some cur[i * 4]! := by
        rw [hadd, blk_cell hb, getElem!_pos cur (i * 4) (by omega), Array.getElem?_eq_getElem (by omega)]
      have hf : wr.frozen? (ad0.add (i * 4)) = false := by rw [hadd, blk_frozen hb]
      have HADD := Aside0.mk hadd
      have HBK := Aside0.mk hb
      have HAD := Aside0.mk had
      have HS := Aside0.mk hs
      clear hadd hb had hs
      go_wp2
      go_roundw
      case rel =>
        refine ⟨i + 1, by go_num, by omega, ⟨?_⟩, ⟨.inr ⟨ad0, g, cur.setIfInBounds (i * 4) (.int .u64 99), rfl, HAD.out, hg, hdc, ?_, ?_⟩⟩⟩
        · rw [HADD.out]; exact below_set HQ.out hg
        · rw [HADD.out]; exact blk_set HBK.out _ _
        · rw [Array.size_setIfInBounds]; exact HS.out
      case measure => simp [intOf]; omega
    · clear HG
      have HIr := Aside0.mk (Kd.C_below HI8.out HQ.out)
      have HBr := Aside0.mk (below_step HB8.out HQ.out)
      go_wp2_with fail
      refine (diapasonlaw29_RecordTells.kept_calls k ad cap A0 c0 l0 _ HIr.out hcap (Kd.C_below HR0.out HBr.out) hc0 hl F11.out).mono ?_
      rintro e w12 ⟨rfl, n12, rfl⟩
      have HB12 := Aside0.mk (show Below w.heap.size w (wr.drewN n12) from pw_below_drewN HBr.out _)
      generalize wr.drewN n12 = w12 at *
      go_wp2_with fail
      refine (diapasonlaw29_works.calls k true _ F12.out).mono ?_
      rintro e w13 ⟨rfl, hb⟩
      have HB13 := Aside0.mk (below_step HB12.out hb)
      clear hb
      go_wp2
      go_ret
      exact ⟨rfl, HB13.out⟩

/-- THE ONE PURE STATEMENT of diapasonlaw29_RecordTells: yours. -/
def diapasonlaw29_RecordTells.Pure : Prop := ∀ (l0 : List (S45)) (a1_0 : Int) (a1_1 : Int) (a1_2 : Int), l0.length ≤ maxLen → l0.length * 32 ≤ 140737488351232 → (∀ x_4 ∈ l0, (Lit.int .u64 x_4.f0).wf = true ∧ (Lit.int .i64 x_4.f1.f0).wf = true ∧ (Lit.int .i64 x_4.f1.f1).wf = true) → (Lit.int .u64 a1_0).wf = true → (Lit.int .i64 a1_1).wf = true → (Lit.int .i64 a1_2).wf = true → ∃ k, diapasonlaw29_RecordTells.f k l0 a1_0 a1_1 a1_2 = some true
theorem diapasonlaw29_RecordTells.walk (P : diapasonlaw29_RecordTells.Pure) (A0 : Option Addr) (c0 : Nat) (l0 : List (S45)) (a1_0 : Int) (a1_1 : Int) (a1_2 : Int) (w : World) (hr0 : Kd.C k45 w A0 l0.length l0) (hc0 : l0.length ≤ c0) (hw0 : l0.length ≤ maxLen) (hw1 : l0.length * 32 ≤ 140737488351232) (hw2 : (∀ x_4 ∈ l0, (Lit.int .u64 x_4.f0).wf = true ∧ (Lit.int .i64 x_4.f1.f0).wf = true ∧ (Lit.int .i64 x_4.f1.f1).wf = true)) (hw3 : (Lit.int .u64 a1_0).wf = true) (hw4 : (Lit.int .i64 a1_1).wf = true) (hw5 : (Lit.int .i64 a1_2).wf = true) :
    Calls Try.prog 7 #[.slice A0 l0.length c0, .agg #[.int .u64 a1_0, .int .i64 a1_1, .int .i64 a1_2]] w fun e w' => e = .returned (.bool true) ∧ Below w.heap.size w w' := by
  obtain ⟨k, h⟩ := P l0 a1_0 a1_1 a1_2 hw0 hw1 hw2 hw3 hw4 hw5
  refine (diapasonlaw29_RecordTells.calls k A0 c0 l0 a1_0 a1_1 a1_2 true w hr0 hc0 h).mono ?_
  rintro e w' ⟨rfl, hd⟩
  exact ⟨rfl, hd⟩

end Go.Proofs.Ytfcomoledfdojaa.PRecordTells
