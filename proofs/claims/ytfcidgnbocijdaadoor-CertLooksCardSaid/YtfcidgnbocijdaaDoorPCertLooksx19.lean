-- Written by a program of this session (the kit's print, turned: wip/px).
import Derived.Test.YtfcidgnbocijdaaDoorPCertLooksx0
import Derived.Test.YtfcidgnbocijdaaDoorPCertLooksx1
import Derived.Test.YtfcidgnbocijdaaDoorPCertLooksx8
import Derived.Test.YtfcidgnbocijdaaDoorPCertLooksx9
import Derived.Test.YtfcidgnbocijdaaDoorPCertLooksx11
import Derived.Test.YtfcidgnbocijdaaDoorPCertLooksx18
import Derived.Test.YtfcidgnbocijdaaDoorPCertMakesx0
import Derived.Test.YtfcidgnbocijdaaDoorPCertMakesx1
import Derived.Test.YtfcidgnbocijdaaDoorPCertMakesx2
import Derived.Test.YtfcidgnbocijdaaDoorPCertMakesx3
import Derived.Test.YtfcidgnbocijdaaDoorPCertMakesx4
import Derived.Test.YtfcidgnbocijdaaDoorPCertMakesx5
import Derived.Test.YtfcidgnbocijdaaDoorPCertMakesx6
import Derived.Test.YtfcidgnbocijdaaDoorPCertMakesx7
import Derived.Test.YtfcidgnbocijdaaDoorPCertMakesx8
import Derived.Test.YtfcidgnbocijdaaDoorPCertMakesx9
import Derived.Test.YtfcidgnbocijdaaDoorPCertMakesx12
import Derived.Test.YtfcidgnbocijdaaDoorPCertMakesx13
import Derived.Test.YtfcidgnbocijdaaDoorPCertLooksx10
import Derived.Test.YtfcidgnbocijdaaDoorPCertLooksx13
import Derived.Test.YtfcidgnbocijdaaDoorPCertLooksx17
import Derived.Test.YtfcidgnbocijdaaDoorSq2
namespace Go.Proofs.YtfcidgnbocijdaaDoor.PCertLooks
open Go.Proofs.YtfcidgnbocijdaaDoor.PCertMakes
open Go.Proofs.YtfcidgnbocijdaaDoor.Sq
open Go.RowKit Go.Proofs.YtfcidgnbocijdaaDoorW.PrintWords Go.Proofs.YtfcidgnbocijdaaDoorW.PrintLast Go.Proofs.YtfcidgnbocijdaaDoorW.PrintMore
attribute [local go_sem] max2_int min2_int max_two min_two max_three min_three max_four min_four   -- for this text's walks alone
set_option linter.unusedVariables false
set_option linter.unusedSimpArgs false

/-! ### diapasonlaw27_CertLooks: function 5 -/
def diapasonlaw27_CertLooks.f (k : Nat) (l0 : List Int) (l1 : List (List Int)) (l2 : List Int) (a3 : Int) (b0 : List Int) (b1 b2 : Int) (l : List S66) : Option Bool :=
  (diapasonlaw27_nodes.f k l).bind fun p => (cert_Check.f k l0 (l1.take (diapasonlaw27_cut.n l1.length)) (l2.take (diapasonlaw27_cut.n l1.length)) a3 b0 b1 b2 p).bind fun a =>
    (diapasonref27_Check.f k l0 (l1.take (diapasonlaw27_cut.n l1.length)) (l2.take (diapasonlaw27_cut.n l1.length)) a3 b0 b1 b2 p).bind fun b => (diapasonref27_Same.f k p p).bind fun t => if a = b ∧ t = true then some true else none
set_option maxHeartbeats 40000000 in
set_option maxRecDepth 100000 in
theorem diapasonlaw27_CertLooks.calls (k : Nat) (A0_0 : Option Addr) (c0_0 : Nat) (l0_0 : List Int) (A0_1 : Option Addr) (c0_1 : Nat) (l0_1 : List (List Int)) (A0_2 : Option Addr) (c0_2 : Nat) (l0_2 : List Int) (a0_3 : Int) (A1_0 : Option Addr) (c1_0 : Nat) (l1_0 : List Int) (a1_1 : Int) (a1_2 : Int) (A2 : Option Addr) (c2 : Nat) (l2 : List S66) (r : Bool) (w : World) (ht : Tab w) (hr0_0 : Kd.C (Kd.int .i64) w A0_0 l0_0.length l0_0) (hc0_0 : l0_0.length ≤ c0_0) (hr0_1 : Kd.C (Kd.slice 3 (Kd.int .i64)) w A0_1 l0_1.length l0_1) (hc0_1 : l0_1.length ≤ c0_1) (hr0_2 : Kd.C (Kd.int .i64) w A0_2 l0_2.length l0_2) (hc0_2 : l0_2.length ≤ c0_2) (hr1_0 : Kd.C (Kd.int .i64) w A1_0 l1_0.length l1_0) (hc1_0 : l1_0.length ≤ c1_0) (hr2 : Kd.C k66 w A2 l2.length l2) (hc2 : l2.length ≤ c2) (h : diapasonlaw27_CertLooks.f k l0_0 l0_1 l0_2 a0_3 l1_0 a1_1 a1_2 l2 = some r) :
    Calls Tryd.prog 5 #[.agg #[.slice A0_0 l0_0.length c0_0, .slice A0_1 l0_1.length c0_1, .slice A0_2 l0_2.length c0_2, .int .i64 a0_3], .agg #[.slice A1_0 l1_0.length c1_0, .int .i64 a1_1, .int .i64 a1_2], .slice A2 l2.length c2] w fun e w' => e = .returned (.bool r) ∧ Below w.heap.size w w' := by
  have hu28 := Tryd.underlying28
  have hu31 := Tryd.underlying31
  have HT := Aside0.mk ht
  have HR0 := Aside0.mk hr0_0
  have HR1 := Aside0.mk (Kd.C_take hr0_1 (m := min (diapasonlaw27_cut.n l0_1.length) l0_1.length) (Nat.min_le_right _ _))
  have HR2 := Aside0.mk (Kd.C_take hr0_2 (m := min (diapasonlaw27_cut.n l0_1.length) l0_2.length) (Nat.min_le_right _ _))
  have HRC := Aside0.mk hr1_0
  have HRL := Aside0.mk hr2
  have e1 : l0_1.take (min (diapasonlaw27_cut.n l0_1.length) l0_1.length) = l0_1.take (diapasonlaw27_cut.n l0_1.length) := by rw [List.take_eq_take_iff]; omega
  have e2 : l0_2.take (min (diapasonlaw27_cut.n l0_1.length) l0_2.length) = l0_2.take (diapasonlaw27_cut.n l0_1.length) := by rw [List.take_eq_take_iff]; omega
  rw [e1] at HR1
  rw [e2] at HR2
  clear e1 e2
  have HC := Aside0.mk (fun W => diapasonlaw27_cut.calls A0_0 c0_0 l0_0 A0_1 c0_1 l0_1 A0_2 c0_2 l0_2 a0_3 W hc0_1 hc0_2 (Kd.C_max hr0_1) (Kd.C_max hr0_2))
  unfold diapasonlaw27_CertLooks.f at h
  obtain ⟨p, AP, h⟩ := Option.bind_eq_some_iff.mp h
  obtain ⟨⟨n1, n2⟩, AA, h⟩ := Option.bind_eq_some_iff.mp h
  obtain ⟨⟨q1, q2⟩, AB, h⟩ := Option.bind_eq_some_iff.mp h
  obtain ⟨t, AT, h⟩ := Option.bind_eq_some_iff.mp h
  by_cases hq : (n1, n2) = (q1, q2) ∧ t = true
  case neg => rw [if_neg hq] at h; cases h
  rw [if_pos hq] at h
  obtain rfl : true = r := by injection h
  obtain ⟨hq, rfl⟩ := hq
  obtain ⟨rfl, rfl⟩ := Prod.mk.inj hq
  replace AP := Aside0.mk AP
  replace AA := Aside0.mk AA
  replace AB := Aside0.mk AB
  replace AT := Aside0.mk AT
  clear h hq hr0_0 hr0_1 hr0_2 hr1_0 hr2 ht
  have hm1 : (l0_1.take (diapasonlaw27_cut.n l0_1.length)).length ≤ c0_1 := by rw [List.length_take]; omega
  have hm2 : (l0_2.take (diapasonlaw27_cut.n l0_1.length)).length ≤ c0_2 := by rw [List.length_take]; omega
  obtain ⟨m1, em1⟩ : ∃ m1, m1 = l0_1.take (diapasonlaw27_cut.n l0_1.length) := ⟨_, rfl⟩
  obtain ⟨m2, em2⟩ : ∃ m2, m2 = l0_2.take (diapasonlaw27_cut.n l0_1.length) := ⟨_, rfl⟩
  rw [← em1] at HR1 HC AA AB hm1
  rw [← em2] at HR2 HC AA AB hm2
  clear em1 em2
  go_enter Tryd.func5, Tryd.ntmps5
  go_wp2_with fail
  refine (HC.out _).mono ?_
  rintro e w1 ⟨rfl, hb⟩
  have hz : (w.alloc (.cells #[.slice A0_0 l0_0.length c0_0, .slice A0_1 l0_1.length c0_1, .slice A0_2 l0_2.length c0_2, .int .i64 a0_3] 28 (0, 0))).heap.size = w.heap.size + 1 := by show (w.heap.push _).size = _; exact Array.size_push ..
  have z0 : w1.heap[w.heap.size]? = some (.cells #[.slice A0_0 l0_0.length c0_0, .slice A0_1 l0_1.length c0_1, .slice A0_2 l0_2.length c0_2, .int .i64 a0_3] 28 (0, 0)) := blk_below (blk_alloc (blk_new w _) (.cells #[.slice A1_0 l1_0.length c1_0, .int .i64 a1_1, .int .i64 a1_2] 31 (0, 0))) hb
  have z1 : w1.heap[w.heap.size + 1]? = some (.cells #[.slice A1_0 l1_0.length c1_0, .int .i64 a1_1, .int .i64 a1_2] 31 (0, 0)) := hz ▸ blk_below (blk_new (w.alloc (.cells #[.slice A0_0 l0_0.length c0_0, .slice A0_1 l0_1.length c0_1, .slice A0_2 l0_2.length c0_2, .int .i64 a0_3] 28 (0, 0))) _) hb
  have HB1 := Aside0.mk (below_step (below_alloc (below_alloc (Below.refl _ _) _) _) hb)
  clear hb hz
  have f0 := blk_frozen z0 0
  have f1 := blk_frozen z0 1
  have f2 := blk_frozen z0 2
  have f3 := blk_frozen z0 3
  have e0 : w1.cell? ⟨w.heap.size, 0, none⟩ = some (.slice A0_0 l0_0.length c0_0) := (blk_cell z0 0).trans rfl
  have e1 : w1.cell? ⟨w.heap.size, 1, none⟩ = some (.slice A0_1 l0_1.length c0_1) := (blk_cell z0 1).trans rfl
  have e2 : w1.cell? ⟨w.heap.size, 2, none⟩ = some (.slice A0_2 l0_2.length c0_2) := (blk_cell z0 2).trans rfl
  have e3 : w1.cell? ⟨w.heap.size, 3, none⟩ = some (.int .i64 a0_3) := (blk_cell z0 3).trans rfl
  have g0 : w1.cell? ⟨w.heap.size + 1, 0, none⟩ = some (.slice A1_0 l1_0.length c1_0) := (blk_cell z1 0).trans rfl
  have g1 : w1.cell? ⟨w.heap.size + 1, 1, none⟩ = some (.int .i64 a1_1) := (blk_cell z1 1).trans rfl
  have g2 : w1.cell? ⟨w.heap.size + 1, 2, none⟩ = some (.int .i64 a1_2) := (blk_cell z1 2).trans rfl
  have HZ0 := Aside0.mk z0
  have HZ1 := Aside0.mk z1
  clear z0 z1
  go_wp2_with fail
  have z0 := blk_put (blk_put (blk_put (blk_put HZ0.out 0 (.slice A0_0 l0_0.length c0_0) rfl) 1 (.slice A0_1 m1.length c0_1) rfl) 2 (.slice A0_2 m2.length c0_2) rfl) 3 (.int .i64 a0_3) rfl
  have z1 := blk_far (p := ⟨w.heap.size, 3, none⟩) (blk_far (p := ⟨w.heap.size, 2, none⟩) (blk_far (p := ⟨w.heap.size, 1, none⟩) (blk_far (p := ⟨w.heap.size, 0, none⟩) HZ1.out (show w.heap.size + 1 ≠ w.heap.size by omega) (.slice A0_0 l0_0.length c0_0)) (show w.heap.size + 1 ≠ w.heap.size by omega) (.slice A0_1 m1.length c0_1)) (show w.heap.size + 1 ≠ w.heap.size by omega) (.slice A0_2 m2.length c0_2)) (show w.heap.size + 1 ≠ w.heap.size by omega) (.int .i64 a0_3)
  have hb2 := below_set (j := 3) (v := .int .i64 a0_3) (below_set (j := 2) (v := .slice A0_2 m2.length c0_2) (below_set (j := 1) (v := .slice A0_1 m1.length c0_1) (below_set (j := 0) (v := .slice A0_0 l0_0.length c0_0) HB1.out (Nat.le_refl _)) (Nat.le_refl _)) (Nat.le_refl _)) (Nat.le_refl _)
  have HB2 := Aside0.mk hb2
  replace HZ0 := Aside0.mk z0
  replace HZ1 := Aside0.mk z1
  clear z0 z1 hb2 HB1 e0 e1 e2 e3 f0 f1 f2 f3 g0 g1 g2
  refine (diapasonlaw27_nodes.calls k A2 c2 l2 p _ (Kd.C_below HRL.out HB2.out) hc2 AP.out).mono ?_
  rintro e w2 ⟨v0, rfl, hv, hb⟩
  obtain ⟨An, cn, rfl⟩ := Kd.S_slice hv
  have HB3 := Aside0.mk (below_step HB2.out hb)
  have HN := Aside0.mk (Kd.S_reads' hv)
  replace HZ0 := Aside0.mk (blk_below HZ0.out hb)
  replace HZ1 := Aside0.mk (blk_below HZ1.out hb)
  clear hb hv HB2
  go_wp2_with fail
  refine (diapasonlaw27_nodes.calls k A2 c2 l2 p _ (Kd.C_below HRL.out HB3.out) hc2 AP.out).mono ?_
  rintro e w3 ⟨v1, rfl, hv, hb⟩
  obtain ⟨Am, cm, rfl⟩ := Kd.S_slice hv
  have HB4 := Aside0.mk (below_step HB3.out hb)
  have HM := Aside0.mk (Kd.S_reads' hv)
  replace HN := Aside0.mk (And.intro HN.out.2.1 (Kd.C_below HN.out.2.2 hb))
  have z0 := blk_below HZ0.out hb
  have z1 := blk_below HZ1.out hb
  clear hb hv HB3 HZ0 HZ1
  have f0 := blk_frozen z0 0
  have f1 := blk_frozen z0 1
  have f2 := blk_frozen z0 2
  have f3 := blk_frozen z0 3
  have e0 : w3.cell? ⟨w.heap.size, 0, none⟩ = some (.slice A0_0 l0_0.length c0_0) := (blk_cell z0 0).trans rfl
  have e1 : w3.cell? ⟨w.heap.size, 1, none⟩ = some (.slice A0_1 m1.length c0_1) := (blk_cell z0 1).trans rfl
  have e2 : w3.cell? ⟨w.heap.size, 2, none⟩ = some (.slice A0_2 m2.length c0_2) := (blk_cell z0 2).trans rfl
  have e3 : w3.cell? ⟨w.heap.size, 3, none⟩ = some (.int .i64 a0_3) := (blk_cell z0 3).trans rfl
  have g0 : w3.cell? ⟨w.heap.size + 1, 0, none⟩ = some (.slice A1_0 l1_0.length c1_0) := (blk_cell z1 0).trans rfl
  have g1 : w3.cell? ⟨w.heap.size + 1, 1, none⟩ = some (.int .i64 a1_1) := (blk_cell z1 1).trans rfl
  have g2 : w3.cell? ⟨w.heap.size + 1, 2, none⟩ = some (.int .i64 a1_2) := (blk_cell z1 2).trans rfl
  have HZ0 := Aside0.mk z0
  have HZ1 := Aside0.mk z1
  clear z0 z1
  go_wp2_with fail
  refine (cert_Check.calls k A0_0 c0_0 l0_0 A0_1 c0_1 m1 A0_2 c0_2 m2 a0_3 A1_0 c1_0 l1_0 a1_1 a1_2 An cn p n1 n2 _ (Kd.C_below HR0.out HB4.out) hc0_0 (Kd.C_below HR1.out HB4.out) hm1 (Kd.C_below HR2.out HB4.out) hm2 (Kd.C_below HRC.out HB4.out) hc1_0 HN.out.2 HN.out.1 AA.out).mono ?_
  rintro e w4 ⟨rfl, hb⟩
  have HB5 := Aside0.mk (below_step HB4.out hb)
  replace HN := Aside0.mk (And.intro HN.out.1 (Kd.C_below HN.out.2 hb))
  replace HM := Aside0.mk (And.intro HM.out.2.1 (Kd.C_below HM.out.2.2 hb))
  have z0 := blk_below HZ0.out hb
  have z1 := blk_below HZ1.out hb
  clear hb HB4 HZ0 HZ1 e0 e1 e2 e3 f0 f1 f2 f3 g0 g1 g2
  have f0 := blk_frozen z0 0
  have f1 := blk_frozen z0 1
  have f2 := blk_frozen z0 2
  have f3 := blk_frozen z0 3
  have e0 : w4.cell? ⟨w.heap.size, 0, none⟩ = some (.slice A0_0 l0_0.length c0_0) := (blk_cell z0 0).trans rfl
  have e1 : w4.cell? ⟨w.heap.size, 1, none⟩ = some (.slice A0_1 m1.length c0_1) := (blk_cell z0 1).trans rfl
  have e2 : w4.cell? ⟨w.heap.size, 2, none⟩ = some (.slice A0_2 m2.length c0_2) := (blk_cell z0 2).trans rfl
  have e3 : w4.cell? ⟨w.heap.size, 3, none⟩ = some (.int .i64 a0_3) := (blk_cell z0 3).trans rfl
  have g0 : w4.cell? ⟨w.heap.size + 1, 0, none⟩ = some (.slice A1_0 l1_0.length c1_0) := (blk_cell z1 0).trans rfl
  have g1 : w4.cell? ⟨w.heap.size + 1, 1, none⟩ = some (.int .i64 a1_1) := (blk_cell z1 1).trans rfl
  have g2 : w4.cell? ⟨w.heap.size + 1, 2, none⟩ = some (.int .i64 a1_2) := (blk_cell z1 2).trans rfl
  clear z0 z1
  go_wp2_with fail
  refine (diapasonref27_Check.calls k A0_0 c0_0 l0_0 A0_1 c0_1 m1 A0_2 c0_2 m2 a0_3 A1_0 c1_0 l1_0 a1_1 a1_2 Am cm p n1 n2 _ (Kd.C_below HR0.out HB5.out) hc0_0 (Kd.C_below HR1.out HB5.out) hm1 (Kd.C_below HR2.out HB5.out) hm2 (Kd.C_below HRC.out HB5.out) hc1_0 HM.out.2 HM.out.1 AB.out).mono ?_
  rintro e w5 ⟨rfl, hb⟩
  have HB6 := Aside0.mk (below_step HB5.out hb)
  replace HN := Aside0.mk (And.intro HN.out.1 (Kd.C_below HN.out.2 hb))
  replace HM := Aside0.mk (And.intro HM.out.1 (Kd.C_below HM.out.2 hb))
  clear hb HB5 e0 e1 e2 e3 f0 f1 f2 f3 g0 g1 g2
  have b1 : (n1 == n1) = true := by simp
  have b2 : (n2 == n2) = true := by simp
  go_wp2_with fail
  refine (diapasonref27_Same.calls k An cn p Am cm p true _ HN.out.2 HN.out.1 HM.out.2 HM.out.1 AT.out).mono ?_
  rintro e w6 ⟨rfl, n6, rfl⟩
  have HB7 := Aside0.mk (pw_below_drewN HB6.out n6)
  go_wp2_with fail
  refine (diapasonlaw27_works.calls _ (HT.out.step HB7.out)).mono ?_
  rintro e w7 ⟨rfl, hb⟩
  have HB8 := Aside0.mk (below_step HB7.out hb)
  clear hb
  go_wp2
  go_ret
  exact ⟨rfl, HB8.out⟩

/-- THE ONE PURE STATEMENT of diapasonlaw27_CertLooks: yours. -/
def diapasonlaw27_CertLooks.Pure : Prop := ∀ (l0_0 : List Int) (l0_1 : List (List Int)) (l0_2 : List Int) (a0_3 : Int) (l1_0 : List Int) (a1_1 : Int) (a1_2 : Int) (l2 : List (S66)), l0_0.length ≤ maxLen → l0_0.length * 8 ≤ 140737488351232 → (∀ x_2 ∈ l0_0, (Lit.int .i64 x_2).wf = true) → l0_1.length ≤ maxLen → l0_1.length * 24 ≤ 140737488351232 → (∀ x_3 ∈ l0_1, x_3.length ≤ maxLen ∧ x_3.length * 8 ≤ 140737488351232 ∧ (∀ x_2 ∈ x_3, (Lit.int .i64 x_2).wf = true)) → l0_2.length ≤ maxLen → l0_2.length * 8 ≤ 140737488351232 → (∀ x_2 ∈ l0_2, (Lit.int .i64 x_2).wf = true) → (Lit.int .i64 a0_3).wf = true → l1_0.length ≤ maxLen → l1_0.length * 8 ≤ 140737488351232 → (∀ x_2 ∈ l1_0, (Lit.int .i64 x_2).wf = true) → (Lit.int .i64 a1_1).wf = true → (Lit.int .i64 a1_2).wf = true → l2.length ≤ maxLen → l2.length * 32 ≤ 140737488351232 → (∀ x_4 ∈ l2, x_4.f0.length ≤ maxLen ∧ x_4.f0.length * 1 ≤ 140737488351232 ∧ (∀ x_2 ∈ x_4.f0, (Lit.int .u8 x_2).wf = true) ∧ (Lit.int .i64 x_4.f1).wf = true) → ∃ k, diapasonlaw27_CertLooks.f k l0_0 l0_1 l0_2 a0_3 l1_0 a1_1 a1_2 l2 = some true
theorem diapasonlaw27_CertLooks.walk (P : diapasonlaw27_CertLooks.Pure) (A0_0 : Option Addr) (c0_0 : Nat) (l0_0 : List Int) (A0_1 : Option Addr) (c0_1 : Nat) (l0_1 : List (List Int)) (A0_2 : Option Addr) (c0_2 : Nat) (l0_2 : List Int) (a0_3 : Int) (A1_0 : Option Addr) (c1_0 : Nat) (l1_0 : List Int) (a1_1 : Int) (a1_2 : Int) (A2 : Option Addr) (c2 : Nat) (l2 : List (S66)) (w : World) (ht : Tab w) (hr0_0 : Kd.C (Kd.int .i64) w A0_0 l0_0.length l0_0) (hc0_0 : l0_0.length ≤ c0_0) (hr0_1 : Kd.C (Kd.slice 3 (Kd.int .i64)) w A0_1 l0_1.length l0_1) (hc0_1 : l0_1.length ≤ c0_1) (hr0_2 : Kd.C (Kd.int .i64) w A0_2 l0_2.length l0_2) (hc0_2 : l0_2.length ≤ c0_2) (hr1_0 : Kd.C (Kd.int .i64) w A1_0 l1_0.length l1_0) (hc1_0 : l1_0.length ≤ c1_0) (hr2 : Kd.C k66 w A2 l2.length l2) (hc2 : l2.length ≤ c2) (hw0 : l0_0.length ≤ maxLen) (hw1 : l0_0.length * 8 ≤ 140737488351232) (hw2 : (∀ x_2 ∈ l0_0, (Lit.int .i64 x_2).wf = true)) (hw3 : l0_1.length ≤ maxLen) (hw4 : l0_1.length * 24 ≤ 140737488351232) (hw5 : (∀ x_3 ∈ l0_1, x_3.length ≤ maxLen ∧ x_3.length * 8 ≤ 140737488351232 ∧ (∀ x_2 ∈ x_3, (Lit.int .i64 x_2).wf = true))) (hw6 : l0_2.length ≤ maxLen) (hw7 : l0_2.length * 8 ≤ 140737488351232) (hw8 : (∀ x_2 ∈ l0_2, (Lit.int .i64 x_2).wf = true)) (hw9 : (Lit.int .i64 a0_3).wf = true) (hw10 : l1_0.length ≤ maxLen) (hw11 : l1_0.length * 8 ≤ 140737488351232) (hw12 : (∀ x_2 ∈ l1_0, (Lit.int .i64 x_2).wf = true)) (hw13 : (Lit.int .i64 a1_1).wf = true) (hw14 : (Lit.int .i64 a1_2).wf = true) (hw15 : l2.length ≤ maxLen) (hw16 : l2.length * 32 ≤ 140737488351232) (hw17 : (∀ x_4 ∈ l2, x_4.f0.length ≤ maxLen ∧ x_4.f0.length * 1 ≤ 140737488351232 ∧ (∀ x_2 ∈ x_4.f0, (Lit.int .u8 x_2).wf = true) ∧ (Lit.int .i64 x_4.f1).wf = true)) :
    Calls Tryd.prog 5 #[.agg #[.slice A0_0 l0_0.length c0_0, .slice A0_1 l0_1.length c0_1, .slice A0_2 l0_2.length c0_2, .int .i64 a0_3], .agg #[.slice A1_0 l1_0.length c1_0, .int .i64 a1_1, .int .i64 a1_2], .slice A2 l2.length c2] w fun e w' => e = .returned (.bool true) ∧ Below w.heap.size w w' := by
  obtain ⟨k, h⟩ := P l0_0 l0_1 l0_2 a0_3 l1_0 a1_1 a1_2 l2 hw0 hw1 hw2 hw3 hw4 hw5 hw6 hw7 hw8 hw9 hw10 hw11 hw12 hw13 hw14 hw15 hw16 hw17
  refine (diapasonlaw27_CertLooks.calls k A0_0 c0_0 l0_0 A0_1 c0_1 l0_1 A0_2 c0_2 l0_2 a0_3 A1_0 c1_0 l1_0 a1_1 a1_2 A2 c2 l2 true w ht hr0_0 hc0_0 hr0_1 hc0_1 hr0_2 hc0_2 hr1_0 hc1_0 hr2 hc2 h).mono ?_
  rintro e w' ⟨rfl, hd⟩
  exact ⟨rfl, hd⟩

end Go.Proofs.YtfcidgnbocijdaaDoor.PCertLooks
