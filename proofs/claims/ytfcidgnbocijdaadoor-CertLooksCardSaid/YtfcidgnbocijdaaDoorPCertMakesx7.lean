-- Written by a program of this session (the kit's print, turned: wip/px).
import Derived.Test.YtfcidgnbocijdaaDoorPCertMakesx0
import Derived.Test.YtfcidgnbocijdaaDoorPCertMakesx5
import Derived.Test.YtfcidgnbocijdaaDoorPCertMakesx6
import Derived.Test.YtfcidgnbocijdaaDoorSq2
namespace Go.Proofs.YtfcidgnbocijdaaDoor.PCertMakes
open Go.Proofs.YtfcidgnbocijdaaDoor.Sq
open Go.RowKit Go.Proofs.YtfcidgnbocijdaaDoorW.PrintWords Go.Proofs.YtfcidgnbocijdaaDoorW.PrintLast Go.Proofs.YtfcidgnbocijdaaDoorW.PrintMore
attribute [local go_sem] max2_int min2_int max_two min_two max_three min_three max_four min_four   -- for this text's walks alone
set_option linter.unusedVariables false
set_option linter.unusedSimpArgs false

/-! ### cert_Make: function 11 -/
def cert_Make.part (k : Nat) (l0 : List Int) (l1 : List (List Int)) (l2 : List Int) (a3 m : Int) : Nat → List Int → List S66 → Option (List S66)
  | 0, _, _ => none
  | d + 1, S, out =>
    (regis_Bound.f k l0 l1 l2 a3 S).bind fun b => (cert_shut.f k l0 l1 l2 a3 m S b.1).bind fun t =>
      if t = true then (if out.length < 1000000 then some (out ++ [⟨S, b.1⟩]) else none)
      else if S.length < 1000 then
        (cert_Make.part k l0 l1 l2 a3 m d (S ++ [1]) out).bind fun o1 => cert_Make.part k l0 l1 l2 a3 m d (S ++ [2]) o1
      else none
structure cert_Make.Inv (w0 W : World) (bw bb bo bg : Nat) (A0 : Option Addr) (c0 : Nat) (l0 : List Int) (A1 : Option Addr) (c1 : Nat) (l1 : List (List Int)) (A2 : Option Addr) (c2 : Nat) (l2 : List Int) (a3 : Int) (vb : Value) (T : List Int) (m wi : Int) (vo : Value) (out : List S66) : Prop where
  lo : w0.heap.size ≤ bo
  below : Below w0.heap.size w0 W
  kw : W.heap[bw]? = some (.cells #[.slice A0 l0.length c0, .slice A1 l1.length c1, .slice A2 l2.length c2, .int .i64 a3] 28 (0, 0))
  kb : W.heap[bb]? = some (.cells #[vb, .int .i64 m, .int .i64 wi] 31 (0, 0))
  ko : W.heap[bo]? = some (.cells #[vo] 32 (0, 0))
  kg : W.heap[bg]? = some (.cells #[.func (.func 35) #[] #[.pointer (some ⟨bw, 0, none⟩), .pointer (some ⟨bb, 0, none⟩), .pointer (some ⟨bo, 0, none⟩), .pointer (some ⟨bg, 0, none⟩)]] 71 (0, 0))
  ro : Kd.R k66 66 W w0.heap.size (fun _ => True) vo out
  rb : Kd.R (Kd.int .i64) 3 W w0.heap.size (fun _ => True) vb T
theorem cert_Make.Inv.step {w0 W W1 : World} {bw bb bo bg : Nat} {A0 : Option Addr} {c0 : Nat} {l0 : List Int} {A1 : Option Addr} {c1 : Nat} {l1 : List (List Int)} {A2 : Option Addr} {c2 : Nat} {l2 : List Int} {a3 : Int} {vb : Value} {T : List Int} {m wi : Int} {vo : Value} {out : List S66} (h : cert_Make.Inv w0 W bw bb bo bg A0 c0 l0 A1 c1 l1 A2 c2 l2 a3 vb T m wi vo out) (hb : Below W.heap.size W W1) : cert_Make.Inv w0 W1 bw bb bo bg A0 c0 l0 A1 c1 l1 A2 c2 l2 a3 vb T m wi vo out := by
  obtain ⟨lo, below, kw, kb, ko, kg, ro, rb⟩ := h
  exact ⟨lo, below_step below hb, blk_below kw hb, blk_below kb hb, blk_below ko hb, blk_below kg hb, Kd.R_below ro hb, Kd.R_below rb hb⟩
theorem cert_Make.wrapq (n : Int) : wrap64 n = IntKind.i64.wrap n := by rw [IntKind.wrap_i64, wrap64]
theorem cert_Make.len {n : Nat} (h : n < 1000000) : (n + 1) * 32 ≤ 140737488355328 := by omega
theorem cert_Make.len1 {n : Nat} (h : n < 1000) : (n + 1) * 1 ≤ 140737488355328 := by omega
theorem cert_Make.apart {W : World} {base : Nat} {vS vo : Value} {S : List Int} {out : List S66} {ok : Nat → Prop} (hS : Kd.R (Kd.int .u8) 5 W base ok vS S) (hO : Kd.R k66 66 W base (fun _ => True) vo out) : Kd.R (Kd.int .u8) 5 W base (fun k => ok k ∧ some k ≠ vo.ownBlock) vS S :=
  Kd.R_mono (Kd.R_bound hS) (fun k hk => ⟨hk.1, fun he => by
    obtain ⟨-, -, -, q, hq, cells, hc⟩ := hk
    obtain ⟨c', h'⟩ := Kd.R_typed hO k he.symm
    rw [hc] at h'
    injection h' with h'
    injection h' with _ h'
    have : q = 5 := by
      rcases List.mem_cons.1 hq with h | h
      · exact h
      · cases h
    subst this
    exact absurd h' (by decide)⟩)
theorem cert_Make.lit (W : World) (g : Nat) (x : Int) (h : W.heap[g]? = some (.cells #[.int .u8 x] 5 (0, 0))) : Kd.C (Kd.int .u8) W (some ⟨g, 0, none⟩) 1 [x] := by
  refine Kd.C_of_reads (d := (0 : Int)) ⟨rfl, by simp, fun _ => ⟨_, rfl, fun j hj => ?_⟩⟩
  obtain rfl : j = 0 := by omega
  exact (blk_cell h 0).trans rfl
set_option maxHeartbeats 40000000 in
set_option maxRecDepth 100000 in
theorem cert_Make.part_calls (k : Nat) (w0 : World) (bw bb bo bg : Nat) (A0 : Option Addr) (c0 : Nat) (l0 : List Int) (A1 : Option Addr) (c1 : Nat) (l1 : List (List Int)) (A2 : Option Addr) (c2 : Nat) (l2 : List Int) (a3 : Int) (vb : Value) (T : List Int) (m wi : Int)
    (hr0 : Kd.C (Kd.int .i64) w0 A0 l0.length l0) (hc0 : l0.length ≤ c0) (hr1 : Kd.C (Kd.slice 3 (Kd.int .i64)) w0 A1 l1.length l1) (hc1 : l1.length ≤ c1) (hr2 : Kd.C (Kd.int .i64) w0 A2 l2.length l2) (hc2 : l2.length ≤ c2) :
    ∀ (d : Nat) (S : List Int) (out out' : List S66) (vo : Value) (A : Option Addr) (c : Nat) (W : World), cert_Make.Inv w0 W bw bb bo bg A0 c0 l0 A1 c1 l1 A2 c2 l2 a3 vb T m wi vo out → Kd.R (Kd.int .u8) 5 W w0.heap.size (fun _ => True) (.slice A S.length c) S → cert_Make.part k l0 l1 l2 a3 m d S out = some out' →
    Calls Tryd.prog 35 #[.slice A S.length c, .pointer (some ⟨bw, 0, none⟩), .pointer (some ⟨bb, 0, none⟩), .pointer (some ⟨bo, 0, none⟩), .pointer (some ⟨bg, 0, none⟩)] W fun e W' => e = .returned (.tuple #[]) ∧ ∃ vo', cert_Make.Inv w0 W' bw bb bo bg A0 c0 l0 A1 c1 l1 A2 c2 l2 a3 vb T m wi vo' out' ∧ KeepBut W W' bo vo.ownBlock ∧ (vo'.ownBlock = vo.ownBlock ∨ ∃ b, vo'.ownBlock = some b ∧ W.heap.size ≤ b) := by
  have HR0 := Aside0.mk hr0
  have HR1 := Aside0.mk hr1
  have HR2 := Aside0.mk hr2
  clear hr0 hr1 hr2
  intro d
  induction d with
  | zero => intro S out out' vo A c W _ _ h; cases h
  | succ d ih0 =>
  intro S out out' vo A c W hinv hS hgo
  have ih := Aside0.mk ih0
  clear ih0
  obtain ⟨lo, below, kw, kb, ko, kg, ro, rb⟩ := id hinv
  have HI := Aside0.mk hinv
  have HB := Aside0.mk below
  have HS := Aside0.mk hS
  have HO := Aside0.mk ro
  have hcS := (Kd.R_reads' hS).2.1
  have HSC := Aside0.mk (Kd.R_reads' hS).2.2
  clear hinv below hS ro rb
  simp only [cert_Make.part] at hgo
  obtain ⟨⟨b1, b2⟩, AB, hgo⟩ := Option.bind_eq_some_iff.mp hgo
  obtain ⟨t, AT, hgo⟩ := Option.bind_eq_some_iff.mp hgo
  replace AB := Aside0.mk AB
  replace AT := Aside0.mk AT
  have HG := Aside0.mk hgo
  clear hgo
  have hu28 := Tryd.underlying28
  have hu31 := Tryd.underlying31
  have hu66 := Tryd.underlying66
  have hi66 : (Tryd.prog.info? 66).map (fun i => (i.zero, i.size, i.bytes)) = some (some (.agg #[(.slice none 0 0), (.int .i64 0)]), 2, 32) := by kernel_rfl
  have hi5 : (Tryd.prog.info? 5).map (fun i => (i.zero, i.size, i.bytes)) = some (some (.int .u8 0), 1, 1) := by kernel_rfl
  go_enter Tryd.func35, Tryd.ntmps35
  go_upto_region 0 with fail
  go_cut [6] (fun s6 wx => ∃ bn : Nat, s6 = .pointer (some ⟨bn, 0, none⟩) ∧ wx.heap[bn]? = some (.cells #[.slice A S.length c, .int .i64 0] 66 (0, 0)) ∧ W.heap.size ≤ bn ∧ Below W.heap.size W wx)
  case first =>
    go_wp2
    go_meet
    exact ⟨_, rfl, blk_new _ _, Nat.le_refl _, below_alloc (Below.refl _ _) _⟩
  case rest =>
    obtain ⟨bn, rfl, kn, ln, hba⟩ := hcut
    rename World => wa
    have HBa := Aside0.mk hba
    clear hba
    have kwa := blk_below kw HBa.out
    have kba := blk_below kb HBa.out
    have koa := blk_below ko HBa.out
    have kga := blk_below kg HBa.out
    have ew0 : wa.cell? ⟨bw, 0, none⟩ = some (.slice A0 l0.length c0) := (blk_cell kwa 0).trans rfl
    have ew1 : wa.cell? ⟨bw, 1, none⟩ = some (.slice A1 l1.length c1) := (blk_cell kwa 1).trans rfl
    have ew2 : wa.cell? ⟨bw, 2, none⟩ = some (.slice A2 l2.length c2) := (blk_cell kwa 2).trans rfl
    have ew3 : wa.cell? ⟨bw, 3, none⟩ = some (.int .i64 a3) := (blk_cell kwa 3).trans rfl
    have HOa : Aside0 (Kd.R k66 66 wa w0.heap.size (fun k => k < W.heap.size) vo out) := ⟨Kd.R_below (Kd.R_mono (Kd.R_bound HO.out) (fun k hk => hk.2.2.1)) HBa.out⟩
    have HSa := Aside0.mk (Kd.R_below HS.out HBa.out)
    have HBw := Aside0.mk (below_step HB.out HBa.out)
    go_upto_region 1 with fail
    go_cut [] (fun wx => wx.heap[bn]? = some (.cells #[.slice A S.length c, .int .i64 b1] 66 (0, 0)) ∧ Below W.heap.size W wx ∧ Kd.R k66 66 wx w0.heap.size (fun _ => True) vo out ∧ Kd.R (Kd.int .u8) 5 wx w0.heap.size (fun _ => True) (.slice A S.length c) S)
    case first =>
      go_wp2_with (go_at_call 36
                   refine (regis_Bound.calls k A0 c0 l0 A1 c1 l1 A2 c2 l2 a3 A c S b1 b2 wa (Kd.C_below HR0.out HBw.out) hc0 (Kd.C_below HR1.out HBw.out) hc1 (Kd.C_below HR2.out HBw.out) hc2 (Kd.C_below HSC.out HBa.out) hcS AB.out).mono ?_
                   rintro e w1 ⟨rfl, hb⟩
                   have HB1 := Aside0.mk hb
                   clear hb
                   have kn1 := blk_below kn HB1.out
                   have y1 : w1.cell? ⟨bn, 1, none⟩ = some (.int .i64 0) := (blk_cell kn1 1).trans rfl
                   have z1 := blk_frozen kn1 1)
      go_meet
      exact ⟨blk_put kn1 1 (.int .i64 b1) rfl, below_set (below_step HBa.out HB1.out) ln, Kd.R_mono (Kd.R_far (Kd.R_below HOa.out HB1.out) (fun k hk => by show k ≠ bn; omega) _) (fun _ _ => trivial), Kd.R_set (Kd.R_below HSa.out HB1.out) kn1 (by decide) _ _⟩
    obtain ⟨kn2, hb2, ho2, hs2⟩ := hcut
    rename World => w2
    have HB2 := Aside0.mk hb2
    have HO2 := Aside0.mk ho2
    have HS2 := Aside0.mk hs2
    have HI2 := Aside0.mk (HI.out.step hb2)
    have kw2 := blk_below kw hb2
    have kb2 := blk_below kb hb2
    have ko2 := blk_below ko hb2
    have kg2 := blk_below kg hb2
    clear hb2 ho2 hs2 ew0 ew1 ew2 ew3 HOa HSa kwa kba koa kga kn
    have ew0 : w2.cell? ⟨bw, 0, none⟩ = some (.slice A0 l0.length c0) := (blk_cell kw2 0).trans rfl
    have ew1 : w2.cell? ⟨bw, 1, none⟩ = some (.slice A1 l1.length c1) := (blk_cell kw2 1).trans rfl
    have ew2 : w2.cell? ⟨bw, 2, none⟩ = some (.slice A2 l2.length c2) := (blk_cell kw2 2).trans rfl
    have ew3 : w2.cell? ⟨bw, 3, none⟩ = some (.int .i64 a3) := (blk_cell kw2 3).trans rfl
    have eb1 : w2.cell? ⟨bb, 1, none⟩ = some (.int .i64 m) := (blk_cell kb2 1).trans rfl
    have en0 : w2.cell? ⟨bn, 0, none⟩ = some (.slice A S.length c) := (blk_cell kn2 0).trans rfl
    have en1 : w2.cell? ⟨bn, 1, none⟩ = some (.int .i64 b1) := (blk_cell kn2 1).trans rfl
    have hgo := HG.out
    clear HG
    cases t with
    | true =>
      rw [if_pos rfl] at hgo
      by_cases q : out.length < 1000000
      case neg => rw [if_neg q] at hgo; cases hgo
      rw [if_pos q] at hgo
      injection hgo with hgo
      have HN := Aside0.mk hgo
      clear hgo
      have q1 := Aside0.mk (cert_Make.len q)
      clear q
      go_wp2_with (first
        | (go_at_call 37
           refine (cert_shut.calls k A0 c0 l0 A1 c1 l1 A2 c2 l2 a3 m A c S b1 true w2 (Kd.C_below HR0.out (below_step HB.out HB2.out)) hc0 (Kd.C_below HR1.out (below_step HB.out HB2.out)) hc1 (Kd.C_below HR2.out (below_step HB.out HB2.out)) hc2 (Kd.C_below HSC.out HB2.out) hcS AT.out).mono ?_
           rintro e w3 ⟨rfl, hb⟩
           have HB3 := Aside0.mk hb
           clear hb
           have ko3 := blk_below ko2 HB3.out
           have kn3 := blk_below kn2 HB3.out
           have eo : w3.cell? ⟨bo, 0, none⟩ = some vo := (blk_cell ko3 0).trans rfl
           have en0' : w3.cell? ⟨bn, 0, none⟩ = some (.slice A S.length c) := (blk_cell kn3 0).trans rfl
           have en1' : w3.cell? ⟨bn, 1, none⟩ = some (.int .i64 b1) := (blk_cell kn3 1).trans rfl
           have HO3 := Aside0.mk (Kd.R_below HO2.out HB3.out)
           have HS3 := Aside0.mk (cert_Make.apart (ok := fun _ => True) (Kd.R_below HS2.out HB3.out) HO3.out)
           have HBb := Aside0.mk (below_step (below_step HB.out HB2.out) HB3.out))
        | (at_builtin
           refine Kd.R_append k66 (w0 := w0) (W := w3) w0.heap.size ?g1 (.tmp 22) (.tmp 24) 32 66 (.agg #[(.slice none 0 0), (.int .i64 0)]) 32 ?g2 ?g3 ?g4 ?g5 ?g6 ?g17 vo out ⟨S, b1⟩ [.slice A S.length c, .int .i64 b1] (fun _ => True) (fun k => some k ≠ vo.ownBlock) ?g7 ?g8 ?g9 ?g10 ?g11 ?g12 ?g13 ?g14 ?g15 ?g16
           (case g1 => exact rfl)
           (case g2 => exact rfl)
           (case g3 => exact Tryd.underlying32)
           (case g4 => exact hi66)
           (case g5 => exact rfl)
           (case g6 => decide)
           (case g17 => decide)
           (case g7 => exact rfl)
           (case g8 => exact rfl)
           (case g9 => exact k66_mkM _ _ _ ⟨S, b1⟩ (Kd.R_mono HS3.out (fun _ hk => hk.2)))
           (case g10 => exact (fun _ hk => ⟨trivial, hk⟩))
           (case g11 => exact (fun _ _ => trivial))
           (case g12 => exact HO3.out)
           (case g13 => exact HBb.out)
           (case g14 => exact HBb.out.size)
           (case g15 => exact q1.out)
           intro v1 w4 hR hB hg hat
           rw [HN.out] at hR
           obtain ⟨Av, cv, rfl⟩ := Kd.R_slice hR
           have HR4 := Aside0.mk hR
           have HB4 := Aside0.mk hB
           have HG4 := Aside0.mk hg
           have HAT := Aside0.mk hat
           have ko4 := blk_grown ko3 hg (Kd.R_ne HO3.out ko3 (by decide))
           have eo4 : w4.cell? ⟨bo, 0, none⟩ = some vo := (blk_cell ko4 0).trans rfl
           have zo4 := blk_frozen ko4 0
           clear hR hB hg hat))
      (try simp only [Exit.inBlock, Exit.then])
      refine bodyPost_ret (results_none rfl _ _ _) rfl ?_
      have kk := KeepBut.set_ (KeepBut.trans (KeepBut.of_below (below_step HB2.out HB3.out) bo vo.ownBlock) (KeepBut.of_grown HG4.out bo) (Or.inl rfl)) 0 (.slice Av out'.length cv)
      refine ⟨rfl, _, ⟨lo, below_set HB4.out lo, ?_, ?_, blk_put ko4 0 _ rfl, ?_, Kd.R_set HR4.out ko4 (by decide) _ _, ?_⟩, kk, ?_⟩
      · exact blk_far (blk_grown (blk_below kw2 HB3.out) HG4.out (Kd.R_ne HO3.out (blk_below kw2 HB3.out) (by decide))) (blk_ne (blk_below kw2 HB3.out) ko3 (by decide)) _
      · exact blk_far (blk_grown (blk_below kb2 HB3.out) HG4.out (Kd.R_ne HO3.out (blk_below kb2 HB3.out) (by decide))) (blk_ne (blk_below kb2 HB3.out) ko3 (by decide)) _
      · exact blk_far (blk_grown (blk_below kg2 HB3.out) HG4.out (Kd.R_ne HO3.out (blk_below kg2 HB3.out) (by decide))) (blk_ne (blk_below kg2 HB3.out) ko3 (by decide)) _
      · exact Kd.R_set (Kd.R_over (Kd.R_below HI2.out.rb HB3.out) HO3.out (by decide) HG4.out) ko4 (by decide) _ _
      · rcases HAT.out with h | ⟨b, h, h'⟩
        · exact Or.inl h
        · exact Or.inr ⟨b, h, Nat.le_trans (Nat.le_trans HB2.out.size HB3.out.size) h'⟩
    | false =>
      rw [if_neg (by simp)] at hgo
      by_cases q : S.length < 1000
      case neg => rw [if_neg q] at hgo; cases hgo
      rw [if_pos q] at hgo
      obtain ⟨o1, G1, G2⟩ := Option.bind_eq_some_iff.mp hgo
      clear hgo
      have q1 := Aside0.mk (cert_Make.len1 q)
      have CL : slices_Clone_uint8_uint8.f S = some S := by unfold slices_Clone_uint8_uint8.f; rw [if_pos (by omega)]
      clear q
      replace G1 := Aside0.mk G1
      replace G2 := Aside0.mk G2
      go_wp2_with (go_at_call 37
                   refine (cert_shut.calls k A0 c0 l0 A1 c1 l1 A2 c2 l2 a3 m A c S b1 false w2 (Kd.C_below HR0.out (below_step HB.out HB2.out)) hc0 (Kd.C_below HR1.out (below_step HB.out HB2.out)) hc1 (Kd.C_below HR2.out (below_step HB.out HB2.out)) hc2 (Kd.C_below HSC.out HB2.out) hcS AT.out).mono ?_
                   rintro e w3 ⟨rfl, hb⟩
                   have HB3 := Aside0.mk (below_step HB2.out hb)
                   have HI3 := Aside0.mk (HI2.out.step hb)
                   clear hb)
      clear ew0 ew1 ew2 ew3 eb1 en0 en1 kw2 kb2 ko2 kg2 kn2
      have HI3b := Aside0.mk HI3.out
      go_loopw [7] (fun v7 wr => ∃ (way : Nat) (o : List S66) (vo_ : Value), v7 = .int .u8 (way : Int) ∧ Aside0 ((way = 1 ∧ o = out) ∨ (way = 2 ∧ o = o1) ∨ (way = 3 ∧ o = out')) ∧ Aside0 (cert_Make.Inv w0 wr bw bb bo bg A0 c0 l0 A1 c1 l1 A2 c2 l2 a3 vb T m wi vo_ o) ∧ Aside0 (KeepBut W wr bo vo.ownBlock) ∧ Aside0 (vo_.ownBlock = vo.ownBlock ∨ ∃ b, vo_.ownBlock = some b ∧ W.heap.size ≤ b)) (fun v7 _ => 3 - (intOf v7).toNat)
      case atStart => exact ⟨1, out, vo, rfl, ⟨Or.inl ⟨rfl, rfl⟩⟩, HI3, ⟨KeepBut.of_below HB3.out _ _⟩, ⟨Or.inl rfl⟩⟩
      case round =>
        obtain ⟨way, o, vo_, rfl, HW, HIr, HK, HA⟩ := hrel
        by_cases h3 : way = 3
        · subst h3
          obtain rfl : o = out' := by rcases HW.out with ⟨h, _⟩ | ⟨h, _⟩ | ⟨_, h⟩ <;> first | omega | exact h
          go_wp2
          go_end0
          exact ⟨rfl, vo_, HIr.out, HK.out, HA.out⟩
        · obtain ⟨o2, hn, hw2, hwl⟩ : ∃ o2, cert_Make.part k l0 l1 l2 a3 m d (S ++ [(way : Int)]) o = some o2 ∧ ((way + 1 = 1 ∧ o2 = out) ∨ (way + 1 = 2 ∧ o2 = o1) ∨ (way + 1 = 3 ∧ o2 = out')) ∧ (way = 1 ∨ way = 2) := by
            rcases HW.out with ⟨rfl, rfl⟩ | ⟨rfl, rfl⟩ | ⟨h, _⟩
            · exact ⟨o1, G1.out, Or.inr (Or.inl ⟨rfl, rfl⟩), Or.inl rfl⟩
            · exact ⟨out', G2.out, Or.inr (Or.inr ⟨rfl, rfl⟩), Or.inr rfl⟩
            · exact absurd h h3
          have HW2 := Aside0.mk hw2
          have hwa : (way : Int) ≤ 2 := by omega
          have hwb : (0 : Int) ≤ (way : Int) := by omega
          have hwd : decide ((way : Int) ≤ 2) = true := decide_eq_true hwa
          obtain ⟨S1, hS1⟩ : ∃ S1 : List Int, S1 = S ++ [(way : Int)] := ⟨_, rfl⟩
          rw [← hS1] at hn
          have HN := Aside0.mk hn
          have NS := Aside0.mk hS1
          clear hn hS1 hw2 HW
          have HSr : Aside0 (Kd.R (Kd.int .u8) 5 wr w0.heap.size (fun _ => True) (.slice A S.length c) S) := ⟨Kd.R_mono (Kd.R_step (Kd.R_types (cert_Make.apart (ok := fun _ => True) HS.out HO.out) ko (by decide)) (fun k hk hlt => HK.out.2 k hlt hk.2 hk.1.2)) (fun _ _ => trivial)⟩
          have HCr := Aside0.mk (Kd.R_reads' HSr.out).2.2
          have eg : wr.cell? ⟨bg, 0, none⟩ = some (.func (.func 35) #[] #[.pointer (some ⟨bw, 0, none⟩), .pointer (some ⟨bb, 0, none⟩), .pointer (some ⟨bo, 0, none⟩), .pointer (some ⟨bg, 0, none⟩)]) := (blk_cell HIr.out.kg 0).trans rfl
          have eg_ : (wr.alloc (.cells #[.int .u8 (way : Int)] 5 (0, 0))).cell? ⟨bg, 0, none⟩ = _ := Lib.cell?_alloc_some _ eg
          go_wp2
          go_region_law (first
            | (refine Kd.R_append_rows_step (Kd.int .u8) (w0 := wr) wr.heap.size (by rfl) (.tmp 32) (.tmp 34) 64 5 (.int .u8 0) 1 rfl Tryd.underlying64 hi5 rfl (by decide) (by omega) (.slice Av S.length cv) S [(way : Int)] _ _ _ (fun _ => True) (fun _ => False) rfl rfl ?aO ?aR (fun _ _ h => h) (fun _ h => h.elim) (fun _ _ => trivial) ?aB ?aS q1.out ?_
               (case aO => first | exact HV.out | exact Kd.R_alloc HV.out _)
               (case aR => first | exact cert_Make.lit _ _ _ (blk_new _ _) | exact cert_Make.lit _ _ _ HL.out)
               (case aB => first | exact HX.out | exact below_alloc HX.out _)
               (case aS => first | exact HX.out.size | exact (below_alloc HX.out _).size)
               intro v1 w4 hR hB hg hat
               rw [← NS.out] at hR
               obtain ⟨Aq, cq, rfl⟩ := Kd.R_slice hR
               have HR4 := Aside0.mk (Kd.R_lower hR HIr.out.below.size)
               have HB4 := Aside0.mk hB
               have HI4 := Aside0.mk (HIr.out.step hB)
               have g4 := pw_cell_below hB eg
               clear hR hB hg hat)
            | (go_simp
               go_wp2_with (first
                 | (go_at_call 38
                    refine (slices_Clone_uint8_uint8.calls A c S S _ ?hC hcS CL).mono ?_
                    (case hC => first | exact Kd.C_drew HCr.out | exact Kd.C_drew (Kd.C_alloc HCr.out _))
                    rintro e w2 ⟨v1, rfl, hv, hb⟩
                    obtain ⟨Av, cv, rfl⟩ := Kd.R_slice hv
                    have HX : Aside0 (Below wr.heap.size wr w2) := ⟨by first | exact below_step (below_drew (Below.refl _ _)) hb | exact below_step (below_drew (below_alloc (Below.refl _ _) _)) hb⟩
                    have HV : Aside0 (Kd.R (Kd.int .u8) 5 w2 wr.heap.size (fun _ => True) (.slice Av S.length cv) S) := ⟨Kd.R_lower hv (by first | exact Nat.le_refl _ | exact (below_drew (below_alloc (Below.refl wr.heap.size wr) _)).size)⟩
                    have g2 := pw_cell_below HX.out eg
                    have g2_ : (w2.alloc (.cells #[.int .u8 (way : Int)] 5 (0, 0))).cell? ⟨bg, 0, none⟩ = _ := Lib.cell?_alloc_some _ g2
                    (try (have HL : Aside0 (w2.heap[wr.heap.size]? = some (.cells #[.int .u8 (way : Int)] 5 (0, 0))) := ⟨blk_below (blk_drew (blk_new wr _)) hb⟩))
                    clear hv hb)
                 | (go_at_call 35
                    refine (ih.out S1 o o2 vo_ Aq cq _ ?hI ?hS HN.out).mono ?_
                    (case hI => exact HI4.out)
                    (case hS => exact HR4.out)
                    rintro e w5 ⟨rfl, vo5, hI5, hk5, ha5⟩
                    have HI5 := Aside0.mk hI5
                    have HK5 := Aside0.mk hk5
                    have HA5 := Aside0.mk ha5
                    clear hI5 hk5 ha5)))
            )
          all_goals (go_wp2; go_roundw)
          all_goals first
            | exact ⟨way + 1, o2, vo5, by go_num, HW2, HI5, ⟨KeepBut.trans (KeepBut.trans HK.out (KeepBut.of_below HB4.out bo vo.ownBlock) (Or.inl rfl)) HK5.out HA.out⟩, ⟨by
                rcases HA5.out with h | ⟨b, h, h'⟩
                · rw [h]; exact HA.out
                · exact Or.inr ⟨b, h, Nat.le_trans HK.out.1 (Nat.le_trans HB4.out.size h')⟩⟩⟩
            | (simp [intOf]; omega)
def cert_Make.f (k : Nat) (l0_0 : List Int) (l0_1 : List (List Int)) (l0_2 : List Int) (a0_3 : Int) : Option (List Int × Int × Int × List S66 × Int) :=
  (regis_Best.f k l0_0 l0_1 l0_2 a0_3).bind fun B =>
    if B.2.2.2 = 0 then (cert_Make.part k l0_0 l0_1 l0_2 a0_3 B.2.1 k [] []).bind fun out => some (B.1, B.2.1, B.2.2.1, out, 0)
    else some ([], 0, 0, [], B.2.2.2)
theorem cert_Make.mono_part (k : Nat) (l0 : List Int) (l1 : List (List Int)) (l2 : List Int) (a3 m : Int) : ∀ (d : Nat) (S : List Int) (out : List S66), LeO (cert_Make.part k l0 l1 l2 a3 m d S out) (cert_Make.part (k + 1) l0 l1 l2 a3 m (d + 1) S out) := by
  intro d
  induction d with
  | zero => intro S out; exact LeO.none _
  | succ d ih =>
    intro S out
    rw [cert_Make.part, cert_Make.part]
    exact LeO.bind (regis_Bound.mono _ _ _ _ _ _) (fun b => LeO.bind (cert_shut.mono _ _ _ _ _ _ _ _) (fun t => LeO.ite (LeO.refl _) (LeO.ite (LeO.bind (ih _ _) (fun o1 => ih _ _)) (LeO.none _))))
theorem cert_Make.mono : ∀ a0 a1 a2 a3 k, LeO (cert_Make.f k a0 a1 a2 a3) (cert_Make.f (k + 1) a0 a1 a2 a3) := by
  intro a0 a1 a2 a3 k
  unfold cert_Make.f
  exact LeO.bind (regis_Best.mono _ _ _ _ _) (fun B => LeO.ite (LeO.bind (cert_Make.mono_part k a0 a1 a2 a3 _ k _ _) (fun _ => LeO.refl _)) (LeO.refl _))
set_option maxHeartbeats 40000000 in
set_option maxRecDepth 100000 in
theorem cert_Make.calls (k : Nat) (A0_0 : Option Addr) (c0_0 : Nat) (l0_0 : List Int) (A0_1 : Option Addr) (c0_1 : Nat) (l0_1 : List (List Int)) (A0_2 : Option Addr) (c0_2 : Nat) (l0_2 : List Int) (a0_3 : Int) (r1 : List Int) (r2 : Int) (r3 : Int) (r4 : List S66) (r5 : Int) (w : World) (hr0_0 : Kd.C (Kd.int .i64) w A0_0 l0_0.length l0_0) (hc0_0 : l0_0.length ≤ c0_0) (hr0_1 : Kd.C (Kd.slice 3 (Kd.int .i64)) w A0_1 l0_1.length l0_1) (hc0_1 : l0_1.length ≤ c0_1) (hr0_2 : Kd.C (Kd.int .i64) w A0_2 l0_2.length l0_2) (hc0_2 : l0_2.length ≤ c0_2) (h : cert_Make.f k l0_0 l0_1 l0_2 a0_3 = some (r1, r2, r3, r4, r5)) :
    Calls Tryd.prog 11 #[.agg #[.slice A0_0 l0_0.length c0_0, .slice A0_1 l0_1.length c0_1, .slice A0_2 l0_2.length c0_2, .int .i64 a0_3]] w fun e w' => ∃ v0_ v3_ : Value, e = .returned (.tuple #[.agg #[v0_, .int .i64 r2, .int .i64 r3], v3_, .int .i64 r5]) ∧ Kd.R (Kd.int .i64) 3 w' w.heap.size (fun _ => True) v0_ r1 ∧ Kd.R k66 66 w' w.heap.size (fun _ => True) v3_ r4 ∧ Below w.heap.size w w' := by
  have hu28 := Tryd.underlying28
  have hu31 := Tryd.underlying31
  have hmf : ∀ (fn : Fn) (first cap : Array Value) (w : World), (Instr.makeFunc fn first cap).run Tryd.prog w = .ok (.func fn first cap) w := fun _ _ _ _ => rfl
  have hsf : ∀ (a : Addr) (fn : Fn) (x y : Array Value) (m : Mode) (w : World), (Go.store a (.func fn x y) m).run Tryd.prog w = stored Tryd.prog w a (.func fn x y) m := fun a fn x y m w => run_store Tryd.prog w a _ m rfl
  have HR0 := Aside0.mk hr0_0
  have HR1 := Aside0.mk hr0_1
  have HR2 := Aside0.mk hr0_2
  clear hr0_0 hr0_1 hr0_2
  unfold cert_Make.f at h
  obtain ⟨⟨T, m, wi, e0⟩, AE, H⟩ := Option.bind_eq_some_iff.mp h
  clear h
  replace AE := Aside0.mk AE
  simp only at H
  go_enter Tryd.func11, Tryd.ntmps11
  go_upto_region 0 with fail
  go_cut [1, 2, 3, 4] (fun s1 s2 s3 s4 wx => ∃ bw br, s1 = .pointer (some ⟨bw, 0, none⟩) ∧ s2 = .pointer (some ⟨br, 0, none⟩) ∧ s3 = .slice none 0 0 ∧ s4 = .int .i64 0 ∧ w.heap.size ≤ bw ∧ w.heap.size ≤ br ∧ wx.heap[bw]? = some (.cells #[.slice A0_0 l0_0.length c0_0, .slice A0_1 l0_1.length c0_1, .slice A0_2 l0_2.length c0_2, .int .i64 a0_3] 28 (0, 0)) ∧ wx.heap[br]? = some (.cells #[.slice none 0 0, .int .i64 0, .int .i64 0] 31 (0, 0)) ∧ Below w.heap.size w wx)
  case first =>
    go_wp2
    go_meet
    exact ⟨_, _, rfl, rfl, rfl, rfl, Nat.le_refl _, by simp, blk_alloc (blk_new _ _) _, by have := blk_new (w.alloc (.cells #[.slice A0_0 l0_0.length c0_0, .slice A0_1 l0_1.length c0_1, .slice A0_2 l0_2.length c0_2, .int .i64 a0_3] 28 (0, 0))) (.cells #[.slice none 0 0, .int .i64 0, .int .i64 0] 31 (0, 0)); simpa using this, below_alloc (below_alloc (Below.refl _ _) _) _⟩
  case rest =>
    obtain ⟨bw, br, rfl, rfl, rfl, rfl, lw, lr, kw, kr, hb0⟩ := hcut
    rename World => wa
    have HB0 := Aside0.mk hb0
    clear hb0
    have ew0 : wa.cell? ⟨bw, 0, none⟩ = some (.slice A0_0 l0_0.length c0_0) := (blk_cell kw 0).trans rfl
    have ew1 : wa.cell? ⟨bw, 1, none⟩ = some (.slice A0_1 l0_1.length c0_1) := (blk_cell kw 1).trans rfl
    have ew2 : wa.cell? ⟨bw, 2, none⟩ = some (.slice A0_2 l0_2.length c0_2) := (blk_cell kw 2).trans rfl
    have ew3 : wa.cell? ⟨bw, 3, none⟩ = some (.int .i64 a0_3) := (blk_cell kw 3).trans rfl
    go_upto_region 1 with fail
    go_cut [5, 6] (fun s5 s6 wx => ∃ (bb : Nat) (vb : Value), s5 = .pointer (some ⟨bb, 0, none⟩) ∧ s6 = .int .i64 e0 ∧ wx.heap[bb]? = some (.cells #[vb, .int .i64 m, .int .i64 wi] 31 (0, 0)) ∧ wa.heap.size ≤ bb ∧ Below wa.heap.size wa wx ∧ Kd.R (Kd.int .i64) 3 wx wa.heap.size (fun _ => True) vb T)
    case first =>
      go_wp2_with (go_at_call 12
                   refine (regis_Best.calls k A0_0 c0_0 l0_0 A0_1 c0_1 l0_1 A0_2 c0_2 l0_2 a0_3 T m wi e0 wa (Kd.C_below HR0.out HB0.out) hc0_0 (Kd.C_below HR1.out HB0.out) hc0_1 (Kd.C_below HR2.out HB0.out) hc0_2 AE.out).mono ?_
                   rintro e w1 ⟨vb, rfl, hv, hb⟩
                   obtain ⟨Ab, cb, rfl⟩ := Kd.R_slice hv
                   have HB1 := Aside0.mk hb
                   have HV := Aside0.mk hv
                   clear hb hv)
      go_meet
      exact ⟨_, _, rfl, rfl, blk_new _ _, HB1.out.size, below_alloc HB1.out _, Kd.R_alloc HV.out _⟩
    obtain ⟨bb, vb, rfl, rfl, kb, lb, hb1, hv⟩ := hcut
    rename World => wb
    have HB1 := Aside0.mk (below_step HB0.out hb1)
    have HV := Aside0.mk (Kd.R_lower hv HB0.out.size)
    have kw1 := blk_below kw hb1
    have kr1 := blk_below kr hb1
    clear hb1 hv ew0 ew1 ew2 ew3
    obtain ⟨Ab, cb, rfl⟩ := Kd.R_slice HV.out
    by_cases he : e0 = 0
    case neg =>
      rw [if_neg he] at H
      have hen : (e0 != 0) = true := by simpa [bne] using he
      simp only [Option.some.injEq, Prod.mk.injEq] at H
      obtain ⟨rfl, rfl, rfl, rfl, rfl⟩ := H
      have c0' : wb.cell? ⟨br, 0, none⟩ = some (.slice none 0 0) := (blk_cell kr1 0).trans rfl
      have c1' : wb.cell? ⟨br, 1, none⟩ = some (.int .i64 0) := (blk_cell kr1 1).trans rfl
      have c2' : wb.cell? ⟨br, 2, none⟩ = some (.int .i64 0) := (blk_cell kr1 2).trans rfl
      have d0' := blk_frozen kr1 0
      have d1' := blk_frozen kr1 1
      have d2' := blk_frozen kr1 2
      go_wp2
      (try simp only [Exit.inBlock, Exit.then])
      refine bodyPost_ret (results_ctt rfl _ _ br 31 #[.slice none 0 0, .int .i64 0, .int .i64 0] (0, 0) _ rfl (blk_put (blk_put (blk_put kr1 0 _ rfl) 1 _ rfl) 2 _ rfl) hu31 rfl (by kernel_rfl)) rfl ?_
      exact ⟨_, _, rfl, Kd.R_nil _ _ _ _ _, Kd.R_nil _ _ _ _ _, below_set (below_set (below_set HB1.out lr) lr) lr⟩
    case pos =>
      subst he
      rw [if_pos rfl] at H
      obtain ⟨out, AP, H2⟩ := Option.bind_eq_some_iff.mp H
      clear H
      replace AP := Aside0.mk AP
      simp only [Option.some.injEq, Prod.mk.injEq] at H2
      obtain ⟨rfl, rfl, rfl, rfl, rfl⟩ := H2
      go_upto_region 4 with fail
      go_cut [7] (fun s7 wx => ∃ (bo : Nat), s7 = .pointer (some ⟨bo, 0, none⟩) ∧ wx.heap[bo]? = some (.cells #[.slice none 0 0] 32 (0, 0)) ∧ wb.heap.size ≤ bo ∧ Below wb.heap.size wb wx)
      case first =>
        go_wp2
        go_meet
        exact ⟨_, rfl, blk_new _ _, Nat.le_refl _, below_alloc (Below.refl _ _) _⟩
      obtain ⟨bo, rfl, ko, lo, hb2⟩ := hcut
      rename World => wc
      go_upto_region 5 with fail
      go_cut [8] (fun s8 wx => ∃ (bg : Nat), s8 = .pointer (some ⟨bg, 0, none⟩) ∧ wx.heap[bg]? = some (.cells #[.nilFunc] 71 (0, 0)) ∧ wc.heap.size ≤ bg ∧ Below wc.heap.size wc wx)
      case first =>
        go_wp2
        go_meet
        exact ⟨_, rfl, blk_new _ _, Nat.le_refl _, below_alloc (Below.refl _ _) _⟩
      obtain ⟨bg, rfl, kg, lg, hb3⟩ := hcut
      rename World => wd
      have hb23 := below_step hb2 hb3
      have HB2 := Aside0.mk (below_step HB1.out hb23)
      have HV2 := Aside0.mk (Kd.R_below HV.out hb23)
      have kw2 := blk_below kw1 hb23
      have kr2 := blk_below kr1 hb23
      have kb2 := blk_below kb hb23
      have ko2 := blk_below ko hb3
      have lo2 : w.heap.size ≤ bo := Nat.le_trans HB1.out.size lo
      have lg2 : w.heap.size ≤ bg := Nat.le_trans (Nat.le_trans HB1.out.size hb2.size) lg
      clear hb2 hb3 hb23 HB1 HV kw1 kr1 kb ko
      have yg : wd.cell? ⟨bg, 0, none⟩ = some .nilFunc := (blk_cell kg 0).trans rfl
      have zg := blk_frozen kg 0
      go_upto_region 6 with fail
      go_cut [] (fun wx => Aside0 (cert_Make.Inv w wx bw bb bo bg A0_0 c0_0 l0_0 A0_1 c0_1 l0_1 A0_2 c0_2 l0_2 a0_3 (.slice Ab T.length cb) T m wi (.slice none 0 0) []) ∧ wx.heap[br]? = some (.cells #[.slice none 0 0, .int .i64 0, .int .i64 0] 31 (0, 0)))
      case first =>
        go_wp2
        go_meet
        have pg := blk_put kg 0 (.func (.func 35) #[] #[.pointer (some ⟨bw, 0, none⟩), .pointer (some ⟨bb, 0, none⟩), .pointer (some ⟨bo, 0, none⟩), .pointer (some ⟨bg, 0, none⟩)]) rfl
        exact ⟨⟨⟨lo2, below_set HB2.out lg2, blk_far kw2 (blk_ne kw2 kg (by decide)) _, blk_far kb2 (blk_ne kb2 kg (by decide)) _, blk_far ko2 (blk_ne ko2 kg (by decide)) _, pg, Kd.R_nil _ _ _ _ _, Kd.R_set HV2.out kg (by decide) _ _⟩⟩, blk_far kr2 (blk_ne kr2 kg (by decide)) _⟩
      obtain ⟨HI, kr3⟩ := hcut
      rename World => we
      clear kw2 kr2 kb2 ko2 kg yg zg HB2 HV2
      have eg : we.cell? ⟨bg, 0, none⟩ = some (.func (.func 35) #[] #[.pointer (some ⟨bw, 0, none⟩), .pointer (some ⟨bb, 0, none⟩), .pointer (some ⟨bo, 0, none⟩), .pointer (some ⟨bg, 0, none⟩)]) := (blk_cell HI.out.kg 0).trans rfl
      go_upto_region 7 with fail
      go_cut [] (fun wx => ∃ (vo : Value), Aside0 (cert_Make.Inv w wx bw bb bo bg A0_0 c0_0 l0_0 A0_1 c0_1 l0_1 A0_2 c0_2 l0_2 a0_3 (.slice Ab T.length cb) T m wi vo out) ∧ wx.heap[br]? = some (.cells #[.slice none 0 0, .int .i64 0, .int .i64 0] 31 (0, 0)))
      case first =>
        go_wp2_with (go_at_call 35
                     refine (cert_Make.part_calls k w bw bb bo bg A0_0 c0_0 l0_0 A0_1 c0_1 l0_1 A0_2 c0_2 l0_2 a0_3 (.slice Ab T.length cb) T m wi HR0.out hc0_0 HR1.out hc0_1 HR2.out hc0_2 k [] [] out (.slice none 0 0) none 0 we HI.out (Kd.R_nil _ _ _ _ _) AP.out).mono ?_
                     rintro e w6 ⟨rfl, vo, hI, hk, _⟩
                     have HI6 := Aside0.mk hI
                     have HK6 := Aside0.mk hk
                     clear hI hk)
        go_meet
        exact ⟨vo, HI6, HK6.out.blk kr3 (blk_ne kr3 HI.out.ko (by decide)) (by simp [Value.ownBlock])⟩
      obtain ⟨vo, HI7, kr7⟩ := hcut
      rename World => wf
      clear eg kr3 HI
      have HO := Aside0.mk HI7.out.ro
      obtain ⟨Ao, co, rfl⟩ := Kd.R_slice HO.out
      have kb7 := HI7.out.kb
      have ko7 := HI7.out.ko
      have n0 : wf.cell? ⟨bb, 0, none⟩ = some (.slice Ab T.length cb) := (blk_cell kb7 0).trans rfl
      have n1 : wf.cell? ⟨bb, 1, none⟩ = some (.int .i64 m) := (blk_cell kb7 1).trans rfl
      have n2 : wf.cell? ⟨bb, 2, none⟩ = some (.int .i64 wi) := (blk_cell kb7 2).trans rfl
      have no : wf.cell? ⟨bo, 0, none⟩ = some (.slice Ao out.length co) := (blk_cell ko7 0).trans rfl
      have u0 : wf.cell? ⟨br, 0, none⟩ = some (.slice none 0 0) := (blk_cell kr7 0).trans rfl
      have u1 : wf.cell? ⟨br, 1, none⟩ = some (.int .i64 0) := (blk_cell kr7 1).trans rfl
      have u2 : wf.cell? ⟨br, 2, none⟩ = some (.int .i64 0) := (blk_cell kr7 2).trans rfl
      have o0 := blk_frozen kr7 0
      have o1 := blk_frozen kr7 1
      have o2 := blk_frozen kr7 2
      have t0 := blk_put kr7 0 (.slice Ab T.length cb) rfl
      have t1 := blk_put t0 1 (.int .i64 m) rfl
      have t2 := blk_put t1 2 (.int .i64 wi) rfl
      have no' : (wf.setCell ⟨br, 0, none⟩ (.slice Ab T.length cb)).cell? ⟨bo, 0, none⟩ = some (.slice Ao out.length co) := (blk_cell (blk_far ko7 (blk_ne ko7 kr7 (by decide)) _) 0).trans rfl
      have HT2 := Aside0.mk t2
      clear t2
      go_upto_region 8 with fail
      go_region
      all_goals (try go_wp2)
      all_goals (
        (try simp only [Exit.inBlock, Exit.then])
        refine bodyPost_ret (results_ctt rfl _ _ br 31 #[.slice Ab T.length cb, .int .i64 m, .int .i64 wi] (0, 0) _ rfl HT2.out hu31 rfl (by kernel_rfl)) rfl ?_
        exact ⟨_, _, rfl, Kd.R_drew (Kd.R_set (Kd.R_set (Kd.R_set HI7.out.rb kr7 (by decide) _ _) t0 (by decide) _ _) t1 (by decide) _ _), Kd.R_drew (Kd.R_set (Kd.R_set (Kd.R_set HO.out kr7 (by decide) _ _) t0 (by decide) _ _) t1 (by decide) _ _), below_drew (below_set (below_set (below_set HI7.out.below lr) lr) lr)⟩)


/-! ### diapasonlaw27_cut: function 21 -/
def diapasonlaw27_cut.n (m : Nat) : Nat := if 8 < m ∧ m ≤ 16 then 8 else if m < 17 then m else 17
def diapasonlaw27_cut.f (l0 : List Int) (l1 : List (List Int)) (l2 : List Int) (a3 : Int) : Option (List Int × List (List Int) × List Int × Int) := some (l0, l1.take (diapasonlaw27_cut.n l1.length), l2.take (diapasonlaw27_cut.n l1.length), a3)
theorem diapasonlaw27_cut.len {α : Type} (l : List α) (n : Nat) (h : n ≤ l.length) : (l.take n).length = n := by rw [List.length_take]; omega
theorem diapasonlaw27_cut.len2 {α : Type} (l : List α) (n : Nat) : (l.take n).length = if l.length < n then l.length else n := by rw [List.length_take]; by_cases h : l.length < n <;> simp [h] <;> omega
theorem diapasonlaw27_cut.end (A0 : Option Addr) (n0 c0 : Nat) (A1 : Option Addr) (n1 c1 : Nat) (A2 : Option Addr) (n2 c2 m1 m2 : Nat) (a3 : Int) (w : World) (o : Obj) (tmps : Array Value) (hp : tmps.getD 2 undef = .pointer (some ⟨w.heap.size + 1, 0, none⟩)) (e1 : n1 = m1) (e2 : n2 = m2) :
    bodyPost Tryd.prog Tryd.f21 (fun e w' => e = .returned (.agg #[.slice A0 n0 c0, .slice A1 m1 c1, .slice A2 m2 c2, .int .i64 a3]) ∧ Below w.heap.size w w') Exit.ret { tmps := tmps, defers := [] } ((w.alloc o).alloc (.cells #[.slice A0 n0 c0, .slice A1 n1 c1, .slice A2 n2 c2, .int .i64 a3] 28 (0, 0))) := by
  subst e1
  subst e2
  have hz : (w.alloc o).heap.size = w.heap.size + 1 := by show (w.heap.push o).size = _; exact Array.size_push ..
  refine bodyPost_ret (results_cell_row rfl _ _ (w.heap.size + 1) 28 _ (0, 0) _ hp (hz ▸ blk_new (w.alloc o) _) Tryd.underlying28 rfl (by kernel_rfl)) rfl ?_
  exact ⟨rfl, below_alloc (below_alloc (Below.refl _ _) _) _⟩
set_option maxHeartbeats 4000000 in
set_option maxRecDepth 100000 in
theorem diapasonlaw27_cut.calls (A0 : Option Addr) (c0 : Nat) (l0 : List Int) (A1 : Option Addr) (c1 : Nat) (l1 : List (List Int)) (A2 : Option Addr) (c2 : Nat) (l2 : List Int) (a3 : Int) (w : World) (hc1 : l1.length ≤ c1) (hc2 : l2.length ≤ c2) (hm1 : l1.length ≤ 9223372036854775807) (hm2 : l2.length ≤ 9223372036854775807) :
    Calls Tryd.prog 21 #[.agg #[.slice A0 l0.length c0, .slice A1 l1.length c1, .slice A2 l2.length c2, .int .i64 a3]] w fun e w' => e = .returned (.agg #[.slice A0 l0.length c0, .slice A1 (l1.take (diapasonlaw27_cut.n l1.length)).length c1, .slice A2 (l2.take (diapasonlaw27_cut.n l1.length)).length c2, .int .i64 a3]) ∧ Below w.heap.size w w' := by
  have hu25 := Tryd.underlying28
  rw [diapasonlaw27_cut.len l1 _ (by unfold diapasonlaw27_cut.n; split <;> (try split) <;> omega), diapasonlaw27_cut.len2]
  generalize l1.length = n1 at *
  generalize l2.length = n2 at *
  obtain ⟨N, eN⟩ : ∃ N, diapasonlaw27_cut.n n1 = N := ⟨_, rfl⟩
  rw [eN]
  obtain ⟨M, eM⟩ : ∃ M, (if n2 < N then n2 else N) = M := ⟨_, rfl⟩
  rw [eM]
  unfold diapasonlaw27_cut.n at eN
  by_cases h1 : 8 < n1 ∧ n1 ≤ 16
  · rw [if_pos h1] at eN
    subst eN
    obtain ⟨h1, h2⟩ := h1
    by_cases h3 : n2 < 8
    · rw [if_pos h3] at eM
      subst eM
      go_enter Tryd.func21, Tryd.ntmps21
      go_wp2
      all_goals exact diapasonlaw27_cut.end _ _ _ _ _ _ _ _ _ _ _ _ _ _ _ rfl (by omega) (by omega)
    · rw [if_neg h3] at eM
      subst eM
      go_enter Tryd.func21, Tryd.ntmps21
      go_wp2
      all_goals exact diapasonlaw27_cut.end _ _ _ _ _ _ _ _ _ _ _ _ _ _ _ rfl (by omega) (by omega)
  · rw [if_neg h1] at eN
    by_cases h4 : n1 ≤ 8
    · rw [if_pos (show n1 < 17 by omega)] at eN
      subst eN
      clear h1
      have EM := Aside0.mk eM
      clear eM
      go_enter Tryd.func21, Tryd.ntmps21
      go_wp2
      all_goals exact diapasonlaw27_cut.end _ _ _ _ _ _ _ _ _ _ _ _ _ _ _ rfl (by omega) (by have := EM.out; split at this <;> omega)
    · have h5 : 16 < n1 := by omega
      rw [if_neg (show ¬ n1 < 17 by omega)] at eN
      subst eN
      clear h1 h4
      have EM := Aside0.mk eM
      clear eM
      go_enter Tryd.func21, Tryd.ntmps21
      go_wp2
      all_goals exact diapasonlaw27_cut.end _ _ _ _ _ _ _ _ _ _ _ _ _ _ _ rfl (by omega) (by have := EM.out; split at this <;> omega)


/-! ### diapasonref26_right: function 80 -/
def diapasonref26_right.f (a0 : Int) : Option (Bool) := if a0 ≥ 0 then (some (decide (a0 ≤ 1048576))) else (some false)
set_option maxHeartbeats 8000000 in
set_option maxRecDepth 100000 in
theorem diapasonref26_right.calls (a0 : Int) (r : Bool) (w : World) (h : diapasonref26_right.f a0 = some r) :
  Calls Tryd.prog 80 #[.int .i64 a0] w fun e w' => e = .returned (.bool r) ∧ Drawn0 w w':=by
 have H : (if a0 ≥ 0 then (some (decide (a0 ≤ 1048576))) else (some false)) = some r:=h;clear h
 by_cases c2 : a0 ≥ 0
 ·rw [if_pos c2] at H;have c2b0 : decide (0 ≤ a0) = true:=decide_eq_true c2;clear c2;obtain rfl:=Option.some.inj H;go_enter Tryd.func80, Tryd.ntmps80
  go_wp2
  go_ret
  exact ⟨by first | rfl | (simp;done) | (simp [*];done), by repeat (first | exact Drawn0.refl _ | apply Drawn0.step)⟩
 ·rw [if_neg c2] at H;have c2b0 : decide (0 ≤ a0) = false:=decide_eq_false c2;clear c2;obtain rfl:=Option.some.inj H;go_enter Tryd.func80, Tryd.ntmps80
  go_wp2
  go_ret
  exact ⟨by first | rfl | (simp;done) | (simp [*];done), by repeat (first | exact Drawn0.refl _ | apply Drawn0.step)⟩

end Go.Proofs.YtfcidgnbocijdaaDoor.PCertMakes
