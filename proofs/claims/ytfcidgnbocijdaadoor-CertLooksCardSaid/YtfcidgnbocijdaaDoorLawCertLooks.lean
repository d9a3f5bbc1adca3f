-- Written by a program of this session (the kit's print, turned: wip/px).
import Derived.Test.YtfcidgnbocijdaaDoorTie
import Derived.Test.YtfcidgnbocijdaaDoorCards
import Derived.Test.YtfcidgnbocijdaaDoorRows
import Derived.Test.YtfcidgnbocijdaaDoorPCertLooksx19
import Derived.Test.YtfcidgnbocijdaaDoorPureCertLooks
import Derived.Test.YtfcidgnbocijdaaDoorOpen
import Derived.WalkKit
import Derived.ProofKit
import Derived.OpenShut
import Derived.ShutString
import Derived.ChangeOld
import Derived.Below
import Derived.SizedLaws
import Derived.LaidMore
import Derived.Lay
import Derived.SevenTiedAt
import Derived.Stop.Joined
import Derived.Stop.LaidErr
import Derived.Lib.LaidTab
namespace Go.Proofs.YtfcidgnbocijdaaDoor.certLooks
open Go.Proofs.YtfcidgnbocijdaaDoor.PCertMakes
open Go.ChangeShapes Go.WideShapes Go.ChangeAt Go.RowKit Go.Proofs.YtfcidgnbocijdaaDoorW.PrintWords Go.Proofs.YtfcidgnbocijdaaDoor.PCertLooks
open Go.ChangeMaps (open_string shut_string)
set_option linter.unusedVariables false
theorem own : ownKnob Tryd.prog.godebug = none := by kernel_rfl
theorem laidOut : laidOutB Tryd.prog = true := by kernel_rfl
theorem of_ht {W : World} (hL : laidMetH Tryd.prog Rows.certLooksRow.laid W) : Tab W := by
  rw [MakeChecks.laidMetH_plain _ _ _ (by kernel_rfl)] at hL
  have h := laidMet.tail (laidMet.tail (hL))
  exact Lib.tabIs_of_head (show Tryd.prog.globalNamed "internal/strconv.uint64pow10" = some 3 by kernel_rfl) (show (Tryd.prog.globals[3]?).map (·.type) = some 163 by kernel_rfl) Tryd.underlying163 Tryd.underlying139 (by kernel_rfl) (by kernel_rfl) h
set_option maxRecDepth 100000 in
theorem lifted (os : Os) (started : os.Started) (H : Type) (enc : TypeId × Value → H) :
    ReturnsInHanded {} Tryd.checked os 5 .any (fun w args => (Rows.certLooksSpec.pre enc Tryd.prog Tryd.f5 Rows.certLooksRow.domain false w args ∧ laidMetH Tryd.prog Rows.certLooksRow.laid w) ∧ sizedMet enc Tryd.prog Tryd.f5 (OpenSpec.ofChange Rows.certLooksSpec) false w args) (Rows.certLooksSpec.post enc Tryd.prog Tryd.f5 false true false false) := by
  refine returnsInHanded_of_change_and (C := Tryd.checked) (X := fun w _ => laidMetH Tryd.prog Rows.certLooksRow.laid w) (fun _ _ _ hh h => h.of_heap hh) own started (by kernel_rfl) Tryd.func5
    (ChangeSpec.witness_shaped (enc := enc) (C := Tryd.checked) (os := os) (X := fun w _ => laidMetH Tryd.prog Rows.certLooksRow.laid w) false (World.laidAll Tryd.prog os Rows.certLooksRow.laid) #[(.agg #[(.slice none 0 0), (.slice none 0 0), (.slice none 0 0), (.int .i64 0)]), (.agg #[(.slice none 0 0), (.int .i64 0), (.int .i64 0)]), (.slice none 0 0)] 8 (World.laidAll_os _ _ _) (World.shaped_of_ZipB (by kernel_rfl) (by kernel_rfl)) (by kernel_rfl) (by kernel_rfl) (by kernel_rfl)
      (by rw [MakeChecks.laidMetH_plain _ _ _ (by kernel_rfl)]; exact laidMet_laidAll _ (by kernel_rfl) (by kernel_rfl))) ?_
  intro W base args ds gs before hval0 hW hcnd hsz0 hL _
  have ht := of_ht hL
  have hsz : (DataW.weightsEach Tryd.prog (Tryd.f5.params.toList ++ Rows.certLooksSpec.plain.varTypes Tryd.prog) (ds ++ gs)).all (· ≤ reachBytes) = true := hsz0
  have hval : ∀ (j : Nat) t v, Tryd.f5.params[j]? = some t → args[j]? = some v → Value.okWide Tryd.prog W .any base t v := hval0
  have hW' := hW
  obtain ⟨p, q, hA0, hV, rfl, hfz, hnd⟩ := hW
  have hA : DataW.TrodAll enc Tryd.prog W 0 (fun _ => true) true Tryd.f5.params.toList args.toList ds p := hA0
  rw [Tryd.params5] at hA hval hsz
  obtain ⟨v0, vs0, d0, ds0, p0, q0, hargs, rfl, rfl, h0, r0⟩ := trodAll_cons hA
  obtain ⟨v1, vs1, d1, ds1, p1, q1, rfl, rfl, rfl, h1, r1⟩ := trodAll_cons r0
  obtain ⟨v2, vs2, d2, ds2, p2, q2, rfl, rfl, rfl, h2, r2⟩ := trodAll_cons r1
  obtain ⟨rfl, rfl, rfl⟩ := trodAll_nil r2
  obtain rfl : args = #[v0, v1, v2] := by cases args; simp_all
  obtain ⟨rfl, rfl⟩ := trodVars_none hV
  have k0 := h0
  have lt0 : ∀ x ∈ p0, x.block < W.heap.size := by obtain ⟨m, hm⟩ := k0; exact DataW.trod_lt m _ _ _ hm
  have sm0 : Open.Small Tryd.prog 28 d0 := Open.small_of_all hsz (j := 0) rfl rfl
  obtain ⟨x0, hk0, hw0⟩ := Open.opens_sizes (Open.opens_struct Tryd.underlying28 (by kernel_rfl) (Open.opens_more (Open.opens_slice (B := 8) Tryd.underlying25 (Open.opens_int Tryd.underlying3) (by kernel_rfl) (by kernel_rfl)) rfl (by kernel_rfl) (Open.opens_more (Open.opens_slice (B := 24) Tryd.underlying26 (Open.opens_slice (B := 8) Tryd.underlying25 (Open.opens_int Tryd.underlying3) (by kernel_rfl) (by kernel_rfl)) (by kernel_rfl) (by kernel_rfl)) rfl (by kernel_rfl) (Open.opens_more (Open.opens_slice (B := 8) Tryd.underlying25 (Open.opens_int Tryd.underlying3) (by kernel_rfl) (by kernel_rfl)) rfl (by kernel_rfl) (Open.opens_last (Open.opens_int Tryd.underlying3) rfl (by kernel_rfl)))))) h0 sm0
  obtain ⟨cs0, rfl, _⟩ := okWide_struct Tryd.underlying28 (hval 0 28 v0 rfl rfl)
  obtain ⟨_, _, eq0_0_4, ka0_0_4, kb0_0_4⟩ := hk0
  obtain ⟨A0_0, c0_0, e0_0, hc0_0, hr0_0⟩ := ka0_0_4
  obtain ⟨_, _, eq0_1_3, ka0_1_3, kb0_1_3⟩ := kb0_0_4
  obtain ⟨A0_1, c0_1, e0_1, hc0_1, hr0_1⟩ := ka0_1_3
  obtain ⟨_, _, eq0_2_2, ka0_2_2, kb0_2_2⟩ := kb0_1_3
  obtain ⟨A0_2, c0_2, e0_2, hc0_2, hr0_2⟩ := ka0_2_2
  have e0_3 : _ = [Value.int .i64 x0.2.2.2] := kb0_2_2
  subst e0_3
  subst e0_2
  subst e0_1
  subst e0_0
  subst eq0_2_2
  subst eq0_1_3
  simp only [Value.cells] at eq0_0_4
  obtain rfl : cs0 = List.toArray _ := by rw [← Array.toArray_toList (xs := cs0), eq0_0_4]
  have k1 := h1
  have lt1 : ∀ x ∈ p1, x.block < W.heap.size := by obtain ⟨m, hm⟩ := k1; exact DataW.trod_lt m _ _ _ hm
  have sm1 : Open.Small Tryd.prog 31 d1 := Open.small_of_all hsz (j := 1) rfl rfl
  obtain ⟨x1, hk1, hw1⟩ := Open.opens_sizes (Open.opens_struct Tryd.underlying31 (by kernel_rfl) (Open.opens_more (Open.opens_slice (B := 8) Tryd.underlying25 (Open.opens_int Tryd.underlying3) (by kernel_rfl) (by kernel_rfl)) rfl (by kernel_rfl) (Open.opens_more (Open.opens_int Tryd.underlying3) rfl (by kernel_rfl) (Open.opens_last (Open.opens_int Tryd.underlying3) rfl (by kernel_rfl))))) h1 sm1
  obtain ⟨cs1, rfl, _⟩ := okWide_struct Tryd.underlying31 (hval 1 31 v1 rfl rfl)
  obtain ⟨_, _, eq1_0_3, ka1_0_3, kb1_0_3⟩ := hk1
  obtain ⟨A1_0, c1_0, e1_0, hc1_0, hr1_0⟩ := ka1_0_3
  obtain ⟨_, _, eq1_1_2, ka1_1_2, kb1_1_2⟩ := kb1_0_3
  have e1_1 : _ = [Value.int .i64 x1.2.1] := ka1_1_2
  have e1_2 : _ = [Value.int .i64 x1.2.2] := kb1_1_2
  subst e1_2
  subst e1_1
  subst e1_0
  subst eq1_1_2
  simp only [Value.cells] at eq1_0_3
  obtain rfl : cs1 = List.toArray _ := by rw [← Array.toArray_toList (xs := cs1), eq1_0_3]
  have k2 := h2
  have lt2 : ∀ x ∈ p2, x.block < W.heap.size := by obtain ⟨m, hm⟩ := k2; exact DataW.trod_lt m _ _ _ hm
  have sm2 : Open.Small Tryd.prog 32 d2 := Open.small_of_all hsz (j := 2) rfl rfl
  obtain ⟨x2, hk2, hw2⟩ := Open.opens_sizes (Open.opens_slice (B := 32) Tryd.underlying32 (Open.opens_iso (f := (fun x : S66 => (x.f0, x.f1))) (g := (fun p => (⟨p.1, p.2⟩ : S66))) (fun _ => rfl) (Open.opens_struct Tryd.underlying66 (by kernel_rfl) (Open.opens_more (Open.opens_slice (B := 1) Tryd.underlying64 (Open.opens_int Tryd.underlying5) (by kernel_rfl) (by kernel_rfl)) rfl (by kernel_rfl) (Open.opens_last (Open.opens_int Tryd.underlying3) rfl (by kernel_rfl))))) (by kernel_rfl) (by kernel_rfl)) h2 sm2
  obtain ⟨b2, len2, cap2, rfl⟩ := okWide_slice Tryd.underlying32 (hval 2 32 v2 rfl rfl)
  obtain ⟨A2, c2, hcs2, hc2, hr2⟩ := hk2
  simp [Value.cells] at hcs2
  obtain ⟨rfl, rfl, rfl⟩ := hcs2
  clear hA0 hval0 hsz0 hsz
  refine (PCertLooks.diapasonlaw27_CertLooks.walk Pure.CertLooks _ _ x0.1 _ _ x0.2.1 _ _ x0.2.2.1 x0.2.2.2 _ _ x1.1 x1.2.1 x1.2.2 _ _ x2 W ht hr0_0 hc0_0 hr0_1 hc0_1 hr0_2 hc0_2 hr1_0 hc1_0 hr2 hc2 hw0.1.1 hw0.1.2.1 (fun y2_ m2_ => (hw0.1.2.2 y2_ m2_)) hw0.2.1.1 hw0.2.1.2.1 (fun y3_ m3_ => ⟨(hw0.2.1.2.2 y3_ m3_).1, (hw0.2.1.2.2 y3_ m3_).2.1, (fun y2_ m2_ => ((hw0.2.1.2.2 y3_ m3_).2.2 y2_ m2_))⟩) hw0.2.2.1.1 hw0.2.2.1.2.1 (fun y2_ m2_ => (hw0.2.2.1.2.2 y2_ m2_)) hw0.2.2.2 hw1.1.1 hw1.1.2.1 (fun y2_ m2_ => (hw1.1.2.2 y2_ m2_)) hw1.2.1 hw1.2.2 hw2.1 hw2.2.1 (fun y4_ m4_ => ⟨(hw2.2.2 y4_ m4_).1.1, (hw2.2.2 y4_ m4_).1.2.1, (fun y2_ m2_ => ((hw2.2.2 y4_ m4_).1.2.2 y2_ m2_)), (hw2.2.2 y4_ m4_).2⟩)).mono fun e W' ⟨he, bel⟩ => ?_
  subst he
  exact ⟨_, rfl, _, _, _, [], _, [], hW', trodAll_mk1 (shut_bool Tryd.underlying4 _), (trodAll_cons_mk (Below.trod laidOut (by kernel_rfl) (of_decide_eq_true (by kernel_rfl)) k0 bel lt0) (trodAll_cons_mk (Below.trod laidOut (by kernel_rfl) (of_decide_eq_true (by kernel_rfl)) k1 bel lt1) (trodAll_cons_mk (Below.trod laidOut (by kernel_rfl) (of_decide_eq_true (by kernel_rfl)) k2 bel lt2) trodAll_mk0))), rfl, bel.frame _, fun h => by cases h⟩
theorem over : Rows.certLooksRow.holds Tryd.pinned (OpenSpec.ofChange Rows.certLooksSpec) :=
  OpenClaim.holds_of_wide 5 Tryd.f5 rfl rfl rfl rfl rfl rfl rfl ⟨rfl, rfl, rfl, rfl, rfl⟩ rfl rfl rfl rfl rfl (by kernel_rfl) Tryd.func5 (by kernel_rfl)
    (of_decide_eq_true (by kernel_rfl)) (by unfold Func.isWrapper; first | (rw [if_pos (by decide +kernel)]; kernel_rfl) | (rw [if_neg (by decide +kernel)]; exact ⟨rfl, rfl⟩))
    (fun os started H enc _ => lifted os started H enc)
theorem proved : Rows.CertLooksCardSaid :=
  Claim7.holds_tied_plain_at .later [] [.data, .data, .data, .data, .pinned] true (true, "1b9c3dc44d2081750870f91c7c72a9c655935e98aa108ae0d31c582cdc42c158") true over (fun _ h => by cases h) (by kernel_rfl) (fun _ h => by cases h) certLooks_row_tie rfl ⟨rfl, rfl⟩ (by kernel_rfl) rfl
    (fun f fn hf hfn => by
      obtain rfl : f = 5 := Option.some.inj ((show Tryd.prog.funcNamed "diapason/diapasonlaw27.CertLooks" = some 5 by kernel_rfl).symm.trans hf) |>.symm
      obtain rfl : fn = Tryd.f5 := (Option.some.inj (Tryd.func5.symm.trans hfn)).symm
      exact ⟨by kernel_rfl, fun j t ht => by
        rw [Tryd.params5] at ht
        have hm : t ∈ [28, 31, 32] := by simpa using Array.mem_of_getElem? ht
        have hall : ([28, 31, 32].all fun u => !Tryd.prog.wantsStandIn u) = true := by kernel_rfl
        exact (show Tryd.prog.wantsStandIn t = false by simpa using List.all_eq_true.1 hall t hm)⟩)
    (by kernel_rfl)
#print axioms proved
end Go.Proofs.YtfcidgnbocijdaaDoor.certLooks
namespace Go.Proofs.YtfcidgnbocijdaaDoor
/-- The card, under a short name, for the claim. -/
theorem certLooks_holds : Rows.CertLooksCardSaid := certLooks.proved
end Go.Proofs.YtfcidgnbocijdaaDoor