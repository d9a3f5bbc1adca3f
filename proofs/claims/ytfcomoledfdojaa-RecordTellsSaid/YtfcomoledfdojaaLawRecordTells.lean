-- Written by a program of this session (the kit's print, turned: wip/px).
import Derived.Test.YtfcomoledfdojaaRows
import Derived.Test.YtfcomoledfdojaaPRecordTellsx9
import Derived.Test.YtfcomoledfdojaaPureRecordTells
import Derived.Test.YtfcomoledfdojaaOpen
import Derived.WalkKit
import Derived.ProofKit
import Derived.OpenShut
import Derived.ShutString
import Derived.ChangeOld
import Derived.Below
import Derived.SizedLaws
namespace Go.Proofs.Ytfcomoledfdojaa.recordTells
open Go.ChangeShapes Go.WideShapes Go.ChangeAt Go.RowKit Go.Proofs.YtfcomoledfdojaaW.PrintWords Go.Proofs.Ytfcomoledfdojaa.PRecordTells
open Go.ChangeMaps (open_string shut_string)
set_option linter.unusedVariables false
theorem own : ownKnob Try.prog.godebug = none := by kernel_rfl
theorem laidOut : laidOutB Try.prog = true := by kernel_rfl
set_option maxRecDepth 100000 in
theorem lifted (os : Os) (started : os.Started) (H : Type) (enc : TypeId × Value → H) :
    ReturnsInHanded {} Try.checked os 7 .any (Rows.recordTellsSpec.pre6 enc Try.prog Try.f7 Rows.recordTellsRow.domain false) (Rows.recordTellsSpec.post enc Try.prog Try.f7 false true false false) := by
  refine returnsInHanded_of_change_sized (C := Try.checked) own started (by kernel_rfl) Try.func7
    (ChangeSpec.witness6 (enc := enc) (C := Try.checked) false ⟨#[], #[(.slice none 0 0), (.agg #[(.int .u64 0), (.int .i64 0), (.int .i64 0)])], []⟩ 8 (by kernel_rfl) (by kernel_rfl) (by kernel_rfl) (by kernel_rfl)) ?_
  intro W base args ds gs before hval0 hW hcnd hsz0 _
  have hsz : (DataW.weightsEach Try.prog (Try.f7.params.toList ++ Rows.recordTellsSpec.plain.varTypes Try.prog) (ds ++ gs)).all (· ≤ reachBytes) = true := hsz0
  have hval : ∀ (j : Nat) t v, Try.f7.params[j]? = some t → args[j]? = some v → Value.okWide Try.prog W .any base t v := hval0
  have hW' := hW
  obtain ⟨p, q, hA0, hV, rfl, hfz, hnd⟩ := hW
  have hA : DataW.TrodAll enc Try.prog W 0 (fun _ => true) true Try.f7.params.toList args.toList ds p := hA0
  rw [Try.params7] at hA hval hsz
  obtain ⟨v0, vs0, d0, ds0, p0, q0, hargs, rfl, rfl, h0, r0⟩ := trodAll_cons hA
  obtain ⟨v1, vs1, d1, ds1, p1, q1, rfl, rfl, rfl, h1, r1⟩ := trodAll_cons r0
  obtain ⟨rfl, rfl, rfl⟩ := trodAll_nil r1
  obtain rfl : args = #[v0, v1] := by cases args; simp_all
  obtain ⟨rfl, rfl⟩ := trodVars_none hV
  have k0 := h0
  have lt0 : ∀ x ∈ p0, x.block < W.heap.size := by obtain ⟨m, hm⟩ := k0; exact DataW.trod_lt m _ _ _ hm
  have sm0 : Open.Small Try.prog 22 d0 := Open.small_of_all hsz (j := 0) rfl rfl
  obtain ⟨x0, hk0, hw0⟩ := Open.opens_sizes (Open.opens_slice (B := 32) Try.underlying22 (Open.opens_iso (f := (fun x : S45 => (x.f0, x.f1, x.f2))) (g := (fun p => (⟨p.1, p.2.1, p.2.2⟩ : S45))) (fun _ => rfl) (Open.opens_struct Try.underlying45 (by kernel_rfl) (Open.opens_more (Open.opens_int Try.underlying41) rfl (by kernel_rfl) (Open.opens_more (Open.opens_iso (f := (fun x : S43 => (x.f0, x.f1))) (g := (fun p => (⟨p.1, p.2⟩ : S43))) (fun _ => rfl) (Open.opens_struct Try.underlying43 (by kernel_rfl) (Open.opens_more (Open.opens_int Try.underlying3) rfl (by kernel_rfl) (Open.opens_last (Open.opens_int Try.underlying3) rfl (by kernel_rfl))))) rfl (by kernel_rfl) (Open.opens_last (Open.opens_bool Try.underlying4) rfl (by kernel_rfl)))))) (by kernel_rfl) (by kernel_rfl)) h0 sm0
  obtain ⟨b0, len0, cap0, rfl⟩ := okWide_slice Try.underlying22 (hval 0 22 v0 rfl rfl)
  obtain ⟨A0, c0, hcs0, hc0, hr0⟩ := hk0
  simp [Value.cells] at hcs0
  obtain ⟨rfl, rfl, rfl⟩ := hcs0
  have k1 := h1
  have lt1 : ∀ x ∈ p1, x.block < W.heap.size := by obtain ⟨m, hm⟩ := k1; exact DataW.trod_lt m _ _ _ hm
  have sm1 : Open.Small Try.prog 52 d1 := Open.small_of_all hsz (j := 1) rfl rfl
  obtain ⟨x1, hk1, hw1⟩ := Open.opens_sizes (Open.opens_struct Try.underlying52 (by kernel_rfl) (Open.opens_more (Open.opens_int Try.underlying41) rfl (by kernel_rfl) (Open.opens_more (Open.opens_int Try.underlying3) rfl (by kernel_rfl) (Open.opens_last (Open.opens_int Try.underlying3) rfl (by kernel_rfl))))) h1 sm1
  obtain ⟨cs1, rfl, _⟩ := okWide_struct Try.underlying52 (hval 1 52 v1 rfl rfl)
  obtain ⟨_, _, eq1_0_3, ka1_0_3, kb1_0_3⟩ := hk1
  have e1_0 : _ = [Value.int .u64 x1.1] := ka1_0_3
  obtain ⟨_, _, eq1_1_2, ka1_1_2, kb1_1_2⟩ := kb1_0_3
  have e1_1 : _ = [Value.int .i64 x1.2.1] := ka1_1_2
  have e1_2 : _ = [Value.int .i64 x1.2.2] := kb1_1_2
  subst e1_2
  subst e1_1
  subst e1_0
  subst eq1_1_2
  simp only [Value.cells] at eq1_0_3
  obtain rfl : cs1 = List.toArray _ := by rw [← Array.toArray_toList (xs := cs1), eq1_0_3]
  clear hA0 hval0 hsz0 hsz
  refine (PRecordTells.diapasonlaw29_RecordTells.walk Pure.RecordTells _ _ x0 x1.1 x1.2.1 x1.2.2 W hr0 hc0 hw0.1 hw0.2.1 (fun y4_ m4_ => ⟨(hw0.2.2 y4_ m4_).1, (hw0.2.2 y4_ m4_).2.1.1, (hw0.2.2 y4_ m4_).2.1.2⟩) hw1.1 hw1.2.1 hw1.2.2).mono fun e W' ⟨he, bel⟩ => ?_
  subst he
  exact ⟨_, rfl, _, _, _, [], _, [], hW', trodAll_mk1 (shut_bool Try.underlying4 _), (trodAll_cons_mk (Below.trod laidOut (by kernel_rfl) (of_decide_eq_true (by kernel_rfl)) k0 bel lt0) (trodAll_cons_mk (Below.trod laidOut (by kernel_rfl) (of_decide_eq_true (by kernel_rfl)) k1 bel lt1) trodAll_mk0)), rfl, bel.frame _, fun h => by cases h⟩
theorem over : Rows.recordTellsRow.holds Try.pinned (OpenSpec.ofChange Rows.recordTellsSpec) :=
  OpenClaim.holds_of_wide 7 Try.f7 rfl rfl rfl rfl rfl rfl rfl ⟨rfl, rfl, rfl, rfl, rfl⟩ rfl rfl rfl rfl rfl (by kernel_rfl) Try.func7 (by kernel_rfl)
    (of_decide_eq_true (by kernel_rfl)) (by unfold Func.isWrapper; first | (rw [if_pos (by decide +kernel)]; kernel_rfl) | (rw [if_neg (by decide +kernel)]; exact ⟨rfl, rfl⟩))
    (fun os started H enc _ => lifted os started H enc)
theorem proved : Rows.RecordTellsSaid := over
#print axioms proved
end Go.Proofs.Ytfcomoledfdojaa.recordTells
namespace Go.Proofs.Ytfcomoledfdojaa
/-- The row, under a short name, for the claim. -/
theorem recordTells_holds : Rows.RecordTellsSaid := recordTells.proved
end Go.Proofs.Ytfcomoledfdojaa
