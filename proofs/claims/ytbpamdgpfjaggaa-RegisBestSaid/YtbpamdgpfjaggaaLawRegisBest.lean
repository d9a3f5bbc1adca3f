-- Written by a program of this session (the kit's print, turned: wip/px).
import Derived.Test.YtbpamdgpfjaggaaRows
import Derived.Test.YtbpamdgpfjaggaaPRegisBestx11
import Derived.Test.YtbpamdgpfjaggaaPureRegisBest
import Derived.Test.YtbpamdgpfjaggaaOpen
import Derived.WalkKit
import Derived.ProofKit
import Derived.OpenShut
import Derived.ShutString
import Derived.ChangeOld
import Derived.Below
import Derived.SizedLaws
namespace Go.Proofs.Ytbpamdgpfjaggaa.regisBest
open Go.ChangeShapes Go.WideShapes Go.ChangeAt Go.RowKit Go.Proofs.YtbpamdgpfjaggaaW.PrintWords Go.Proofs.Ytbpamdgpfjaggaa.PRegisBest
open Go.ChangeMaps (open_string shut_string)
set_option linter.unusedVariables false
theorem own : ownKnob Try.prog.godebug = none := by kernel_rfl
theorem laidOut : laidOutB Try.prog = true := by kernel_rfl
set_option maxRecDepth 100000 in
theorem lifted (os : Os) (started : os.Started) (H : Type) (enc : TypeId × Value → H) :
    ReturnsInHanded {} Try.checked os 3 .any (Rows.regisBestSpec.pre6 enc Try.prog Try.f3 Rows.regisBestRow.domain false) (Rows.regisBestSpec.post enc Try.prog Try.f3 false true false false) := by
  refine returnsInHanded_of_change_sized (C := Try.checked) own started (by kernel_rfl) Try.func3
    (ChangeSpec.witness6 (enc := enc) (C := Try.checked) false ⟨#[], #[(.agg #[(.slice none 0 0), (.slice none 0 0), (.slice none 0 0), (.int .i64 0)])], []⟩ 8 (by kernel_rfl) (by kernel_rfl) (by kernel_rfl) (by kernel_rfl)) ?_
  intro W base args ds gs before hval0 hW hcnd hsz0 _
  have hsz : (DataW.weightsEach Try.prog (Try.f3.params.toList ++ Rows.regisBestSpec.plain.varTypes Try.prog) (ds ++ gs)).all (· ≤ reachBytes) = true := hsz0
  have hval : ∀ (j : Nat) t v, Try.f3.params[j]? = some t → args[j]? = some v → Value.okWide Try.prog W .any base t v := hval0
  have hW' := hW
  obtain ⟨p, q, hA0, hV, rfl, hfz, hnd⟩ := hW
  have hA : DataW.TrodAll enc Try.prog W 0 (fun _ => true) true Try.f3.params.toList args.toList ds p := hA0
  rw [Try.params3] at hA hval hsz
  obtain ⟨v0, vs0, d0, ds0, p0, q0, hargs, rfl, rfl, h0, r0⟩ := trodAll_cons hA
  obtain ⟨rfl, rfl, rfl⟩ := trodAll_nil r0
  obtain rfl : args = #[v0] := by cases args; simp_all
  obtain ⟨rfl, rfl⟩ := trodVars_none hV
  have k0 := h0
  have lt0 : ∀ x ∈ p0, x.block < W.heap.size := by obtain ⟨m, hm⟩ := k0; exact DataW.trod_lt m _ _ _ hm
  have sm0 : Open.Small Try.prog 25 d0 := Open.small_of_all hsz (j := 0) rfl rfl
  obtain ⟨x0, hk0, hw0⟩ := Open.opens_sizes (Open.opens_struct Try.underlying25 (by kernel_rfl) (Open.opens_more (Open.opens_slice (B := 8) Try.underlying22 (Open.opens_int Try.underlying3) (by kernel_rfl) (by kernel_rfl)) rfl (by kernel_rfl) (Open.opens_more (Open.opens_slice (B := 24) Try.underlying23 (Open.opens_slice (B := 8) Try.underlying22 (Open.opens_int Try.underlying3) (by kernel_rfl) (by kernel_rfl)) (by kernel_rfl) (by kernel_rfl)) rfl (by kernel_rfl) (Open.opens_more (Open.opens_slice (B := 8) Try.underlying22 (Open.opens_int Try.underlying3) (by kernel_rfl) (by kernel_rfl)) rfl (by kernel_rfl) (Open.opens_last (Open.opens_int Try.underlying3) rfl (by kernel_rfl)))))) h0 sm0
  obtain ⟨cs0, rfl, _⟩ := okWide_struct Try.underlying25 (hval 0 25 v0 rfl rfl)
  obtain ⟨_, _, eq0_0_4, ka0_0_4, kb0_0_4⟩ := hk0
  obtain ⟨A0_0, c0_0, e0_0, hc0_0, hr0_0⟩ := ka0_0_4
  obtain ⟨_, _, eq0_1_3, ka0_1_3, kb0_1_3⟩ := kb0_0_4
  obtain ⟨A0_1, c0_1, e0_1, hc0_1, hr0_1⟩ := ka0_1_3
  obtain ⟨_, _, eq0_2_2, ka0_2_2, kb0_2_2⟩ := kb0_1_3
  obtain ⟨A0_2, c0_2, e0_2, hc0_2, hr0_2⟩ := ka0_2_2
  have e0_3 : _ = [Value.int .i64 x0.2.2.2] := kb0_2_2
  subst e0_3
  subst e0_2
  subst e0_1
  subst e0_0
  subst eq0_2_2
  subst eq0_1_3
  simp only [Value.cells] at eq0_0_4
  obtain rfl : cs0 = List.toArray _ := by rw [← Array.toArray_toList (xs := cs0), eq0_0_4]
  clear hA0 hval0 hsz0 hsz
  refine (PRegisBest.diapasonlaw26_RegisBest.walk Pure.RegisBest _ _ x0.1 _ _ x0.2.1 _ _ x0.2.2.1 x0.2.2.2 W hr0_0 hc0_0 hr0_1 hc0_1 hr0_2 hc0_2 hw0.1.1 hw0.1.2.1 (fun y_ m_ => (hw0.1.2.2 y_ m_)) hw0.2.1.1 hw0.2.1.2.1 (fun y1_ m1_ => ⟨(hw0.2.1.2.2 y1_ m1_).1, (hw0.2.1.2.2 y1_ m1_).2.1, (fun y_ m_ => ((hw0.2.1.2.2 y1_ m1_).2.2 y_ m_))⟩) hw0.2.2.1.1 hw0.2.2.1.2.1 (fun y_ m_ => (hw0.2.2.1.2.2 y_ m_)) hw0.2.2.2).mono fun e W' ⟨he, bel⟩ => ?_
  subst he
  exact ⟨_, rfl, _, _, _, [], _, [], hW', trodAll_mk1 (shut_bool Try.underlying4 _), (trodAll_cons_mk (Below.trod laidOut (by kernel_rfl) (of_decide_eq_true (by kernel_rfl)) k0 bel lt0) trodAll_mk0), rfl, bel.frame _, fun h => by cases h⟩
theorem over : Rows.regisBestRow.holds Try.pinned (OpenSpec.ofChange Rows.regisBestSpec) :=
  OpenClaim.holds_of_wide 3 Try.f3 rfl rfl rfl rfl rfl rfl rfl ⟨rfl, rfl, rfl, rfl, rfl⟩ rfl rfl rfl rfl rfl (by kernel_rfl) Try.func3 (by kernel_rfl)
    (of_decide_eq_true (by kernel_rfl)) (by unfold Func.isWrapper; first | (rw [if_pos (by decide +kernel)]; kernel_rfl) | (rw [if_neg (by decide +kernel)]; exact ⟨rfl, rfl⟩))
    (fun os started H enc _ => lifted os started H enc)
theorem proved : Rows.RegisBestSaid := over
#print axioms proved
end Go.Proofs.Ytbpamdgpfjaggaa.regisBest
namespace Go.Proofs.Ytbpamdgpfjaggaa
/-- The row, under a short name, for the claim. -/
theorem regisBest_holds : Rows.RegisBestSaid := regisBest.proved
end Go.Proofs.Ytbpamdgpfjaggaa
