-- Written by a program of this session (the kit's print, turned: wip/px).
import Derived.Test.YtbpamdgpfjaggaaRows
import Derived.Test.YtbpamdgpfjaggaaPRegisBoundsx8
import Derived.Test.YtbpamdgpfjaggaaPureRegisBounds
import Derived.Test.YtbpamdgpfjaggaaOpen
import Derived.WalkKit
import Derived.ProofKit
import Derived.OpenShut
import Derived.ShutString
import Derived.ChangeOld
import Derived.Below
import Derived.SizedLaws
namespace Go.Proofs.Ytbpamdgpfjaggaa.regisBounds
open Go.ChangeShapes Go.WideShapes Go.ChangeAt Go.RowKit Go.Proofs.YtbpamdgpfjaggaaW.PrintWords Go.Proofs.Ytbpamdgpfjaggaa.PRegisBounds
open Go.ChangeMaps (open_string shut_string)
set_option linter.unusedVariables false
theorem own : ownKnob Try.prog.godebug = none := by kernel_rfl
theorem laidOut : laidOutB Try.prog = true := by kernel_rfl
set_option maxRecDepth 100000 in
theorem lifted (os : Os) (started : os.Started) (H : Type) (enc : TypeId × Value → H) :
    ReturnsInHanded {} Try.checked os 7 .any (Rows.regisBoundsSpec.pre6 enc Try.prog Try.f7 Rows.regisBoundsRow.domain false) (Rows.regisBoundsSpec.post enc Try.prog Try.f7 false true false false) := by
  refine returnsInHanded_of_change_sized (C := Try.checked) own started (by kernel_rfl) Try.func7
    (ChangeSpec.witness6 (enc := enc) (C := Try.checked) false ⟨#[], #[(.slice none 0 0), (.agg #[(.int .u8 0), (.int .u8 0), (.int .u8 0), (.int .u8 0), (.int .u8 0)]), (.int .u8 0)], []⟩ 8 (by kernel_rfl) (by kernel_rfl) (by kernel_rfl) (by kernel_rfl)) ?_
  intro W base args ds gs before hval0 hW hcnd hsz0 _
  have hsz : (DataW.weightsEach Try.prog (Try.f7.params.toList ++ Rows.regisBoundsSpec.plain.varTypes Try.prog) (ds ++ gs)).all (· ≤ reachBytes) = true := hsz0
  have hval : ∀ (j : Nat) t v, Try.f7.params[j]? = some t → args[j]? = some v → Value.okWide Try.prog W .any base t v := hval0
  have hW' := hW
  obtain ⟨p, q, hA0, hV, rfl, hfz, hnd⟩ := hW
  have hA : DataW.TrodAll enc Try.prog W 0 (fun _ => true) true Try.f7.params.toList args.toList ds p := hA0
  rw [Try.params7] at hA hval hsz
  obtain ⟨v0, vs0, d0, ds0, p0, q0, hargs, rfl, rfl, h0, r0⟩ := trodAll_cons hA
  obtain ⟨v1, vs1, d1, ds1, p1, q1, rfl, rfl, rfl, h1, r1⟩ := trodAll_cons r0
  obtain ⟨v2, vs2, d2, ds2, p2, q2, rfl, rfl, rfl, h2, r2⟩ := trodAll_cons r1
  obtain ⟨rfl, rfl, rfl⟩ := trodAll_nil r2
  obtain rfl : args = #[v0, v1, v2] := by cases args; simp_all
  obtain ⟨rfl, rfl⟩ := trodVars_none hV
  have k0 := h0
  have lt0 : ∀ x ∈ p0, x.block < W.heap.size := by obtain ⟨m, hm⟩ := k0; exact DataW.trod_lt m _ _ _ hm
  have sm0 : Open.Small Try.prog 35 d0 := Open.small_of_all hsz (j := 0) rfl rfl
  obtain ⟨x0, hk0, hw0⟩ := Open.opens_sizes (Open.opens_slice (B := 4) Try.underlying35 (Open.opens_iso (f := (fun x : S65 => (x.f0, x.f1, x.f2, x.f3))) (g := (fun p => (⟨p.1, p.2.1, p.2.2.1, p.2.2.2⟩ : S65))) (fun _ => rfl) (Open.opens_struct Try.underlying65 (by kernel_rfl) (Open.opens_more (Open.opens_int Try.underlying5) rfl (by kernel_rfl) (Open.opens_more (Open.opens_int Try.underlying5) rfl (by kernel_rfl) (Open.opens_more (Open.opens_int Try.underlying5) rfl (by kernel_rfl) (Open.opens_last (Open.opens_int Try.underlying5) rfl (by kernel_rfl))))))) (by kernel_rfl) (by kernel_rfl)) h0 sm0
  obtain ⟨b0, len0, cap0, rfl⟩ := okWide_slice Try.underlying35 (hval 0 35 v0 rfl rfl)
  obtain ⟨A0, c0, hcs0, hc0, hr0⟩ := hk0
  simp [Value.cells] at hcs0
  obtain ⟨rfl, rfl, rfl⟩ := hcs0
  have k1 := h1
  have lt1 : ∀ x ∈ p1, x.block < W.heap.size := by obtain ⟨m, hm⟩ := k1; exact DataW.trod_lt m _ _ _ hm
  have sm1 : Open.Small Try.prog 37 d1 := Open.small_of_all hsz (j := 1) rfl rfl
  obtain ⟨x1, hk1, hw1⟩ := Open.opens_sizes (Open.opens_struct Try.underlying37 (by kernel_rfl) (Open.opens_more (Open.opens_int Try.underlying5) rfl (by kernel_rfl) (Open.opens_more (Open.opens_int Try.underlying5) rfl (by kernel_rfl) (Open.opens_more (Open.opens_int Try.underlying5) rfl (by kernel_rfl) (Open.opens_more (Open.opens_int Try.underlying5) rfl (by kernel_rfl) (Open.opens_last (Open.opens_int Try.underlying5) rfl (by kernel_rfl))))))) h1 sm1
  obtain ⟨cs1, rfl, _⟩ := okWide_struct Try.underlying37 (hval 1 37 v1 rfl rfl)
  obtain ⟨_, _, eq1_0_5, ka1_0_5, kb1_0_5⟩ := hk1
  have e1_0 : _ = [Value.int .u8 x1.1] := ka1_0_5
  obtain ⟨_, _, eq1_1_4, ka1_1_4, kb1_1_4⟩ := kb1_0_5
  have e1_1 : _ = [Value.int .u8 x1.2.1] := ka1_1_4
  obtain ⟨_, _, eq1_2_3, ka1_2_3, kb1_2_3⟩ := kb1_1_4
  have e1_2 : _ = [Value.int .u8 x1.2.2.1] := ka1_2_3
  obtain ⟨_, _, eq1_3_2, ka1_3_2, kb1_3_2⟩ := kb1_2_3
  have e1_3 : _ = [Value.int .u8 x1.2.2.2.1] := ka1_3_2
  have e1_4 : _ = [Value.int .u8 x1.2.2.2.2] := kb1_3_2
  subst e1_4
  subst e1_3
  subst e1_2
  subst e1_1
  subst e1_0
  subst eq1_3_2
  subst eq1_2_3
  subst eq1_1_4
  simp only [Value.cells] at eq1_0_5
  obtain rfl : cs1 = List.toArray _ := by rw [← Array.toArray_toList (xs := cs1), eq1_0_5]
  have k2 := h2
  have lt2 : ∀ x ∈ p2, x.block < W.heap.size := by obtain ⟨m, hm⟩ := k2; exact DataW.trod_lt m _ _ _ hm
  have sm2 : Open.Small Try.prog 5 d2 := Open.small_of_all hsz (j := 2) rfl rfl
  obtain ⟨x2, hk2, hw2⟩ := Open.opens_sizes (Open.opens_int Try.underlying5) h2 sm2
  obtain ⟨a2, rfl⟩ := okWide_int Try.underlying5 (hval 2 5 v2 rfl rfl)
  have hq2 : [Value.int .u8 a2] = [Value.int .u8 x2] := hk2
  obtain rfl : a2 = x2 := by simpa using hq2
  clear hA0 hval0 hsz0 hsz
  refine (PRegisBounds.diapasonlaw26_RegisBounds.walk Pure.RegisBounds _ _ x0 x1.1 x1.2.1 x1.2.2.1 x1.2.2.2.1 x1.2.2.2.2 a2 W hr0 hc0 hw0.1 hw0.2.1 (fun y_ m_ => ⟨(hw0.2.2 y_ m_).1, (hw0.2.2 y_ m_).2.1, (hw0.2.2 y_ m_).2.2.1, (hw0.2.2 y_ m_).2.2.2⟩) hw1.1 hw1.2.1 hw1.2.2.1 hw1.2.2.2.1 hw1.2.2.2.2 hw2).mono fun e W' ⟨he, bel⟩ => ?_
  subst he
  exact ⟨_, rfl, _, _, _, [], _, [], hW', trodAll_mk1 (shut_bool Try.underlying4 _), (trodAll_cons_mk (Below.trod laidOut (by kernel_rfl) (of_decide_eq_true (by kernel_rfl)) k0 bel lt0) (trodAll_cons_mk (Below.trod laidOut (by kernel_rfl) (of_decide_eq_true (by kernel_rfl)) k1 bel lt1) (trodAll_cons_mk (Below.trod laidOut (by kernel_rfl) (of_decide_eq_true (by kernel_rfl)) k2 bel lt2) trodAll_mk0))), rfl, bel.frame _, fun h => by cases h⟩
theorem over : Rows.regisBoundsRow.holds Try.pinned (OpenSpec.ofChange Rows.regisBoundsSpec) :=
  OpenClaim.holds_of_wide 7 Try.f7 rfl rfl rfl rfl rfl rfl rfl ⟨rfl, rfl, rfl, rfl, rfl⟩ rfl rfl rfl rfl rfl (by kernel_rfl) Try.func7 (by kernel_rfl)
    (of_decide_eq_true (by kernel_rfl)) (by unfold Func.isWrapper; first | (rw [if_pos (by decide +kernel)]; kernel_rfl) | (rw [if_neg (by decide +kernel)]; exact ⟨rfl, rfl⟩))
    (fun os started H enc _ => lifted os started H enc)
theorem proved : Rows.RegisBoundsSaid := over
#print axioms proved
end Go.Proofs.Ytbpamdgpfjaggaa.regisBounds
namespace Go.Proofs.Ytbpamdgpfjaggaa
/-- The row, under a short name, for the claim. -/
theorem regisBounds_holds : Rows.RegisBoundsSaid := regisBounds.proved
end Go.Proofs.Ytbpamdgpfjaggaa
