/- Of any two choices the program and the reference tell alike which is better. For every pair of choices, without a condition. -/
import Derived.Test.YtbpamdgpfjaggaaRgBRegisOrders
namespace Go.Proofs.Ytbpamdgpfjaggaa.Pure
open Go.RowKit Go.Proofs.YtbpamdgpfjaggaaW.PrintWords Go.Proofs.Ytbpamdgpfjaggaa.Pl Go.Proofs.Ytbpamdgpfjaggaa.Rg Go.Proofs.Ytbpamdgpfjaggaa.RgRegisOrders Go.Proofs.Ytbpamdgpfjaggaa.PRegisOrders
theorem RegisOrders : diapasonlaw26_RegisOrders.Pure := by
  intro l0 a1 a2 l1 b1 b2 hl0 hx0 hy0 h1 h2 hl1 hx1 hy1 h3 h4
  have e0 : l0.length < 9223372036854775807 := by omega
  have e1 : l1.length < 9223372036854775807 := by omega
  refine Ev.rounds (r := true) ?_
  unfold diapasonlaw26_RegisOrders.f
  exact bnd (prog_better _ _ _ _ _ _ e0) (bnd (ref_better _ _ _ _ _ _ e0) (pos (by simp) (bnd (prog_better _ _ _ _ _ _ e1) (bnd (ref_better _ _ _ _ _ _ e1) (pos (by simp) (bnd works (ret rfl)))))))
end Go.Proofs.Ytbpamdgpfjaggaa.Pure
