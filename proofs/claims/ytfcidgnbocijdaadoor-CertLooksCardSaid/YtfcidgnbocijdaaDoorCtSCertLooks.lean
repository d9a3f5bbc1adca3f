/- Nodes that are alike, as the document compares them. For the statement CertLooks. -/
import Derived.Test.YtfcidgnbocijdaaDoorRgWCertLooks
set_option linter.unusedVariables false
set_option linter.unusedSimpArgs false
namespace Go.Proofs.YtfcidgnbocijdaaDoor.CtSCertLooks
open Go.RowKit Go.Proofs.YtfcidgnbocijdaaDoorW.PrintWords Go.Proofs.YtfcidgnbocijdaaDoor.Pl Go.Proofs.YtfcidgnbocijdaaDoor.Rg Go.Proofs.YtfcidgnbocijdaaDoor.PCertMakes Go.Proofs.YtfcidgnbocijdaaDoor.PCertLooks
theorem same27_loop (l : List S66) (hl : l.length < 9223372036854775807) : ∀ (m i : Nat), l.length - i = m → i ≤ l.length → Ev (fun k => diapasonref27_Same.l0 k l l (i : Int)) true := by
  intro m
  induction m with
  | zero =>
    intro i hm hi
    refine succ ?_
    simp only [diapasonref27_Same.l0]
    exact neg (by omega) (ret rfl)
  | succ m ih =>
    intro i hm hi
    refine succ ?_
    simp only [diapasonref27_Same.l0]
    rw [wrapS (by omega)]
    exact pos (by omega) (pos (by omega) (pos (by omega) (pos (by trivial) (pos (by trivial) (ih (i + 1) (by omega) (by omega))))))
theorem same27 (l : List S66) (hl : l.length < 9223372036854775807) : Ev (fun k => diapasonref27_Same.f k l l) true := by
  unfold diapasonref27_Same.f
  exact pos rfl (same27_loop l hl _ 0 rfl (by omega))
end Go.Proofs.YtfcidgnbocijdaaDoor.CtSCertLooks
