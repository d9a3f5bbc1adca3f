/- Of any want (eight stops at most are gone through, as the statement cuts it) the program's best choice and the leaves that show it are the reference's. Without a condition. -/
import Derived.Test.YtfcidgnbocijdaaDoorCtMCertMakes
set_option linter.unusedVariables false
set_option linter.unusedSimpArgs false
namespace Go.Proofs.YtfcidgnbocijdaaDoor.Pure
open Go.RowKit Go.Proofs.YtfcidgnbocijdaaDoorW.PrintWords Go.Proofs.YtfcidgnbocijdaaDoor.Pl Go.Proofs.YtfcidgnbocijdaaDoor.Rg Go.Proofs.YtfcidgnbocijdaaDoor.Ct Go.Proofs.YtfcidgnbocijdaaDoor.CtL Go.Proofs.YtfcidgnbocijdaaDoor.RgCertMakes Go.Proofs.YtfcidgnbocijdaaDoor.RgWCertMakes Go.Proofs.YtfcidgnbocijdaaDoor.RgGCertMakes Go.Proofs.YtfcidgnbocijdaaDoor.RgRCertMakes Go.Proofs.YtfcidgnbocijdaaDoor.CtMCertMakes Go.Proofs.YtfcidgnbocijdaaDoor.PCertMakes
theorem same27_loop (l : List S66) (hl : l.length < 9223372036854775807) : ∀ (m i : Nat), l.length - i = m → i ≤ l.length → Ev (fun k => diapasonref27_Same.l0 k l l (i : Int)) true := by
  intro m
  induction m with
  | zero =>
    intro i hm hi
    refine succ ?_
    simp only [diapasonref27_Same.l0]
    exact neg (by omega) (ret rfl)
  | succ m ih =>
    intro i hm hi
    refine succ ?_
    simp only [diapasonref27_Same.l0]
    rw [wrapS (by omega)]
    exact pos (by omega) (pos (by omega) (pos (by omega) (pos (by trivial) (pos (by trivial) (ih (i + 1) (by omega) (by omega))))))
theorem same27 (l : List S66) (hl : l.length < 9223372036854775807) : Ev (fun k => diapasonref27_Same.f k l l) true := by
  unfold diapasonref27_Same.f
  exact pos rfl (same27_loop l hl _ 0 rfl (by omega))
theorem CertMakes : diapasonlaw27_CertMakes.Pure := by
  intro L Bs0 Tk0 W h1 h2 h3 h4 h5 h6 h7 h8 h9 h10
  refine Ev.rounds (r := true) ?_
  unfold diapasonlaw27_CertMakes.f
  have hn : (Bs0.take (diapasonlaw27_cut.n Bs0.length)).length = diapasonlaw27_cut.n Bs0.length := by
    have : diapasonlaw27_cut.n Bs0.length ≤ Bs0.length := by unfold diapasonlaw27_cut.n; split <;> (try split) <;> omega
    rw [List.length_take]; omega
  have hbl : diapasonlaw27_cut.n Bs0.length ≤ 8 ∨ diapasonlaw27_cut.n Bs0.length = 17 := by unfold diapasonlaw27_cut.n; split <;> (try split) <;> omega
  have htl : (Tk0.take (diapasonlaw27_cut.n Bs0.length)).length ≤ Tk0.length := by rw [List.length_take]; omega
  have hrs : ∀ r ∈ Bs0.take (diapasonlaw27_cut.n Bs0.length), r.length < 9223372036854775807 := fun r hr => by
    have := (h6 r (List.mem_of_mem_take hr)).2.1; omega
  generalize Bs0.take (diapasonlaw27_cut.n Bs0.length) = Bs at *
  generalize Tk0.take (diapasonlaw27_cut.n Bs0.length) = Tk at *
  by_cases hm : may L Bs Tk W = true
  · have h := may_iff.1 hm
    have hb16 := h.b16
    obtain ⟨R, hR, eR⟩ := prog_make h
    obtain ⟨R', hR', eR'⟩ := ref_make h (by omega)
    have := is_uniq hR hR'
    subst this
    have hRl : R.1.length < 9223372036854775807 := by
      obtain ⟨T, a, b, rfl⟩ := hR'.it
      have := rises_len a
      show T.length < _
      omega
    have hlen := lv_len (L := L) (Bs := Bs) (Tk := Tk) (W := W) (m := R.2.1) Bs.length []
    have hp := pow16 hb16
    exact bnd eR (bnd eR' (bnd (same R.1 R.2.1 R.2.2 hRl) (bnd (same27 _ (by rw [List.length_map]; omega)) (pos ⟨rfl, rfl, rfl⟩ (ret rfl)))))
  · have e1 := prog_make_not (by omega) (by omega) (by omega) hrs hm
    have e2 : Ev (fun k => diapasonref27_Make.f k L Bs Tk W) ([], 0, 0, [], 2) := by
      unfold diapasonref27_Make.f diapasonref26_Best.f
      exact bnd (a := ([], 0, 0, 2)) (bnd (ref_may L Bs Tk W (by omega) (by omega) hrs) (neg hm (ret rfl))) (neg (by simp) (ret rfl))
    exact bnd e1 (bnd e2 (bnd (same [] 0 0 (by simp)) (bnd (same27 [] (by simp)) (pos ⟨rfl, rfl, rfl⟩ (ret rfl)))))
end Go.Proofs.YtfcidgnbocijdaaDoor.Pure
