/- Of any want, list and settled stops the program and the reference tell alike whether the want may be, what the list misses and takes, and the bound of what is settled. Without a condition. -/
import Derived.Test.YtbpamdgpfjaggaaRgWRegisTells
namespace Go.Proofs.Ytbpamdgpfjaggaa.Pure
open Go.RowKit Go.Proofs.YtbpamdgpfjaggaaW.PrintWords Go.Proofs.Ytbpamdgpfjaggaa.Pl Go.Proofs.Ytbpamdgpfjaggaa.Rg Go.Proofs.Ytbpamdgpfjaggaa.RgWRegisTells Go.Proofs.Ytbpamdgpfjaggaa.PRegisTells
theorem RegisTells : diapasonlaw26_RegisTells.Pure := by
  intro L Bs Tk W l S h1 h2 h3 h4 h5 h6 h7 h8 h9 h10 h11 h12 h13 h14 h15 h16
  have a1 : L.length < 9223372036854775807 := by omega
  have a2 : Bs.length < 9223372036854775807 := by omega
  have a3 : Tk.length < 9223372036854775807 := by omega
  have a4 : l.length < 9223372036854775807 := by omega
  have a5 : S.length < 9223372036854775807 := by omega
  have a6 : ∀ r ∈ Bs, r.length < 9223372036854775807 := fun r hr => by have := (h6 r hr).2.1; omega
  refine Ev.rounds (r := true) ?_
  unfold diapasonlaw26_RegisTells.f
  refine bnd (check L Bs Tk W a1 a3 a2 a6) ?_
  have rc : Ev (fun k => diapasonref26_Check.f k L Bs Tk W) (if may L Bs Tk W then 0 else 2) := by
    unfold diapasonref26_Check.f
    refine bnd (ref_may L Bs Tk W a1 a2 a6) ?_
    cases may L Bs Tk W with
    | true => exact pos rfl (ret rfl)
    | false => exact neg (by simp) (ret rfl)
  refine bnd rc (pos rfl (bnd (misses L Bs Tk W l a1 a3 a2 a6 a4) (bnd (ref_misses L Bs Tk W l a1 a2 a6 a4) (pos rfl (pos rfl ?_)))))
  have e : ((told L Bs Tk W l).2.2 != (told L Bs Tk W l).2.2) = false := by simp
  rw [e]
  refine succ ?_
  simp only [diapasonlaw26_RegisTells.j0]
  exact neg (by simp) (bnd (prog_bound L Bs Tk W S a1 a3 a2 a6 a5) (bnd (ref_bound L Bs Tk W S a1 a2 a6 a5) (pos rfl (pos rfl (bnd works (ret rfl))))))
end Go.Proofs.Ytbpamdgpfjaggaa.Pure
