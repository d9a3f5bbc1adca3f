/- What the program's Best computes: the best of all choices that fit. For the statement CertMakes. -/
import Derived.Test.YtfcidgnbocijdaaDoorRgS
import Derived.Test.YtfcidgnbocijdaaDoorRgWCertMakes
import Derived.Test.YtfcidgnbocijdaaDoorRgBCertMakes
set_option linter.unusedVariables false
set_option linter.unusedSimpArgs false
namespace Go.Proofs.YtfcidgnbocijdaaDoor.RgGCertMakes
open Go.RowKit Go.Proofs.YtfcidgnbocijdaaDoorW.PrintWords Go.Proofs.YtfcidgnbocijdaaDoor.Pl Go.Proofs.YtfcidgnbocijdaaDoor.Rg Go.Proofs.YtfcidgnbocijdaaDoor.RgCertMakes Go.Proofs.YtfcidgnbocijdaaDoor.RgWCertMakes Go.Proofs.YtfcidgnbocijdaaDoor.PCertMakes
variable {L : List Int} {Bs : List (List Int)} {Tk : List Int} {W : Int}

theorem wnd_snoc (T : List Int) (i : Nat) : wnd Tk (T ++ [(i : Int)]) = wnd Tk T + Tk.getD i 0 := by
  unfold wnd; rw [sm_snoc, Int.toNat_natCast]
theorem go_end (h : May L Bs Tk W) {S T : List Int} (B : Ch) (hl : S.length = Bs.length) (hd : Draws S T) (q1 : ¬ W < wnd Tk T) (q2 : ¬ B.2.1 < Rg.least L Bs S) : ∃ K, ∀ k, K ≤ k → ∀ d, regis_Best.go k L Bs Tk W (d + 1) (wnd Tk T) S T B = some (if better T (miss L Bs T) (wnd Tk T) B.1 B.2.1 B.2.2 then ch L Bs Tk T else B) := by
  have hb := h.b16
  have hlen := hd.len
  obtain ⟨K1, h1⟩ := prog_least h S
  dsimp only at h1
  obtain ⟨K2, h2⟩ := weighed h (l := T) (by omega) (fun x hx => by have := hd.mem x hx; omega)
  dsimp only at h2
  obtain ⟨K3, h3⟩ := prog_better T (miss L Bs T) (wnd Tk T) B.1 B.2.1 B.2.2 (by omega)
  dsimp only at h3
  refine ⟨K1 + K2 + K3, fun k hk d => ?_⟩
  have hc : slices_Clone_int_int.f T = some T := by unfold slices_Clone_int_int.f; rw [if_pos (by omega)]
  simp only [regis_Best.go]
  rw [if_neg q1, h1 k (by omega), Option.bind_some, if_neg q2, if_pos (by omega), hc, Option.bind_some, h2 k (by omega), Option.bind_some, h3 k (by omega), Option.bind_some]
  cases better T (miss L Bs T) (wnd Tk T) B.1 B.2.1 B.2.2 <;> rfl
theorem go_best (h : May L Bs Tk W) : ∀ (D : Nat) (S T : List Int) (B : Ch), S.length + D = Bs.length → Draws S T →
    ∃ R, BestOf (fun T' => On Bs.length S.length T T' ∧ wnd Tk T' ≤ W) (ch L Bs Tk) B R ∧ ∃ K, ∀ k, K ≤ k → ∀ d, D < d → regis_Best.go k L Bs Tk W d (wnd Tk T) S T B = some R := by
  intro D
  induction D with
  | zero =>
    intro S T B hl hd
    by_cases q1 : W < wnd Tk T
    · refine ⟨B, BestOf.none (fun T' ⟨ho, hw⟩ => by have := wnd_on h ho; omega), 0, fun k _ d hd' => ?_⟩
      obtain ⟨d, rfl⟩ : ∃ m, d = m + 1 := ⟨d - 1, by omega⟩
      simp only [regis_Best.go]; rw [if_pos q1]
    by_cases q2 : B.2.1 < Rg.least L Bs S
    · obtain ⟨K1, h1⟩ := prog_least h S
      dsimp only at h1
      refine ⟨B, BestOf.none (fun T' ⟨ho, hw⟩ c => ?_), K1, fun k hk d hd' => ?_⟩
      · have := least_on h hd (by omega) ho
        rw [bt_iff] at c
        simp only [ch] at c
        omega
      · obtain ⟨d, rfl⟩ : ∃ m, d = m + 1 := ⟨d - 1, by omega⟩
        simp only [regis_Best.go]; rw [if_neg q1, h1 k hk, Option.bind_some, if_pos q2]
    · obtain ⟨K, hK⟩ := go_end h B (by omega) hd q1 q2
      refine ⟨_, BestOf.one (T := T) (fun U => ?_) _ Iff.rfl, K, fun k hk d hd' => ?_⟩
      · rw [show S.length = Bs.length by omega, on_end]
        constructor
        · exact fun c => c.1
        · rintro rfl; exact ⟨rfl, by omega⟩
      · obtain ⟨d, rfl⟩ : ∃ m, d = m + 1 := ⟨d - 1, by omega⟩
        exact hK k hk d
  | succ D ih =>
    intro S T B hl hd
    have hb := h.b16
    have htb := h.tb
    have hlen := hd.len
    by_cases q1 : W < wnd Tk T
    · refine ⟨B, BestOf.none (fun T' ⟨ho, hw⟩ => by have := wnd_on h ho; omega), 0, fun k _ d hd' => ?_⟩
      obtain ⟨d, rfl⟩ : ∃ m, d = m + 1 := ⟨d - 1, by omega⟩
      simp only [regis_Best.go]; rw [if_pos q1]
    by_cases q2 : B.2.1 < Rg.least L Bs S
    · obtain ⟨K1, h1⟩ := prog_least h S
      dsimp only at h1
      refine ⟨B, BestOf.none (fun T' ⟨ho, hw⟩ c => ?_), K1, fun k hk d hd' => ?_⟩
      · have := least_on h hd (by omega) ho
        rw [bt_iff] at c
        simp only [ch] at c
        omega
      · obtain ⟨d, rfl⟩ : ∃ m, d = m + 1 := ⟨d - 1, by omega⟩
        simp only [regis_Best.go]; rw [if_neg q1, h1 k hk, Option.bind_some, if_pos q2]
    · obtain ⟨R1, b1, K1, h1⟩ := ih (S ++ [1]) (T ++ [(S.length : Int)]) B (by simp; omega) hd.yes
      obtain ⟨R2, b2, K2, h2⟩ := ih (S ++ [2]) T R1 (by simp; omega) (hd.no (by decide))
      obtain ⟨K3, h3⟩ := prog_least h S
      dsimp only at h3
      refine ⟨R2, (b1.then b2).iff (fun T' => ?_), K1 + K2 + K3, fun k hk d hd' => ?_⟩
      · rw [on_step (show S.length < Bs.length by omega)]
        simp only [List.length_append, List.length_singleton]
        constructor
        · rintro (⟨a, b⟩ | ⟨a, b⟩)
          · exact ⟨Or.inl a, b⟩
          · exact ⟨Or.inr a, b⟩
        · rintro ⟨a | a, b⟩
          · exact Or.inl ⟨a, b⟩
          · exact Or.inr ⟨a, b⟩
      · obtain ⟨d, rfl⟩ : ∃ m, d = m + 1 := ⟨d - 1, by omega⟩
        have hw := wnd_ok h (l := T) (by omega)
        have ht := tk_ok h S.length
        simp only [regis_Best.go]
        rw [if_neg q1, h3 k (by omega), Option.bind_some, if_neg q2, if_neg (by omega), if_pos ⟨by omega, by omega, by omega⟩, rdN, wrapI (by omega) (by omega), ← wnd_snoc, h1 k (by omega) d (by omega), Option.bind_some, h2 k (by omega) d (by omega)]
theorem best (h : May L Bs Tk W) : ∃ R : Ch, BestOf (fun T' => rises Bs.length T' = true ∧ wnd Tk T' ≤ W) (ch L Bs Tk) (ch L Bs Tk []) R ∧ Ev (fun k => regis_Best.f k L Bs Tk W) (R.1, R.2.1, R.2.2, 0) := by
  have hb := h.b16
  have hl16 := h.l16
  obtain ⟨R, b, K, hK⟩ := go_best h Bs.length [] [] (ch L Bs Tk []) (by simp) Draws.nil
  have hc := check L Bs Tk W (by omega) (by have := h.tb; omega) (by omega) (fun r hr => by have := (h.bs r hr).1; omega)
  rw [if_pos (may_iff.2 h)] at hc
  obtain ⟨K1, h1⟩ := hc
  dsimp only at h1
  obtain ⟨K2, h2⟩ := weighed h (l := []) (by simp) (fun x hx => by cases hx)
  dsimp only at h2
  refine ⟨R, b.iff (fun T' => by rw [List.length_nil, on_all]), K + K1 + K2 + Bs.length + 1, fun k hk => ?_⟩
  have h3 : regis_Best.go k L Bs Tk W k 0 [] [] ([], miss L Bs [], wnd Tk []) = some R := hK k (by omega) k (by omega)
  show (regis_Best.f k L Bs Tk W) = _
  unfold regis_Best.f
  rw [h1 k (by omega), Option.bind_some, if_pos rfl, h2 k (by omega), Option.bind_some]
  simp only
  rw [h3, Option.bind_some]
theorem best_not (hl : L.length < 9223372036854775807) (ht : Tk.length < 9223372036854775807) (hb : Bs.length < 9223372036854775807) (hr : ∀ r ∈ Bs, r.length < 9223372036854775807) (h : ¬ may L Bs Tk W = true) : Ev (fun k => regis_Best.f k L Bs Tk W) ([], 0, 0, 2) := by
  have hc := check L Bs Tk W hl ht hb hr
  rw [if_neg h] at hc
  unfold regis_Best.f
  exact bnd hc (neg (by decide) (ret rfl))
/-- What it is: a list that rises, fits, and none that rises and fits is better. -/
structure IsBest (L : List Int) (Bs : List (List Int)) (Tk : List Int) (W : Int) (R : Ch) : Prop where
  it : ∃ T, rises Bs.length T = true ∧ wnd Tk T ≤ W ∧ R = ch L Bs Tk T
  all : ∀ T, rises Bs.length T = true → wnd Tk T ≤ W → ¬ bt (ch L Bs Tk T) R
theorem is_best (h : May L Bs Tk W) {R : Ch} (b : BestOf (fun T' => rises Bs.length T' = true ∧ wnd Tk T' ≤ W) (ch L Bs Tk) (ch L Bs Tk []) R) : IsBest L Bs Tk W R := by
  refine ⟨?_, fun T h1 h2 => b.all T ⟨h1, h2⟩⟩
  rcases b.is with e | ⟨T, ⟨h1, h2⟩, e⟩
  · exact ⟨[], rfl, h.w.1, e⟩
  · exact ⟨T, h1, h2, e⟩
end Go.Proofs.YtfcidgnbocijdaaDoor.RgGCertMakes
