/- What the program's shut and Make, and the reference's, compute: the leaves that are shut. For the statement CertMakes. -/
import Derived.Test.YtfcidgnbocijdaaDoorCtL
import Derived.Test.YtfcidgnbocijdaaDoorRgRCertMakes
set_option linter.unusedVariables false
set_option linter.unusedSimpArgs false
namespace Go.Proofs.YtfcidgnbocijdaaDoor.CtMCertMakes
open Go.RowKit Go.Proofs.YtfcidgnbocijdaaDoorW.PrintWords Go.Proofs.YtfcidgnbocijdaaDoor.Pl Go.Proofs.YtfcidgnbocijdaaDoor.Rg Go.Proofs.YtfcidgnbocijdaaDoor.Ct Go.Proofs.YtfcidgnbocijdaaDoor.CtL Go.Proofs.YtfcidgnbocijdaaDoor.RgCertMakes Go.Proofs.YtfcidgnbocijdaaDoor.RgWCertMakes Go.Proofs.YtfcidgnbocijdaaDoor.RgGCertMakes Go.Proofs.YtfcidgnbocijdaaDoor.RgRCertMakes Go.Proofs.YtfcidgnbocijdaaDoor.PCertMakes
section
variable {L : List Int} {Bs : List (List Int)} {Tk : List Int} {W : Int}
def mk (p : List Int × Int) : S66 := ⟨p.1, p.2⟩
def wf (Tk S : List Int) (j : Nat) : Int := if j < S.length ∧ S.getD j 0 = 1 then Tk.getD j 0 else 0
theorem winded_loop (h : May L Bs Tk W) (S : List Int) (hS : S.length ≤ Bs.length) : ∀ (d i : Nat), S.length - i = d → i ≤ S.length →
    Ev (fun k => cert_winded.l0 k (sn (wf Tk S) i) S (S.length : Int) (i : Int) L Bs Tk W) (decide (W < wS Tk S)) := by
  have hb := h.b16
  have htb := h.tb
  intro d
  induction d with
  | zero =>
    intro i hd hi
    refine succ ?_
    simp only [cert_winded.l0]
    refine neg (by omega) (ret ?_)
    rw [show i = S.length by omega]
    rfl
  | succ d ih =>
    intro i hd hi
    have hw := part_w h S i (by omega)
    have hw1 := part_w h S (i + 1) (by omega)
    have hn := ih (i + 1) (by omega) (by omega)
    refine succ ?_
    simp only [cert_winded.l0]
    rw [rdN, rdN, wrapS (by omega)]
    refine pos (by omega) (pos (by omega) (pos (by omega) (alt (fun g => pos (by omega) ?_) (fun g => ?_))))
    · have e : sn (wf Tk S) (i + 1) = sn (wf Tk S) i + Tk.getD i 0 := by rw [sn, wf, if_pos ⟨by omega, g⟩]
      rw [e] at hn
      have e2 : sn (wf Tk S) (i + 1) ≤ 16777216 ∧ 0 ≤ sn (wf Tk S) (i + 1) := ⟨hw1.2, hw1.1⟩
      rw [e] at e2
      rw [wrapI (by omega) (by omega)]
      exact hn
    · have e : sn (wf Tk S) (i + 1) = sn (wf Tk S) i := by rw [sn, wf, if_neg (fun c => g c.2)]; omega
      rw [e] at hn
      exact hn
theorem winded (h : May L Bs Tk W) (S : List Int) (hS : S.length ≤ Bs.length) : Ev (fun k => cert_winded.f k L Bs Tk W S) (decide (W < wS Tk S)) := by
  have := winded_loop h S hS _ 0 rfl (by omega)
  unfold cert_winded.f
  exact this
theorem prog_shut (h : May L Bs Tk W) (m : Int) (S : List Int) (b : Int) (hS : S.length < 9223372036854775807) : Ev (fun k => cert_shut.f k L Bs Tk W m S b) (isShut L Bs Tk W m S b) := by
  have hl16 := h.l16
  have hb16 := h.b16
  have htb := h.tb
  unfold cert_shut.f
  refine bnd (prog_bound L Bs Tk W S (by omega) (by omega) (by omega) (fun r hr => by have := (h.bs r hr).1; omega) hS) ?_
  have hm := may_iff.2 h
  by_cases c : S.length ≤ Bs.length ∧ S.all oneTwo = true
  · have e : bound L Bs Tk W S = (Rg.least L Bs S, 0) := by unfold bound; rw [if_pos ⟨hm, c⟩]
    rw [e]
    have e2 : isShut L Bs Tk W m S b = (decide (b = Rg.least L Bs S) && shutP L Bs Tk W m S) := by
      unfold isShut
      rw [decide_eq_true c.1, show S.all ok12 = true from c.2]
      rfl
    rw [e2]
    refine pos rfl (alt (fun g => bnd (winded h S c.1) (alt (fun g2 => ret ?_) (fun g2 => ret ?_))) (fun g => ret ?_))
    · rw [decide_eq_true (show b = _ from g.symm)]; unfold shutP; rw [g2]; rfl
    · rw [decide_eq_true (show b = _ from g.symm)]; unfold shutP; rw [(Bool.not_eq_true _).mp g2]; simp
    · rw [decide_eq_false (fun c => g c.symm)]; rfl
  · have e : bound L Bs Tk W S = (0, 2) := by unfold bound; rw [if_neg (fun x => c x.2)]
    rw [e]
    refine neg (by decide) (ret ?_)
    unfold isShut
    by_cases c1 : S.length ≤ Bs.length
    · have c2 : ¬ S.all ok12 = true := fun x => c ⟨c1, x⟩
      rw [(Bool.not_eq_true _).mp c2]; simp
    · rw [decide_eq_false c1]; rfl
/-- m: what a best choice misses: no more than any that fits. -/
def Low (L : List Int) (Bs : List (List Int)) (Tk : List Int) (W m : Int) : Prop := ∀ T, rises Bs.length T = true → wnd Tk T ≤ W → m ≤ miss L Bs T
theorem low_of {R : Ch} (hR : IsBest L Bs Tk W R) : Low L Bs Tk W R.2.1 := fun T h1 h2 => by
  have := hR.all T h1 h2
  rw [bt_iff] at this
  have : ¬ (ch L Bs Tk T).2.1 < R.2.1 := fun c => this (Or.inl c)
  simp only [ch] at this
  omega
theorem shut_at (h : May L Bs Tk W) {m : Int} {S : List Int} (hS : S.length ≤ Bs.length) (ha : S.all ok12 = true) : isShut L Bs Tk W m S (Rg.least L Bs S) = shutP L Bs Tk W m S := by
  unfold isShut
  rw [decide_eq_true hS, ha]
  simp
theorem part_lv (h : May L Bs Tk W) {m : Int} (hm : Low L Bs Tk W m) : ∀ (d : Nat) (S : List Int) (out : List S66), S.length + d = Bs.length → S.all ok12 = true → out.length + 2 ^ d ≤ 1000000 →
    ∃ K, ∀ k, K ≤ k → ∀ D, d < D → cert_Make.part k L Bs Tk W m D S out = some (out ++ (lv L Bs Tk W m d S).map mk) := by
  have hl16 := h.l16
  have hb16 := h.b16
  have htb := h.tb
  intro d
  induction d with
  | zero =>
    intro S out hl ha ho
    obtain ⟨K1, h1⟩ := prog_bound L Bs Tk W S (by omega) (by omega) (by omega) (fun r hr => by have := (h.bs r hr).1; omega) (by omega)
    obtain ⟨K2, h2⟩ := prog_shut h m S (Rg.least L Bs S) (by omega)
    have e : bound L Bs Tk W S = (Rg.least L Bs S, 0) := by unfold bound; rw [if_pos ⟨may_iff.2 h, by omega, ha⟩]
    rw [e] at h1
    rw [shut_at h (by omega) ha, full_shut h hm (by omega) ha] at h2
    dsimp only at h1 h2
    refine ⟨K1 + K2, fun k hk D hD => ?_⟩
    obtain ⟨D, rfl⟩ : ∃ D', D = D' + 1 := ⟨D - 1, by omega⟩
    rw [cert_Make.part, h1 k (by omega), Option.bind_some, h2 k (by omega), Option.bind_some, if_pos rfl, if_pos (by simp at ho; omega)]
    rfl
  | succ d ih =>
    intro S out hl ha ho
    have hp : 1 ≤ 2 ^ d := Nat.one_le_pow _ _ (by decide)
    rw [Nat.pow_succ] at ho
    obtain ⟨K1, h1⟩ := prog_bound L Bs Tk W S (by omega) (by omega) (by omega) (fun r hr => by have := (h.bs r hr).1; omega) (by omega)
    obtain ⟨K2, h2⟩ := prog_shut h m S (Rg.least L Bs S) (by omega)
    have e : bound L Bs Tk W S = (Rg.least L Bs S, 0) := by unfold bound; rw [if_pos ⟨may_iff.2 h, by omega, ha⟩]
    rw [e] at h1
    rw [shut_at h (by omega) ha] at h2
    dsimp only at h1 h2
    cases q : shutP L Bs Tk W m S with
    | true =>
      rw [q] at h2
      refine ⟨K1 + K2, fun k hk D hD => ?_⟩
      obtain ⟨D, rfl⟩ : ∃ D', D = D' + 1 := ⟨D - 1, by omega⟩
      rw [cert_Make.part, h1 k (by omega), Option.bind_some, h2 k (by omega), Option.bind_some, if_pos rfl, if_pos (by omega), lv, if_pos q]
      rfl
    | false =>
      rw [q] at h2
      have l1 := lv_len (L := L) (Bs := Bs) (Tk := Tk) (W := W) (m := m) d (S ++ [1])
      obtain ⟨K3, h3⟩ := ih (S ++ [1]) out (by simp; omega) (all_snoc ha (Or.inl rfl)) (by omega)
      obtain ⟨K4, h4⟩ := ih (S ++ [2]) (out ++ (lv L Bs Tk W m d (S ++ [1])).map mk) (by simp; omega) (all_snoc ha (Or.inr rfl)) (by rw [List.length_append, List.length_map]; omega)
      refine ⟨K1 + K2 + K3 + K4, fun k hk D hD => ?_⟩
      obtain ⟨D, rfl⟩ : ∃ D', D = D' + 1 := ⟨D - 1, by omega⟩
      rw [cert_Make.part, h1 k (by omega), Option.bind_some, h2 k (by omega), Option.bind_some, if_neg (by simp), if_pos (by omega), h3 k (by omega) D (by omega), Option.bind_some, h4 k (by omega) D (by omega), lv, if_neg (by rw [q]; simp), List.map_append, List.append_assoc]
theorem pow16 {n : Nat} (h : n ≤ 16) : 2 ^ n ≤ 65536 := by
  calc 2 ^ n ≤ 2 ^ 16 := Nat.pow_le_pow_right (by decide) h
    _ = 65536 := rfl
theorem prog_make (h : May L Bs Tk W) : ∃ R : Ch, IsBest L Bs Tk W R ∧ Ev (fun k => cert_Make.f k L Bs Tk W) (R.1, R.2.1, R.2.2, (lv L Bs Tk W R.2.1 Bs.length []).map mk, 0) := by
  have hb16 := h.b16
  have hp := pow16 hb16
  obtain ⟨R, bR, eR⟩ := best h
  have hR := is_best h bR
  obtain ⟨K, hK⟩ := part_lv h (low_of hR) Bs.length [] [] (by simp) rfl (by simp; omega)
  refine ⟨R, hR, ?_⟩
  unfold cert_Make.f
  refine bnd eR (pos rfl (bnd (a := (lv L Bs Tk W R.2.1 Bs.length []).map mk) ⟨K + Bs.length + 1, fun k hk => ?_⟩ (ret rfl)))
  have := hK k (by omega) k (by omega)
  rwa [List.nil_append] at this
theorem prog_make_not (hl : L.length < 9223372036854775807) (ht : Tk.length < 9223372036854775807) (hb : Bs.length < 9223372036854775807) (hr : ∀ r ∈ Bs, r.length < 9223372036854775807) (h : ¬ may L Bs Tk W = true) : Ev (fun k => cert_Make.f k L Bs Tk W) ([], 0, 0, [], 2) := by
  unfold cert_Make.f
  exact bnd (best_not hl ht hb hr h) (neg (by simp) (ret rfl))
theorem takes_loop (h : May L Bs Tk W) (S : List Int) (hS : S.length ≤ Bs.length) : ∀ (d i : Nat), S.length - i = d → i ≤ S.length →
    Ev (fun k => diapasonref27_takes.l0 k S (sn (wf Tk S) i) (i : Int) L Bs Tk W) (wS Tk S) := by
  have hb := h.b16
  have htb := h.tb
  intro d
  induction d with
  | zero =>
    intro i hd hi
    refine succ ?_
    simp only [diapasonref27_takes.l0]
    refine neg (by omega) (ret ?_)
    rw [show i = S.length by omega]
    rfl
  | succ d ih =>
    intro i hd hi
    have hw := part_w h S i (by omega)
    have hw1 := part_w h S (i + 1) (by omega)
    have hn := ih (i + 1) (by omega) (by omega)
    refine succ ?_
    simp only [diapasonref27_takes.l0]
    rw [rdN, rdN, wrapS (by omega)]
    refine pos (by omega) (pos (by omega) (alt (fun g => pos (by omega) ?_) (fun g => ?_)))
    · have e : sn (wf Tk S) (i + 1) = sn (wf Tk S) i + Tk.getD i 0 := by rw [sn, wf, if_pos ⟨by omega, g⟩]
      rw [e] at hn
      have e2 : sn (wf Tk S) (i + 1) ≤ 16777216 ∧ 0 ≤ sn (wf Tk S) (i + 1) := ⟨hw1.2, hw1.1⟩
      rw [e] at e2
      rw [wrapI (by omega) (by omega)]
      exact hn
    · have e : sn (wf Tk S) (i + 1) = sn (wf Tk S) i := by rw [sn, wf, if_neg (fun c => g c.2)]; omega
      rw [e] at hn
      exact hn
theorem takes (h : May L Bs Tk W) (S : List Int) (hS : S.length ≤ Bs.length) : Ev (fun k => diapasonref27_takes.f k L Bs Tk W S) (wS Tk S) := by
  have := takes_loop h S hS _ 0 rfl (by omega)
  unfold diapasonref27_takes.f
  exact this
theorem ref_settled (S : List Int) (hS : S.length < 9223372036854775807) : Ev (fun k => diapasonref26_Settled.f k L Bs Tk W S) (decide (S.length ≤ Bs.length) && S.all ok12) := by
  unfold diapasonref26_Settled.f
  by_cases c : S.length ≤ Bs.length
  · have hs := settled_loop S hS _ 0 rfl (by omega)
    rw [List.drop_zero] at hs
    exact neg (by omega) (cast_eq hs (by rw [decide_eq_true c]; rfl))
  · exact pos (by omega) (ret (by rw [decide_eq_false c]; rfl))
theorem ref_shut (h : May L Bs Tk W) (m : Int) (S : List Int) (b : Int) (hS : S.length < 9223372036854775807) : Ev (fun k => diapasonref27_Shut.f k L Bs Tk W m S b) (isShut L Bs Tk W m S b) := by
  unfold diapasonref27_Shut.f
  refine bnd (ref_settled S hS) ?_
  cases q : (decide (S.length ≤ Bs.length) && S.all ok12) with
  | true =>
    rw [Bool.and_eq_true, decide_eq_true_eq] at q
    have e2 : isShut L Bs Tk W m S b = (decide (b = Rg.least L Bs S) && shutP L Bs Tk W m S) := by
      unfold isShut
      rw [decide_eq_true q.1, q.2]
      rfl
    rw [e2]
    refine pos rfl (bnd (ref_least h S) (alt (fun g => bnd (takes h S q.1) (alt (fun g2 => ret ?_) (fun g2 => ret ?_))) (fun g => ret ?_)))
    · rw [decide_eq_true g]; unfold shutP; rw [decide_eq_true (show W < wS Tk S by omega)]; rfl
    · rw [decide_eq_true g, g]; unfold shutP; rw [decide_eq_false (show ¬ W < wS Tk S by omega)]; simp
    · rw [decide_eq_false g]; rfl
  | false =>
    refine neg (by simp) (ret ?_)
    unfold isShut
    rw [← Bool.and_assoc, q]
    rfl
theorem ref_leaves (h : May L Bs Tk W) {m : Int} (hm : Low L Bs Tk W m) : ∀ (d : Nat) (S : List Int), S.length + d = Bs.length → S.all ok12 = true →
    Ev (fun k => diapasonref27_leaves.f k L Bs Tk W m S) ((lv L Bs Tk W m d S).map mk) := by
  have hb16 := h.b16
  intro d
  induction d with
  | zero =>
    intro S hl ha
    refine succ ?_
    simp only [diapasonref27_leaves.f]
    have h2 := ref_shut h m S (Rg.least L Bs S) (by omega)
    rw [shut_at h (by omega) ha, full_shut h hm (by omega) ha] at h2
    refine bnd (ref_least h S) (bnd h2 (pos rfl (succ ?_)))
    simp only [diapasonref27_leaves.j0]
    exact pos trivial (ret rfl)
  | succ d ih =>
    intro S hl ha
    refine succ ?_
    simp only [diapasonref27_leaves.f]
    have h2 := ref_shut h m S (Rg.least L Bs S) (by omega)
    rw [shut_at h (by omega) ha] at h2
    refine bnd (ref_least h S) (bnd h2 ?_)
    cases q : shutP L Bs Tk W m S with
    | true =>
      refine pos rfl (succ ?_)
      simp only [diapasonref27_leaves.j0]
      refine pos trivial (ret ?_)
      rw [lv, if_pos q]
      rfl
    | false =>
      refine neg (by simp) (succ ?_)
      rw [show ((S.length : Int) == (Bs.length : Int)) = false from beq_eq_false_iff_ne.2 (by omega)]
      simp only [diapasonref27_leaves.j0]
      have h1 := ih (S ++ [1]) (by simp; omega) (all_snoc ha (Or.inl rfl))
      have h2 := ih (S ++ [2]) (by simp; omega) (all_snoc ha (Or.inr rfl))
      have hp : 2 ^ d ≤ 65536 := pow16 (by omega)
      have l1 := lv_len (L := L) (Bs := Bs) (Tk := Tk) (W := W) (m := m) d (S ++ [1])
      have l2 := lv_len (L := L) (Bs := Bs) (Tk := Tk) (W := W) (m := m) d (S ++ [2])
      refine neg (by simp) (pos (by simp; omega) (some_bnd (some_bnd (pos (by simp; omega) ?_))))
      refine bnd h1 (pos (by simp; omega) (bnd h2 (pos (by rw [List.length_map, List.length_map]; omega) (ret ?_))))
      rw [lv, if_neg (by rw [q]; simp), List.map_append]
theorem ref_make (h : May L Bs Tk W) (h9 : Bs.length ≤ 9) : ∃ R : Ch, IsBest L Bs Tk W R ∧ Ev (fun k => diapasonref27_Make.f k L Bs Tk W) (R.1, R.2.1, R.2.2, (lv L Bs Tk W R.2.1 Bs.length []).map mk, 0) := by
  obtain ⟨R, hR, eR⟩ := ref_best h h9
  refine ⟨R, hR, ?_⟩
  unfold diapasonref27_Make.f
  exact bnd eR (pos rfl (bnd (ref_leaves h (low_of hR) Bs.length [] (by simp) rfl) (ret rfl)))
end
end Go.Proofs.YtfcidgnbocijdaaDoor.CtMCertMakes
