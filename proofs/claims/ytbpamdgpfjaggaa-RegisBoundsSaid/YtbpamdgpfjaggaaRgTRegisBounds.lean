/- Wants of small numbers and lists of stops off a number's bits, as the outright statements of chapter 26 make them. For the statement RegisBounds. -/
import Derived.Test.YtbpamdgpfjaggaaRgU
import Derived.Test.YtbpamdgpfjaggaaRgWRegisBounds
set_option linter.unusedVariables false
set_option linter.unusedSimpArgs false
namespace Go.Proofs.Ytbpamdgpfjaggaa.RgTRegisBounds
open Go.RowKit Go.Proofs.YtbpamdgpfjaggaaW.PrintWords Go.Proofs.Ytbpamdgpfjaggaa.Pl Go.Proofs.Ytbpamdgpfjaggaa.Rg Go.Proofs.Ytbpamdgpfjaggaa.RgWRegisBounds Go.Proofs.Ytbpamdgpfjaggaa.PRegisBounds

theorem bit64 : ∀ s : Fin 512, ∀ i : Fin 9, (Go.bits .and .i64 (shr .i64 ((s.val : Nat) : Int) ((i.val : Nat) : Int)) 1 = 1) ↔ s.val.testBit i.val = true := by decide +kernel
theorem bit_and {s i : Nat} (hs : s < 512) (hi : i < 9) : (Go.bits .and .i64 (shr .i64 (s : Int) (i : Int)) 1 = 1) ↔ s.testBit i = true := bit64 ⟨s, hs⟩ ⟨i, hi⟩
theorem stops_loop (n s : Nat) (hn : n ≤ 9) (hs : s < 512) : ∀ (d i : Nat), n - i = d → i ≤ n → Ev (fun k => diapasonlaw26_stops.l0 k (n : Int) (s : Int) (bitsL i s) (i : Int)) (bitsL n s) := by
  intro d
  induction d with
  | zero =>
    intro i hd hi
    refine succ ?_
    simp only [diapasonlaw26_stops.l0]
    exact neg (by omega) (ret (by rw [show i = n by omega]))
  | succ d ih =>
    intro i hd hi
    refine succ ?_
    simp only [diapasonlaw26_stops.l0]
    have hn' := ih (i + 1) (by omega) (by omega)
    rw [bitsL, ← wrapS (by omega)] at hn'
    have hl : (bitsL i s).length ≤ i := by have := (set_draws s i).len; rwa [setL_len] at this
    refine pos (by omega) (pos (by omega) (alt (fun h => ?_) (fun h => ?_)))
    · rw [if_pos ((bit_and hs (by omega)).1 h)] at hn'
      exact pos (by omega) hn'
    · rw [if_neg (fun c => h ((bit_and hs (by omega)).2 c))] at hn'
      exact hn'
theorem stops {n s : Nat} (hn : n ≤ 9) (hs : s < 512) : Ev (fun k => diapasonlaw26_stops.f k (n : Int) (s : Int)) (bitsL n s) := stops_loop n s hn hs _ 0 rfl (by omega)
theorem small {x : Int} (h : (Lit.int .u8 x).wf = true) : wrap64 x = x ∧ 0 ≤ x ∧ x ≤ 1048576 := by
  have := wfu8 h
  exact ⟨wrapI (by omega) (by omega), by omega, by omega⟩
def Ok8 (x : S65) : Prop := (Lit.int .u8 x.f0).wf = true ∧ (Lit.int .u8 x.f1).wf = true ∧ (Lit.int .u8 x.f2).wf = true ∧ (Lit.int .u8 x.f3).wf = true
theorem ok_at {l : List S65} (h : ∀ x ∈ l, Ok8 x) {i : Nat} (hi : i < l.length) : Ok8 (rd_T65 l (i : Int)) := by
  unfold rd_T65
  rw [Int.toNat_natCast, List.getD_eq_getElem?_getD, List.getElem?_eq_getElem hi]
  exact h _ (List.getElem_mem hi)
theorem of_loop (l : List S65) (hl : ∀ x ∈ l, Ok8 x) (hll : l.length < 9223372036854775807) (L : List Int) (W : Int) (hL : L.length = 3) (hok : ∀ x ∈ L, 0 ≤ x ∧ x ≤ 1048576) (hW : 0 ≤ W ∧ W ≤ 1048576) : ∀ (d i : Nat) (Bs : List (List Int)) (Tk : List Int), 8 - i = d → i ≤ 8 → Bs.length = i → Tk.length = i →
    (∀ x ∈ Tk, 0 ≤ x ∧ x ≤ 1048576) → (∀ r ∈ Bs, r.length = L.length ∧ ∀ x ∈ r, 0 ≤ x ∧ x ≤ 1048576) →
    ∃ Bs' Tk', Ev (fun k => diapasonlaw26_of.l0 k l (i : Int) L Bs Tk W) (L, Bs', Tk', W) ∧ May L Bs' Tk' W ∧ Bs'.length ≤ 8 := by
  intro d
  induction d with
  | zero =>
    intro i Bs Tk hd hi hb ht hT hB
    refine ⟨Bs, Tk, succ ?_, ⟨by omega, by omega, by omega, by omega, hW, hok, hT, hB⟩, by omega⟩
    simp only [diapasonlaw26_of.l0]
    refine alt (fun h => neg (by omega) (ret rfl)) (fun h => ret rfl)
  | succ d ih =>
    intro i Bs Tk hd hi hb ht hT hB
    by_cases h : i < l.length
    · have ⟨o1, o2, o3, o4⟩ := ok_at hl h
      have s1 := small o1
      have s2 := small o2
      have s3 := small o3
      have s4 := small o4
      obtain ⟨Bs', Tk', h1, h2, h3⟩ := ih (i + 1) (Bs ++ [[wrap64 (rd_T65 l i).f0, wrap64 (rd_T65 l i).f1, wrap64 (rd_T65 l i).f2]]) (Tk ++ [wrap64 (rd_T65 l i).f3]) (by omega) (by omega) (by simp; omega) (by simp; omega) (fun x hx => by
        rcases List.mem_append.1 hx with hx | hx
        · exact hT x hx
        · rw [List.mem_singleton.1 hx, s4.1]; exact s4.2) (fun r hr => by
        rcases List.mem_append.1 hr with hr | hr
        · exact hB r hr
        · rw [List.mem_singleton.1 hr, s1.1, s2.1, s3.1, hL]
          refine ⟨rfl, fun x hx => ?_⟩
          simp only [List.mem_cons, List.not_mem_nil, or_false] at hx
          rcases hx with rfl | rfl | rfl
          · exact s1.2
          · exact s2.2
          · exact s3.2)
      refine ⟨Bs', Tk', succ ?_, h2, h3⟩
      simp only [diapasonlaw26_of.l0]
      rw [wrapS (by omega)]
      exact pos (by omega) (pos (by omega) (pos (by omega) (pos (by omega) (pos (by omega) h1))))
    · refine ⟨Bs, Tk, succ ?_, ⟨by omega, by omega, by omega, by omega, hW, hok, hT, hB⟩, by omega⟩
      simp only [diapasonlaw26_of.l0]
      exact neg (by omega) (ret rfl)
theorem of_want (l : List S65) (hl : ∀ x ∈ l, Ok8 x) (hll : l.length < 9223372036854775807) {a b c w : Int} (ha : (Lit.int .u8 a).wf = true) (hb : (Lit.int .u8 b).wf = true) (hc : (Lit.int .u8 c).wf = true) (hw : (Lit.int .u8 w).wf = true) :
    ∃ L Bs Tk, Ev (fun k => diapasonlaw26_of.f k l a b c w) (L, Bs, Tk, w) ∧ May L Bs Tk w ∧ Bs.length ≤ 8 := by
  have s1 := small ha
  have s2 := small hb
  have s3 := small hc
  have s4 := small hw
  obtain ⟨Bs, Tk, h1, h2, h3⟩ := of_loop l hl hll [a, b, c] w rfl (fun x hx => by
    simp only [List.mem_cons, List.not_mem_nil, or_false] at hx
    rcases hx with rfl | rfl | rfl
    · exact s1.2
    · exact s2.2
    · exact s3.2) s4.2 8 0 [] [] rfl (by omega) rfl rfl (fun x hx => by cases hx) (fun x hx => by cases hx)
  refine ⟨[a, b, c], Bs, Tk, ?_, h2, h3⟩
  unfold diapasonlaw26_of.f
  rw [s1.1, s2.1, s3.1, s4.1]
  exact h1
theorem told_rises {L : List Int} {Bs : List (List Int)} {Tk : List Int} {W : Int} (h : May L Bs Tk W) {T : List Int} (hT : rises Bs.length T = true) : Ev (fun k => regis_Misses.f k L Bs Tk W T) (miss L Bs T, wnd Tk T, 0) := by
  have h1 := h.l16
  have h2 := h.b16
  have h3 := h.tb
  have h4 := rises_len hT
  have := misses L Bs Tk W T (by omega) (by omega) (by omega) (fun r hr => by have := (h.bs r hr).1; omega) (by omega)
  rw [told, if_pos ⟨may_iff.2 h, hT⟩] at this
  exact this
end Go.Proofs.Ytbpamdgpfjaggaa.RgTRegisBounds
