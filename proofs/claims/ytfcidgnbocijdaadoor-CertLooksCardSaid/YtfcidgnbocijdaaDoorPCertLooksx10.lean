-- Written by a program of this session (the kit's print, turned: wip/px).
import Derived.Test.YtfcidgnbocijdaaDoorPCertLooksx0
import Derived.Test.YtfcidgnbocijdaaDoorPCertMakesx0
import Derived.Test.YtfcidgnbocijdaaDoorPCertMakesx1
import Derived.Test.YtfcidgnbocijdaaDoorPCertMakesx2
import Derived.Test.YtfcidgnbocijdaaDoorPCertMakesx3
import Derived.Test.YtfcidgnbocijdaaDoorPCertMakesx4
import Derived.Test.YtfcidgnbocijdaaDoorPCertMakesx5
import Derived.Test.YtfcidgnbocijdaaDoorPCertMakesx6
import Derived.Test.YtfcidgnbocijdaaDoorPCertMakesx7
import Derived.Test.YtfcidgnbocijdaaDoorPCertMakesx8
import Derived.Test.YtfcidgnbocijdaaDoorPCertMakesx9
import Derived.Test.YtfcidgnbocijdaaDoorPCertMakesx12
import Derived.Test.YtfcidgnbocijdaaDoorPCertMakesx13
import Derived.Test.YtfcidgnbocijdaaDoorPCertLooksx1
import Derived.Test.YtfcidgnbocijdaaDoorPCertLooksx8
import Derived.Test.YtfcidgnbocijdaaDoorPCertLooksx9
import Derived.Test.YtfcidgnbocijdaaDoorSq2
namespace Go.Proofs.YtfcidgnbocijdaaDoor.PCertLooks
open Go.Proofs.YtfcidgnbocijdaaDoor.PCertMakes
open Go.Proofs.YtfcidgnbocijdaaDoor.Sq
open Go.RowKit Go.Proofs.YtfcidgnbocijdaaDoorW.PrintWords Go.Proofs.YtfcidgnbocijdaaDoorW.PrintLast Go.Proofs.YtfcidgnbocijdaaDoorW.PrintMore
attribute [local go_sem] max2_int min2_int max_two min_two max_three min_three max_four min_four   -- for this text's walks alone
set_option linter.unusedVariables false
set_option linter.unusedSimpArgs false

/-! ### cert_begins: function 54 -/
def cert_begins.ok (l : List Int) : Bool := l.all fun x => decide (0 ≤ x) && decide (x < 256)
def cert_begins.f (S T : List Int) : Option Bool := if cert_begins.ok S = true ∧ cert_begins.ok T = true then some (T.isPrefixOf S && (S.drop T.length).all (fun x => decide (x = 1))) else none
theorem cert_begins.inj {x y : Int} (h0 : 0 ≤ x) (h1 : x < 256) (k0 : 0 ≤ y) (k1 : y < 256) : (UInt8.ofNat x.toNat == UInt8.ofNat y.toNat) = (x == y) := by
  rw [Bool.eq_iff_iff, beq_iff_eq, beq_iff_eq]
  constructor
  · intro h
    have := congrArg UInt8.toNat h
    rw [UInt8.toNat_ofNat', UInt8.toNat_ofNat', Nat.mod_eq_of_lt (by omega), Nat.mod_eq_of_lt (by omega)] at this
    omega
  · rintro rfl; rfl
theorem cert_begins.ok_cons {x : Int} {l : List Int} : cert_begins.ok (x :: l) = true ↔ (0 ≤ x ∧ x < 256) ∧ cert_begins.ok l = true := by
  simp [cert_begins.ok]
theorem cert_begins.prefix_ : ∀ (S T : List Int), cert_begins.ok S = true → cert_begins.ok T = true → Lib.hasPrefix (Lib.bytesOf S) (Lib.bytesOf T) = T.isPrefixOf S
  | _, [], _, _ => by simp [Lib.hasPrefix, Lib.bytesOf]
  | [], _ :: _, _, _ => by simp [Lib.hasPrefix, Lib.bytesOf, List.isPrefixOf]
  | x :: S, y :: T, hS, hT => by
    obtain ⟨⟨a0, a1⟩, hS⟩ := cert_begins.ok_cons.1 hS
    obtain ⟨⟨b0, b1⟩, hT⟩ := cert_begins.ok_cons.1 hT
    have ih := cert_begins.prefix_ S T hS hT
    simp only [Lib.hasPrefix, Lib.bytesOf, List.map_cons, List.isPrefixOf] at ih ⊢
    rw [ih, cert_begins.inj b0 b1 a0 a1]
def cert_begins.tl (l : List Int) : List Int := l.dropWhile (fun x => decide (x = 1))
def cert_begins.tr (l : List Int) : List Int := (l.reverse.dropWhile (fun x => decide (x = 1))).reverse
theorem cert_begins.dw : ∀ (l : List Int), cert_begins.tl l = [] ↔ l.all (fun x => decide (x = 1)) = true
  | [] => by simp [cert_begins.tl]
  | x :: l => by
    have ih := cert_begins.dw l
    unfold cert_begins.tl at ih ⊢
    rw [List.dropWhile_cons]
    by_cases h : x = 1
    · simpa [h] using ih
    · simp [h]
theorem cert_begins.tr_snoc (l : List Int) (x : Int) : cert_begins.tr (l ++ [x]) = if x = 1 then cert_begins.tr l else l ++ [x] := by
  unfold cert_begins.tr
  rw [List.reverse_append, List.reverse_singleton, List.singleton_append, List.dropWhile_cons]
  by_cases h : x = 1 <;> simp [h]
theorem cert_begins.tr_all (l : List Int) : l.all (fun x => decide (x = 1)) = (cert_begins.tr l).all (fun x => decide (x = 1)) := by
  rcases List.eq_nil_or_concat l with h | ⟨t, x, h⟩
  · subst h; rfl
  · rw [List.concat_eq_append] at h
    have ht := cert_begins.tr_all t
    subst h
    rw [cert_begins.tr_snoc]
    by_cases hx : x = 1
    · rw [if_pos hx, ← ht]; simp [hx]
    · rw [if_neg hx]
termination_by l.length
decreasing_by simp_all
theorem cert_begins.trim_ (l : List Int) : (cert_begins.tl (cert_begins.tr l)).length = 0 ↔ l.all (fun x => decide (x = 1)) = true := by
  rw [List.length_eq_zero_iff, cert_begins.dw, ← cert_begins.tr_all]
theorem cert_begins.cell {w : World} {A : Option Addr} {l : List Int} {x : Int} (hC : Kd.C (Kd.int .u8) w A l.length l) (i : Nat) (h : l[i]? = some x) : ∃ ad, A = some ad ∧ w.cell? (ad.add i) = some (.int .u8 x) := by
  have hi : i < l.length := (List.getElem?_eq_some_iff.1 h).1
  have hR := Kd.reads_of_C (enc := Value.int .u8) (d := (0 : Int)) (h1 := fun _ => rfl) hC
  obtain ⟨ad, rfl, hc⟩ := hR.2.2 (by omega)
  refine ⟨ad, rfl, ?_⟩
  rw [hc i hi, List.getD_eq_getElem?_getD, h]
  rfl
set_option maxHeartbeats 4000000 in
set_option maxRecDepth 100000 in
theorem cert_begins.trimL (A : Option Addr) (c : Nat) (l : List Int) (w : World) (hC : Kd.C (Kd.int .u8) w A l.length l) (hc : l.length ≤ c) :
    Calls Tryd.prog 96 #[.slice A l.length c, .int .u8 1] w fun e w' => (∃ q c', e = .returned (.slice q (cert_begins.tl l).length c')) ∧ w' = w := by
  have HC := Aside0.mk hC
  clear hC
  go_enter Tryd.func96, Tryd.ntmps96
  go_wp2
  go_loopg [0] l.length (fun kx s0 wr => ∃ (A' : Option Addr) (c' : Nat) (l' : List Int), s0 = .slice A' l'.length c' ∧ Aside0 (l'.length ≤ kx) ∧ wr = w ∧ Aside0 (Kd.C (Kd.int .u8) w A' l'.length l') ∧ l'.length ≤ c' ∧ Aside0 (cert_begins.tl l' = cert_begins.tl l))
  case atStart => exact ⟨A, c, l, rfl, ⟨Nat.le_refl _⟩, rfl, HC, hc, ⟨rfl⟩⟩
  case round =>
    obtain ⟨A', c', l', rfl, HK, rfl, HC', hc', HT⟩ := hrel
    clear HC hc
    cases l' with
    | nil =>
      rw [List.length_nil] at hc' ⊢
      go_wp2
      go_ret
      refine ⟨⟨none, 0, ?_⟩, rfl⟩
      rw [← HT.out]; rfl
    | cons x t =>
      obtain ⟨ad, rfl, hx⟩ := cert_begins.cell HC'.out 0 rfl
      rw [Addr.add_zero'] at hx
      rw [List.length_cons] at hc' ⊢
      obtain ⟨c1, rfl⟩ : ∃ c1, c' = c1 + 1 := ⟨c' - 1, by omega⟩
      have hl1 : t.length ≤ c1 := by omega
      have hp : decide ((0 : Int) < ((t.length + 1 : Nat) : Int)) = true := by simp
      by_cases h1 : x = 1
      · subst h1
        have hd := Kd.C_drop HC'.out (m := 1) (c := c1 + 1) (by simp) (by simp; omega)
        have he : cert_begins.tl (1 :: t) = cert_begins.tl t := by simp [cert_begins.tl]
        rw [he] at HT
        cases gk with
        | zero => exact absurd HK.out (by simp)
        | succ gk =>
        replace HK : Aside0 (t.length ≤ gk) := ⟨by have := HK.out; simp at this; omega⟩
        by_cases hc1 : c1 = 0
        · subst hc1
          obtain rfl : t = [] := List.eq_nil_of_length_eq_zero (by omega)
          clear HC' hl1 he
          have HD := Aside0.mk hd
          clear hd
          go_wp2
          go_roundg gk
          case measure => omega
          case rel => exact ⟨some ad, 0, [], rfl, HK, rfl, ⟨by simpa using HD.out⟩, Nat.le_refl _, HT⟩
        · rw [if_neg (by omega)] at hd
          have hne : ((c1 : Int) == 0) = false := by simpa using hc1
          have hd' : Kd.C (Kd.int .u8) wr (some (ad.add 1)) t.length t := hd
          have HD := Aside0.mk hd'
          clear hd hd' HC' he
          go_wp2
          go_roundg gk
          case measure => omega
          case rel => exact ⟨some (ad.add 1), c1, t, by first | rfl | (simp; done), HK, rfl, HD, hl1, HT⟩
      · have h1b : (x == 1) = false := by simpa using h1
        have he : cert_begins.tl (x :: t) = x :: t := by simp [cert_begins.tl, h1]
        rw [he] at HT
        have hlen : (cert_begins.tl l).length = t.length + 1 := by rw [← HT.out]; rfl
        have HL := Aside0.mk hlen
        clear hlen he HT
        go_wp2
        go_ret
        exact ⟨⟨some ad, c1 + 1, by rw [HL.out]; rfl⟩, rfl⟩
set_option maxHeartbeats 4000000 in
set_option maxRecDepth 100000 in
theorem cert_begins.trimR (A : Option Addr) (c : Nat) (l : List Int) (w : World) (hC : Kd.C (Kd.int .u8) w A l.length l) (hc : l.length ≤ c) :
    Calls Tryd.prog 97 #[.slice A l.length c, .int .u8 1] w fun e w' => (∃ q c', e = .returned (.slice q (cert_begins.tr l).length c') ∧ Kd.C (Kd.int .u8) w q (cert_begins.tr l).length (cert_begins.tr l) ∧ (cert_begins.tr l).length ≤ c') ∧ w' = w := by
  have HM := Aside0.mk (Kd.C_max hC)
  have HC := Aside0.mk hC
  clear hC
  go_enter Tryd.func97, Tryd.ntmps97
  go_wp2
  go_loopg [0] l.length (fun kx s0 wr => ∃ (l' : List Int), s0 = .slice A l'.length c ∧ Aside0 (l'.length ≤ kx) ∧ wr = w ∧ Aside0 (Kd.C (Kd.int .u8) w A l'.length l') ∧ l'.length ≤ c ∧ Aside0 (cert_begins.tr l' = cert_begins.tr l))
  case atStart => exact ⟨l, rfl, ⟨Nat.le_refl _⟩, rfl, HC, hc, ⟨rfl⟩⟩
  case round =>
    obtain ⟨l', rfl, HK, rfl, HC', hc', HT⟩ := hrel
    clear HC hc HM
    rcases List.eq_nil_or_concat l' with h | ⟨t, x, h⟩
    · subst h
      rw [List.length_nil] at hc' ⊢
      go_wp2
      go_ret
      exact ⟨⟨A, c, by rw [← HT.out]; rfl, by rw [← HT.out]; exact HC'.out, by rw [← HT.out]; exact Nat.zero_le _⟩, rfl⟩
    · rw [List.concat_eq_append] at h
      subst h
      obtain ⟨ad, rfl, hx⟩ := cert_begins.cell HC'.out t.length (x := x) (by simp)
      have hm := Kd.C_max HC'.out
      have hlen : (t ++ [x]).length = t.length + 1 := by simp
      rw [hlen] at hc' hm ⊢
      have hw : wrap64 (((t.length + 1 : Nat) : Int) - 1) = t.length := by rw [show ((t.length + 1 : Nat) : Int) - 1 = (t.length : Int) by omega]; unfold wrap64; omega
      have hw2 : IntKind.i64.wrap (((t.length + 1 : Nat) : Int) - 1) = t.length := (i64_w _).trans hw
      have hp : decide ((0 : Int) < ((t.length + 1 : Nat) : Int)) = true := by simp
      have hT := cert_begins.tr_snoc t x
      have hd := Kd.C_take HC'.out (m := t.length) (by simp)
      rw [List.take_append_of_le_length (Nat.le_refl _), List.take_length] at hd
      have hC2 : Kd.C (Kd.int .u8) wr (some ad) (t.length + 1) (t ++ [x]) := hlen ▸ HC'.out
      have HC2 := Aside0.mk hC2
      have HD := Aside0.mk hd
      have hb : decide ((t.length : Int) < ((t.length + 1 : Nat) : Int)) = true := by simp; omega
      clear hd hC2 HC'
      by_cases h1 : x = 1
      · subst h1
        rw [if_pos rfl] at hT
        rw [hT] at HT
        cases gk with
        | zero => exact absurd HK.out (by simp)
        | succ gk =>
        replace HK : Aside0 (t.length ≤ gk) := ⟨by have := HK.out; simp at this; omega⟩
        clear hT
        have hlc : t.length ≤ c := by omega
        go_wp2
        go_roundg gk
        case measure => omega
        case rel => exact ⟨t, by first | rfl | (simp; done), HK, rfl, HD, hlc, HT⟩
      · have h1b : (x == 1) = false := by simpa using h1
        rw [if_neg h1] at hT
        rw [hT] at HT
        clear hT
        go_wp2
        go_ret
        exact ⟨⟨some ad, c, by rw [← HT.out, hlen]; rfl, by rw [← HT.out, hlen]; exact HC2.out, by rw [← HT.out, hlen]; omega⟩, rfl⟩
set_option maxHeartbeats 4000000 in
set_option maxRecDepth 100000 in
theorem cert_begins.trim (A : Option Addr) (c : Nat) (l : List Int) (w : World) (hC : Kd.C (Kd.int .u8) w A l.length l) (hc : l.length ≤ c) :
    Calls Tryd.prog 78 #[.slice A l.length c, .string ⟨#[1]⟩] w fun e w' => (∃ q c', e = .returned (.slice q (cert_begins.tl (cert_begins.tr l)).length c')) ∧ Drawn0 w w' := by
  cases l with
  | nil =>
    rw [List.length_nil] at hC hc ⊢
    clear hC
    go_enter Tryd.func78, Tryd.ntmps78
    go_wp2
    go_ret
    exact ⟨⟨none, 0, rfl⟩, Drawn0.refl _⟩
  | cons x t =>
    obtain ⟨l, el⟩ : ∃ l, l = x :: t := ⟨_, rfl⟩
    have hl : 0 < l.length := by rw [el]; simp
    rw [← el] at hC hc ⊢
    clear el
    have hR := Aside0.mk (And.intro hC hc)
    clear hC hc
    have hz : ((l.length : Int) == 0) = false := by simp; intro h; rw [h] at hl; simp at hl
    have hg0 : ((⟨#[1]⟩ : ByteArray)[0]'Nat.zero_lt_one) = (1 : UInt8) := rfl
    have hg1 : (((1 : UInt8).toNat : Nat) : Int) = 1 := rfl
    have hR1 := cert_begins.trimR A c l w.drew (Kd.C_drew hR.out.1) hR.out.2
    have HR1 := Aside0.mk hR1
    clear hR1 hR
    go_enter Tryd.func78, Tryd.ntmps78
    go_wp2_with fail
    go_region_with (first
      | (go_at_call 97
         refine HR1.out.mono ?_
         rintro e w' ⟨⟨q, c', rfl, hC, hc⟩, rfl⟩)
      | (go_at_call 96
         refine (cert_begins.trimL _ _ (cert_begins.tr l) _ hC hc).mono ?_
         rintro e w' ⟨⟨q', c'', rfl⟩, rfl⟩))
    all_goals (go_wp2; go_ret)
    all_goals exact ⟨⟨q', c'', rfl⟩, by repeat (first | exact Drawn0.refl _ | apply Drawn0.step)⟩
set_option maxHeartbeats 4000000 in
set_option maxRecDepth 100000 in
theorem cert_begins.calls (A0 : Option Addr) (c0 : Nat) (l0 : List Int) (A1 : Option Addr) (c1 : Nat) (l1 : List Int) (r : Bool) (w : World) (hr0 : Kd.C (Kd.int .u8) w A0 l0.length l0) (hc0 : l0.length ≤ c0) (hr1 : Kd.C (Kd.int .u8) w A1 l1.length l1) (hc1 : l1.length ≤ c1) (h : cert_begins.f l0 l1 = some r) :
    Calls Tryd.prog 54 #[.slice A0 l0.length c0, .slice A1 l1.length c1] w fun e w' => e = .returned (.bool r) ∧ Drawn0 w w' := by
  unfold cert_begins.f at h
  split at h
  case isFalse => cases h
  case isTrue hok =>
  obtain ⟨k0, k1⟩ := hok
  injection h with h
  have hin : ∀ {A : Option Addr} {l : List Int}, Kd.C (Kd.int .u8) w A l.length l → Lib.BytesIn w A l.length l := by
    intro A l hC
    have hR := Kd.reads_of_C (enc := Value.int .u8) (d := (0 : Int)) (h1 := fun _ => rfl) hC
    intro hn
    obtain ⟨ad, rfl, hc⟩ := hR.2.2 hn
    exact Lib.BytesIn.of_cells hc hn
  have hP := Tryd.bytes_HasPrefix_all A0 A1 l0.length c0 l1.length c1 l0 l1 w rfl rfl hc0 (hin hr0) (hin hr1)
  rw [cert_begins.prefix_ l0 l1 k0 k1] at hP
  clear hin k0 k1
  generalize hpre : l1.isPrefixOf l0 = b at *
  cases b with
  | false =>
    simp only [Bool.false_and] at h
    subst h
    go_enter Tryd.func54, Tryd.ntmps54
    go_wp2_with (go_at_call 77; (with_reducible refine hP.mono ?_); rintro e w' ⟨rfl, rfl⟩)
    go_ret
    exact ⟨rfl, Drawn0.refl _⟩
  | true =>
    simp only [Bool.true_and] at h
    have hpl : l1.length ≤ l0.length := (List.isPrefixOf_iff_prefix.1 hpre).length_le
    have hC := Kd.C_drop hr0 (c := c0) hpl hc0
    have hlen : (l0.drop l1.length).length = l0.length - l1.length := List.length_drop
    have ht := cert_begins.trim_ (l0.drop l1.length)
    have hT := cert_begins.trim (if c0 = l1.length then A0 else A0.map (·.add (l1.length * (Kd.int .u8).sz))) (c0 - l1.length) (l0.drop l1.length) w hC (by rw [hlen]; omega)
    generalize (cert_begins.tl (cert_begins.tr (l0.drop l1.length))).length = m at *
    have hq : ((m : Int) == 0) = r := by
      rw [← h, Bool.eq_iff_iff, beq_iff_eq, ← ht]; omega
    rw [hlen] at hT
    clear hC hlen ht h hr0 hr1 hpre
    by_cases hz : c0 = l1.length
    · rw [if_pos hz] at hT
      have hz2 : l0.length = l1.length := by omega
      rw [hz, hz2, Nat.sub_self] at hT
      rw [hz, hz2] at hP ⊢
      have HT := Aside0.mk hT
      clear hT hz hz2 hpl hc0
      go_enter Tryd.func54, Tryd.ntmps54
      go_wp2_with (first
        | (go_at_call 77; (with_reducible refine hP.mono ?_); rintro e w' ⟨rfl, rfl⟩)
        | (go_at_call 78; refine HT.out.mono ?_; rintro e w' ⟨⟨q, c', rfl⟩, ⟨nd, rfl⟩⟩))
      go_ret
      exact ⟨by first | rfl | simp, ⟨nd, rfl⟩⟩
    · rw [if_neg hz] at hT
      have HT : Aside0 (Calls Tryd.prog 78 #[.slice (A0.map (fun x => x.add l1.length)) (l0.length - l1.length) (c0 - l1.length), .string ⟨#[1]⟩] w fun e w' => (∃ q c', e = .returned (.slice q m c')) ∧ Drawn0 w w') := ⟨by simpa only [show (Kd.int .u8).sz = 1 from rfl, Nat.mul_one] using hT⟩
      clear hT
      go_enter Tryd.func54, Tryd.ntmps54
      go_wp2_with (first
        | (go_at_call 77; (with_reducible refine hP.mono ?_); rintro e w' ⟨rfl, rfl⟩)
        | (go_at_call 78; refine HT.out.mono ?_; rintro e w' ⟨⟨q, c', rfl⟩, ⟨nd, rfl⟩⟩))
      go_ret
      exact ⟨by first | rfl | simp, ⟨nd, rfl⟩⟩


/-! ### bytealg_LastIndexByte: function 103 -/
def bytealg_LastIndexByte.l0 : Nat → List Int → Int → Int → Option (Int)
 | 0, _, _, _ => none
 | k + 1, x0, x1, x5 => if x5 ≥ 0 then (if 0 ≤ x5 then (if x5 < (x0.length : Int) then (if (rd x0 x5) = x1 then (some x5) else (bytealg_LastIndexByte.l0 k x0 x1 (wrap64 (x5 - 1)))) else (none)) else (none)) else (some (-1))
def bytealg_LastIndexByte.f (k : Nat) (l0 : List Int) (a1 : Int) : Option (Int) := bytealg_LastIndexByte.l0 k l0 a1 (wrap64 ((l0.length : Int) - 1))
theorem bytealg_LastIndexByte.mono_l : ∀ k, (∀ y0 y1 y2, LeO (bytealg_LastIndexByte.l0 k y0 y1 y2) (bytealg_LastIndexByte.l0 (k + 1) y0 y1 y2))
 | 0 => fun _ _ _ r h => by simp [bytealg_LastIndexByte.l0] at h
 | k + 1 => by
  have ih0:=bytealg_LastIndexByte.mono_l k
  ·intro y0 y1 y2
   unfold bytealg_LastIndexByte.l0
   repeat' first
   | (with_reducible exact ih0 _ _ _)
   | (with_reducible exact LeO.refl _)
   | (with_reducible exact LeO.none _)
   | (with_reducible refine LeO.ite ?_ ?_)
   | (with_reducible refine LeO.bind ?_ (fun _ => ?_))
   | exact ih0 _ _ _
   | exact LeO.none _
   | refine LeO.ite ?_ ?_
   | refine LeO.bind ?_ (fun _ => ?_)
theorem bytealg_LastIndexByte.mono : ∀ a0 a1 k, LeO (bytealg_LastIndexByte.f k a0 a1) (bytealg_LastIndexByte.f (k + 1) a0 a1) := by
 intro a0 a1 k;have ih0:=bytealg_LastIndexByte.mono_l k
 unfold bytealg_LastIndexByte.f
 repeat' first
   | (with_reducible exact ih0 _ _ _)
   | (with_reducible exact LeO.refl _)
   | (with_reducible exact LeO.none _)
   | (with_reducible refine LeO.ite ?_ ?_)
   | (with_reducible refine LeO.bind ?_ (fun _ => ?_))
   | exact ih0 _ _ _
   | exact LeO.none _
   | refine LeO.ite ?_ ?_
   | refine LeO.bind ?_ (fun _ => ?_)
set_option maxHeartbeats 8000000 in
set_option maxRecDepth 100000 in
theorem bytealg_LastIndexByte.calls (k : Nat) (A0 : Option Addr) (c0 : Nat) (l0 : List Int) (a1 : Int) (r : Int) (w : World) (hr0 : Kd.C (Kd.int .u8) w A0 l0.length l0) (hc0 : l0.length ≤ c0) (h : bytealg_LastIndexByte.f k l0 a1 = some r) :
  Calls Tryd.prog 103 #[.slice A0 l0.length c0, .int .u8 a1] w fun e w' => e = .returned (.int .i64 r) ∧ Drawn0 w w':=by
 have HR0:=am_ hr0;have HC0:=am_ hc0;clear hr0 hc0;have H : (bytealg_LastIndexByte.l0 k l0 a1 (wrap64 ((l0.length : Int) - 1))) = some r:=h;clear h;have H':=am_ H;clear H;go_enter Tryd.func103, Tryd.ntmps103
 go_wp2
 go_loopg [5] k (fun kq v5 w' => ∃ (x5_1 : Int), v5 = .int .i64 x5_1 ∧ Aside0 (bytealg_LastIndexByte.l0 kq l0 a1 x5_1 = some r) ∧ Aside0 (kq ≤ k) ∧ Drawn0 w w')
 case atStart => exact ⟨(wrap64 ((l0.length : Int) - 1)), (by first | rfl | (simp;done) | (simp [*];done)), H', ⟨Nat.le_refl _⟩, by repeat (first | exact Drawn0.refl _ | apply Drawn0.step)⟩
 case round =>
  clear H';(try clear c1);(try clear p2);obtain ⟨x5_1, rfl, HA, HK1, ⟨m1, rfl⟩⟩:=hrel
  cases gk with
  | zero => exact absurd HA.out (by simp [bytealg_LastIndexByte.l0])
  | succ k1 =>
   have H:=HA.out;clear HA;simp only [bytealg_LastIndexByte.l0] at H
   by_cases c3 : x5_1 ≥ 0
   ·rw [if_pos c3] at H;have c3b0 : decide (0 ≤ x5_1) = true:=decide_eq_true c3;clear c3
    by_cases c4 : 0 ≤ x5_1
    ·rw [if_pos c4] at H;have c4b0 : decide (0 ≤ x5_1) = true:=decide_eq_true c4;clear c4
     by_cases c5 : x5_1 < (l0.length : Int)
     ·rw [if_pos c5] at H;have c5b0 : decide (x5_1 < (l0.length : Int)) = true:=decide_eq_true c5;clear c5
      by_cases c6 : (rd l0 x5_1) = a1
      ·rw [if_pos c6] at H;have c6b0 : ((rd l0 x5_1) == a1) = true:=beq_iff_eq.mpr c6;have c6b1 : ((rd l0 x5_1) != a1) = false:=bne_eq_false_iff_eq.mpr c6;clear c6;obtain rfl:=Option.some.inj H;have p201 : 0 ≤ (x5_1 : Int):=of_decide_eq_true (by first | (with_reducible assumption) | assumption);have q201 : x5_1 < (l0.length : Int):=of_decide_eq_true (by first | (with_reducible assumption) | assumption);obtain ⟨ad201, e201, hx201_0⟩:=Kd.at_int HR0.out x5_1 p201 q201
       cases e201
       replace p201:=eq_true p201;replace q201:=eq_true q201
       go_wp2
       go_ret
       exact ⟨by first | rfl | (simp;done) | (simp [*];done), by repeat (first | exact Drawn0.refl _ | apply Drawn0.step)⟩
      ·rw [if_neg c6] at H;have c6b0 : ((rd l0 x5_1) == a1) = false:=beq_eq_false_iff_ne.mpr c6;have c6b1 : ((rd l0 x5_1) != a1) = true:=bne_iff_ne.mpr c6;have H':=am_ H;clear H;have p201 : 0 ≤ (x5_1 : Int):=of_decide_eq_true (by first | (with_reducible assumption) | assumption);have q201 : x5_1 < (l0.length : Int):=of_decide_eq_true (by first | (with_reducible assumption) | assumption);obtain ⟨ad201, e201, hx201_0⟩:=Kd.at_int HR0.out x5_1 p201 q201
       cases e201
       replace p201:=eq_true p201;replace q201:=eq_true q201
       go_wp2
       go_roundg k1
       case measure => have:=HK1.out;omega
       case rel => exact ⟨(wrap64 (x5_1 - 1)), (by first | rfl | (simp;done) | (simp [*];done)), H', ⟨by have:=HK1.out;omega⟩, by repeat (first | exact Drawn0.refl _ | apply Drawn0.step)⟩
     ·rw [if_neg c5] at H;exact absurd H (by simp)
    ·rw [if_neg c4] at H;exact absurd H (by simp)
   ·rw [if_neg c3] at H;have c3b0 : decide (0 ≤ x5_1) = false:=decide_eq_false c3;clear c3;obtain rfl:=Option.some.inj H
    go_wp2
    go_ret
    exact ⟨by first | rfl | (simp;done) | (simp [*];done), by repeat (first | exact Drawn0.refl _ | apply Drawn0.step)⟩

/-! ### bytes_LastIndexByte: function 79 -/
def bytes_LastIndexByte.f (k : Nat) (l0 : List Int) (a1 : Int) : Option (Int) := (bytealg_LastIndexByte.f k l0 a1).bind fun t202 => (some t202)
theorem bytes_LastIndexByte.mono : ∀ a0 a1 k, LeO (bytes_LastIndexByte.f k a0 a1) (bytes_LastIndexByte.f (k + 1) a0 a1) := by
 intro a0 a1 k
 unfold bytes_LastIndexByte.f
 repeat' first
   | (with_reducible exact bytealg_LastIndexByte.mono _ _ _)
   | (with_reducible exact LeO.refl _)
   | (with_reducible exact LeO.none _)
   | (with_reducible refine LeO.ite ?_ ?_)
   | (with_reducible refine LeO.bind ?_ (fun _ => ?_))
   | exact bytealg_LastIndexByte.mono _ _ _
   | exact LeO.none _
   | refine LeO.ite ?_ ?_
   | refine LeO.bind ?_ (fun _ => ?_)
set_option maxHeartbeats 8000000 in
set_option maxRecDepth 100000 in
theorem bytes_LastIndexByte.calls (k : Nat) (A0 : Option Addr) (c0 : Nat) (l0 : List Int) (a1 : Int) (r : Int) (w : World) (hr0 : Kd.C (Kd.int .u8) w A0 l0.length l0) (hc0 : l0.length ≤ c0) (h : bytes_LastIndexByte.f k l0 a1 = some r) :
  Calls Tryd.prog 79 #[.slice A0 l0.length c0, .int .u8 a1] w fun e w' => e = .returned (.int .i64 r) ∧ Drawn0 w w':=by
 have HR0:=am_ hr0;have HC0:=am_ hc0;clear hr0 hc0;have H : ((bytealg_LastIndexByte.f k l0 a1).bind fun t202 => (some t202)) = some r:=h;clear h;replace H:=Option.bind_eq_some_iff.mp H;obtain ⟨t202, A30, H⟩:=H;replace H : (some t202) = some r:=H;have A3:=am_ A30;clear A30;obtain rfl:=Option.some.inj H;go_enter Tryd.func79, Tryd.ntmps79
 go_wp2_with (first | ((with_reducible refine gate_callee (f:=103) rfl ?_);refine goesL_ (some 7) rfl rfl Tryd.func103 (by kernel_rfl) rfl #[.slice A0 l0.length c0, .int .u8 a1] rfl (by (try simp only [List.map_toArray, List.map_cons, List.map_nil]);first|done|rfl|(simp only [List.length_drop, List.length_take];rfl)) ?_;(with_reducible refine (bytealg_LastIndexByte.calls k _ _ l0 a1 t202 _ ?side1 ?side2 A3.out).mono ?_);(case side1 => repeat (first | exact HR0.out | (with_reducible refine Kd.C_alloc ?_ _) | (with_reducible refine Kd.C_drewN ?_ _) | (with_reducible refine Kd.C_drew ?_)));(case side2 => exact HC0.out);rintro e w' ⟨rfl, ⟨nd, rfl⟩⟩;refine ⟨_, rfl, ?_⟩))
 go_ret
 exact ⟨by first | rfl | (simp;done) | (simp [*];done), by repeat (first | exact Drawn0.refl _ | apply Drawn0.step)⟩

/-! ### cert_next: function 55 -/
def cert_next.f (k : Nat) (l0 : List Int) : Option (List Int × Bool) := (bytes_LastIndexByte.f k l0 1).bind fun t203 => (if t203 < 0 then (some (([] : List Int), false)) else (if 0 ≤ t203 then (if t203 ≤ (l0.length : Int) then ((slices_Clone_uint8_uint8.f (l0.take (t203 : Int).toNat)).bind fun t205 => (if t205.length < 140737488355328 then (some ((t205 ++ [2]), true)) else (none))) else (none)) else (none)))
theorem cert_next.mono : ∀ a0 k, LeO (cert_next.f k a0) (cert_next.f (k + 1) a0) := by
 intro a0 k
 unfold cert_next.f
 repeat' first
   | (with_reducible exact bytes_LastIndexByte.mono _ _ _)
   | (with_reducible exact LeO.refl _)
   | (with_reducible exact LeO.none _)
   | (with_reducible refine LeO.ite ?_ ?_)
   | (with_reducible refine LeO.bind ?_ (fun _ => ?_))
   | exact bytes_LastIndexByte.mono _ _ _
   | exact LeO.none _
   | refine LeO.ite ?_ ?_
   | refine LeO.bind ?_ (fun _ => ?_)
set_option maxHeartbeats 8000000 in
set_option maxRecDepth 100000 in
theorem cert_next.calls (k : Nat) (A0 : Option Addr) (c0 : Nat) (l0 : List Int) (r1 : List Int) (r2 : Bool) (w : World) (hr0 : Kd.C (Kd.int .u8) w A0 l0.length l0) (hc0 : l0.length ≤ c0) (h : cert_next.f k l0 = some (r1, r2)) :
  Calls Tryd.prog 55 #[.slice A0 l0.length c0] w fun e w' => ∃ v0_ : Value, e = .returned (.tuple #[v0_, .bool r2]) ∧ Kd.R (Kd.int .u8) 5 w' w.heap.size (fun _ => True) v0_ r1 ∧ Below w.heap.size w w':=by
 have HR0:=am_ hr0;have HC0:=am_ hc0;clear hr0 hc0;have HB:=am_ (Below.refl w.heap.size w);have H : ((bytes_LastIndexByte.f k l0 1).bind fun t203 => (if t203 < 0 then (some (([] : List Int), false)) else (if 0 ≤ t203 then (if t203 ≤ (l0.length : Int) then ((slices_Clone_uint8_uint8.f (l0.take (t203 : Int).toNat)).bind fun t205 => (if t205.length < 140737488355328 then (some ((t205 ++ [2]), true)) else (none))) else (none)) else (none)))) = some (r1, r2):=h;clear h;replace H:=Option.bind_eq_some_iff.mp H;obtain ⟨t203, A20, H⟩:=H;replace H : (if t203 < 0 then (some (([] : List Int), false)) else (if 0 ≤ t203 then (if t203 ≤ (l0.length : Int) then ((slices_Clone_uint8_uint8.f (l0.take (t203 : Int).toNat)).bind fun t205 => (if t205.length < 140737488355328 then (some ((t205 ++ [2]), true)) else (none))) else (none)) else (none))) = some (r1, r2):=H;have A2:=am_ A20;clear A20
 by_cases c3 : t203 < 0
 ·rw [if_pos c3] at H;have c3b0 : decide (t203 < 0) = true:=decide_eq_true c3;clear c3;simp only [Option.some.injEq, Prod.mk.injEq] at H;obtain ⟨rfl, rfl⟩:=H;go_enter Tryd.func55, Tryd.ntmps55
  go_wp2_with (first | ((with_reducible refine gate_callee (f:=79) rfl ?_);refine goesL_ (some 6) rfl rfl Tryd.func79 (by kernel_rfl) rfl #[.slice A0 l0.length c0, .int .u8 1] rfl (by (try simp only [List.map_toArray, List.map_cons, List.map_nil]);first|done|rfl|(simp only [List.length_drop, List.length_take];rfl)) ?_;(with_reducible refine (bytes_LastIndexByte.calls k _ _ l0 1 t203 _ ?side1 ?side2 A2.out).mono ?_);(case side1 => repeat (first | exact HR0.out | (with_reducible refine Kd.C_alloc ?_ _) | (with_reducible refine Kd.C_drewN ?_ _) | (with_reducible refine Kd.C_drew ?_)));(case side2 => exact HC0.out);rintro e w' ⟨rfl, ⟨nd, rfl⟩⟩;refine ⟨_, rfl, ?_⟩))
  go_ret2
  exact ⟨_, by first | rfl | (simp [errW_none, errW_some] <;> rfl) | (simp [*, errW_none, errW_some] <;> rfl), by first | exact Kd.R_nil _ _ _ _ _ | exact Kd.N_nil _ _ _ _ _ | exact Kd.V_nil _ _ _ _ _ | exact Kd.Q_nil _ _ _ _ _ | exact Kd.S_nil _ _ _ _ _, by repeat (first | (with_reducible first | exact HB.out | apply b1_|apply b2_|apply b3_) | exact HB.out)⟩
 ·rw [if_neg c3] at H;have c3b0 : decide (t203 < 0) = false:=decide_eq_false c3;clear c3
  by_cases c4 : 0 ≤ t203
  ·rw [if_pos c4] at H;have c4b0:=eq_true c4;have c4b1 : decide (0 ≤ t203) = true:=decide_eq_true c4;clear c4
   by_cases c5 : t203 ≤ (l0.length : Int)
   ·rw [if_pos c5] at H;have c5b0:=eq_true c5;have c5b1 : decide (t203 ≤ (l0.length : Int)) = true:=decide_eq_true c5;clear c5;replace H:=Option.bind_eq_some_iff.mp H;obtain ⟨t205, A60, H⟩:=H;replace H : (if t205.length < 140737488355328 then (some ((t205 ++ [2]), true)) else (none)) = some (r1, r2):=H;have A6:=am_ A60;clear A60
    by_cases c7 : t205.length < 140737488355328
    ·rw [if_pos c7] at H;have LMc7:=am_ c7;clear c7;obtain ⟨y208, hy208⟩ : ∃ y_ : List Int, y_ = (t205 ++ [2]):=⟨_, rfl⟩
     replace H : (some (y208, true)) = some (r1, r2):=by first | (rw [hy208];with_reducible exact H) | (have H2_:=(Option.bind_some _ _).symm.trans H;rw [hy208];with_reducible exact H2_) | (have H2_:=(Option.bind_some _ _).symm.trans H;with_reducible exact H2_) | with_reducible exact H | (rw [hy208];exact H) | exact H
     have Ny208:=am_ hy208;clear hy208;simp only [Option.some.injEq, Prod.mk.injEq] at H;obtain ⟨rfl, rfl⟩:=H;go_enter Tryd.func55, Tryd.ntmps55
     go_wp2_with (first | ((with_reducible refine gate_callee (f:=79) rfl ?_);refine goesL_ (some 6) rfl rfl Tryd.func79 (by kernel_rfl) rfl #[.slice A0 l0.length c0, .int .u8 1] rfl (by (try simp only [List.map_toArray, List.map_cons, List.map_nil]);first|done|rfl|(simp only [List.length_drop, List.length_take];rfl)) ?_;(with_reducible refine (bytes_LastIndexByte.calls k _ _ l0 1 t203 _ ?side1 ?side2 A2.out).mono ?_);(case side1 => repeat (first | exact HR0.out | (with_reducible refine Kd.C_alloc ?_ _) | (with_reducible refine Kd.C_drewN ?_ _) | (with_reducible refine Kd.C_drew ?_)));(case side2 => exact HC0.out);rintro e w' ⟨rfl, ⟨nd, rfl⟩⟩;refine ⟨_, rfl, ?_⟩;obtain ⟨i08, hi08, _, hsz8, _⟩:=info_parts info5;obtain ⟨hcut8, hA8, hC8⟩:=print_take_of (P:=Tryd.prog) (Value.int .u8) 0 64 5 .i64 Tryd.underlying64 hi08 hsz8 A0 c0 l0 t203 (of_decide_eq_true (by first | (with_reducible assumption) | assumption)) (of_decide_eq_true (by first | (with_reducible assumption) | assumption)) HC0.out;have HR204:=am_ (Kd.C_of_reads (h1:=fun _ => rfl) (hA8 _ (Kd.reads_of_C HR0.out)));have HC204:=am_ hC8;clear hA8 hC8 hi08 hsz8) | ((with_reducible refine gate_callee (f:=38) rfl ?_);refine goesL_ (some 12) rfl rfl Tryd.func38 (by kernel_rfl) rfl #[.slice A0 (l0.take (t203 : Int).toNat).length c0] rfl (by (try simp only [List.map_toArray, List.map_cons, List.map_nil]);first | done | (rw [show (l0.take (t203 : Int).toNat).length = t203.toNat from (by rw [List.length_take];have h_ : (t203 : Int) ≤ (l0.length : Int):=of_decide_eq_true (by first | (with_reducible assumption) | assumption);omega)] <;> rfl) | rfl | (simp only [List.length_drop, List.length_take];rfl)) ?_;(with_reducible refine (slices_Clone_uint8_uint8.calls _ _ (l0.take (t203 : Int).toNat) t205 _ ?side1 ?side2 A6.out).mono ?_);(case side1 => repeat (first | exact HR204.out | (with_reducible refine Kd.C_alloc ?_ _) | (with_reducible refine Kd.C_drewN ?_ _) | (with_reducible refine Kd.C_drew ?_)));(case side2 => exact HC204.out);rintro e w9 ⟨v206, rfl, ho0, hb⟩;refine ⟨_, rfl, ?_⟩;have HO207:=am_ (Kd.R_lower ho0 (bz_ HB));replace HB:=bs_ HB hb;(try clear hb);(try clear hb2);(try clear hk);(try clear hi);(try clear ho0)) | ((with_reducible refine gate_builtin (b:=.append) (xs:=#[.tmp 12, .tmp 13]) rfl ?_);at_builtin;refine Kd.R_append (Kd.int .u8) (w0:=w) w.heap.size rfl (.tmp 12) (.tmp 13) 64 5 (.int .u8 0) 1 rfl Tryd.underlying64 info5 rfl (by decide) (by omega) v206 t205 2 [.int .u8 2] (fun _ => True) (fun _ => False) rfl rfl ?aP (fun _ hk => hk.elim) ?aF ?aO ?aB ?aS ?aL ?_;(case aP => exact rfl);(case aB => exact (by repeat (first | (with_reducible first | exact HB.out | apply b1_|apply b2_|apply b3_) | exact HB.out)));(case aF => exact (fun _ _ => trivial));(case aO => exact (ru_ HO207));(case aS => exact (bz_ HB));(case aL => have:=LMc7.out;omega);intro v209 w10 ho hb hg hat;rw [← Ny208.out] at ho;replace HB:=am_ hb;have HO210:=am_ ho;clear HO207;clear ho hb hg hat))
     go_ret2
     exact ⟨_, by first | rfl | (simp [errW_none, errW_some] <;> rfl) | (simp [*, errW_none, errW_some] <;> rfl), by (with_reducible repeat (first | apply Kd.R_alloc | apply Kd.R_drewN | apply Kd.R_drew));exact HO210.out, by repeat (first | (with_reducible first | exact HB.out | apply b1_|apply b2_|apply b3_) | exact HB.out)⟩
    ·rw [if_neg c7] at H;exact absurd H (by simp)
   ·rw [if_neg c5] at H;exact absurd H (by simp)
  ·rw [if_neg c4] at H;exact absurd H (by simp)

end Go.Proofs.YtfcidgnbocijdaaDoor.PCertLooks
