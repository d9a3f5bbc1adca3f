-- Written by a program of this session (the kit's print, turned: wip/px).
import Derived.Test.YtfcidgnbocijdaaDoorPCertLooksx0
import Derived.Test.YtfcidgnbocijdaaDoorPCertMakesx0
import Derived.Test.YtfcidgnbocijdaaDoorPCertMakesx1
import Derived.Test.YtfcidgnbocijdaaDoorPCertMakesx2
import Derived.Test.YtfcidgnbocijdaaDoorPCertMakesx3
import Derived.Test.YtfcidgnbocijdaaDoorPCertMakesx4
import Derived.Test.YtfcidgnbocijdaaDoorPCertMakesx5
import Derived.Test.YtfcidgnbocijdaaDoorPCertMakesx6
import Derived.Test.YtfcidgnbocijdaaDoorPCertMakesx7
import Derived.Test.YtfcidgnbocijdaaDoorPCertMakesx8
import Derived.Test.YtfcidgnbocijdaaDoorPCertMakesx9
import Derived.Test.YtfcidgnbocijdaaDoorPCertMakesx12
import Derived.Test.YtfcidgnbocijdaaDoorPCertMakesx13
import Derived.Test.YtfcidgnbocijdaaDoorPCertLooksx1
import Derived.Test.YtfcidgnbocijdaaDoorSq2
namespace Go.Proofs.YtfcidgnbocijdaaDoor.PCertLooks
open Go.Proofs.YtfcidgnbocijdaaDoor.PCertMakes
open Go.Proofs.YtfcidgnbocijdaaDoor.Sq
open Go.RowKit Go.Proofs.YtfcidgnbocijdaaDoorW.PrintWords Go.Proofs.YtfcidgnbocijdaaDoorW.PrintLast Go.Proofs.YtfcidgnbocijdaaDoorW.PrintMore
attribute [local go_sem] max2_int min2_int max_two min_two max_three min_three max_four min_four   -- for this text's walks alone
set_option linter.unusedVariables false
set_option linter.unusedSimpArgs false

/-! ### cert_line: function 44 -/
def Tab (w : World) : Prop := Lib.TabIs Tryd.prog w "internal/strconv.uint64pow10" .u64 Lib.pow10Tab
theorem Tab.below {w w1 : World} {B : Nat} (h : Tab w) (hb : Below B w w1) (hB : w.heap.size ≤ B) : Tab w1 := by
  unfold Tab Lib.TabIs World.var? at *
  obtain ⟨g, hg, h⟩ := Option.bind_eq_some_iff.1 h
  rw [hg]
  show (match w1.heap[g]? with | some (.cells cs _ _) => some cs | _ => none) = _
  cases hc : w.heap[g]? with
  | none => rw [hc] at h; cases h
  | some o => rw [hb.block g (Nat.lt_of_lt_of_le (blk_lt hc) hB), hc]; rw [hc] at h; exact h
theorem Tab.step {w w1 : World} (h : Tab w) (hb : Below w.heap.size w w1) : Tab w1 := h.below hb (Nat.le_refl _)
def cert_line.f (S : List Int) (b : Int) : ByteArray × Bool := Ct.line S b
theorem cert_line.one {x : Int} (h : x = 1 ∨ x = 2) : (⟨(Lib.decDigits x.toNat).toArray⟩ : ByteArray) = ⟨[Ct.dig x].toArray⟩ := by
  rcases h with rfl | rfl
  · rw [Lib.decDigits_one (by decide)]; rfl
  · rw [Lib.decDigits_one (by decide)]; rfl
theorem cert_line.ends {a b : ByteArray} {c d : Bool} (h : a = b) (e : c = d) : Ending.returned (.tuple #[.string a, .bool c]) = Ending.returned (.tuple #[.string b, .bool d]) := by rw [h, e]
set_option maxHeartbeats 40000000 in
set_option maxRecDepth 100000 in
theorem cert_line.calls (A : Option Addr) (c : Nat) (S : List Int) (b : Int) (w : World) (hr : Kd.C (Kd.int .u8) w A S.length S) (hc : S.length ≤ c) (ht : Tab w) :
    Calls Tryd.prog 44 #[.agg #[.slice A S.length c, .int .i64 b]] w fun e w' => e = .returned (.tuple #[.string (cert_line.f S b).1, .bool (cert_line.f S b).2]) ∧ Below w.heap.size w w' := by
  have hu66 := Tryd.underlying66
  obtain ⟨R, hR⟩ : ∃ R, R = cert_line.f S b := ⟨_, rfl⟩
  rw [← hR]
  unfold cert_line.f Ct.line at hR
  have HR := Aside0.mk hr
  have HT := Aside0.mk ht
  clear hr ht
  by_cases q0 : 16 < S.length
  · rw [if_neg (by rw [Ct.okLine_iff]; omega)] at hR
    subst hR
    have q0b : decide (16 < (S.length : Int)) = true := decide_eq_true (by omega)
    go_enter Tryd.func44, Tryd.ntmps44
    go_wp2
    all_goals (go_ret2; exact ⟨rfl, below_alloc (Below.refl _ _) _⟩)
  have q0b : decide (16 < (S.length : Int)) = false := decide_eq_false (by omega)
  by_cases q1 : b < 0
  · rw [if_neg (by rw [Ct.okLine_iff]; omega)] at hR
    subst hR
    have q1b : decide (b < 0) = true := decide_eq_true q1
    go_enter Tryd.func44, Tryd.ntmps44
    go_wp2
    all_goals (go_ret2; exact ⟨rfl, below_alloc (Below.refl _ _) _⟩)
  have q1b : decide (b < 0) = false := decide_eq_false q1
  by_cases q2 : 1099511627776 < b
  · rw [if_neg (by rw [Ct.okLine_iff]; omega)] at hR
    subst hR
    have q2b : decide (1099511627776 < b) = true := decide_eq_true q2
    go_enter Tryd.func44, Tryd.ntmps44
    go_wp2
    all_goals (go_ret2; exact ⟨rfl, below_alloc (Below.refl _ _) _⟩)
  have q2b : decide (1099511627776 < b) = false := decide_eq_false q2
  obtain ⟨T0, hT0, hp, hTl⟩ : ∃ T0 : List UInt8, Ct.head S = T0 ++ Ct.digs S ∧ ((S.length = 0 ∧ T0 = [45]) ∨ (0 < S.length ∧ T0 = [])) ∧ T0.length ≤ 1 := by
    by_cases hz : S.length = 0
    · exact ⟨[45], by unfold Ct.head; rw [if_pos hz, List.eq_nil_of_length_eq_zero hz]; rfl, Or.inl ⟨hz, rfl⟩, Nat.le_refl _⟩
    · exact ⟨[], by unfold Ct.head; rw [if_neg hz]; rfl, Or.inr ⟨by omega, rfl⟩, Nat.zero_le _⟩
  have HH := Aside0.mk hT0
  have HTL := Aside0.mk hTl
  have HR1 := Aside0.mk hR
  have Q := Aside0.mk (show S.length ≤ 16 ∧ 0 ≤ b ∧ b ≤ 1099511627776 by omega)
  have hl16 : S.length ≤ 16 := by omega
  obtain ⟨d1, hd1, HD1, hI1⟩ : ∃ d1 : ByteArray, d1.size = 1 ∧ Aside0 (d1 = ⟨[Ct.dig 1].toArray⟩) ∧ ∀ w : World, Calls Tryd.prog 68 #[.int .i64 1] w fun e w' => e = .returned (.string d1) ∧ w' = w :=
    ⟨_, rfl, ⟨rfl⟩, fun w => by have := Tryd.strconv_Itoa_small 1 (by decide) w; rw [show (⟨(Lib.decDigits 1).toArray⟩ : ByteArray) = _ from cert_line.one (x := 1) (Or.inl rfl)] at this; exact this⟩
  obtain ⟨d2, hd2, HD2, hI2⟩ : ∃ d2 : ByteArray, d2.size = 1 ∧ Aside0 (d2 = ⟨[Ct.dig 2].toArray⟩) ∧ ∀ w : World, Calls Tryd.prog 68 #[.int .i64 2] w fun e w' => e = .returned (.string d2) ∧ w' = w :=
    ⟨_, rfl, ⟨rfl⟩, fun w => by have := Tryd.strconv_Itoa_small 2 (by decide) w; rw [show (⟨(Lib.decDigits 2).toArray⟩ : ByteArray) = _ from cert_line.one (x := 2) (Or.inr rfl)] at this; exact this⟩
  obtain ⟨db, hdb, HDB, hIb⟩ : ∃ db : ByteArray, db.size ≤ 13 ∧ Aside0 (db = ⟨(Lib.decDigits b.toNat).toArray⟩) ∧ ∀ w : World, Tab w → Calls Tryd.prog 68 #[.int .i64 b] w fun e w' => e = .returned (.string db) ∧ Below w.heap.size w w' :=
    ⟨⟨(Lib.decDigits b.toNat).toArray⟩, Ct.dec_len (by omega), ⟨rfl⟩, fun w hw => by
      have h := Tryd.strconv_Itoa b (by omega) (by omega) w hw
      rw [show Lib.itoa b = Lib.decDigits b.toNat by unfold Lib.itoa; rw [if_neg (by omega)]] at h
      exact h.mono (by rintro e w' ⟨rfl, k, os, rfl⟩; exact ⟨rfl, Lib.below_grow _ _ (Nat.le_refl _) _ _⟩)⟩
  have HI1 := Aside0.mk hI1
  have HI2 := Aside0.mk hI2
  have HIB := Aside0.mk hIb
  clear hT0 hR q0 q1 q2 hI1 hI2 hIb hTl
  rcases hp with ⟨hz, hT⟩ | ⟨hz, hT⟩
  · have hzb : (0 < S.length) = False := eq_false (by omega)
    have HT0 := Aside0.mk hT
    have HZ := Aside0.mk hz
    clear hz hT
    go_enter Tryd.func44, Tryd.ntmps44
    go_wp2
    go_loopw [4, 28] (fun v4 v28 wr => ∃ (i : Nat) (s1 : ByteArray), v28 = .int .i64 i ∧ v4 = .string s1 ∧ s1.size ≤ 17 ∧ Aside0 (s1 = ⟨(T0 ++ Ct.digs (S.take i)).toArray⟩) ∧ i ≤ S.length ∧ Aside0 ((S.take i).all Ct.ok12 = true) ∧ Aside0 (Below w.heap.size w wr) ∧ Aside0 (wr.heap[w.heap.size]? = some (.cells #[.slice A S.length c, .int .i64 b] 66 (0, 0)))) (fun _ v28 _ => S.length - (intOf v28).toNat)
    case atStart => exact ⟨0, ⟨T0.toArray⟩, rfl, by rw [HT0.out], by rw [HT0.out]; decide, ⟨by simp [Ct.digs]⟩, Nat.zero_le _, ⟨rfl⟩, ⟨below_alloc (Below.refl _ _) _⟩, ⟨blk_new _ _⟩⟩
    case round =>
      obtain ⟨i, s1, rfl, rfl, hs, HS1, hi, HO, HB, HN⟩ := hrel
      have en1 : wr.cell? ⟨w.heap.size, 1, none⟩ = some (.int .i64 b) := (blk_cell HN.out 1).trans rfl
      by_cases hlt : i < S.length
      · obtain ⟨ad, eA, hx⟩ := Kd.at_int (Kd.C_below HR.out HB.out) (i : Int) (by omega) (by omega)
        subst eA
        rw [Int.toNat_natCast] at hx
        obtain ⟨x, ex⟩ : ∃ x, x = rd S (i : Int) := ⟨_, rfl⟩
        rw [← ex] at hx
        have HX : Aside0 (S.getD i 0 = x) := ⟨by rw [ex]; simp [rd]⟩
        clear ex
        by_cases o1 : x = 1
        · subst o1
          go_wp2_with (go_at_call 68
                       refine (HI1.out _).mono ?_
                       rintro e w1 ⟨rfl, rfl⟩)
          go_roundw
          case rel =>
            refine ⟨i + 1, _, by go_num, rfl, ?_, ⟨?_⟩, by omega, ⟨?_⟩, HB, HN⟩
            · rw [ByteArray.size_append, hd1, HS1.out]
              have := HTL.out
              have := Q.out.1
              show (T0 ++ Ct.digs (S.take i)).length + 1 ≤ 17
              rw [List.length_append, Ct.digs_len, List.length_take]
              omega
            · rw [HS1.out, HD1.out, Ct.cat, Ct.digs_take hlt, HX.out, List.append_assoc]
            · rw [List.take_succ_eq_append_getElem hlt, List.all_append, HO.out]
              have h1 := HX.out
              rw [List.getD_eq_getElem?_getD, List.getElem?_eq_getElem hlt] at h1
              simp only [Option.getD_some] at h1
              simp [h1, Ct.ok12]
          case measure => simp [intOf]; omega
        by_cases o2 : x = 2
        · subst o2
          go_wp2_with (go_at_call 68
                       refine (HI2.out _).mono ?_
                       rintro e w1 ⟨rfl, rfl⟩)
          go_roundw
          case rel =>
            refine ⟨i + 1, _, by go_num, rfl, ?_, ⟨?_⟩, by omega, ⟨?_⟩, HB, HN⟩
            · rw [ByteArray.size_append, hd2, HS1.out]
              have := HTL.out
              have := Q.out.1
              show (T0 ++ Ct.digs (S.take i)).length + 1 ≤ 17
              rw [List.length_append, Ct.digs_len, List.length_take]
              omega
            · rw [HS1.out, HD2.out, Ct.cat, Ct.digs_take hlt, HX.out, List.append_assoc]
            · rw [List.take_succ_eq_append_getElem hlt, List.all_append, HO.out]
              have h1 := HX.out
              rw [List.getD_eq_getElem?_getD, List.getElem?_eq_getElem hlt] at h1
              simp only [Option.getD_some] at h1
              simp [h1, Ct.ok12]
          case measure => simp [intOf]; omega
        · have o1b : (x != 1) = true := by simpa [bne] using o1
          have o2b : (x != 2) = true := by simpa [bne] using o2
          have hRf : R = (⟨#[]⟩, false) := by
            rw [HR1.out, if_neg]
            rw [Ct.okLine_iff]
            rintro ⟨-, -, -, h⟩
            have h1 := HX.out
            rw [List.getD_eq_getElem?_getD, List.getElem?_eq_getElem hlt] at h1
            simp only [Option.getD_some] at h1
            have h2 := List.all_eq_true.1 h _ (List.getElem_mem hlt)
            rw [h1] at h2
            simp [Ct.ok12] at h2
            omega
          have HRF := Aside0.mk hRf
          clear hRf
          go_wp2
          go_ret2
          exact ⟨cert_line.ends (by rw [HRF.out]) (by rw [HRF.out]), HB.out⟩
      · have hie : i = S.length := by omega
        have HT1 := Aside0.mk (HT.out.below HB.out (Nat.le_refl _))
        go_wp2_with (go_at_call 68
                     refine (HIB.out _ HT1.out).mono ?_
                     rintro e w1 ⟨rfl, hb⟩
                     have HB1 := Aside0.mk (below_step HB.out hb)
                     clear hb)
        go_ret2
        have hRt : R = (⟨(Ct.lineL S b).toArray⟩, true) := by
          rw [HR1.out, if_pos]
          rw [Ct.okLine_iff]
          have h1 := HO.out
          rw [hie, List.take_length] at h1
          exact ⟨Q.out.1, Q.out.2.1, Q.out.2.2, h1⟩
        refine ⟨cert_line.ends ?_ (by rw [hRt]), HB1.out⟩
        rw [hRt, HS1.out, HDB.out, hie, List.take_length, ← HH.out]
        show (⟨(Ct.head S).toArray⟩ : ByteArray) ++ (⟨[32].toArray⟩ : ByteArray) ++ (⟨(Lib.decDigits b.toNat).toArray⟩ : ByteArray) ++ (⟨[10].toArray⟩ : ByteArray) = ⟨(Ct.lineL S b).toArray⟩
        rw [Ct.cat, Ct.cat, Ct.cat]
        simp [Ct.lineL, Ct.body]
  · have hzb : (0 < S.length) = True := eq_true (by omega)
    have HT0 := Aside0.mk hT
    have HZ := Aside0.mk hz
    clear hz hT
    go_enter Tryd.func44, Tryd.ntmps44
    go_wp2
    go_loopw [4, 28] (fun v4 v28 wr => ∃ (i : Nat) (s1 : ByteArray), v28 = .int .i64 i ∧ v4 = .string s1 ∧ s1.size ≤ 17 ∧ Aside0 (s1 = ⟨(T0 ++ Ct.digs (S.take i)).toArray⟩) ∧ i ≤ S.length ∧ Aside0 ((S.take i).all Ct.ok12 = true) ∧ Aside0 (Below w.heap.size w wr) ∧ Aside0 (wr.heap[w.heap.size]? = some (.cells #[.slice A S.length c, .int .i64 b] 66 (0, 0)))) (fun _ v28 _ => S.length - (intOf v28).toNat)
    case atStart => exact ⟨0, ⟨T0.toArray⟩, rfl, by rw [HT0.out], by rw [HT0.out]; decide, ⟨by simp [Ct.digs]⟩, Nat.zero_le _, ⟨rfl⟩, ⟨below_alloc (Below.refl _ _) _⟩, ⟨blk_new _ _⟩⟩
    case round =>
      obtain ⟨i, s1, rfl, rfl, hs, HS1, hi, HO, HB, HN⟩ := hrel
      have en1 : wr.cell? ⟨w.heap.size, 1, none⟩ = some (.int .i64 b) := (blk_cell HN.out 1).trans rfl
      by_cases hlt : i < S.length
      · obtain ⟨ad, eA, hx⟩ := Kd.at_int (Kd.C_below HR.out HB.out) (i : Int) (by omega) (by omega)
        subst eA
        rw [Int.toNat_natCast] at hx
        obtain ⟨x, ex⟩ : ∃ x, x = rd S (i : Int) := ⟨_, rfl⟩
        rw [← ex] at hx
        have HX : Aside0 (S.getD i 0 = x) := ⟨by rw [ex]; simp [rd]⟩
        clear ex
        by_cases o1 : x = 1
        · subst o1
          go_wp2_with (go_at_call 68
                       refine (HI1.out _).mono ?_
                       rintro e w1 ⟨rfl, rfl⟩)
          go_roundw
          case rel =>
            refine ⟨i + 1, _, by go_num, rfl, ?_, ⟨?_⟩, by omega, ⟨?_⟩, HB, HN⟩
            · rw [ByteArray.size_append, hd1, HS1.out]
              have := HTL.out
              have := Q.out.1
              show (T0 ++ Ct.digs (S.take i)).length + 1 ≤ 17
              rw [List.length_append, Ct.digs_len, List.length_take]
              omega
            · rw [HS1.out, HD1.out, Ct.cat, Ct.digs_take hlt, HX.out, List.append_assoc]
            · rw [List.take_succ_eq_append_getElem hlt, List.all_append, HO.out]
              have h1 := HX.out
              rw [List.getD_eq_getElem?_getD, List.getElem?_eq_getElem hlt] at h1
              simp only [Option.getD_some] at h1
              simp [h1, Ct.ok12]
          case measure => simp [intOf]; omega
        by_cases o2 : x = 2
        · subst o2
          go_wp2_with (go_at_call 68
                       refine (HI2.out _).mono ?_
                       rintro e w1 ⟨rfl, rfl⟩)
          go_roundw
          case rel =>
            refine ⟨i + 1, _, by go_num, rfl, ?_, ⟨?_⟩, by omega, ⟨?_⟩, HB, HN⟩
            · rw [ByteArray.size_append, hd2, HS1.out]
              have := HTL.out
              have := Q.out.1
              show (T0 ++ Ct.digs (S.take i)).length + 1 ≤ 17
              rw [List.length_append, Ct.digs_len, List.length_take]
              omega
            · rw [HS1.out, HD2.out, Ct.cat, Ct.digs_take hlt, HX.out, List.append_assoc]
            · rw [List.take_succ_eq_append_getElem hlt, List.all_append, HO.out]
              have h1 := HX.out
              rw [List.getD_eq_getElem?_getD, List.getElem?_eq_getElem hlt] at h1
              simp only [Option.getD_some] at h1
              simp [h1, Ct.ok12]
          case measure => simp [intOf]; omega
        · have o1b : (x != 1) = true := by simpa [bne] using o1
          have o2b : (x != 2) = true := by simpa [bne] using o2
          have hRf : R = (⟨#[]⟩, false) := by
            rw [HR1.out, if_neg]
            rw [Ct.okLine_iff]
            rintro ⟨-, -, -, h⟩
            have h1 := HX.out
            rw [List.getD_eq_getElem?_getD, List.getElem?_eq_getElem hlt] at h1
            simp only [Option.getD_some] at h1
            have h2 := List.all_eq_true.1 h _ (List.getElem_mem hlt)
            rw [h1] at h2
            simp [Ct.ok12] at h2
            omega
          have HRF := Aside0.mk hRf
          clear hRf
          go_wp2
          go_ret2
          exact ⟨cert_line.ends (by rw [HRF.out]) (by rw [HRF.out]), HB.out⟩
      · have hie : i = S.length := by omega
        have HT1 := Aside0.mk (HT.out.below HB.out (Nat.le_refl _))
        go_wp2_with (go_at_call 68
                     refine (HIB.out _ HT1.out).mono ?_
                     rintro e w1 ⟨rfl, hb⟩
                     have HB1 := Aside0.mk (below_step HB.out hb)
                     clear hb)
        go_ret2
        have hRt : R = (⟨(Ct.lineL S b).toArray⟩, true) := by
          rw [HR1.out, if_pos]
          rw [Ct.okLine_iff]
          have h1 := HO.out
          rw [hie, List.take_length] at h1
          exact ⟨Q.out.1, Q.out.2.1, Q.out.2.2, h1⟩
        refine ⟨cert_line.ends ?_ (by rw [hRt]), HB1.out⟩
        rw [hRt, HS1.out, HDB.out, hie, List.take_length, ← HH.out]
        show (⟨(Ct.head S).toArray⟩ : ByteArray) ++ (⟨[32].toArray⟩ : ByteArray) ++ (⟨(Lib.decDigits b.toNat).toArray⟩ : ByteArray) ++ (⟨[10].toArray⟩ : ByteArray) = ⟨(Ct.lineL S b).toArray⟩
        rw [Ct.cat, Ct.cat, Ct.cat]
        simp [Ct.lineL, Ct.body]


/-! ### cert_Write: function 13 -/
def cert_Write.text (l : List S66) : List UInt8 := l.flatMap fun n => Ct.lineL n.f0 n.f1
def cert_Write.ok (l : List S66) : Bool := l.all fun n => Ct.okLine n.f0 n.f1
def cert_Write.f (l : List S66) : ByteArray × Int := if 65536 < l.length then (⟨#[]⟩, 3) else if cert_Write.ok l = true then (⟨(cert_Write.text l).toArray⟩, 0) else (⟨#[]⟩, 2)
theorem cert_Write.below {B b : Nat} {bs : List Value} {w w1 : World} (h : Lib.IsBuilder 84 5 B b bs w) (hb : Below w.heap.size w w1) : Lib.IsBuilder 84 5 B b bs w1 := by
  rcases h with ⟨hB, v, hk, ho, hn⟩ | ⟨hB, v, hk, ho, hn⟩
  · exact Or.inl ⟨hB, v, blk_below hk hb, pw_own_below ho hb, hn⟩
  · exact Or.inr ⟨hB, v, blk_below hk hb, pw_own_below ho hb, hn⟩
theorem cert_Write.len : ∀ {l : List S66}, cert_Write.ok l = true → (cert_Write.text l).length ≤ 32 * l.length
  | [], _ => by simp [cert_Write.text]
  | n :: l, h => by
    simp only [cert_Write.ok, List.all_cons, Bool.and_eq_true] at h
    have h1 := Ct.lineL_len h.1
    have h2 := cert_Write.len (l := l) h.2
    simp only [cert_Write.text, List.flatMap_cons, List.length_append, List.length_cons] at h2 ⊢
    omega
theorem cert_Write.ends {a b : ByteArray} {c d : Int} (h : a = b) (e : c = d) : Ending.returned (.tuple #[.string a, .int .i64 c]) = Ending.returned (.tuple #[.string b, .int .i64 d]) := by rw [h, e]
set_option maxHeartbeats 40000000 in
set_option maxRecDepth 100000 in
theorem cert_Write.calls (A : Option Addr) (c : Nat) (l : List S66) (w : World) (hr : Kd.C k66 w A l.length l) (hc : l.length ≤ c) (ht : Tab w) :
    Calls Tryd.prog 13 #[.slice A l.length c] w fun e w' => e = .returned (.tuple #[.string (cert_Write.f l).1, .int .i64 (cert_Write.f l).2]) ∧ Below w.heap.size w w' := by
  have hu66 := Tryd.underlying66
  obtain ⟨R, hR⟩ : ∃ R, R = cert_Write.f l := ⟨_, rfl⟩
  rw [← hR]
  unfold cert_Write.f at hR
  have HR := Aside0.mk hr
  have HT := Aside0.mk ht
  clear hr ht
  by_cases q0 : 65536 < l.length
  · rw [if_pos q0] at hR
    subst hR
    have q0b : (65536 < l.length) = True := eq_true q0
    go_enter Tryd.func13, Tryd.ntmps13
    go_wp2
    all_goals (go_ret2; exact ⟨rfl, Below.refl _ _⟩)
  rw [if_neg q0] at hR
  have q0b : (65536 < l.length) = False := eq_false q0
  have hl : l.length ≤ 65536 := by omega
  have HR1 := Aside0.mk hR
  clear hR q0
  go_enter Tryd.func13, Tryd.ntmps13
  go_wp2
  go_loopw [14] (fun v14 wr => ∃ i : Nat, v14 = .int .i64 i ∧ i ≤ l.length ∧ Aside0 (cert_Write.ok (l.take i) = true) ∧ Aside0 (Below w.heap.size w wr) ∧ Aside0 (Lib.IsBuilder 84 5 w.heap.size w.heap.size (Lib.byteCells (cert_Write.text (l.take i))) wr)) (fun v14 _ => l.length - (intOf v14).toNat)
  case atStart => exact ⟨0, rfl, Nat.zero_le _, ⟨rfl⟩, ⟨below_alloc (Below.refl _ _) _⟩, ⟨Lib.fresh_isBuilder _ _ _⟩⟩
  case round =>
    obtain ⟨i, rfl, hi, HO, HB, HI⟩ := hrel
    by_cases hlt : i < l.length
    · obtain ⟨ad, A1, c1, eA, x0, x1, hc1, hC1⟩ := at_T66 (Kd.C_below HR.out HB.out) (i : Int) (by omega) (by omega)
      subst eA
      rw [Int.toNat_natCast] at x0 x1
      obtain ⟨N, eN⟩ : ∃ N, N = rd_T66 l (i : Int) := ⟨_, rfl⟩
      rw [← eN] at x0 x1 hc1 hC1
      have hN : l.take (i + 1) = l.take i ++ [N] := by
        rw [List.take_succ_eq_append_getElem hlt, eN]
        simp [rd_T66, List.getD_eq_getElem?_getD, List.getElem?_eq_getElem hlt]
      have HN := Aside0.mk hN
      have HC1 := Aside0.mk hC1
      clear eN hN hC1
      obtain ⟨S, b⟩ := N
      simp only at x0 x1 hc1 HC1
      have hlen := cert_Write.len HO.out
      rw [List.length_take] at hlen
      have hlen1 : (Lib.byteCells (cert_Write.text (l.take i))).length ≤ 32 * 65536 := by rw [Lib.byteCells_length]; omega
      have HL1 := Aside0.mk hlen1
      clear hlen hlen1
      have HTr := Aside0.mk (HT.out.below HB.out (Nat.le_refl _))
      have HLc := Aside0.mk (cert_line.calls A1 c1 S b (wr.alloc (.cells #[.slice A1 S.length c1, .int .i64 b] 66 (0, 0))) (Kd.C_alloc HC1.out _) hc1 (HTr.out.step (below_alloc (Below.refl _ _) _)))
      by_cases ok : Ct.okLine S b = true
      · have e1 : cert_line.f S b = (⟨(Ct.lineL S b).toArray⟩, true) := by unfold cert_line.f Ct.line; rw [if_pos ok]
        rw [e1] at HLc
        obtain ⟨sl, hsl⟩ : ∃ sl : ByteArray, sl = ⟨(Ct.lineL S b).toArray⟩ := ⟨_, rfl⟩
        rw [← hsl] at HLc
        have hss : sl.size ≤ 32 := by rw [hsl]; exact Ct.lineL_len ok
        have HSL := Aside0.mk hsl
        have OK := Aside0.mk ok
        clear hsl e1 ok
        have HW := Aside0.mk (fun w1 hI1 hs => Tryd.Builder_WriteString w.heap.size w.heap.size (Lib.byteCells (cert_Write.text (l.take i))) sl w1 hI1 (by have := HL1.out; omega) hs)
        go_wp2_with (first
          | (go_at_call 44
             refine HLc.out.mono ?_
             rintro e w1 ⟨rfl, hb⟩
             have HB1 := Aside0.mk (below_step (below_alloc (Below.refl _ _) _) hb)
             have HI1 := Aside0.mk (cert_Write.below HI.out HB1.out)
             have HBw := Aside0.mk (below_step HB.out HB1.out)
             clear hb)
          | (go_at_call 45
             refine (HW.out w1 HI1.out HBw.out.size).mono ?_
             rintro e w2 ⟨rfl, hA, hb⟩
             have HB2 := Aside0.mk (Below.trans HBw.out hb)
             have HA2 := Aside0.mk hA
             clear hb hA))
        go_roundw
        case rel =>
          refine ⟨i + 1, by go_num, by omega, ⟨?_⟩, HB2, ⟨?_⟩⟩
          · rw [HN.out]
            have h1 := HO.out
            unfold cert_Write.ok at h1 ⊢
            rw [List.all_append, h1]
            simp [OK.out]
          · have h1 := HA2.out
            rw [HSL.out, Lib.strCells_toArray, ← Lib.byteCells_append] at h1
            have e2 : cert_Write.text (l.take (i + 1)) = cert_Write.text (l.take i) ++ Ct.lineL S b := by rw [HN.out]; simp [cert_Write.text]
            rw [e2]
            exact Or.inr h1
        case measure => simp [intOf]; omega
      · have e1 : cert_line.f S b = (⟨#[]⟩, false) := by unfold cert_line.f Ct.line; rw [if_neg ok]
        rw [e1] at HLc
        have hRf : R = (⟨#[]⟩, 2) := by
          rw [HR1.out, if_neg]
          intro h
          have h1 : cert_Write.ok (l.take (i + 1)) = true := by
            unfold cert_Write.ok at h ⊢
            exact List.all_eq_true.2 fun x hx => List.all_eq_true.1 h x (List.mem_of_mem_take hx)
          rw [HN.out] at h1
          unfold cert_Write.ok at h1
          rw [List.all_append, Bool.and_eq_true] at h1
          have h2 := h1.2
          simp at h2
          exact ok h2
        have HRF := Aside0.mk hRf
        clear hRf e1 ok
        go_wp2_with (go_at_call 44
                     refine HLc.out.mono ?_
                     rintro e w1 ⟨rfl, hb⟩
                     have HB1 := Aside0.mk (below_step HB.out (below_step (below_alloc (Below.refl _ _) _) hb))
                     clear hb)
        go_ret2
        exact ⟨cert_Write.ends (by rw [HRF.out]) (by rw [HRF.out]), HB1.out⟩
    · have hie : i = l.length := by omega
      have HI' := HI.out
      rw [hie, List.take_length] at HI'
      have HI2 := Aside0.mk HI'
      clear HI'
      have HS := Aside0.mk (Tryd.Builder_String_any w.heap.size w.heap.size (cert_Write.text l) wr HI2.out HB.out.size)
      go_wp2_with (go_at_call 46
                   refine HS.out.mono ?_
                   rintro e w1 ⟨rfl, hb⟩
                   have HB1 := Aside0.mk (Below.trans HB.out hb)
                   clear hb)
      go_ret2
      have hRt : R = (⟨(cert_Write.text l).toArray⟩, 0) := by
        have h1 := HO.out
        rw [hie, List.take_length] at h1
        rw [HR1.out, if_pos h1]
      exact ⟨cert_Write.ends (by rw [hRt]) (by rw [hRt]), HB1.out⟩


end Go.Proofs.YtfcidgnbocijdaaDoor.PCertLooks
