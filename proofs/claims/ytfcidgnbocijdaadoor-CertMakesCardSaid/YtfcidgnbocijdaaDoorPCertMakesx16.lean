-- Written by a program of this session (the kit's print, turned: wip/px).
import Derived.Test.YtfcidgnbocijdaaDoorPCertMakesx0
import Derived.Test.YtfcidgnbocijdaaDoorPCertMakesx7
import Derived.Test.YtfcidgnbocijdaaDoorPCertMakesx15
import Derived.Test.YtfcidgnbocijdaaDoorSq2
namespace Go.Proofs.YtfcidgnbocijdaaDoor.PCertMakes
open Go.Proofs.YtfcidgnbocijdaaDoor.Sq
open Go.RowKit Go.Proofs.YtfcidgnbocijdaaDoorW.PrintWords Go.Proofs.YtfcidgnbocijdaaDoorW.PrintLast Go.Proofs.YtfcidgnbocijdaaDoorW.PrintMore
attribute [local go_sem] max2_int min2_int max_two min_two max_three min_three max_four min_four   -- for this text's walks alone
set_option linter.unusedVariables false
set_option linter.unusedSimpArgs false

/-! ### cert_line: function 44 -/
def Tab (w : World) : Prop := Lib.TabIs Tryd.prog w "internal/strconv.uint64pow10" .u64 Lib.pow10Tab
theorem Tab.below {w w1 : World} {B : Nat} (h : Tab w) (hb : Below B w w1) (hB : w.heap.size ≤ B) : Tab w1 := by
  unfold Tab Lib.TabIs World.var? at *
  obtain ⟨g, hg, h⟩ := Option.bind_eq_some_iff.1 h
  rw [hg]
  show (match w1.heap[g]? with | some (.cells cs _ _) => some cs | _ => none) = _
  cases hc : w.heap[g]? with
  | none => rw [hc] at h; cases h
  | some o => rw [hb.block g (Nat.lt_of_lt_of_le (blk_lt hc) hB), hc]; rw [hc] at h; exact h
theorem Tab.step {w w1 : World} (h : Tab w) (hb : Below w.heap.size w w1) : Tab w1 := h.below hb (Nat.le_refl _)
def cert_line.f (S : List Int) (b : Int) : ByteArray × Bool := Ct.line S b
theorem cert_line.one {x : Int} (h : x = 1 ∨ x = 2) : (⟨(Lib.decDigits x.toNat).toArray⟩ : ByteArray) = ⟨[Ct.dig x].toArray⟩ := by
  rcases h with rfl | rfl
  · rw [Lib.decDigits_one (by decide)]; rfl
  · rw [Lib.decDigits_one (by decide)]; rfl
theorem cert_line.ends {a b : ByteArray} {c d : Bool} (h : a = b) (e : c = d) : Ending.returned (.tuple #[.string a, .bool c]) = Ending.returned (.tuple #[.string b, .bool d]) := by rw [h, e]
set_option maxHeartbeats 40000000 in
set_option maxRecDepth 100000 in
theorem cert_line.calls (A : Option Addr) (c : Nat) (S : List Int) (b : Int) (w : World) (hr : Kd.C (Kd.int .u8) w A S.length S) (hc : S.length ≤ c) (ht : Tab w) :
    Calls Tryd.prog 44 #[.agg #[.slice A S.length c, .int .i64 b]] w fun e w' => e = .returned (.tuple #[.string (cert_line.f S b).1, .bool (cert_line.f S b).2]) ∧ Below w.heap.size w w' := by
  have hu66 := Tryd.underlying66
  obtain ⟨R, hR⟩ : ∃ R, R = cert_line.f S b := ⟨_, rfl⟩
  rw [← hR]
  unfold cert_line.f Ct.line at hR
  have HR := Aside0.mk hr
  have HT := Aside0.mk ht
  clear hr ht
  by_cases q0 : 16 < S.length
  · rw [if_neg (by rw [Ct.okLine_iff]; omega)] at hR
    subst hR
    have q0b : decide (16 < (S.length : Int)) = true := decide_eq_true (by omega)
    go_enter Tryd.func44, Tryd.ntmps44
    go_wp2
    all_goals (go_ret2; exact ⟨rfl, below_alloc (Below.refl _ _) _⟩)
  have q0b : decide (16 < (S.length : Int)) = false := decide_eq_false (by omega)
  by_cases q1 : b < 0
  · rw [if_neg (by rw [Ct.okLine_iff]; omega)] at hR
    subst hR
    have q1b : decide (b < 0) = true := decide_eq_true q1
    go_enter Tryd.func44, Tryd.ntmps44
    go_wp2
    all_goals (go_ret2; exact ⟨rfl, below_alloc (Below.refl _ _) _⟩)
  have q1b : decide (b < 0) = false := decide_eq_false q1
  by_cases q2 : 1099511627776 < b
  · rw [if_neg (by rw [Ct.okLine_iff]; omega)] at hR
    subst hR
    have q2b : decide (1099511627776 < b) = true := decide_eq_true q2
    go_enter Tryd.func44, Tryd.ntmps44
    go_wp2
    all_goals (go_ret2; exact ⟨rfl, below_alloc (Below.refl _ _) _⟩)
  have q2b : decide (1099511627776 < b) = false := decide_eq_false q2
  obtain ⟨T0, hT0, hp, hTl⟩ : ∃ T0 : List UInt8, Ct.head S = T0 ++ Ct.digs S ∧ ((S.length = 0 ∧ T0 = [45]) ∨ (0 < S.length ∧ T0 = [])) ∧ T0.length ≤ 1 := by
    by_cases hz : S.length = 0
    · exact ⟨[45], by unfold Ct.head; rw [if_pos hz, List.eq_nil_of_length_eq_zero hz]; rfl, Or.inl ⟨hz, rfl⟩, Nat.le_refl _⟩
    · exact ⟨[], by unfold Ct.head; rw [if_neg hz]; rfl, Or.inr ⟨by omega, rfl⟩, Nat.zero_le _⟩
  have HH := Aside0.mk hT0
  have HTL := Aside0.mk hTl
  have HR1 := Aside0.mk hR
  have Q := Aside0.mk (show S.length ≤ 16 ∧ 0 ≤ b ∧ b ≤ 1099511627776 by omega)
  have hl16 : S.length ≤ 16 := by omega
  obtain ⟨d1, hd1, HD1, hI1⟩ : ∃ d1 : ByteArray, d1.size = 1 ∧ Aside0 (d1 = ⟨[Ct.dig 1].toArray⟩) ∧ ∀ w : World, Calls Tryd.prog 68 #[.int .i64 1] w fun e w' => e = .returned (.string d1) ∧ w' = w :=
    ⟨_, rfl, ⟨rfl⟩, fun w => by have := Tryd.strconv_Itoa_small 1 (by decide) w; rw [show (⟨(Lib.decDigits 1).toArray⟩ : ByteArray) = _ from cert_line.one (x := 1) (Or.inl rfl)] at this; exact this⟩
  obtain ⟨d2, hd2, HD2, hI2⟩ : ∃ d2 : ByteArray, d2.size = 1 ∧ Aside0 (d2 = ⟨[Ct.dig 2].toArray⟩) ∧ ∀ w : World, Calls Tryd.prog 68 #[.int .i64 2] w fun e w' => e = .returned (.string d2) ∧ w' = w :=
    ⟨_, rfl, ⟨rfl⟩, fun w => by have := Tryd.strconv_Itoa_small 2 (by decide) w; rw [show (⟨(Lib.decDigits 2).toArray⟩ : ByteArray) = _ from cert_line.one (x := 2) (Or.inr rfl)] at this; exact this⟩
  obtain ⟨db, hdb, HDB, hIb⟩ : ∃ db : ByteArray, db.size ≤ 13 ∧ Aside0 (db = ⟨(Lib.decDigits b.toNat).toArray⟩) ∧ ∀ w : World, Tab w → Calls Tryd.prog 68 #[.int .i64 b] w fun e w' => e = .returned (.string db) ∧ Below w.heap.size w w' :=
    ⟨⟨(Lib.decDigits b.toNat).toArray⟩, Ct.dec_len (by omega), ⟨rfl⟩, fun w hw => by
      have h := Tryd.strconv_Itoa b (by omega) (by omega) w hw
      rw [show Lib.itoa b = Lib.decDigits b.toNat by unfold Lib.itoa; rw [if_neg (by omega)]] at h
      exact h.mono (by rintro e w' ⟨rfl, k, os, rfl⟩; exact ⟨rfl, Lib.below_grow _ _ (Nat.le_refl _) _ _⟩)⟩
  have HI1 := Aside0.mk hI1
  have HI2 := Aside0.mk hI2
  have HIB := Aside0.mk hIb
  clear hT0 hR q0 q1 q2 hI1 hI2 hIb hTl
  rcases hp with ⟨hz, hT⟩ | ⟨hz, hT⟩
  · have hzb : (0 < S.length) = False := eq_false (by omega)
    have HT0 := Aside0.mk hT
    have HZ := Aside0.mk hz
    clear hz hT
    go_enter Tryd.func44, Tryd.ntmps44
    go_wp2
    go_loopw [4, 28] (fun v4 v28 wr => ∃ (i : Nat) (s1 : ByteArray), v28 = .int .i64 i ∧ v4 = .string s1 ∧ s1.size ≤ 17 ∧ Aside0 (s1 = ⟨(T0 ++ Ct.digs (S.take i)).toArray⟩) ∧ i ≤ S.length ∧ Aside0 ((S.take i).all Ct.ok12 = true) ∧ Aside0 (Below w.heap.size w wr) ∧ Aside0 (wr.heap[w.heap.size]? = some (.cells #[.slice A S.length c, .int .i64 b] 66 (0, 0)))) (fun _ v28 _ => S.length - (intOf v28).toNat)
    case atStart => exact ⟨0, ⟨T0.toArray⟩, rfl, by rw [HT0.out], by rw [HT0.out]; decide, ⟨by simp [Ct.digs]⟩, Nat.zero_le _, ⟨rfl⟩, ⟨below_alloc (Below.refl _ _) _⟩, ⟨blk_new _ _⟩⟩
    case round =>
      obtain ⟨i, s1, rfl, rfl, hs, HS1, hi, HO, HB, HN⟩ := hrel
      have en1 : wr.cell? ⟨w.heap.size, 1, none⟩ = some (.int .i64 b) := (blk_cell HN.out 1).trans rfl
      by_cases hlt : i < S.length
      · obtain ⟨ad, eA, hx⟩ := Kd.at_int (Kd.C_below HR.out HB.out) (i : Int) (by omega) (by omega)
        subst eA
        rw [Int.toNat_natCast] at hx
        obtain ⟨x, ex⟩ : ∃ x, x = rd S (i : Int) := ⟨_, rfl⟩
        rw [← ex] at hx
        have HX : Aside0 (S.getD i 0 = x) := ⟨by rw [ex]; simp [rd]⟩
        clear ex
        by_cases o1 : x = 1
        · subst o1
          go_wp2_with (go_at_call 68
                       refine (HI1.out _).mono ?_
                       rintro e w1 ⟨rfl, rfl⟩)
          go_roundw
          case rel =>
            refine ⟨i + 1, _, by go_num, rfl, ?_, ⟨?_⟩, by omega, ⟨?_⟩, HB, HN⟩
            · rw [ByteArray.size_append, hd1, HS1.out]
              have := HTL.out
              have := Q.out.1
              show (T0 ++ Ct.digs (S.take i)).length + 1 ≤ 17
              rw [List.length_append, Ct.digs_len, List.length_take]
              omega
            · rw [HS1.out, HD1.out, Ct.cat, Ct.digs_take hlt, HX.out, List.append_assoc]
            · rw [List.take_succ_eq_append_getElem hlt, List.all_append, HO.out]
              have h1 := HX.out
              rw [List.getD_eq_getElem?_getD, List.getElem?_eq_getElem hlt] at h1
              simp only [Option.getD_some] at h1
              simp [h1, Ct.ok12]
          case measure => simp [intOf]; omega
        by_cases o2 : x = 2
        · subst o2
          go_wp2_with (go_at_call 68
                       refine (HI2.out _).mono ?_
                       rintro e w1 ⟨rfl, rfl⟩)
          go_roundw
          case rel =>
            refine ⟨i + 1, _, by go_num, rfl, ?_, ⟨?_⟩, by omega, ⟨?_⟩, HB, HN⟩
            · rw [ByteArray.size_append, hd2, HS1.out]
              have := HTL.out
              have := Q.out.1
              show (T0 ++ Ct.digs (S.take i)).length + 1 ≤ 17
              rw [List.length_append, Ct.digs_len, List.length_take]
              omega
            · rw [HS1.out, HD2.out, Ct.cat, Ct.digs_take hlt, HX.out, List.append_assoc]
            · rw [List.take_succ_eq_append_getElem hlt, List.all_append, HO.out]
              have h1 := HX.out
              rw [List.getD_eq_getElem?_getD, List.getElem?_eq_getElem hlt] at h1
              simp only [Option.getD_some] at h1
              simp [h1, Ct.ok12]
          case measure => simp [intOf]; omega
        · have o1b : (x != 1) = true := by simpa [bne] using o1
          have o2b : (x != 2) = true := by simpa [bne] using o2
          have hRf : R = (⟨#[]⟩, false) := by
            rw [HR1.out, if_neg]
            rw [Ct.okLine_iff]
            rintro ⟨-, -, -, h⟩
            have h1 := HX.out
            rw [List.getD_eq_getElem?_getD, List.getElem?_eq_getElem hlt] at h1
            simp only [Option.getD_some] at h1
            have h2 := List.all_eq_true.1 h _ (List.getElem_mem hlt)
            rw [h1] at h2
            simp [Ct.ok12] at h2
            omega
          have HRF := Aside0.mk hRf
          clear hRf
          go_wp2
          go_ret2
          exact ⟨cert_line.ends (by rw [HRF.out]) (by rw [HRF.out]), HB.out⟩
      · have hie : i = S.length := by omega
        have HT1 := Aside0.mk (HT.out.below HB.out (Nat.le_refl _))
        go_wp2_with (go_at_call 68
                     refine (HIB.out _ HT1.out).mono ?_
                     rintro e w1 ⟨rfl, hb⟩
                     have HB1 := Aside0.mk (below_step HB.out hb)
                     clear hb)
        go_ret2
        have hRt : R = (⟨(Ct.lineL S b).toArray⟩, true) := by
          rw [HR1.out, if_pos]
          rw [Ct.okLine_iff]
          have h1 := HO.out
          rw [hie, List.take_length] at h1
          exact ⟨Q.out.1, Q.out.2.1, Q.out.2.2, h1⟩
        refine ⟨cert_line.ends ?_ (by rw [hRt]), HB1.out⟩
        rw [hRt, HS1.out, HDB.out, hie, List.take_length, ← HH.out]
        show (⟨(Ct.head S).toArray⟩ : ByteArray) ++ (⟨[32].toArray⟩ : ByteArray) ++ (⟨(Lib.decDigits b.toNat).toArray⟩ : ByteArray) ++ (⟨[10].toArray⟩ : ByteArray) = ⟨(Ct.lineL S b).toArray⟩
        rw [Ct.cat, Ct.cat, Ct.cat]
        simp [Ct.lineL, Ct.body]
  · have hzb : (0 < S.length) = True := eq_true (by omega)
    have HT0 := Aside0.mk hT
    have HZ := Aside0.mk hz
    clear hz hT
    go_enter Tryd.func44, Tryd.ntmps44
    go_wp2
    go_loopw [4, 28] (fun v4 v28 wr => ∃ (i : Nat) (s1 : ByteArray), v28 = .int .i64 i ∧ v4 = .string s1 ∧ s1.size ≤ 17 ∧ Aside0 (s1 = ⟨(T0 ++ Ct.digs (S.take i)).toArray⟩) ∧ i ≤ S.length ∧ Aside0 ((S.take i).all Ct.ok12 = true) ∧ Aside0 (Below w.heap.size w wr) ∧ Aside0 (wr.heap[w.heap.size]? = some (.cells #[.slice A S.length c, .int .i64 b] 66 (0, 0)))) (fun _ v28 _ => S.length - (intOf v28).toNat)
    case atStart => exact ⟨0, ⟨T0.toArray⟩, rfl, by rw [HT0.out], by rw [HT0.out]; decide, ⟨by simp [Ct.digs]⟩, Nat.zero_le _, ⟨rfl⟩, ⟨below_alloc (Below.refl _ _) _⟩, ⟨blk_new _ _⟩⟩
    case round =>
      obtain ⟨i, s1, rfl, rfl, hs, HS1, hi, HO, HB, HN⟩ := hrel
      have en1 : wr.cell? ⟨w.heap.size, 1, none⟩ = some (.int .i64 b) := (blk_cell HN.out 1).trans rfl
      by_cases hlt : i < S.length
      · obtain ⟨ad, eA, hx⟩ := Kd.at_int (Kd.C_below HR.out HB.out) (i : Int) (by omega) (by omega)
        subst eA
        rw [Int.toNat_natCast] at hx
        obtain ⟨x, ex⟩ : ∃ x, x = rd S (i : Int) := ⟨_, rfl⟩
        rw [← ex] at hx
        have HX : Aside0 (S.getD i 0 = x) := ⟨by rw [ex]; simp [rd]⟩
        clear ex
        by_cases o1 : x = 1
        · subst o1
          go_wp2_with (go_at_call 68
                       refine (HI1.out _).mono ?_
                       rintro e w1 ⟨rfl, rfl⟩)
          go_roundw
          case rel =>
            refine ⟨i + 1, _, by go_num, rfl, ?_, ⟨?_⟩, by omega, ⟨?_⟩, HB, HN⟩
            · rw [ByteArray.size_append, hd1, HS1.out]
              have := HTL.out
              have := Q.out.1
              show (T0 ++ Ct.digs (S.take i)).length + 1 ≤ 17
              rw [List.length_append, Ct.digs_len, List.length_take]
              omega
            · rw [HS1.out, HD1.out, Ct.cat, Ct.digs_take hlt, HX.out, List.append_assoc]
            · rw [List.take_succ_eq_append_getElem hlt, List.all_append, HO.out]
              have h1 := HX.out
              rw [List.getD_eq_getElem?_getD, List.getElem?_eq_getElem hlt] at h1
              simp only [Option.getD_some] at h1
              simp [h1, Ct.ok12]
          case measure => simp [intOf]; omega
        by_cases o2 : x = 2
        · subst o2
          go_wp2_with (go_at_call 68
                       refine (HI2.out _).mono ?_
                       rintro e w1 ⟨rfl, rfl⟩)
          go_roundw
          case rel =>
            refine ⟨i + 1, _, by go_num, rfl, ?_, ⟨?_⟩, by omega, ⟨?_⟩, HB, HN⟩
            · rw [ByteArray.size_append, hd2, HS1.out]
              have := HTL.out
              have := Q.out.1
              show (T0 ++ Ct.digs (S.take i)).length + 1 ≤ 17
              rw [List.length_append, Ct.digs_len, List.length_take]
              omega
            · rw [HS1.out, HD2.out, Ct.cat, Ct.digs_take hlt, HX.out, List.append_assoc]
            · rw [List.take_succ_eq_append_getElem hlt, List.all_append, HO.out]
              have h1 := HX.out
              rw [List.getD_eq_getElem?_getD, List.getElem?_eq_getElem hlt] at h1
              simp only [Option.getD_some] at h1
              simp [h1, Ct.ok12]
          case measure => simp [intOf]; omega
        · have o1b : (x != 1) = true := by simpa [bne] using o1
          have o2b : (x != 2) = true := by simpa [bne] using o2
          have hRf : R = (⟨#[]⟩, false) := by
            rw [HR1.out, if_neg]
            rw [Ct.okLine_iff]
            rintro ⟨-, -, -, h⟩
            have h1 := HX.out
            rw [List.getD_eq_getElem?_getD, List.getElem?_eq_getElem hlt] at h1
            simp only [Option.getD_some] at h1
            have h2 := List.all_eq_true.1 h _ (List.getElem_mem hlt)
            rw [h1] at h2
            simp [Ct.ok12] at h2
            omega
          have HRF := Aside0.mk hRf
          clear hRf
          go_wp2
          go_ret2
          exact ⟨cert_line.ends (by rw [HRF.out]) (by rw [HRF.out]), HB.out⟩
      · have hie : i = S.length := by omega
        have HT1 := Aside0.mk (HT.out.below HB.out (Nat.le_refl _))
        go_wp2_with (go_at_call 68
                     refine (HIB.out _ HT1.out).mono ?_
                     rintro e w1 ⟨rfl, hb⟩
                     have HB1 := Aside0.mk (below_step HB.out hb)
                     clear hb)
        go_ret2
        have hRt : R = (⟨(Ct.lineL S b).toArray⟩, true) := by
          rw [HR1.out, if_pos]
          rw [Ct.okLine_iff]
          have h1 := HO.out
          rw [hie, List.take_length] at h1
          exact ⟨Q.out.1, Q.out.2.1, Q.out.2.2, h1⟩
        refine ⟨cert_line.ends ?_ (by rw [hRt]), HB1.out⟩
        rw [hRt, HS1.out, HDB.out, hie, List.take_length, ← HH.out]
        show (⟨(Ct.head S).toArray⟩ : ByteArray) ++ (⟨[32].toArray⟩ : ByteArray) ++ (⟨(Lib.decDigits b.toNat).toArray⟩ : ByteArray) ++ (⟨[10].toArray⟩ : ByteArray) = ⟨(Ct.lineL S b).toArray⟩
        rw [Ct.cat, Ct.cat, Ct.cat]
        simp [Ct.lineL, Ct.body]


/-! ### cert_Write: function 13 -/
def cert_Write.text (l : List S66) : List UInt8 := l.flatMap fun n => Ct.lineL n.f0 n.f1
def cert_Write.ok (l : List S66) : Bool := l.all fun n => Ct.okLine n.f0 n.f1
def cert_Write.f (l : List S66) : ByteArray × Int := if 65536 < l.length then (⟨#[]⟩, 3) else if cert_Write.ok l = true then (⟨(cert_Write.text l).toArray⟩, 0) else (⟨#[]⟩, 2)
theorem cert_Write.below {B b : Nat} {bs : List Value} {w w1 : World} (h : Lib.IsBuilder 84 5 B b bs w) (hb : Below w.heap.size w w1) : Lib.IsBuilder 84 5 B b bs w1 := by
  rcases h with ⟨hB, v, hk, ho, hn⟩ | ⟨hB, v, hk, ho, hn⟩
  · exact Or.inl ⟨hB, v, blk_below hk hb, pw_own_below ho hb, hn⟩
  · exact Or.inr ⟨hB, v, blk_below hk hb, pw_own_below ho hb, hn⟩
theorem cert_Write.len : ∀ {l : List S66}, cert_Write.ok l = true → (cert_Write.text l).length ≤ 32 * l.length
  | [], _ => by simp [cert_Write.text]
  | n :: l, h => by
    simp only [cert_Write.ok, List.all_cons, Bool.and_eq_true] at h
    have h1 := Ct.lineL_len h.1
    have h2 := cert_Write.len (l := l) h.2
    simp only [cert_Write.text, List.flatMap_cons, List.length_append, List.length_cons] at h2 ⊢
    omega
theorem cert_Write.ends {a b : ByteArray} {c d : Int} (h : a = b) (e : c = d) : Ending.returned (.tuple #[.string a, .int .i64 c]) = Ending.returned (.tuple #[.string b, .int .i64 d]) := by rw [h, e]
set_option maxHeartbeats 40000000 in
set_option maxRecDepth 100000 in
theorem cert_Write.calls (A : Option Addr) (c : Nat) (l : List S66) (w : World) (hr : Kd.C k66 w A l.length l) (hc : l.length ≤ c) (ht : Tab w) :
    Calls Tryd.prog 13 #[.slice A l.length c] w fun e w' => e = .returned (.tuple #[.string (cert_Write.f l).1, .int .i64 (cert_Write.f l).2]) ∧ Below w.heap.size w w' := by
  have hu66 := Tryd.underlying66
  obtain ⟨R, hR⟩ : ∃ R, R = cert_Write.f l := ⟨_, rfl⟩
  rw [← hR]
  unfold cert_Write.f at hR
  have HR := Aside0.mk hr
  have HT := Aside0.mk ht
  clear hr ht
  by_cases q0 : 65536 < l.length
  · rw [if_pos q0] at hR
    subst hR
    have q0b : (65536 < l.length) = True := eq_true q0
    go_enter Tryd.func13, Tryd.ntmps13
    go_wp2
    all_goals (go_ret2; exact ⟨rfl, Below.refl _ _⟩)
  rw [if_neg q0] at hR
  have q0b : (65536 < l.length) = False := eq_false q0
  have hl : l.length ≤ 65536 := by omega
  have HR1 := Aside0.mk hR
  clear hR q0
  go_enter Tryd.func13, Tryd.ntmps13
  go_wp2
  go_loopw [14] (fun v14 wr => ∃ i : Nat, v14 = .int .i64 i ∧ i ≤ l.length ∧ Aside0 (cert_Write.ok (l.take i) = true) ∧ Aside0 (Below w.heap.size w wr) ∧ Aside0 (Lib.IsBuilder 84 5 w.heap.size w.heap.size (Lib.byteCells (cert_Write.text (l.take i))) wr)) (fun v14 _ => l.length - (intOf v14).toNat)
  case atStart => exact ⟨0, rfl, Nat.zero_le _, ⟨rfl⟩, ⟨below_alloc (Below.refl _ _) _⟩, ⟨Lib.fresh_isBuilder _ _ _⟩⟩
  case round =>
    obtain ⟨i, rfl, hi, HO, HB, HI⟩ := hrel
    by_cases hlt : i < l.length
    · obtain ⟨ad, A1, c1, eA, x0, x1, hc1, hC1⟩ := at_T66 (Kd.C_below HR.out HB.out) (i : Int) (by omega) (by omega)
      subst eA
      rw [Int.toNat_natCast] at x0 x1
      obtain ⟨N, eN⟩ : ∃ N, N = rd_T66 l (i : Int) := ⟨_, rfl⟩
      rw [← eN] at x0 x1 hc1 hC1
      have hN : l.take (i + 1) = l.take i ++ [N] := by
        rw [List.take_succ_eq_append_getElem hlt, eN]
        simp [rd_T66, List.getD_eq_getElem?_getD, List.getElem?_eq_getElem hlt]
      have HN := Aside0.mk hN
      have HC1 := Aside0.mk hC1
      clear eN hN hC1
      obtain ⟨S, b⟩ := N
      simp only at x0 x1 hc1 HC1
      have hlen := cert_Write.len HO.out
      rw [List.length_take] at hlen
      have hlen1 : (Lib.byteCells (cert_Write.text (l.take i))).length ≤ 32 * 65536 := by rw [Lib.byteCells_length]; omega
      have HL1 := Aside0.mk hlen1
      clear hlen hlen1
      have HTr := Aside0.mk (HT.out.below HB.out (Nat.le_refl _))
      have HLc := Aside0.mk (cert_line.calls A1 c1 S b (wr.alloc (.cells #[.slice A1 S.length c1, .int .i64 b] 66 (0, 0))) (Kd.C_alloc HC1.out _) hc1 (HTr.out.step (below_alloc (Below.refl _ _) _)))
      by_cases ok : Ct.okLine S b = true
      · have e1 : cert_line.f S b = (⟨(Ct.lineL S b).toArray⟩, true) := by unfold cert_line.f Ct.line; rw [if_pos ok]
        rw [e1] at HLc
        obtain ⟨sl, hsl⟩ : ∃ sl : ByteArray, sl = ⟨(Ct.lineL S b).toArray⟩ := ⟨_, rfl⟩
        rw [← hsl] at HLc
        have hss : sl.size ≤ 32 := by rw [hsl]; exact Ct.lineL_len ok
        have HSL := Aside0.mk hsl
        have OK := Aside0.mk ok
        clear hsl e1 ok
        have HW := Aside0.mk (fun w1 hI1 hs => Tryd.Builder_WriteString w.heap.size w.heap.size (Lib.byteCells (cert_Write.text (l.take i))) sl w1 hI1 (by have := HL1.out; omega) hs)
        go_wp2_with (first
          | (go_at_call 44
             refine HLc.out.mono ?_
             rintro e w1 ⟨rfl, hb⟩
             have HB1 := Aside0.mk (below_step (below_alloc (Below.refl _ _) _) hb)
             have HI1 := Aside0.mk (cert_Write.below HI.out HB1.out)
             have HBw := Aside0.mk (below_step HB.out HB1.out)
             clear hb)
          | (go_at_call 45
             refine (HW.out w1 HI1.out HBw.out.size).mono ?_
             rintro e w2 ⟨rfl, hA, hb⟩
             have HB2 := Aside0.mk (Below.trans HBw.out hb)
             have HA2 := Aside0.mk hA
             clear hb hA))
        go_roundw
        case rel =>
          refine ⟨i + 1, by go_num, by omega, ⟨?_⟩, HB2, ⟨?_⟩⟩
          · rw [HN.out]
            have h1 := HO.out
            unfold cert_Write.ok at h1 ⊢
            rw [List.all_append, h1]
            simp [OK.out]
          · have h1 := HA2.out
            rw [HSL.out, Lib.strCells_toArray, ← Lib.byteCells_append] at h1
            have e2 : cert_Write.text (l.take (i + 1)) = cert_Write.text (l.take i) ++ Ct.lineL S b := by rw [HN.out]; simp [cert_Write.text]
            rw [e2]
            exact Or.inr h1
        case measure => simp [intOf]; omega
      · have e1 : cert_line.f S b = (⟨#[]⟩, false) := by unfold cert_line.f Ct.line; rw [if_neg ok]
        rw [e1] at HLc
        have hRf : R = (⟨#[]⟩, 2) := by
          rw [HR1.out, if_neg]
          intro h
          have h1 : cert_Write.ok (l.take (i + 1)) = true := by
            unfold cert_Write.ok at h ⊢
            exact List.all_eq_true.2 fun x hx => List.all_eq_true.1 h x (List.mem_of_mem_take hx)
          rw [HN.out] at h1
          unfold cert_Write.ok at h1
          rw [List.all_append, Bool.and_eq_true] at h1
          have h2 := h1.2
          simp at h2
          exact ok h2
        have HRF := Aside0.mk hRf
        clear hRf e1 ok
        go_wp2_with (go_at_call 44
                     refine HLc.out.mono ?_
                     rintro e w1 ⟨rfl, hb⟩
                     have HB1 := Aside0.mk (below_step HB.out (below_step (below_alloc (Below.refl _ _) _) hb))
                     clear hb)
        go_ret2
        exact ⟨cert_Write.ends (by rw [HRF.out]) (by rw [HRF.out]), HB1.out⟩
    · have hie : i = l.length := by omega
      have HI' := HI.out
      rw [hie, List.take_length] at HI'
      have HI2 := Aside0.mk HI'
      clear HI'
      have HS := Aside0.mk (Tryd.Builder_String_any w.heap.size w.heap.size (cert_Write.text l) wr HI2.out HB.out.size)
      go_wp2_with (go_at_call 46
                   refine HS.out.mono ?_
                   rintro e w1 ⟨rfl, hb⟩
                   have HB1 := Aside0.mk (Below.trans HB.out hb)
                   clear hb)
      go_ret2
      have hRt : R = (⟨(cert_Write.text l).toArray⟩, 0) := by
        have h1 := HO.out
        rw [hie, List.take_length] at h1
        rw [HR1.out, if_pos h1]
      exact ⟨cert_Write.ends (by rw [hRt]) (by rw [hRt]), HB1.out⟩


/-! ### diapasonlaw27_example: function 34 -/
def diapasonlaw27_example.f  : Option (List Int × (List (List Int)) × List Int × Int) := some ((([10, 4] : List Int)), (([(([6, 0] : List Int)), (([5, 4] : List Int)), (([3, 1] : List Int))] : List (List Int))), (([2, 3, 1] : List Int)), 5)
set_option maxHeartbeats 8000000 in
set_option maxRecDepth 100000 in
theorem diapasonlaw27_example.calls  (r1 : List Int) (r2 : List (List Int)) (r3 : List Int) (r4 : Int) (w : World) (h : diapasonlaw27_example.f  = some (r1, r2, r3, r4)) :
  Calls Tryd.prog 34 #[] w fun e w' => ∃ v0_ v1_ v2_ : Value, e = .returned (.agg #[v0_, v1_, v2_, .int .i64 r4]) ∧ Kd.R (Kd.int .i64) 3 w' w.heap.size (fun k_ => (w.heap.size ≤ k_) ∧ some k_ ≠ (v2_ : Value).ownBlock) v0_ r1 ∧ Kd.N (Kd.slice 3 (Kd.int .i64)) 25 w' w.heap.size (fun k_ => (w.heap.size ≤ k_) ∧ some k_ ≠ (v0_ : Value).ownBlock ∧ some k_ ≠ (v2_ : Value).ownBlock) v1_ r2 ∧ Kd.R (Kd.int .i64) 3 w' w.heap.size (fun k_ => (w.heap.size ≤ k_) ∧ some k_ ≠ (v0_ : Value).ownBlock) v2_ r3 ∧ Below w.heap.size w w':=by
 have hu28:=Tryd.underlying28;have HB:=am_ (Below.refl w.heap.size w);have H : (some ((([10, 4] : List Int)), (([(([6, 0] : List Int)), (([5, 4] : List Int)), (([3, 1] : List Int))] : List (List Int))), (([2, 3, 1] : List Int)), 5)) = some (r1, r2, r3, r4):=h;clear h;obtain ⟨y281, hy281⟩ : ∃ y_ : List Int, y_ = (([10, 4] : List Int)):=⟨_, rfl⟩
 replace H : (some (y281, (([(([6, 0] : List Int)), (([5, 4] : List Int)), (([3, 1] : List Int))] : List (List Int))), (([2, 3, 1] : List Int)), 5)) = some (r1, r2, r3, r4):=by first | (rw [hy281];with_reducible exact H) | (have H2_:=(Option.bind_some _ _).symm.trans H;rw [hy281];with_reducible exact H2_) | (have H2_:=(Option.bind_some _ _).symm.trans H;with_reducible exact H2_) | with_reducible exact H | (rw [hy281];exact H) | exact H
 have Ny281:=am_ hy281;clear hy281;obtain ⟨y284, hy284⟩ : ∃ y_ : List Int, y_ = (([6, 0] : List Int)):=⟨_, rfl⟩
 replace H : (some (y281, (([y284, (([5, 4] : List Int)), (([3, 1] : List Int))] : List (List Int))), (([2, 3, 1] : List Int)), 5)) = some (r1, r2, r3, r4):=by first | (rw [hy284];with_reducible exact H) | (have H2_:=(Option.bind_some _ _).symm.trans H;rw [hy284];with_reducible exact H2_) | (have H2_:=(Option.bind_some _ _).symm.trans H;with_reducible exact H2_) | with_reducible exact H | (rw [hy284];exact H) | exact H
 have Ny284:=am_ hy284;clear hy284;obtain ⟨y287, hy287⟩ : ∃ y_ : List Int, y_ = (([5, 4] : List Int)):=⟨_, rfl⟩
 replace H : (some (y281, (([y284, y287, (([3, 1] : List Int))] : List (List Int))), (([2, 3, 1] : List Int)), 5)) = some (r1, r2, r3, r4):=by first | (rw [hy287];with_reducible exact H) | (have H2_:=(Option.bind_some _ _).symm.trans H;rw [hy287];with_reducible exact H2_) | (have H2_:=(Option.bind_some _ _).symm.trans H;with_reducible exact H2_) | with_reducible exact H | (rw [hy287];exact H) | exact H
 have Ny287:=am_ hy287;clear hy287;obtain ⟨y290, hy290⟩ : ∃ y_ : List Int, y_ = (([3, 1] : List Int)):=⟨_, rfl⟩
 replace H : (some (y281, (([y284, y287, y290] : List (List Int))), (([2, 3, 1] : List Int)), 5)) = some (r1, r2, r3, r4):=by first | (rw [hy290];with_reducible exact H) | (have H2_:=(Option.bind_some _ _).symm.trans H;rw [hy290];with_reducible exact H2_) | (have H2_:=(Option.bind_some _ _).symm.trans H;with_reducible exact H2_) | with_reducible exact H | (rw [hy290];exact H) | exact H
 have Ny290:=am_ hy290;clear hy290;obtain ⟨y293, hy293⟩ : ∃ y_ : List (List Int), y_ = (([y284, y287, y290] : List (List Int))):=⟨_, rfl⟩
 replace H : (some (y281, y293, (([2, 3, 1] : List Int)), 5)) = some (r1, r2, r3, r4):=by first | (rw [hy293];with_reducible exact H) | (have H2_:=(Option.bind_some _ _).symm.trans H;rw [hy293];with_reducible exact H2_) | (have H2_:=(Option.bind_some _ _).symm.trans H;with_reducible exact H2_) | with_reducible exact H | (rw [hy293];exact H) | exact H
 have Ny293:=am_ hy293;clear hy293;obtain ⟨y296, hy296⟩ : ∃ y_ : List Int, y_ = (([2, 3, 1] : List Int)):=⟨_, rfl⟩
 replace H : (some (y281, y293, y296, 5)) = some (r1, r2, r3, r4):=by first | (rw [hy296];with_reducible exact H) | (have H2_:=(Option.bind_some _ _).symm.trans H;rw [hy296];with_reducible exact H2_) | (have H2_:=(Option.bind_some _ _).symm.trans H;with_reducible exact H2_) | with_reducible exact H | (rw [hy296];exact H) | exact H
 have Ny296:=am_ hy296;clear hy296;simp only [Option.some.injEq, Prod.mk.injEq] at H;obtain ⟨rfl, rfl, rfl, rfl⟩:=H;go_enter Tryd.func34, Tryd.ntmps34
 go_wp2_with (first | ((with_reducible refine gate_dst (N:=0) rfl ?_);refine box_event ?hg (N:=0) ?hd (cs:=#[.slice none 0 0, .slice none 0 0, .slice none 0 0, .int .i64 0]) (t:=28) ?hr ?_;(case hd => rfl);(case hg => rfl);(case hr => first | (go_simp;done) | (go_simp;rfl));intro gb280 hg w1 hbox hb;have BK280:=am_ hbox;have GW280:=gz_ hg HB;have GE280:=gz_ hg HB;replace HB:=bs_ HB hb;clear hb hbox hg) | ((with_reducible refine gate_dst (N:=1) rfl ?_);refine Kd.R_lit (Kd.int .i64) _ 3 ?hg (N:=1) ?hd (xs:=([10, 4] : List Int)) (inner:=[.int .i64 10, .int .i64 4]) (ok:=fun _ => True) (okp:=fun _ => True) ?hr ?hp (fun _ hk => hk) trivial (Below.refl _ _) (Nat.le_refl _) (by simp) ?_;(case hd => rfl);(case hg => rfl);(case hr => first | (go_simp;done) | (go_simp;rfl));(case hp => exact (Reps.one (show Kd.M (Kd.int .i64) _ _ _ 10 [.int .i64 10] from rfl) (Reps.one (show Kd.M (Kd.int .i64) _ _ _ 4 [.int .i64 4] from rfl) (Reps.none _ _))));intro v282 w2 ho3 hb hg_ hnew_;clear hg_ hnew_;(first | rw [← Ny281.out] at ho3 | (simp only [Int.reduceToNat] at ho3;rw [← Ny281.out] at ho3));have HO283:=am_ (Kd.R_lower (Kd.R_newM (M:=fun k_ => (w.heap.size ≤ k_)) ho3 (bz_ HB) (fun k_ h_ => h_)) (bz_ HB));replace BK280:=bb_ BK280 hb;replace HB:=am_ (below_step (by repeat (first | (with_reducible first | exact HB.out | apply b1_|apply b2_|apply b3_ | refine below_set ?_ GE280.out) | exact HB.out)) hb);clear hb ho3) | ((with_reducible refine gate_dst (N:=2) rfl ?_);refine Kd.R_lit (Kd.int .i64) _ 3 ?hg (N:=2) ?hd (xs:=([6, 0] : List Int)) (inner:=[.int .i64 6, .int .i64 0]) (ok:=fun _ => True) (okp:=fun _ => True) ?hr ?hp (fun _ hk => hk) trivial (Below.refl _ _) (Nat.le_refl _) (by simp) ?_;(case hd => rfl);(case hg => rfl);(case hr => first | (go_simp;done) | (go_simp;rfl));(case hp => exact (Reps.one (show Kd.M (Kd.int .i64) _ _ _ 6 [.int .i64 6] from rfl) (Reps.one (show Kd.M (Kd.int .i64) _ _ _ 0 [.int .i64 0] from rfl) (Reps.none _ _))));intro v285 w4 ho5 hb hg_ hnew_;clear hg_ hnew_;(first | rw [← Ny284.out] at ho5 | (simp only [Int.reduceToNat] at ho5;rw [← Ny284.out] at ho5));have HO286:=am_ (Kd.R_lower (Kd.R_new' (Kd.R_newM (M:=fun k_ => (w.heap.size ≤ k_)) ho5 (bz_ HB) (fun k_ h_ => h_)) (Kd.R_lt (ru_ HO283))) (bz_ HB));replace HO283:=am_ (Kd.R_elder' (ru_ HO283) (Kd.R_base ho5) hb);replace BK280:=bb_ BK280 hb;replace HB:=am_ (below_step (by repeat (first | (with_reducible first | exact HB.out | apply b1_|apply b2_|apply b3_ | refine below_set ?_ GE280.out) | exact HB.out)) hb);clear hb ho5) | ((with_reducible refine gate_dst (N:=3) rfl ?_);refine Kd.R_lit (Kd.int .i64) _ 3 ?hg (N:=3) ?hd (xs:=([5, 4] : List Int)) (inner:=[.int .i64 5, .int .i64 4]) (ok:=fun _ => True) (okp:=fun _ => True) ?hr ?hp (fun _ hk => hk) trivial (Below.refl _ _) (Nat.le_refl _) (by simp) ?_;(case hd => rfl);(case hg => rfl);(case hr => first | (go_simp;done) | (go_simp;rfl));(case hp => exact (Reps.one (show Kd.M (Kd.int .i64) _ _ _ 5 [.int .i64 5] from rfl) (Reps.one (show Kd.M (Kd.int .i64) _ _ _ 4 [.int .i64 4] from rfl) (Reps.none _ _))));intro v288 w6 ho7 hb hg_ hnew_;clear hg_ hnew_;(first | rw [← Ny287.out] at ho7 | (simp only [Int.reduceToNat] at ho7;rw [← Ny287.out] at ho7));have HO289:=am_ (Kd.R_lower (Kd.R_new' (Kd.R_new' (Kd.R_newM (M:=fun k_ => (w.heap.size ≤ k_)) ho7 (bz_ HB) (fun k_ h_ => h_)) (Kd.R_lt (ru_ HO283))) (Kd.R_lt (ru_ HO286))) (bz_ HB));replace HO283:=am_ (Kd.R_elder' (ru_ HO283) (Kd.R_base ho7) hb);replace HO286:=am_ (Kd.R_elder' (ru_ HO286) (Kd.R_base ho7) hb);replace BK280:=bb_ BK280 hb;replace HB:=am_ (below_step (by repeat (first | (with_reducible first | exact HB.out | apply b1_|apply b2_|apply b3_ | refine below_set ?_ GE280.out) | exact HB.out)) hb);clear hb ho7) | ((with_reducible refine gate_dst (N:=4) rfl ?_);refine Kd.R_lit (Kd.int .i64) _ 3 ?hg (N:=4) ?hd (xs:=([3, 1] : List Int)) (inner:=[.int .i64 3, .int .i64 1]) (ok:=fun _ => True) (okp:=fun _ => True) ?hr ?hp (fun _ hk => hk) trivial (Below.refl _ _) (Nat.le_refl _) (by simp) ?_;(case hd => rfl);(case hg => rfl);(case hr => first | (go_simp;done) | (go_simp;rfl));(case hp => exact (Reps.one (show Kd.M (Kd.int .i64) _ _ _ 3 [.int .i64 3] from rfl) (Reps.one (show Kd.M (Kd.int .i64) _ _ _ 1 [.int .i64 1] from rfl) (Reps.none _ _))));intro v291 w8 ho9 hb hg_ hnew_;clear hg_ hnew_;(first | rw [← Ny290.out] at ho9 | (simp only [Int.reduceToNat] at ho9;rw [← Ny290.out] at ho9));have HO292:=am_ (Kd.R_lower (Kd.R_new' (Kd.R_new' (Kd.R_new' (Kd.R_newM (M:=fun k_ => (w.heap.size ≤ k_)) ho9 (bz_ HB) (fun k_ h_ => h_)) (Kd.R_lt (ru_ HO283))) (Kd.R_lt (ru_ HO286))) (Kd.R_lt (ru_ HO289))) (bz_ HB));replace HO283:=am_ (Kd.R_elder' (ru_ HO283) (Kd.R_base ho9) hb);replace HO286:=am_ (Kd.R_elder' (ru_ HO286) (Kd.R_base ho9) hb);replace HO289:=am_ (Kd.R_elder' (ru_ HO289) (Kd.R_base ho9) hb);replace BK280:=bb_ BK280 hb;replace HB:=am_ (below_step (by repeat (first | (with_reducible first | exact HB.out | apply b1_|apply b2_|apply b3_ | refine below_set ?_ GE280.out) | exact HB.out)) hb);clear hb ho9;obtain ⟨Ao10, co10, eo10⟩:=Kd.R_slice HO286.out;subst eo10;obtain ⟨Ao11, co11, eo11⟩:=Kd.R_slice HO289.out;subst eo11;obtain ⟨Ao12, co12, eo12⟩:=Kd.R_slice HO292.out;subst eo12) | ((with_reducible refine gate_dst (N:=5) rfl ?_);refine Kd.N_lit (Kd.slice 3 (Kd.int .i64)) _ 25 ?hg (N':=5) ?hd (xs:=([y284, y287, y290] : List (List Int))) (inner:=[.slice Ao10 y284.length co10, .slice Ao11 y287.length co11, .slice Ao12 y290.length co12]) (ok:=(fun k_ => (w.heap.size ≤ k_) ∧ some k_ ≠ (v282 : Value).ownBlock ∧ k_ ≠ gb280)) (okp:=(fun k_ => (w.heap.size ≤ k_) ∧ some k_ ≠ (v282 : Value).ownBlock ∧ k_ ≠ gb280)) ?hr ?hp (fun _ hk => hk) ((show ∀ k_, w8.heap.size ≤ k_ → (fun k_ => (w.heap.size ≤ k_) ∧ some k_ ≠ (v282 : Value).ownBlock ∧ k_ ≠ gb280) k_ from fun k_ hk => ⟨(Nat.le_trans (bz_ HB) hk), Kd.fresh' (Kd.R_lt (ru_ HO283)) k_ hk, Kd.freshB (g:=gb280) (o:=.cells #[.slice none 0 0, .slice none 0 0, .slice none 0 0, .int .i64 0] 28 (0, 0)) (bu_ BK280) k_ hk⟩) _ (Nat.le_refl _)) (Below.refl _ _) (Nat.le_refl _) (by simp) ?_;(case hd => rfl);(case hg => rfl);(case hr => first | (go_simp;done) | (go_simp;rfl));(case hp => exact (Reps.one (show Kd.FK (Kd.slice 3 (Kd.int .i64)) _ _ y284 [.slice Ao10 y284.length co10] from (Kd.FK_slice_mk (Kd.R_reads' (Kd.R_mono (ok':=(fun k_ => (w.heap.size ≤ k_) ∧ some k_ ≠ (v282 : Value).ownBlock ∧ k_ ≠ gb280)) (Kd.R_types (HO286.out) BK280.out (by decide)) (fun k_ hk => ⟨hk.1.1.1.1.1, ⟨hk.1.1.1.2, hk.2⟩⟩))).2.1 (Kd.R_F (Kd.R_mono (ok':=(fun k_ => (w.heap.size ≤ k_) ∧ some k_ ≠ (v282 : Value).ownBlock ∧ k_ ≠ gb280)) (Kd.R_types (HO286.out) BK280.out (by decide)) (fun k_ hk => ⟨hk.1.1.1.1.1, ⟨hk.1.1.1.2, hk.2⟩⟩))))) (Reps.one (show Kd.FK (Kd.slice 3 (Kd.int .i64)) _ _ y287 [.slice Ao11 y287.length co11] from (Kd.FK_slice_mk (Kd.R_reads' (Kd.R_mono (ok':=(fun k_ => (w.heap.size ≤ k_) ∧ some k_ ≠ (v282 : Value).ownBlock ∧ k_ ≠ gb280)) (Kd.R_types (HO289.out) BK280.out (by decide)) (fun k_ hk => ⟨hk.1.1.1.1.1, ⟨hk.1.1.1.2, hk.2⟩⟩))).2.1 (Kd.R_F (Kd.R_mono (ok':=(fun k_ => (w.heap.size ≤ k_) ∧ some k_ ≠ (v282 : Value).ownBlock ∧ k_ ≠ gb280)) (Kd.R_types (HO289.out) BK280.out (by decide)) (fun k_ hk => ⟨hk.1.1.1.1.1, ⟨hk.1.1.1.2, hk.2⟩⟩))))) (Reps.one (show Kd.FK (Kd.slice 3 (Kd.int .i64)) _ _ y290 [.slice Ao12 y290.length co12] from (Kd.FK_slice_mk (Kd.R_reads' (Kd.R_mono (ok':=(fun k_ => (w.heap.size ≤ k_) ∧ some k_ ≠ (v282 : Value).ownBlock ∧ k_ ≠ gb280)) (Kd.R_types (HO292.out) BK280.out (by decide)) (fun k_ hk => ⟨hk.1.1.1.1.1, ⟨hk.1.1.1.2, hk.2⟩⟩))).2.1 (Kd.R_F (Kd.R_mono (ok':=(fun k_ => (w.heap.size ≤ k_) ∧ some k_ ≠ (v282 : Value).ownBlock ∧ k_ ≠ gb280)) (Kd.R_types (HO292.out) BK280.out (by decide)) (fun k_ hk => ⟨hk.1.1.1.1.1, ⟨hk.1.1.1.2, hk.2⟩⟩))))) (Reps.none _ _)))));intro v294 w13 ho14 hb hg_ hnew_;clear hg_ hnew_;(first | rw [← Ny293.out] at ho14 | (simp only [Int.reduceToNat] at ho14;rw [← Ny293.out] at ho14));replace HO283:=rb_ HO283 hb;have HO295:=am_ (Kd.N_lower ho14 (bz_ HB));replace BK280:=bb_ BK280 hb;replace HB:=am_ (below_step (by repeat (first | (with_reducible first | exact HB.out | apply b1_|apply b2_|apply b3_ | refine below_set ?_ GE280.out) | exact HB.out)) hb);clear HO286 HO289 HO292;clear hb ho14) | ((with_reducible refine gate_dst (N:=6) rfl ?_);refine Kd.R_lit (Kd.int .i64) _ 3 ?hg (N:=6) ?hd (xs:=([2, 3, 1] : List Int)) (inner:=[.int .i64 2, .int .i64 3, .int .i64 1]) (ok:=fun _ => True) (okp:=fun _ => True) ?hr ?hp (fun _ hk => hk) trivial (Below.refl _ _) (Nat.le_refl _) (by simp) ?_;(case hd => rfl);(case hg => rfl);(case hr => first | (go_simp;done) | (go_simp;rfl));(case hp => exact (Reps.one (show Kd.M (Kd.int .i64) _ _ _ 2 [.int .i64 2] from rfl) (Reps.one (show Kd.M (Kd.int .i64) _ _ _ 3 [.int .i64 3] from rfl) (Reps.one (show Kd.M (Kd.int .i64) _ _ _ 1 [.int .i64 1] from rfl) (Reps.none _ _)))));intro v297 w15 ho16 hb hg_ hnew_;clear hg_ hnew_;(first | rw [← Ny296.out] at ho16 | (simp only [Int.reduceToNat] at ho16;rw [← Ny296.out] at ho16));replace HO295:=am_ (Kd.N_elder' (nu_ HO295) (Kd.R_base ho16) hb);have HO298:=am_ (Kd.R_lower (Kd.R_new' (Kd.R_newM (M:=fun k_ => (w.heap.size ≤ k_)) ho16 (bz_ HB) (fun k_ h_ => h_)) (Kd.R_lt (ru_ HO283))) (bz_ HB));replace HO283:=am_ (Kd.R_elder' (ru_ HO283) (Kd.R_base ho16) hb);replace BK280:=bb_ BK280 hb;replace HB:=am_ (below_step (by repeat (first | (with_reducible first | exact HB.out | apply b1_|apply b2_|apply b3_ | refine below_set ?_ GE280.out) | exact HB.out)) hb);clear hb ho16;obtain ⟨Ao17, co17, eo17⟩:=Kd.R_slice HO298.out;subst eo17;obtain ⟨Ao18, co18, eo18⟩:=Kd.N_slice HO295.out;subst eo18;obtain ⟨Ao19, co19, eo19⟩:=Kd.R_slice HO283.out;subst eo19;obtain ⟨hcz20_0, hcz20_1, hcz20_2, hcz20_3⟩:=c4_ BK280.out;obtain ⟨hfz20_0, hfz20_1, hfz20_2, hfz20_3⟩:=z4_ BK280.out))
 refine bodyPost_ret (results_cell_row rfl _ _ gb280 28 #[.slice Ao19 y281.length co19, .slice Ao18 y293.length co18, .slice Ao17 y296.length co17, .int .i64 5] (0, 0) _ rfl (by (with_reducible repeat first|apply q1_|apply q2_|apply q3_);refine blk_put (cs:=#[.slice Ao19 y281.length co19, .slice Ao18 y293.length co18, .slice Ao17 y296.length co17, .int .i64 0]) ?_ 3 _ rfl;(with_reducible repeat first|apply q1_|apply q2_|apply q3_);refine blk_put (cs:=#[.slice Ao19 y281.length co19, .slice Ao18 y293.length co18, .slice none 0 0, .int .i64 0]) ?_ 2 _ rfl;(with_reducible repeat first|apply q1_|apply q2_|apply q3_);refine blk_put (cs:=#[.slice Ao19 y281.length co19, .slice none 0 0, .slice none 0 0, .int .i64 0]) ?_ 1 _ rfl;(with_reducible repeat first|apply q1_|apply q2_|apply q3_);refine blk_put (cs:=#[.slice none 0 0, .slice none 0 0, .slice none 0 0, .int .i64 0]) ?_ 0 _ rfl;(with_reducible repeat first|apply q1_|apply q2_|apply q3_);exact BK280.out) Tryd.underlying28 rfl (by kernel_rfl)) rfl ?_;exact ⟨_, _, _, by first | rfl | (simp [errW_none, errW_some] <;> rfl) | (simp [*, errW_none, errW_some] <;> rfl), by (with_reducible repeat (first | apply Kd.R_alloc | apply Kd.R_drewN | apply Kd.R_drew));exact Kd.R_mono (Kd.R_far (p:=⟨gb280, 3, none⟩) (Kd.R_far (p:=⟨gb280, 2, none⟩) (Kd.R_far (p:=⟨gb280, 1, none⟩) (Kd.R_far (p:=⟨gb280, 0, none⟩) (Kd.R_types HO283.out BK280.out (by decide)) (fun _ hk => hk.2) (.slice Ao19 y281.length co19)) (fun _ hk => hk.2) (.slice Ao18 y293.length co18)) (fun _ hk => hk.2) (.slice Ao17 y296.length co17)) (fun _ hk => hk.2) (.int .i64 5)) (fun _ hk => ⟨hk.1.1.1.1.1.1, hk.1.2⟩), by (with_reducible repeat (first | apply Kd.N_alloc | apply Kd.N_drewN | apply Kd.N_drew));exact Kd.N_mono (Kd.N_far (p:=⟨gb280, 3, none⟩) (Kd.N_far (p:=⟨gb280, 2, none⟩) (Kd.N_far (p:=⟨gb280, 1, none⟩) (Kd.N_far (p:=⟨gb280, 0, none⟩) (Kd.N_mono HO295.out (fun k_ hk => (⟨hk, hk.1.2.2⟩ : _ ∧ k_ ≠ gb280))) (fun _ hk => hk.2) (.slice Ao19 y281.length co19)) (fun _ hk => hk.2) (.slice Ao18 y293.length co18)) (fun _ hk => hk.2) (.slice Ao17 y296.length co17)) (fun _ hk => hk.2) (.int .i64 5)) (fun _ hk => ⟨hk.1.1.1, ⟨hk.1.1.2.1, hk.1.2⟩⟩), by (with_reducible repeat (first | apply Kd.R_alloc | apply Kd.R_drewN | apply Kd.R_drew));exact Kd.R_mono (Kd.R_far (p:=⟨gb280, 3, none⟩) (Kd.R_far (p:=⟨gb280, 2, none⟩) (Kd.R_far (p:=⟨gb280, 1, none⟩) (Kd.R_far (p:=⟨gb280, 0, none⟩) (Kd.R_types HO298.out BK280.out (by decide)) (fun _ hk => hk.2) (.slice Ao19 y281.length co19)) (fun _ hk => hk.2) (.slice Ao18 y293.length co18)) (fun _ hk => hk.2) (.slice Ao17 y296.length co17)) (fun _ hk => hk.2) (.int .i64 5)) (fun _ hk => ⟨hk.1.1.1, hk.1.2⟩), by repeat (first | (with_reducible first | exact HB.out | apply b1_|apply b2_|apply b3_ | refine below_set ?_ GE280.out) | exact HB.out)⟩

/-! ### diapasonlaw27_works: function 25 -/
theorem diapasonlaw27_works.made : cert_Make.f 40 [10, 4] [[6, 0], [5, 4], [3, 1]] [2, 3, 1] 5 = some ([0, 1], 1, 5, [(⟨[1, 1], 1⟩ : S66), ⟨[1, 2], 4⟩, ⟨[2], 2⟩], 0) := by kernel_rfl
theorem diapasonlaw27_works.wrote : cert_Write.f [(⟨[1, 1], 1⟩ : S66), ⟨[1, 2], 4⟩, ⟨[2], 2⟩] = (⟨#[49, 49, 32, 49, 10, 49, 50, 32, 52, 10, 50, 32, 50, 10]⟩, 0) := by
  have h : cert_Write.text [(⟨[1, 1], 1⟩ : S66), ⟨[1, 2], 4⟩, ⟨[2], 2⟩] = [49, 49, 32, 49, 10, 49, 50, 32, 52, 10, 50, 32, 50, 10] := by
    simp only [cert_Write.text, List.flatMap_cons, List.flatMap_nil, Ct.lineL, Ct.body, Ct.head, Ct.digs]
    rw [show Lib.decDigits (1 : Int).toNat = _ from Lib.decDigits_one (by decide), show Lib.decDigits (4 : Int).toNat = _ from Lib.decDigits_one (by decide), show Lib.decDigits (2 : Int).toNat = _ from Lib.decDigits_one (by decide)]
    decide
  unfold cert_Write.f
  rw [if_neg (by decide), if_pos (by decide), h]
set_option maxHeartbeats 40000000 in
set_option maxRecDepth 100000 in
theorem diapasonlaw27_works.calls (w : World) (ht : Tab w) : Calls Tryd.prog 25 #[] w fun e w' => e = .returned (.bool true) ∧ Below w.heap.size w w' := by
  have hu28 := Tryd.underlying28
  have hu31 := Tryd.underlying31
  have HT := Aside0.mk ht
  have HM := Aside0.mk diapasonlaw27_works.made
  have HW := Aside0.mk diapasonlaw27_works.wrote
  clear ht
  obtain ⟨L, hL⟩ : ∃ L, L = [(⟨[1, 1], 1⟩ : S66), ⟨[1, 2], 4⟩, ⟨[2], 2⟩] := ⟨_, rfl⟩
  rw [← hL] at HM HW
  clear hL
  go_enter Tryd.func25, Tryd.ntmps25
  go_wp2_with (first
    | (go_at_call 34
       refine (diapasonlaw27_example.calls _ _ _ _ w rfl).mono ?_
       rintro e w1 ⟨v0, v1, v2, rfl, h0, h1, h2, hb⟩
       obtain ⟨A0, c0, rfl⟩ := Kd.R_slice h0
       obtain ⟨A1, c1, rfl, g1, j1⟩ := Kd.N_reads h1
       obtain ⟨A2, c2, rfl⟩ := Kd.R_slice h2
       have H0 := Aside0.mk (Kd.R_reads' h0)
       have H1 := Aside0.mk (And.intro g1 j1)
       have H2 := Aside0.mk (Kd.R_reads' h2)
       have HB := Aside0.mk hb
       clear h0 h1 h2 hb g1 j1)
    | (go_at_call 11
       refine (cert_Make.calls 40 A0 c0 _ A1 c1 _ A2 c2 _ 5 [0, 1] 1 5 L 0 w1 H0.out.2.2 H0.out.2.1 H1.out.2 H1.out.1 H2.out.2.2 H2.out.2.1 HM.out).mono ?_
       rintro e w2 ⟨v0, v3, rfl, h0, h3, hb⟩
       obtain ⟨A3, c3, rfl⟩ := Kd.R_slice h0
       obtain ⟨A4, c4, rfl⟩ := Kd.R_slice h3
       have H4 := Aside0.mk (Kd.R_reads' h3)
       have HB2 := Aside0.mk (below_step HB.out hb)
       clear h0 h3 hb)
    | (go_at_call 13
       refine (cert_Write.calls A4 c4 L _ (by first | exact H4.out.2.2 | exact Kd.C_alloc H4.out.2.2 _) H4.out.2.1 (HT.out.step (by first | exact HB2.out | exact below_alloc HB2.out _))).mono ?_
       rw [HW.out]
       rintro e w3 ⟨rfl, hb⟩
       have HB3 : Aside0 (Below w.heap.size w w3) := ⟨by first | exact below_step HB2.out hb | exact below_step (below_alloc HB2.out _) hb⟩
       have k3 := blk_below (blk_new w2 (.cells #[.slice A3 ([0, 1] : List Int).length c3, .int .i64 1, .int .i64 5] 31 (0, 0))) hb
       have k31 : w3.cell? ⟨w2.heap.size, 1, none⟩ = some (.int .i64 1) := (blk_cell k3 1).trans rfl
       have k32 : w3.cell? ⟨w2.heap.size, 2, none⟩ = some (.int .i64 5) := (blk_cell k3 2).trans rfl
       clear hb k3))
  go_ret
  exact ⟨rfl, HB3.out⟩


/-! ### diapasonlaw27_CertMakes: function 4 -/
def diapasonlaw27_CertMakes.f (k : Nat) (l0 : List Int) (l1 : List (List Int)) (l2 : List Int) (a3 : Int) : Option Bool :=
  (cert_Make.f k l0 (l1.take (diapasonlaw27_cut.n l1.length)) (l2.take (diapasonlaw27_cut.n l1.length)) a3).bind fun a => (diapasonref27_Make.f k l0 (l1.take (diapasonlaw27_cut.n l1.length)) (l2.take (diapasonlaw27_cut.n l1.length)) a3).bind fun b =>
    (diapasonref26_Same.f k a.1 a.2.1 a.2.2.1 b.1 b.2.1 b.2.2.1).bind fun t1 => (diapasonref27_Same.f k a.2.2.2.1 b.2.2.2.1).bind fun t2 => if t1 = true ∧ t2 = true ∧ a.2.2.2.2 = b.2.2.2.2 then some true else none
set_option maxHeartbeats 40000000 in
set_option maxRecDepth 100000 in
theorem diapasonlaw27_CertMakes.calls (k : Nat) (A0 : Option Addr) (c0 : Nat) (l0 : List Int) (A1 : Option Addr) (c1 : Nat) (l1 : List (List Int)) (A2 : Option Addr) (c2 : Nat) (l2 : List Int) (a3 : Int) (r : Bool) (w : World) (ht : Tab w) (hr0 : Kd.C (Kd.int .i64) w A0 l0.length l0) (hc0 : l0.length ≤ c0) (hr1 : Kd.C (Kd.slice 3 (Kd.int .i64)) w A1 l1.length l1) (hc1 : l1.length ≤ c1) (hr2 : Kd.C (Kd.int .i64) w A2 l2.length l2) (hc2 : l2.length ≤ c2) (h : diapasonlaw27_CertMakes.f k l0 l1 l2 a3 = some r) :
    Calls Tryd.prog 4 #[.agg #[.slice A0 l0.length c0, .slice A1 l1.length c1, .slice A2 l2.length c2, .int .i64 a3]] w fun e w' => e = .returned (.bool r) ∧ Below w.heap.size w w' := by
  have hu28 := Tryd.underlying28
  have hu31 := Tryd.underlying31
  have HT := Aside0.mk ht
  have HR0 := Aside0.mk hr0
  have HR1 := Aside0.mk (Kd.C_take hr1 (m := min (diapasonlaw27_cut.n l1.length) l1.length) (Nat.min_le_right _ _))
  have HR2 := Aside0.mk (Kd.C_take hr2 (m := min (diapasonlaw27_cut.n l1.length) l2.length) (Nat.min_le_right _ _))
  have e1 : l1.take (min (diapasonlaw27_cut.n l1.length) l1.length) = l1.take (diapasonlaw27_cut.n l1.length) := by rw [List.take_eq_take_iff]; omega
  have e2 : l2.take (min (diapasonlaw27_cut.n l1.length) l2.length) = l2.take (diapasonlaw27_cut.n l1.length) := by rw [List.take_eq_take_iff]; omega
  rw [e1] at HR1
  rw [e2] at HR2
  clear e1 e2
  have HC := Aside0.mk (fun W => diapasonlaw27_cut.calls A0 c0 l0 A1 c1 l1 A2 c2 l2 a3 W hc1 hc2 (Kd.C_max hr1) (Kd.C_max hr2))
  unfold diapasonlaw27_CertMakes.f at h
  obtain ⟨⟨p1, p2, p3, p4, p5⟩, AA, h⟩ := Option.bind_eq_some_iff.mp h
  obtain ⟨⟨q1, q2, q3, q4, q5⟩, AB, h⟩ := Option.bind_eq_some_iff.mp h
  obtain ⟨t1, AS, h⟩ := Option.bind_eq_some_iff.mp h
  obtain ⟨t2, AT, h⟩ := Option.bind_eq_some_iff.mp h
  by_cases hq : t1 = true ∧ t2 = true ∧ p5 = q5
  case neg => rw [if_neg hq] at h; cases h
  rw [if_pos hq] at h
  obtain rfl : true = r := by injection h
  obtain ⟨rfl, rfl, rfl⟩ := hq
  simp only at AS AT
  replace AA := Aside0.mk AA
  replace AB := Aside0.mk AB
  replace AS := Aside0.mk AS
  replace AT := Aside0.mk AT
  clear h hr0 hr1 hr2 ht
  have hm1 : (l1.take (diapasonlaw27_cut.n l1.length)).length ≤ c1 := by rw [List.length_take]; omega
  have hm2 : (l2.take (diapasonlaw27_cut.n l1.length)).length ≤ c2 := by rw [List.length_take]; omega
  obtain ⟨m1, em1⟩ : ∃ m1, m1 = l1.take (diapasonlaw27_cut.n l1.length) := ⟨_, rfl⟩
  obtain ⟨m2, em2⟩ : ∃ m2, m2 = l2.take (diapasonlaw27_cut.n l1.length) := ⟨_, rfl⟩
  rw [← em1] at HR1 HC AA AB hm1
  rw [← em2] at HR2 HC AA AB hm2
  clear em1 em2
  go_enter Tryd.func4, Tryd.ntmps4
  go_wp2_with fail
  refine (HC.out _).mono ?_
  rintro e w1 ⟨rfl, hb⟩
  have hz : w1.heap[w.heap.size]? = some (.cells #[.slice A0 l0.length c0, .slice A1 l1.length c1, .slice A2 l2.length c2, .int .i64 a3] 28 (0, 0)) := blk_below (blk_new w _) hb
  have HB1 := Aside0.mk (below_step (below_alloc (Below.refl _ _) _) hb)
  clear hb
  have f0 := blk_frozen hz 0
  have f1 := blk_frozen hz 1
  have f2 := blk_frozen hz 2
  have f3 := blk_frozen hz 3
  have e0 : w1.cell? ⟨w.heap.size, 0, none⟩ = some (.slice A0 l0.length c0) := (blk_cell hz 0).trans rfl
  have e1 : w1.cell? ⟨w.heap.size, 1, none⟩ = some (.slice A1 l1.length c1) := (blk_cell hz 1).trans rfl
  have e2 : w1.cell? ⟨w.heap.size, 2, none⟩ = some (.slice A2 l2.length c2) := (blk_cell hz 2).trans rfl
  have e3 : w1.cell? ⟨w.heap.size, 3, none⟩ = some (.int .i64 a3) := (blk_cell hz 3).trans rfl
  have HZ := Aside0.mk hz
  clear hz
  go_wp2_with fail
  have hz2 := blk_put (blk_put (blk_put (blk_put HZ.out 0 (.slice A0 l0.length c0) rfl) 1 (.slice A1 m1.length c1) rfl) 2 (.slice A2 m2.length c2) rfl) 3 (.int .i64 a3) rfl
  have hb2 := below_set (j := 3) (v := .int .i64 a3) (below_set (j := 2) (v := .slice A2 m2.length c2) (below_set (j := 1) (v := .slice A1 m1.length c1) (below_set (j := 0) (v := .slice A0 l0.length c0) HB1.out (Nat.le_refl _)) (Nat.le_refl _)) (Nat.le_refl _)) (Nat.le_refl _)
  have HB2 := Aside0.mk hb2
  have HZ2 := Aside0.mk hz2
  clear hz2 hb2 HZ
  refine (cert_Make.calls k A0 c0 l0 A1 c1 m1 A2 c2 m2 a3 p1 p2 p3 p4 p5 _ (Kd.C_below HR0.out HB2.out) hc0 (Kd.C_below HR1.out HB2.out) hm1 (Kd.C_below HR2.out HB2.out) hm2 AA.out).mono ?_
  rintro e w2 ⟨v0, v3, rfl, hv, hv3, hb⟩
  obtain ⟨Av, cv, rfl⟩ := Kd.R_slice hv
  obtain ⟨An, cn, rfl⟩ := Kd.R_slice hv3
  have hz2 := blk_below HZ2.out hb
  have HB3 := Aside0.mk (below_step HB2.out hb)
  have HV := Aside0.mk hv
  have HN := Aside0.mk hv3
  clear hb hv hv3 HZ2 HB2
  have f0 := blk_frozen hz2 0
  have f1 := blk_frozen hz2 1
  have f2 := blk_frozen hz2 2
  have f3 := blk_frozen hz2 3
  have e0 : w2.cell? ⟨w.heap.size, 0, none⟩ = some (.slice A0 l0.length c0) := (blk_cell hz2 0).trans rfl
  have e1 : w2.cell? ⟨w.heap.size, 1, none⟩ = some (.slice A1 m1.length c1) := (blk_cell hz2 1).trans rfl
  have e2 : w2.cell? ⟨w.heap.size, 2, none⟩ = some (.slice A2 m2.length c2) := (blk_cell hz2 2).trans rfl
  have e3 : w2.cell? ⟨w.heap.size, 3, none⟩ = some (.int .i64 a3) := (blk_cell hz2 3).trans rfl
  have HZ2 := Aside0.mk hz2
  clear hz2
  have g0 := Lib.cell?_alloc_some (.cells #[.slice Av p1.length cv, .int .i64 p2, .int .i64 p3] 31 (0, 0)) e0
  have g1 := Lib.cell?_alloc_some (.cells #[.slice Av p1.length cv, .int .i64 p2, .int .i64 p3] 31 (0, 0)) e1
  have g2 := Lib.cell?_alloc_some (.cells #[.slice Av p1.length cv, .int .i64 p2, .int .i64 p3] 31 (0, 0)) e2
  have g3 := Lib.cell?_alloc_some (.cells #[.slice Av p1.length cv, .int .i64 p2, .int .i64 p3] 31 (0, 0)) e3
  go_wp2_with fail
  have za := blk_new w2 (.cells #[.slice Av p1.length cv, .int .i64 p2, .int .i64 p3] 31 (0, 0))
  have HB4 := Aside0.mk (below_alloc HB3.out (.cells #[.slice Av p1.length cv, .int .i64 p2, .int .i64 p3] 31 (0, 0)))
  refine (diapasonref27_Make.calls k A0 c0 l0 A1 c1 m1 A2 c2 m2 a3 q1 q2 q3 q4 p5 _ (Kd.C_below HR0.out HB4.out) hc0 (Kd.C_below HR1.out HB4.out) hm1 (Kd.C_below HR2.out HB4.out) hm2 AB.out).mono ?_
  rintro e w3 ⟨v1, v4, rfl, hv', hv4, hb⟩
  obtain ⟨Au, cu, rfl⟩ := Kd.R_slice hv'
  obtain ⟨Am, cm, rfl, hcm, hCm⟩ := Kd.N_reads hv4
  have za := blk_below za hb
  have HB5 := Aside0.mk (below_step HB4.out hb)
  have HV := Aside0.mk (Kd.R_below (Kd.R_below HV.out (below_alloc (Below.refl _ _) _)) hb)
  have HN := Aside0.mk (Kd.R_below (Kd.R_below HN.out (below_alloc (Below.refl _ _) _)) hb)
  have HU := Aside0.mk hv'
  have HM := Aside0.mk hCm
  clear hb hv' hv4 hCm HB4 HB3 g0 g1 g2 g3 e0 e1 e2 e3 f0 f1 f2 f3 HZ2
  have e0 : w3.cell? ⟨w2.heap.size, 0, none⟩ = some (.slice Av p1.length cv) := (blk_cell za 0).trans rfl
  have e1 : w3.cell? ⟨w2.heap.size, 1, none⟩ = some (.int .i64 p2) := (blk_cell za 1).trans rfl
  have e2 : w3.cell? ⟨w2.heap.size, 2, none⟩ = some (.int .i64 p3) := (blk_cell za 2).trans rfl
  clear za
  have g0 := Lib.cell?_alloc_some (.cells #[.slice Au q1.length cu, .int .i64 q2, .int .i64 q3] 31 (0, 0)) e0
  have g1 := Lib.cell?_alloc_some (.cells #[.slice Au q1.length cu, .int .i64 q2, .int .i64 q3] 31 (0, 0)) e1
  have g2 := Lib.cell?_alloc_some (.cells #[.slice Au q1.length cu, .int .i64 q2, .int .i64 q3] 31 (0, 0)) e2
  have HB6 := Aside0.mk (below_alloc HB5.out (.cells #[.slice Au q1.length cu, .int .i64 q2, .int .i64 q3] 31 (0, 0)))
  have HV6 := Aside0.mk (Kd.R_reads' (Kd.R_below HV.out (below_alloc (Below.refl _ _) (.cells #[.slice Au q1.length cu, .int .i64 q2, .int .i64 q3] 31 (0, 0)))))
  have HU6 := Aside0.mk (Kd.R_reads' (Kd.R_below HU.out (below_alloc (Below.refl _ _) (.cells #[.slice Au q1.length cu, .int .i64 q2, .int .i64 q3] 31 (0, 0)))))
  have HN6 := Aside0.mk (Kd.R_reads' (Kd.R_below HN.out (below_alloc (Below.refl _ _) (.cells #[.slice Au q1.length cu, .int .i64 q2, .int .i64 q3] 31 (0, 0)))))
  have HM6 := Aside0.mk (Kd.C_below HM.out (below_alloc (Below.refl _ _) (.cells #[.slice Au q1.length cu, .int .i64 q2, .int .i64 q3] 31 (0, 0))))
  clear HV HU HB5 HN HM
  go_wp2_with fail
  refine (diapasonref26_Same.calls k Av cv p1 p2 p3 Au cu q1 q2 q3 true _ HV6.out.2.2 HV6.out.2.1 HU6.out.2.2 HU6.out.2.1 AS.out).mono ?_
  rintro e w4 ⟨rfl, hb⟩
  have HB7 := Aside0.mk (below_step HB6.out hb)
  have HN7 := Aside0.mk (Kd.C_below HN6.out.2.2 hb)
  have HM7 := Aside0.mk (Kd.C_below HM6.out hb)
  clear hb
  go_wp2_with fail
  refine (diapasonref27_Same.calls k An cn p4 Am cm q4 true _ HN7.out HN6.out.2.1 HM7.out hcm AT.out).mono ?_
  rintro e w5 ⟨rfl, n5, rfl⟩
  have HB8 := Aside0.mk (pw_below_drewN HB7.out n5)
  go_wp2_with fail
  refine (diapasonlaw27_works.calls _ (HT.out.step HB8.out)).mono ?_
  rintro e w6 ⟨rfl, hb⟩
  have HB9 := Aside0.mk (below_step HB8.out hb)
  clear hb
  go_wp2
  go_ret
  exact ⟨rfl, HB9.out⟩

/-- THE ONE PURE STATEMENT of diapasonlaw27_CertMakes: yours. -/
def diapasonlaw27_CertMakes.Pure : Prop := ∀ (l0_0 : List Int) (l0_1 : List (List Int)) (l0_2 : List Int) (a0_3 : Int), l0_0.length ≤ maxLen → l0_0.length * 8 ≤ 140737488351232 → (∀ x_2 ∈ l0_0, (Lit.int .i64 x_2).wf = true) → l0_1.length ≤ maxLen → l0_1.length * 24 ≤ 140737488351232 → (∀ x_3 ∈ l0_1, x_3.length ≤ maxLen ∧ x_3.length * 8 ≤ 140737488351232 ∧ (∀ x_2 ∈ x_3, (Lit.int .i64 x_2).wf = true)) → l0_2.length ≤ maxLen → l0_2.length * 8 ≤ 140737488351232 → (∀ x_2 ∈ l0_2, (Lit.int .i64 x_2).wf = true) → (Lit.int .i64 a0_3).wf = true → ∃ k, diapasonlaw27_CertMakes.f k l0_0 l0_1 l0_2 a0_3 = some true
theorem diapasonlaw27_CertMakes.walk (P : diapasonlaw27_CertMakes.Pure) (A0_0 : Option Addr) (c0_0 : Nat) (l0_0 : List Int) (A0_1 : Option Addr) (c0_1 : Nat) (l0_1 : List (List Int)) (A0_2 : Option Addr) (c0_2 : Nat) (l0_2 : List Int) (a0_3 : Int) (w : World) (ht : Tab w) (hr0_0 : Kd.C (Kd.int .i64) w A0_0 l0_0.length l0_0) (hc0_0 : l0_0.length ≤ c0_0) (hr0_1 : Kd.C (Kd.slice 3 (Kd.int .i64)) w A0_1 l0_1.length l0_1) (hc0_1 : l0_1.length ≤ c0_1) (hr0_2 : Kd.C (Kd.int .i64) w A0_2 l0_2.length l0_2) (hc0_2 : l0_2.length ≤ c0_2) (hw0 : l0_0.length ≤ maxLen) (hw1 : l0_0.length * 8 ≤ 140737488351232) (hw2 : (∀ x_2 ∈ l0_0, (Lit.int .i64 x_2).wf = true)) (hw3 : l0_1.length ≤ maxLen) (hw4 : l0_1.length * 24 ≤ 140737488351232) (hw5 : (∀ x_3 ∈ l0_1, x_3.length ≤ maxLen ∧ x_3.length * 8 ≤ 140737488351232 ∧ (∀ x_2 ∈ x_3, (Lit.int .i64 x_2).wf = true))) (hw6 : l0_2.length ≤ maxLen) (hw7 : l0_2.length * 8 ≤ 140737488351232) (hw8 : (∀ x_2 ∈ l0_2, (Lit.int .i64 x_2).wf = true)) (hw9 : (Lit.int .i64 a0_3).wf = true) :
    Calls Tryd.prog 4 #[.agg #[.slice A0_0 l0_0.length c0_0, .slice A0_1 l0_1.length c0_1, .slice A0_2 l0_2.length c0_2, .int .i64 a0_3]] w fun e w' => e = .returned (.bool true) ∧ Below w.heap.size w w' := by
  obtain ⟨k, h⟩ := P l0_0 l0_1 l0_2 a0_3 hw0 hw1 hw2 hw3 hw4 hw5 hw6 hw7 hw8 hw9
  refine (diapasonlaw27_CertMakes.calls k A0_0 c0_0 l0_0 A0_1 c0_1 l0_1 A0_2 c0_2 l0_2 a0_3 true w ht hr0_0 hc0_0 hr0_1 hc0_1 hr0_2 hc0_2 h).mono ?_
  rintro e w' ⟨rfl, hd⟩
  exact ⟨rfl, hd⟩

end Go.Proofs.YtfcidgnbocijdaaDoor.PCertMakes
