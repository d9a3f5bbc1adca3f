/- A record's bytes are read again: what the program's Read computes of them, whole and cut by one byte. For the statement RecordBack. -/
import Derived.Test.YtfcomoledfdojaaRecARecordBack
set_option linter.unusedVariables false
set_option linter.unusedSimpArgs false
namespace Go.Proofs.Ytfcomoledfdojaa.RecRecordBack
open Go.RowKit Go.Proofs.YtfcomoledfdojaaW.PrintWords Go.Proofs.YtfcomoledfdojaaW.PrintMore Go.Proofs.Ytfcomoledfdojaa.Pl Go.Proofs.Ytfcomoledfdojaa.PRecordBack

def Byte (x : Int) : Prop := 0 ≤ x ∧ x ≤ 255
theorem bt_str (xs : List Int) (hx : ∀ x ∈ xs, Byte x) (i : Nat) (h : i < xs.length) : bt (strOfNums xs) (i : Int) = xs.getD i 0 := by
  have hs : i < (strOfNums xs).size := by rw [strOfNums_size]; exact h
  unfold bt
  rw [dif_pos (by simpa using hs)]
  have e : (strOfNums xs)[(i : Int).toNat]'(by simpa using hs) = UInt8.ofNat (xs[i]).toNat := by
    have e1 : ∀ (hi : i < (strOfNums xs).size), (strOfNums xs)[i]'hi = (strOfNums xs).data.toList[i]'(by simpa using hi) := fun hi => rfl
    have e2 := e1 hs
    simp only [strOfNums_data, List.getElem_map] at e2
    exact e2
  rw [e, List.getD_eq_getElem?_getD, List.getElem?_eq_getElem h, Option.getD_some]
  have := hx _ (List.getElem_mem h)
  unfold Byte at this
  rw [UInt8.toNat_ofNat']
  omega
theorem nx_str {xs : List Int} (hx : ∀ x ∈ xs, Byte x) {pre post : List Int} {b : Int} (e : xs = pre ++ b :: post) : record_Read.nx (strOfNums xs) pre.length = (b, true, pre.length + 1) := by
  have hl : pre.length < xs.length := by rw [e]; simp
  unfold record_Read.nx
  rw [if_pos (by rw [strOfNums_size]; exact hl), bt_str xs hx _ hl]
  rw [e, List.getD_eq_getElem?_getD, List.getElem?_append_right (Nat.le_refl _), Nat.sub_self]; rfl
theorem nx_end {xs : List Int} : record_Read.nx (strOfNums xs) xs.length = (0, false, xs.length) := by
  unfold record_Read.nx
  rw [if_neg (by rw [strOfNums_size]; omega)]
theorem num_str {xs : List Int} (hx : ∀ x ∈ xs, Byte x) : ∀ (v : Nat) (pre post : List Int) (n : Int) (k d : Nat), xs = pre ++ (encN v ++ post) → (encN v).length ≤ d → 0 ≤ n → n < 2 ^ (7 * k) → n + (v : Int) * 2 ^ (7 * k) < 4611686018427387904 → (v ≠ 0 ∨ k = 0) →
    record_Read.num (strOfNums xs) d n pre.length k = (n + (v : Int) * 2 ^ (7 * k), true, pre.length + (encN v).length) := by
  intro v
  induction v using Nat.strongRecOn with
  | _ v ih =>
    intro pre post n k d e hd hn hn2 hlt hv
    have hp : (0 : Int) < 2 ^ (7 * k) := Int.pow_pos (by decide)
    obtain ⟨d, rfl⟩ : ∃ m, d = m + 1 := ⟨d - 1, by
      have : 0 < (encN v).length := by rw [encN]; split <;> simp
      omega⟩
    by_cases h : v < 128
    · rw [encN_lt h] at e
      have hnx := nx_str hx (pre := pre) (b := (v : Int)) (post := post) (by rw [e]; simp)
      have h0 : 0 ≤ (v : Int) * 2 ^ (7 * k) := Int.mul_nonneg (by omega) (by omega)
      have hacc : record_Read.acc n (v : Int) k = n + (v : Int) * 2 ^ (7 * k) := by
        unfold record_Read.acc
        rw [and127 (by omega) (by omega), show (v : Int) % 128 = v by omega]
        exact or_at hn hn2 (by omega) (by omega) (by omega)
      rw [record_Read.num, hnx]
      simp only
      rw [if_pos trivial, if_pos (by omega), hacc, encN_lt h]
      have : (((v : Int) != 0) || (k == 0)) = true := by
        rcases hv with hv | hv
        · have : ((v : Int) != 0) = true := by rw [bne_iff_ne]; omega
          rw [this, Bool.true_or]
        · rw [hv]; simp
      rw [this]; rfl
    · rw [encN_ge h] at e hd
      have hnx := nx_str hx (pre := pre) (b := ((v % 128 + 128 : Nat) : Int)) (post := encN (v / 128) ++ post) (by rw [e]; simp)
      have hq : ((v % 128 : Nat) : Int) * 2 ^ (7 * k) ≤ (v : Int) * 2 ^ (7 * k) := Int.mul_le_mul_of_nonneg_right (by omega) (by omega)
      have h0 : 0 ≤ ((v % 128 : Nat) : Int) * 2 ^ (7 * k) := Int.mul_nonneg (by omega) (by omega)
      have hacc : record_Read.acc n ((v % 128 + 128 : Nat) : Int) k = n + ((v % 128 : Nat) : Int) * 2 ^ (7 * k) := by
        unfold record_Read.acc
        rw [and127 (by omega) (by omega), show ((v % 128 + 128 : Nat) : Int) % 128 = ((v % 128 : Nat) : Int) by omega]
        exact or_at hn hn2 (by omega) (by omega) (by omega)
      have hpow : (2 : Int) ^ (7 * (k + 1)) = 128 * 2 ^ (7 * k) := by
        rw [show 7 * (k + 1) = 7 + 7 * k by omega, Int.pow_add]; rfl
      have hsum : n + ((v % 128 : Nat) : Int) * 2 ^ (7 * k) + ((v / 128 : Nat) : Int) * 2 ^ (7 * (k + 1)) = n + (v : Int) * 2 ^ (7 * k) := by
        have e1 : (v : Int) = ((v % 128 : Nat) : Int) + 128 * ((v / 128 : Nat) : Int) := by omega
        have e2 : (v : Int) * 2 ^ (7 * k) = (((v % 128 : Nat) : Int) + 128 * ((v / 128 : Nat) : Int)) * 2 ^ (7 * k) := by rw [← e1]
        rw [e2, hpow, Int.add_mul, Int.mul_comm 128 ((v / 128 : Nat) : Int), Int.mul_assoc]
        omega
      have hb : n + ((v % 128 : Nat) : Int) * 2 ^ (7 * k) < 2 ^ (7 * (k + 1)) := by
        rw [hpow]
        have : ((v % 128 : Nat) : Int) * 2 ^ (7 * k) ≤ 127 * 2 ^ (7 * k) := Int.mul_le_mul_of_nonneg_right (by omega) (by omega)
        omega
      have hi := ih (v / 128) (by omega) (pre ++ [((v % 128 + 128 : Nat) : Int)]) post (n + ((v % 128 : Nat) : Int) * 2 ^ (7 * k)) (k + 1) d (by rw [e]; simp) (by simp at hd; omega) (by omega) hb (by rw [hsum]; exact hlt) (Or.inl (by omega))
      rw [hsum] at hi
      rw [record_Read.num, hnx]
      simp only
      rw [if_pos trivial, if_neg (by omega), hacc]
      rw [List.length_append, List.length_singleton] at hi
      rw [hi, encN_ge h]
      simp only [List.length_cons, Prod.mk.injEq, true_and]
      omega
theorem ev_back {e : E} {now : Int} (h : Ok e now) (h0 : 0 ≤ now) : record_Read.ev ((val e now : Nat) : Int) now (keyB e) = e := by
  have hA := h.a
  have hM := h.m
  have hK := h.k
  have hv := val_lt h h0
  have hp : (128 : Nat) ^ (5 + 1) = 4398046511104 := by decide
  obtain ⟨a, ⟨m, k⟩, d⟩ := e
  simp only at hA hM hK
  unfold record_Read.ev
  rw [and1 (by omega) (by omega)]
  unfold keyB
  simp only
  have e1 : ((val (⟨a, ⟨m, k⟩, d⟩ : E) now : Nat) : Int) / 2 = a - now := by unfold val; simp only; split <;> omega
  rw [e1, wrapU (by omega) (by omega)]
  have e2 : (m * 64 + k) / 64 = m := by omega
  have e3 : (m * 64 + k) % 64 = k := by omega
  rw [e2, e3, show now + (a - now) = a by omega]
  have e4 : (((val (⟨a, ⟨m, k⟩, d⟩ : E) now : Nat) : Int) % 2 == 1) = d := by
    cases d
    · rw [beq_eq_false_iff_ne]; unfold val; simp
    · rw [beq_iff_eq]; unfold val; simp
  rw [e4]
theorem read_loop {xs : List Int} (hx : ∀ x ∈ xs, Byte x) : ∀ (l : List E) (pre tail : List Int) (out : List E) (now : Int) (S : List (Int × Int)) (k : Nat), xs = pre ++ (enc l now ++ tail) → 0 ≤ now → RecOk l now S → out.length + l.length ≤ 16384 →
    record_Read.l0 (strOfNums xs) (k + l.length) pre.length out now = record_Read.l0 (strOfNums xs) k (pre.length + (enc l now).length) (out ++ l) (lastNow l now)
  | [], pre, tail, out, now, S, k, e, h0, hg, hl => by simp [enc, lastNow]
  | x :: t, pre, tail, out, now, S, k, e, h0, hg, hl => by
    obtain ⟨g1, g2⟩ := hg
    obtain ⟨o, _⟩ := ok_of g1
    have hlen := enc_len o h0
    have hvl := val_lt o h0
    have hp : (128 : Nat) ^ (5 + 1) = 4398046511104 := by decide
    have hA := o.a
    have hnum := num_str hx (val x now) pre (keyB x :: (enc t x.f0 ++ tail)) 0 0 10 (by rw [e]; simp [enc]) (by omega) (by omega) (by decide) (by simp; omega) (Or.inr rfl)
    have hnx := nx_str hx (pre := pre ++ encN (val x now)) (b := keyB x) (post := enc t x.f0 ++ tail) (by rw [e]; simp [enc])
    have hlt : pre.length < (strOfNums xs).size := by rw [strOfNums_size, e]; simp [enc]; omega
    have hev := ev_back o h0
    have e1 : ((val x now : Nat) : Int) / 2 = x.f0 - now := by unfold val; split <;> omega
    have hi := read_loop hx t (pre ++ (encN (val x now) ++ [keyB x])) tail (out ++ [x]) x.f0 _ k (by rw [e]; simp [enc]) (by omega) g2 (by simp at hl ⊢; omega)
    simp only [Nat.mul_zero, Int.pow_zero, Int.mul_one, Int.zero_add] at hnum
    rw [List.length_append] at hnx
    rw [show k + (x :: t).length = (k + t.length) + 1 by simp; omega]
    rw [record_Read.l0, if_pos hlt, hnum]
    simp only
    rw [if_pos trivial, hnx]
    simp only
    rw [if_pos trivial, hev, e1, wrapU (by omega) (by omega), if_neg (by omega), if_neg (by simp at hl; omega)]
    rw [show now + (x.f0 - now) = x.f0 by omega]
    rw [show pre.length + (encN (val x now)).length + 1 = (pre ++ (encN (val x now) ++ [keyB x])).length by simp; omega]
    rw [hi]
    simp only [lastNow, enc, List.append_assoc, List.singleton_append, List.length_append, List.length_cons, List.length_singleton, List.length_nil, List.nil_append, List.cons_append]
    congr 1
    omega
theorem enc_range : ∀ (l : List E) (now : Int) (S : List (Int × Int)), 0 ≤ now → RecOk l now S → ∀ x ∈ enc l now, Byte x
  | [], _, _, _, _, x, hx => by cases hx
  | e :: t, now, S, h0, hg, x, hx => by
    obtain ⟨g1, g2⟩ := hg
    obtain ⟨o, _⟩ := ok_of g1
    simp only [enc] at hx
    rcases List.mem_append.1 hx with hx | hx
    · exact encN_range _ x hx
    · rcases List.mem_cons.1 hx with rfl | hx
      · exact keyB_range o
      · exact enc_range t e.f0 _ (by have := o.a; omega) g2 x hx
theorem enc_len_all : ∀ (l : List E) (now : Int) (S : List (Int × Int)), 0 ≤ now → RecOk l now S → (enc l now).length ≤ 7 * l.length
  | [], _, _, _, _ => by simp [enc]
  | e :: t, now, S, h0, hg => by
    obtain ⟨g1, g2⟩ := hg
    obtain ⟨o, _⟩ := ok_of g1
    have := enc_len o h0
    have := enc_len_all t e.f0 _ (by have := o.a; omega) g2
    simp only [enc, List.length_append, List.length_cons]
    omega
theorem read {l : List E} (hl : l.length ≤ 16384) (hg : RecOk l 0 []) : Ev (fun k => record_Read.f k (strOfNums (enc l 0))) (l, 0) := by
  have hr := enc_range l 0 [] (by omega) hg
  have hn := enc_len_all l 0 [] (by omega) hg
  refine ⟨l.length + 1, fun k hk => ?_⟩
  show record_Read.f k (strOfNums (enc l 0)) = some (l, 0)
  obtain ⟨k', rfl⟩ : ∃ m, k = (m + 1) + l.length := ⟨k - 1 - l.length, by omega⟩
  unfold record_Read.f
  rw [if_pos (by rw [strOfNums_size]; omega)]
  have := read_loop hr l [] [] [] 0 [] (k' + 1) (by simp) (by omega) hg (by simpa using hl)
  simp only [List.length_nil, Nat.zero_add, List.nil_append] at this
  rw [this, record_Read.l0, if_neg (by rw [strOfNums_size]; omega), check_good hg hl]
  rfl
theorem read_cut {l : List E} {e : E} (hl : (l ++ [e]).length ≤ 16384) (hg : RecOk (l ++ [e]) 0 []) : Ev (fun k => record_Read.f k (strOfNums (enc l 0 ++ encN (val e (lastNow l 0))))) ([], 6) := by
  obtain ⟨g1, g2⟩ := (good_app l [e] 0 []).1 hg
  obtain ⟨o, _⟩ := ok_of g2.1
  have h0 : 0 ≤ lastNow l 0 := by
    have : ∀ (l : List E) (now : Int) (S : List (Int × Int)), 0 ≤ now → RecOk l now S → 0 ≤ lastNow l now := by
      intro l
      induction l with
      | nil => intro now S h _; exact h
      | cons x t ih =>
        intro now S h hg
        obtain ⟨o, _⟩ := ok_of hg.1
        exact ih x.f0 _ (by have := o.a; omega) hg.2
    exact this l 0 [] (by omega) g1
  have hr := enc_range l 0 [] (by omega) g1
  have hn := enc_len_all l 0 [] (by omega) g1
  have hlen := enc_len o h0
  have hvl := val_lt o h0
  have hp : (128 : Nat) ^ (5 + 1) = 4398046511104 := by decide
  have hb : ∀ x ∈ enc l 0 ++ encN (val e (lastNow l 0)), Byte x := fun x hx => by
    rcases List.mem_append.1 hx with hx | hx
    · exact hr x hx
    · exact encN_range _ x hx
  have h1 : 0 < (encN (val e (lastNow l 0))).length := by rw [encN]; split <;> simp
  refine ⟨l.length + 1, fun k hk => ?_⟩
  show record_Read.f k (strOfNums (enc l 0 ++ encN (val e (lastNow l 0)))) = some ([], 6)
  obtain ⟨k', rfl⟩ : ∃ m, k = (m + 1) + l.length := ⟨k - 1 - l.length, by omega⟩
  simp only [List.length_append, List.length_singleton] at hl
  unfold record_Read.f
  rw [if_pos (by rw [strOfNums_size]; simp; omega)]
  have := read_loop hb l [] (encN (val e (lastNow l 0))) [] 0 [] (k' + 1) (by simp) (by omega) g1 (by simp; omega)
  simp only [List.length_nil, Nat.zero_add, List.nil_append] at this
  rw [this]
  have hnum := num_str hb (val e (lastNow l 0)) (enc l 0) [] 0 0 10 (by simp) (by omega) (by omega) (by decide) (by simp; omega) (Or.inr rfl)
  have hnx := nx_end (xs := enc l 0 ++ encN (val e (lastNow l 0)))
  rw [List.length_append] at hnx
  rw [record_Read.l0, if_pos (by rw [strOfNums_size]; simp; omega), hnum]
  simp only
  rw [if_pos trivial, hnx]
  simp only
  rw [if_neg (by simp)]
end Go.Proofs.Ytfcomoledfdojaa.RecRecordBack
