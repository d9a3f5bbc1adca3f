/- Records of what was played: which may be, their bytes, and how these are read again. What the program's Check, Write and Read compute, for the statement RecordTells. -/
import Derived.Test.YtfcomoledfdojaaEv
import Derived.Test.YtfcomoledfdojaaPRecordTellsx
set_option linter.unusedVariables false
set_option linter.unusedSimpArgs false
namespace Go.Proofs.Ytfcomoledfdojaa.RecRecordTells
open Go.RowKit Go.Proofs.YtfcomoledfdojaaW.PrintWords Go.Proofs.YtfcomoledfdojaaW.PrintMore Go.Proofs.Ytfcomoledfdojaa.Pl Go.Proofs.Ytfcomoledfdojaa.PRecordTells

/-! ### numbers -/
theorem wrapU {x : Int} (h0 : 0 ≤ x) (h : x < 18446744073709551616) : IntKind.u64.wrap x = x := by
  simp only [IntKind.wrap, IntKind.bits, IntKind.signed]
  simp
  omega
theorem hk63 (n : Int) (h0 : 0 ≤ n) (h : n < 2 ^ 63) : IntKind.u64.wrap n = n := wrapU h0 (by omega)
theorem or1 (v : Nat) (h : v < 4611686018427387904) : Go.bits .or .u64 ((v : Int) * 2) 1 = 2 * (v : Int) + 1 := by
  have := bits_join .u64 63 (by decide) hk63 1 ((v : Int) * 2) 1 (by omega) (by simp) (by omega) (by decide) (by decide) (by decide)
  omega
theorem or_at {n b : Int} {k : Nat} (hn : 0 ≤ n) (hn2 : n < 2 ^ (7 * k)) (hb : 0 ≤ b) (hx : b * 2 ^ (7 * k) < 4611686018427387904) (hn3 : n < 4611686018427387904) : Go.bits .or .u64 n (IntKind.u64.wrap (IntKind.u64.wrap b * 2 ^ (7 * k))) = n + b * 2 ^ (7 * k) := by
  have hp : (0 : Int) < 2 ^ (7 * k) := Int.pow_pos (by decide)
  have hb1 : b * 1 ≤ b * 2 ^ (7 * k) := Int.mul_le_mul_of_nonneg_left (by omega) hb
  have h0 : 0 ≤ b * 2 ^ (7 * k) := Int.mul_nonneg hb (by omega)
  rw [wrapU hb (by omega), wrapU h0 (by omega)]
  obtain ⟨a, rfl⟩ := Int.eq_ofNat_of_zero_le hn
  obtain ⟨c, rfl⟩ := Int.eq_ofNat_of_zero_le hb
  have e : ((c : Int) * 2 ^ (7 * k)) = ((c * 2 ^ (7 * k) : Nat) : Int) := by push_cast; rfl
  rw [e] at hx ⊢
  have ha2 : a < 2 ^ (7 * k) := by exact_mod_cast hn2
  have h63 : (2 : Nat) ^ 63 = 9223372036854775808 := by decide
  rw [(bits_nat .u64 63 (by decide) hk63 a (c * 2 ^ (7 * k)) (by omega) (by omega)).2]
  rw [Nat.or_comm, Nat.mul_comm c, ← Nat.two_pow_add_eq_or_of_lt ha2]
  push_cast
  omega
theorem and127 {b : Int} (h0 : 0 ≤ b) (h : b ≤ 255) : Go.bits .and .u8 b 127 = b % 128 := bits_mask .u8 8 (by decide) wraps_u8 7 (by decide) b h0 (by omega)
theorem and63 {b : Int} (h0 : 0 ≤ b) (h : b ≤ 255) : Go.bits .and .u8 b 63 = b % 64 := bits_mask .u8 8 (by decide) wraps_u8 6 (by decide) b h0 (by omega)
theorem and1 {n : Int} (h0 : 0 ≤ n) (h : n < 4611686018427387904) : Go.bits .and .u64 n 1 = n % 2 := bits_mask .u64 63 (by decide) hk63 1 (by decide) n h0 (by omega)
theorem or128 : ∀ b : Fin 256, Go.bits .or .u8 ((b.val : Nat) : Int) 128 = ((b.val % 128 + 128 : Nat) : Int) := by decide +kernel
theorem or64 : ∀ m : Fin 4, ∀ k : Fin 64, Go.bits .or .i64 (((m.val * 64 : Nat) : Int)) ((k.val : Nat) : Int) = ((m.val * 64 + k.val : Nat) : Int) := by decide +kernel

/-! ### which records may be -/
abbrev E := S45
def RecOk : List E → Int → List (Int × Int) → Prop
  | [], _, _ => True
  | e :: t, now, S => record_Check.ok e now S = true ∧ RecOk t e.f0 (Sets.turn S e.f1.f0 e.f1.f1 e.f2)
structure Ok (e : E) (now : Int) : Prop where
  m : 0 ≤ e.f1.f0 ∧ e.f1.f0 < 4
  k : 0 ≤ e.f1.f1 ∧ e.f1.f1 < 61
  a : now ≤ e.f0 ∧ e.f0 ≤ 1099511627776
theorem ok_of {e : E} {now : Int} {S : List (Int × Int)} (h : record_Check.ok e now S = true) : Ok e now ∧ (S.contains (e.f1.f0, e.f1.f1) != e.f2) = true := by
  unfold record_Check.ok record_Check.right at h
  simp only [Bool.and_eq_true, decide_eq_true_eq, Bool.not_eq_true', decide_eq_false_iff_not] at h
  obtain ⟨⟨⟨⟨⟨⟨h1, h2⟩, h3⟩, h4⟩, h5⟩, h6⟩, h7⟩ := h
  exact ⟨⟨⟨h1, h2⟩, ⟨h3, h4⟩, ⟨by omega, by omega⟩⟩, h7⟩
theorem of_ok {e : E} {now : Int} {S : List (Int × Int)} (h : Ok e now) (h2 : (S.contains (e.f1.f0, e.f1.f1) != e.f2) = true) : record_Check.ok e now S = true := by
  unfold record_Check.ok record_Check.right
  simp only [Bool.and_eq_true, decide_eq_true_eq, Bool.not_eq_true', decide_eq_false_iff_not]
  exact ⟨⟨⟨⟨⟨⟨h.m.1, h.m.2⟩, h.k.1⟩, h.k.2⟩, by have := h.a.1; omega⟩, by have := h.a.2; omega⟩, h2⟩
def lastNow : List E → Int → Int
  | [], now => now
  | e :: t, _ => lastNow t e.f0
def held : List E → List (Int × Int) → List (Int × Int)
  | [], S => S
  | e :: t, S => held t (Sets.turn S e.f1.f0 e.f1.f1 e.f2)
theorem good_check : ∀ (l : List E) (now : Int) (S : List (Int × Int)) (i : Int), RecOk l now S → record_Check.go l now S i = (0, 0)
  | [], _, _, _, _ => rfl
  | e :: t, now, S, i, h => by rw [record_Check.go, if_pos h.1]; exact good_check t _ _ _ h.2
theorem check_good {l : List E} (h : RecOk l 0 []) (hl : l.length ≤ 16384) : record_Check.f l = some (0, 0) := by
  unfold record_Check.f
  rw [if_neg (by omega), good_check l 0 [] 0 h]
theorem good_app : ∀ (l m : List E) (now : Int) (S : List (Int × Int)), RecOk (l ++ m) now S ↔ RecOk l now S ∧ RecOk m (lastNow l now) (held l S)
  | [], m, now, S => by simp [RecOk, lastNow, held]
  | e :: t, m, now, S => by
    simp only [List.cons_append, RecOk, lastNow, held]
    rw [good_app t m]
    exact and_assoc.symm
theorem lastNow_app : ∀ (l m : List E) (now : Int), lastNow (l ++ m) now = lastNow m (lastNow l now)
  | [], m, now => rfl
  | e :: t, m, now => by simp only [List.cons_append, lastNow]; exact lastNow_app t m _
theorem held_app : ∀ (l m : List E) (S : List (Int × Int)), held (l ++ m) S = held m (held l S)
  | [], m, S => rfl
  | e :: t, m, S => by simp only [List.cons_append, held]; exact held_app t m _

/-! ### a record's bytes -/
def encN (v : Nat) : List Int := if v < 128 then [(v : Int)] else ((v % 128 + 128 : Nat) : Int) :: encN (v / 128)
termination_by v
decreasing_by omega
theorem encN_lt {v : Nat} (h : v < 128) : encN v = [(v : Int)] := by rw [encN, if_pos h]
theorem encN_ge {v : Nat} (h : ¬ v < 128) : encN v = ((v % 128 + 128 : Nat) : Int) :: encN (v / 128) := by rw [encN, if_neg h]
theorem encN_len : ∀ (d v : Nat), v < 128 ^ (d + 1) → (encN v).length ≤ d + 1
  | d, v, h => by
    by_cases c : v < 128
    · rw [encN_lt c]; simp
    · rw [encN_ge c]
      obtain ⟨d', rfl⟩ : ∃ d', d = d' + 1 := ⟨d - 1, by
        have : d ≠ 0 := by rintro rfl; simp at h; omega
        omega⟩
      have h2 : v / 128 < 128 ^ (d' + 1) := by
        rw [Nat.div_lt_iff_lt_mul (by decide)]
        rw [Nat.pow_succ] at h
        exact h
      have := encN_len d' (v / 128) h2
      simp only [List.length_cons]
      omega
theorem encN_range : ∀ (v : Nat), ∀ x ∈ encN v, 0 ≤ x ∧ x ≤ 255 := by
  intro v
  induction v using Nat.strongRecOn with
  | _ v ih =>
    intro x hx
    by_cases c : v < 128
    · rw [encN_lt c] at hx
      rw [List.mem_singleton.1 hx]; omega
    · rw [encN_ge c] at hx
      rcases List.mem_cons.1 hx with rfl | hx
      · omega
      · exact ih (v / 128) (by omega) x hx
def val (e : E) (now : Int) : Nat := 2 * (e.f0 - now).toNat + (if e.f2 then 1 else 0)
def keyB (e : E) : Int := e.f1.f0 * 64 + e.f1.f1
def enc : List E → Int → List Int
  | [], _ => []
  | e :: t, now => encN (val e now) ++ keyB e :: enc t e.f0
theorem enc_app : ∀ (l m : List E) (now : Int), enc (l ++ m) now = enc l now ++ enc m (lastNow l now)
  | [], m, now => rfl
  | e :: t, m, now => by simp only [List.cons_append, enc, lastNow, enc_app t m, List.append_assoc]
theorem val_lt {e : E} {now : Int} (h : Ok e now) (h0 : 0 ≤ now) : val e now < 128 ^ (5 + 1) := by
  have := h.a
  have : (128 : Nat) ^ (5 + 1) = 4398046511104 := by decide
  unfold val
  split <;> omega
theorem keyB_range {e : E} {now : Int} (h : Ok e now) : 0 ≤ keyB e ∧ keyB e ≤ 255 := by
  have := h.m; have := h.k; unfold keyB; omega
theorem drop_cons (l : List E) (i : Nat) (h : i < l.length) : l.drop i = rd_T45 l (i : Int) :: l.drop (i + 1) := by
  rw [List.drop_eq_getElem_cons h]
  congr 1
  unfold rd_T45
  rw [Int.toNat_natCast, List.getD_eq_getElem?_getD, List.getElem?_eq_getElem h]; rfl
theorem write_num (l : List E) (n i x7 a b c : Int) (d : Bool) (hb : 0 ≤ b ∧ b < 4) (hc : 0 ≤ c ∧ c < 61) (R : ByteArray × Int) : ∀ (v : Nat) (acc : List Int), v < 9223372036854775808 → acc.length + (encN v).length + 2 < 140737488355328 →
    Ev (fun k => record_Write.l0 k (acc ++ (encN v ++ [b * 64 + c])) x7 l n (wrap64 (i + 1))) R → Ev (fun k => record_Write.l1 k acc x7 (v : Int) l n i a b c d) R := by
  intro v
  induction v using Nat.strongRecOn with
  | _ v ih =>
    intro acc hv hl hR
    refine succ ?_
    simp only [record_Write.l1]
    have o64 : Go.bits .or .i64 (wrap64 (b * 64)) c = b * 64 + c := by
      obtain ⟨b', rfl⟩ := Int.eq_ofNat_of_zero_le hb.1
      obtain ⟨c', rfl⟩ := Int.eq_ofNat_of_zero_le hc.1
      rw [wrapI (by omega) (by omega)]
      have := or64 ⟨b', by omega⟩ ⟨c', by omega⟩
      simp only at this
      push_cast at this
      exact this
    by_cases h : v < 128
    · refine pos (by omega) (some_bnd (pos (by simp only [List.length_cons, List.length_nil]; rw [encN_lt h] at hl; simp at hl; omega) ?_))
      rw [o64]
      rw [encN_lt h] at hR
      rw [show (v : Int) % 256 = v by omega, show (b * 64 + c) % 256 = b * 64 + c by omega]
      exact hR
    · refine neg (by omega) (pos (by omega) ?_)
      rw [encN_ge h] at hR hl
      have o128 : Go.bits .or .u8 ((v : Int) % 256) 128 = ((v % 128 + 128 : Nat) : Int) := by
        have := or128 ⟨v % 256, by omega⟩
        simp only at this
        rw [show (v : Int) % 256 = ((v % 256 : Nat) : Int) by omega, this]
        omega
      rw [o128, show (v : Int) / 128 = ((v / 128 : Nat) : Int) by omega]
      refine ih (v / 128) (by omega) _ (by omega) (by simp at hl ⊢; omega) ?_
      simpa using hR
theorem enc_len {e : E} {now : Int} (h : Ok e now) (h0 : 0 ≤ now) : (encN (val e now)).length ≤ 6 := encN_len 5 _ (val_lt h h0)
theorem write_loop (l : List E) (hl : l.length ≤ 16384) : ∀ (d i : Nat) (acc : List Int) (now : Int) (S : List (Int × Int)), l.length - i = d → i ≤ l.length → 0 ≤ now → acc.length ≤ 10 * i → RecOk (l.drop i) now S →
    Ev (fun k => record_Write.l0 k acc now l (l.length : Int) (i : Int)) (strOfNums (acc ++ enc (l.drop i) now), 0) := by
  intro d
  induction d with
  | zero =>
    intro i acc now S hd hi h0 ha hg
    refine succ ?_
    simp only [record_Write.l0]
    refine neg (by omega) (ret ?_)
    rw [List.drop_of_length_le (by omega)]; simp [enc]
  | succ d ih =>
    intro i acc now S hd hi h0 ha hg
    have hi' : i < l.length := by omega
    rw [drop_cons l i hi'] at hg ⊢
    obtain ⟨g1, g2⟩ := hg
    obtain ⟨o, _⟩ := ok_of g1
    have hlen := enc_len o h0
    have hvl := val_lt o h0
    have hp : (128 : Nat) ^ (5 + 1) = 4398046511104 := by decide
    have hA := o.a
    have hn := ih (i + 1) (acc ++ (encN (val (rd_T45 l i) now) ++ [(rd_T45 l i).f1.f0 * 64 + (rd_T45 l i).f1.f1])) (rd_T45 l i).f0 _ (by omega) (by omega) (by omega) (by simp; omega) g2
    rw [show acc ++ enc (rd_T45 l i :: l.drop (i + 1)) now = acc ++ (encN (val (rd_T45 l i) now) ++ [(rd_T45 l i).f1.f0 * 64 + (rd_T45 l i).f1.f1]) ++ enc (l.drop (i + 1)) (rd_T45 l i).f0 by simp [enc, keyB]]
    generalize hx : rd_T45 l (i : Int) = x at *
    rw [← wrapS (by omega)] at hn
    have hw := write_num l (l.length : Int) (i : Int) x.f0 x.f0 x.f1.f0 x.f1.f1 x.f2 o.m o.k _ (val x now) acc (by omega) (by omega) hn
    refine succ ?_
    simp only [record_Write.l0, hx]
    have e1 : IntKind.u64.wrap (x.f0 - now) = x.f0 - now := wrapU (by omega) (by omega)
    have e2 : IntKind.u64.wrap ((x.f0 - now) * 2) = (x.f0 - now) * 2 := wrapU (by omega) (by omega)
    rw [e1, e2]
    refine pos (by omega) (pos (by omega) (pos (by omega) ?_))
    by_cases hd' : x.f2 = true
    · refine pos hd' (succ ?_)
      simp only [record_Write.j1]
      have e3 : Go.bits .or .u64 ((x.f0 - now) * 2) 1 = ((val x now : Nat) : Int) := by
        have := or1 (x.f0 - now).toNat (by omega)
        rw [show (((x.f0 - now).toNat : Nat) : Int) = x.f0 - now by omega] at this
        rw [this]; unfold val; rw [if_pos hd']; omega
      rw [e3]
      exact hw
    · refine neg hd' (succ ?_)
      simp only [record_Write.j1]
      have e3 : (x.f0 - now) * 2 = ((val x now : Nat) : Int) := by unfold val; rw [if_neg hd']; omega
      rw [e3]
      exact hw
theorem write {l : List E} (hl : l.length ≤ 16384) (hg : RecOk l 0 []) : Ev (fun k => record_Write.f k l) (strOfNums (enc l 0), 0) := by
  unfold record_Write.f
  rw [check_good hg hl]
  refine some_bnd (pos rfl ?_)
  exact write_loop l hl _ 0 [] 0 [] rfl (by omega) (by omega) (by simp) hg
end Go.Proofs.Ytfcomoledfdojaa.RecRecordTells
