/- The lines of nodes, in plain lists: how they are written. No program in sight. -/
import Derived.Test.YtfcidgnbocijdaaDoorEv
import Derived.Lib.ItoaNum
import Derived.Lib.AtoiAll
import Derived.Lib.Strings
set_option linter.unusedVariables false
namespace Go.Proofs.YtfcidgnbocijdaaDoor.Ct
open Go Go.Lib
def ok12 (s : Int) : Bool := s == 1 || s == 2
def dig (x : Int) : UInt8 := UInt8.ofNat (48 + x.toNat)
def digs (S : List Int) : List UInt8 := S.map dig
def head (S : List Int) : List UInt8 := if S.length = 0 then [45] else digs S
def body (S : List Int) (b : Int) : List UInt8 := head S ++ 32 :: decDigits b.toNat
def lineL (S : List Int) (b : Int) : List UInt8 := body S b ++ [10]
def okLine (S : List Int) (b : Int) : Bool := decide (S.length ≤ 16) && (decide (0 ≤ b) && (decide (b ≤ 1099511627776) && S.all ok12))
def line (S : List Int) (b : Int) : ByteArray × Bool := if okLine S b = true then (⟨(lineL S b).toArray⟩, true) else (⟨#[]⟩, false)
theorem cat (a b : List UInt8) : (⟨a.toArray⟩ : ByteArray) ++ (⟨b.toArray⟩ : ByteArray) = ⟨(a ++ b).toArray⟩ := by
  apply ByteArray.ext
  simp
theorem digs_take {S : List Int} {i : Nat} (h : i < S.length) : digs (S.take (i + 1)) = digs (S.take i) ++ [dig (S.getD i 0)] := by
  unfold digs
  rw [List.take_succ_eq_append_getElem h, List.map_append]
  simp [List.getD_eq_getElem?_getD, List.getElem?_eq_getElem h]
theorem digs_len (S : List Int) : (digs S).length = S.length := by simp [digs]
theorem head_len (S : List Int) : (head S).length ≤ S.length + 1 := by
  unfold head
  split
  · simp
  · rw [digs_len]; omega
theorem dec_len {u : Nat} (h : u ≤ 1099511627776) : (decDigits u).length ≤ 13 := by
  rw [decDigits_length]
  have h1 : ∀ k : Nat, 10 ^ k ≤ u → u < 10 ^ (k + 1) → nDigits u = k + 1 := fun k => nDigits_unique k u
  by_cases h0 : u < 1
  · rw [nDigits_small (by omega)]; omega
  rcases Nat.lt_or_ge u 10 with c | c
  · rw [h1 0 (by omega) (by simpa using c)]; omega
  rcases Nat.lt_or_ge u 100 with d | d
  · rw [h1 1 (by simpa using c) (by simpa using d)]; omega
  rcases Nat.lt_or_ge u 1000 with c | c
  · rw [h1 2 (by simpa using d) (by simpa using c)]; omega
  rcases Nat.lt_or_ge u 10000 with d | d
  · rw [h1 3 (by simpa using c) (by simpa using d)]; omega
  rcases Nat.lt_or_ge u 100000 with c | c
  · rw [h1 4 (by simpa using d) (by simpa using c)]; omega
  rcases Nat.lt_or_ge u 1000000 with d | d
  · rw [h1 5 (by simpa using c) (by simpa using d)]; omega
  rcases Nat.lt_or_ge u 10000000 with c | c
  · rw [h1 6 (by simpa using d) (by simpa using c)]; omega
  rcases Nat.lt_or_ge u 100000000 with d | d
  · rw [h1 7 (by simpa using c) (by simpa using d)]; omega
  rcases Nat.lt_or_ge u 1000000000 with c | c
  · rw [h1 8 (by simpa using d) (by simpa using c)]; omega
  rcases Nat.lt_or_ge u 10000000000 with d | d
  · rw [h1 9 (by simpa using c) (by simpa using d)]; omega
  rcases Nat.lt_or_ge u 100000000000 with c | c
  · rw [h1 10 (by simpa using d) (by simpa using c)]; omega
  rcases Nat.lt_or_ge u 1000000000000 with d | d
  · rw [h1 11 (by simpa using c) (by simpa using d)]; omega
  rw [h1 12 (by simpa using d) (by simp; omega)]; omega
theorem lineL_len {S : List Int} {b : Int} (h : okLine S b = true) : (lineL S b).length ≤ 32 := by
  simp only [okLine, Bool.and_eq_true, decide_eq_true_eq] at h
  obtain ⟨h1, h2, h3, h4⟩ := h
  have := head_len S
  have := dec_len (u := b.toNat) (by omega)
  simp only [lineL, body, List.length_append, List.length_cons, List.length_nil]
  omega
theorem okLine_iff {S : List Int} {b : Int} : okLine S b = true ↔ S.length ≤ 16 ∧ 0 ≤ b ∧ b ≤ 1099511627776 ∧ S.all ok12 = true := by
  simp only [okLine, Bool.and_eq_true, decide_eq_true_eq]
end Go.Proofs.YtfcidgnbocijdaaDoor.Ct
