/- Of any events: Check, Write, Held, Transpose say what the document's own say. The whole argument is over plain lists. -/
import Derived.Test.YtfcomoledfdojaaRecARecordTells
set_option linter.unusedVariables false
set_option linter.unusedSimpArgs false
namespace Go.Proofs.Ytfcomoledfdojaa.Pure
open Go.RowKit Go.Proofs.YtfcomoledfdojaaW.PrintWords Go.Proofs.YtfcomoledfdojaaW.PrintMore Go.Proofs.Ytfcomoledfdojaa.Pl Go.Proofs.Ytfcomoledfdojaa.RecRecordTells Go.Proofs.Ytfcomoledfdojaa.PRecordTells

/-! ### the set of what is down, and the document's list of all keys -/
def Says (D : List Bool) (S : List (Int × Int)) : Prop := D.length = 244 ∧ ∀ m k : Int, 0 ≤ m → m < 4 → 0 ≤ k → k < 61 → D.getD (m * 61 + k).toNat false = S.contains (m, k)
theorem getD_set {α : Type} (l : List α) (i j : Nat) (v z : α) (h : i < l.length) : (l.set i v).getD j z = if j = i then v else l.getD j z := by
  rw [List.getD_eq_getElem?_getD, List.getElem?_set]
  by_cases e : i = j
  · subst e; rw [if_pos rfl, if_pos h, if_pos rfl]; rfl
  · rw [if_neg e, if_neg (fun c => e c.symm), List.getD_eq_getElem?_getD]
theorem contains_turn (S : List (Int × Int)) (m k m' k' : Int) (d : Bool) : (Sets.turn S m k d).contains (m', k') = if (m', k') = (m, k) then d else S.contains (m', k') := by
  unfold Sets.turn
  by_cases h : (S.contains (m, k) == d) = true
  · rw [if_pos h]
    by_cases e : (m', k') = (m, k)
    · rw [if_pos e, e]; exact beq_iff_eq.1 h
    · rw [if_neg e]
  · rw [if_neg h]
    cases d with
    | true =>
      rw [if_pos rfl]
      by_cases e : (m', k') = (m, k)
      · rw [if_pos e, e]; simp
      · rw [if_neg e, Bool.eq_iff_iff]; simp only [List.contains_eq_mem, decide_eq_true_eq, List.mem_cons, e, false_or]
    | false =>
      rw [if_neg (by simp)]
      by_cases e : (m', k') = (m, k)
      · rw [if_pos e, e]
        rw [Bool.eq_false_iff]; simp [List.mem_filter]
      · rw [if_neg e, Bool.eq_iff_iff]; simp only [List.contains_eq_mem, decide_eq_true_eq, List.mem_filter, bne_iff_ne, ne_eq, e, not_false_eq_true, and_true]
theorem says_set {D : List Bool} {S : List (Int × Int)} (h : Says D S) {m k : Int} {d : Bool} (hm : 0 ≤ m ∧ m < 4) (hk : 0 ≤ k ∧ k < 61) : Says (D.set (m * 61 + k).toNat d) (Sets.turn S m k d) := by
  refine ⟨by rw [List.length_set]; exact h.1, fun m' k' h1 h2 h3 h4 => ?_⟩
  have hl := h.1
  rw [getD_set _ _ _ _ _ (by omega), contains_turn]
  by_cases e : (m', k') = (m, k)
  · rw [if_pos e]
    injection e with e1 e2
    rw [e1, e2, if_pos rfl]
  · rw [if_neg e, if_neg (fun c => e (by
      have e1 : m' = m := by omega
      have e2 : k' = k := by omega
      rw [e1, e2]))]
    exact h.2 m' k' h1 h2 h3 h4
theorem says_nil : Says (List.replicate 244 false) [] := ⟨List.length_replicate, fun m k _ _ _ _ => by
  rw [List.getD_eq_getElem?_getD]
  by_cases h : (m * 61 + k).toNat < 244
  · rw [List.getElem?_replicate, if_pos h]; rfl
  · rw [List.getElem?_replicate, if_neg h]; rfl⟩
theorem may (m k : Int) : diapasonref29_MayKey.f m k = some (record_Check.right m k) := by
  unfold diapasonref29_MayKey.f record_Check.right
  by_cases h1 : 0 ≤ m
  · by_cases h2 : m < 4
    · by_cases h3 : 0 ≤ k
      · rw [if_pos h1, if_pos h2, if_pos h3]; simp [h1, h2, h3]
      · rw [if_pos h1, if_pos h2, if_neg h3]; simp [h3]
    · rw [if_pos h1, if_neg h2]; simp [h2]
  · rw [if_neg h1]; simp [h1]
theorem place {m k : Int} (hm : 0 ≤ m ∧ m < 4) (hk : 0 ≤ k ∧ k < 61) : diapasonref29_at.f m k = some (m * 61 + k) := by
  unfold diapasonref29_at.f
  rw [wrapI (x := m * 61) (by omega) (by omega), wrapI (by omega) (by omega)]
theorem right_iff {m k : Int} (h : record_Check.right m k = true) : (0 ≤ m ∧ m < 4) ∧ (0 ≤ k ∧ k < 61) := by
  unfold record_Check.right at h
  simp only [Bool.and_eq_true, decide_eq_true_eq] at h
  exact ⟨⟨h.1.1.1, h.1.1.2⟩, ⟨h.1.2, h.2⟩⟩

/-! ### Check -/
theorem rcheck_loop (l : List E) (hl : l.length ≤ 16384) : ∀ (n i : Nat) (D : List Bool) (S : List (Int × Int)) (now : Int), l.length - i = n → i ≤ l.length → Says D S →
    Ev (fun k => diapasonref29_Check.l0 k l D now (i : Int)) (record_Check.go (l.drop i) now S (i : Int)) := by
  intro n
  induction n with
  | zero =>
    intro i D S now hn hi hs
    refine succ ?_
    simp only [diapasonref29_Check.l0]
    rw [List.drop_of_length_le (by omega)]
    exact neg (by omega) (ret rfl)
  | succ n ih =>
    intro i D S now hn hi hs
    have hi' : i < l.length := by omega
    rw [drop_cons l i hi']
    refine succ ?_
    simp only [diapasonref29_Check.l0]
    have hih := fun D S now hs => ih (i + 1) D S now (by omega) (by omega) hs
    generalize rd_T45 l (i : Int) = x
    rw [record_Check.go, may]
    refine pos (by omega) (pos (by omega) (some_bnd ?_))
    by_cases hr : record_Check.right x.f1.f0 x.f1.f1 = true
    · obtain ⟨hm, hk⟩ := right_iff hr
      refine pos hr ?_
      have hix : 0 ≤ x.f1.f0 * 61 + x.f1.f1 ∧ x.f1.f0 * 61 + x.f1.f1 < (D.length : Int) := by have := hs.1; omega
      have hrd : rdOf false D (x.f1.f0 * 61 + x.f1.f1) = S.contains (x.f1.f0, x.f1.f1) := hs.2 _ _ hm.1 hm.2 hk.1 hk.2
      rw [place hm hk]
      refine alt (fun h1 => ?_) (fun h1 => alt (fun h2 => ?_) (fun h2 => some_bnd (pos hix.1 (pos hix.2 ?_))))
      · rw [if_neg (by unfold record_Check.ok; have : decide (1099511627776 < x.f0) = true := decide_eq_true (by omega); simp [this])]
        exact ret rfl
      · rw [if_neg (by unfold record_Check.ok; simp [h2])]
        exact ret rfl
      · rw [hrd]
        have hok : record_Check.ok x now S = (S.contains (x.f1.f0, x.f1.f1) != x.f2) := by
          unfold record_Check.ok
          have d1 : decide (x.f0 < now) = false := decide_eq_false h2
          have d2 : decide (1099511627776 < x.f0) = false := decide_eq_false (by omega)
          rw [hr, d1, d2]; rfl
        rw [hok]
        by_cases hq : (x.f2 == S.contains (x.f1.f0, x.f1.f1)) = true
        · rw [if_neg (by rw [← beq_iff_eq.1 hq]; simp)]
          exact pos hq (ret rfl)
        · rw [if_pos (by
            have : x.f2 ≠ S.contains (x.f1.f0, x.f1.f1) := fun c => hq (beq_iff_eq.2 c)
            exact bne_iff_ne.2 (fun c => this c.symm))]
          refine neg hq (some_bnd (pos hix.1 (pos hix.2 ?_)))
          rw [wrapS (by omega)]
          exact hih _ _ _ (says_set hs hm hk)
    · refine neg hr ?_
      rw [if_neg (by unfold record_Check.ok; rw [Bool.not_eq_true] at hr; simp [hr])]
      exact ret rfl
def chk (l : List E) : Int × Int := if 16384 < l.length then (16384, 3) else record_Check.go l 0 [] 0
theorem rcheck (l : List E) : Ev (fun k => diapasonref29_Check.f k l) (chk l) := by
  unfold diapasonref29_Check.f chk
  by_cases h : 16384 < l.length
  · rw [if_pos h]; exact pos (by omega) (ret rfl)
  · rw [if_neg h]
    exact neg (by omega) (pos (by decide) (rcheck_loop l (by omega) _ 0 _ [] 0 rfl (by omega) says_nil))
theorem pcheck (l : List E) : record_Check.f l = some (chk l) := rfl
theorem go_ok : ∀ (l : List E) (now : Int) (S : List (Int × Int)) (i : Int), (record_Check.go l now S i).2 = 0 → RecOk l now S
  | [], _, _, _, _ => trivial
  | x :: t, now, S, i, h => by
    rw [record_Check.go] at h
    by_cases c : record_Check.ok x now S = true
    · rw [if_pos c] at h; exact ⟨c, go_ok t _ _ _ h⟩
    · rw [if_neg c] at h; cases h
theorem chk_ok {l : List E} (h : (chk l).2 = 0) : l.length ≤ 16384 ∧ RecOk l 0 [] := by
  unfold chk at h
  by_cases c : 16384 < l.length
  · rw [if_pos c] at h; cases h
  · rw [if_neg c] at h; exact ⟨by omega, go_ok l 0 [] 0 h⟩
theorem chk_good {l : List E} (hl : l.length ≤ 16384) (hg : RecOk l 0 []) : chk l = (0, 0) := by
  unfold chk
  rw [if_neg (by omega), good_check l 0 [] 0 hg]
theorem good_at : ∀ {l : List E} {now : Int} {S : List (Int × Int)}, RecOk l now S → ∀ e ∈ l, ∃ n, Ok e n
  | [], _, _, _, e, h => by cases h
  | x :: t, now, S, hg, e, h => by
    rcases List.mem_cons.1 h with rfl | h
    · exact ⟨now, (ok_of hg.1).1⟩
    · exact good_at hg.2 e h
theorem rd_mem (l : List E) (i : Nat) (h : i < l.length) : rd_T45 l (i : Int) ∈ l := by
  unfold rd_T45
  rw [Int.toNat_natCast, List.getD_eq_getElem?_getD, List.getElem?_eq_getElem h]
  exact List.getElem_mem h

/-! ### Write -/
theorem rwrite_num (l : List E) (x7 : Int) (i : Nat) (hi : i < l.length) (hb : 0 ≤ (rd_T45 l (i : Int)).f1.f0 ∧ (rd_T45 l (i : Int)).f1.f0 < 4) (hc : 0 ≤ (rd_T45 l (i : Int)).f1.f1 ∧ (rd_T45 l (i : Int)).f1.f1 < 61) (R : ByteArray × Int) : ∀ (v : Nat) (acc : List Int), v < 9223372036854775808 → acc.length + (encN v).length + 2 < 140737488355328 →
    Ev (fun k => diapasonref29_Write.l0 k l (acc ++ (encN v ++ [keyB (rd_T45 l (i : Int))])) x7 (wrap64 ((i : Int) + 1))) R → Ev (fun k => diapasonref29_Write.l1 k l acc x7 (i : Int) (v : Int)) R := by
  intro v
  induction v using Nat.strongRecOn with
  | _ v ih =>
    intro acc hv hl hR
    refine succ ?_
    simp only [diapasonref29_Write.l1]
    by_cases h : v < 128
    · refine neg (by omega) (pos (by omega) (pos (by omega) (some_bnd (pos (by simp only [List.length_cons, List.length_nil]; rw [encN_lt h] at hl; simp at hl; omega) ?_))))
      rw [encN_lt h] at hR
      have ek : wrap64 ((wrap64 (64 * (rd_T45 l (i : Int)).f1.f0)) + (rd_T45 l (i : Int)).f1.f1) % 256 = keyB (rd_T45 l (i : Int)) := by
        rw [wrapI (x := 64 * (rd_T45 l (i : Int)).f1.f0) (by omega) (by omega), wrapI (by omega) (by omega)]
        unfold keyB; omega
      rw [show (v : Int) % 256 = v by omega, ek]
      exact hR
    · rw [encN_ge h] at hR hl
      have t1 : Int.tmod (v : Int) 128 = (v : Int) % 128 := Int.tmod_eq_emod_of_nonneg (by omega)
      have t2 : Int.tdiv (v : Int) 128 = (v : Int) / 128 := Int.tdiv_eq_ediv_of_nonneg (by omega)
      refine pos (by omega) (pos (by omega) ?_)
      rw [t1, t2, wrapU (x := (v : Int) % 128 + 128) (by omega) (by omega), wrapU (x := (v : Int) / 128) (by omega) (by omega)]
      rw [show ((v : Int) % 128 + 128) % 256 = ((v % 128 + 128 : Nat) : Int) by omega, show (v : Int) / 128 = ((v / 128 : Nat) : Int) by omega]
      refine ih (v / 128) (by omega) _ (by omega) (by simp at hl ⊢; omega) ?_
      simpa using hR
theorem rwrite_loop (l : List E) (hl : l.length ≤ 16384) : ∀ (d i : Nat) (acc : List Int) (now : Int) (S : List (Int × Int)), l.length - i = d → i ≤ l.length → 0 ≤ now → acc.length ≤ 10 * i → RecOk (l.drop i) now S →
    Ev (fun k => diapasonref29_Write.l0 k l acc now (i : Int)) (strOfNums (acc ++ enc (l.drop i) now), 0) := by
  intro d
  induction d with
  | zero =>
    intro i acc now S hd hi h0 ha hg
    refine succ ?_
    simp only [diapasonref29_Write.l0]
    refine neg (by omega) (ret ?_)
    rw [List.drop_of_length_le (by omega)]; simp [enc]
  | succ d ih =>
    intro i acc now S hd hi h0 ha hg
    have hi' : i < l.length := by omega
    rw [drop_cons l i hi'] at hg ⊢
    obtain ⟨g1, g2⟩ := hg
    obtain ⟨o, _⟩ := ok_of g1
    have hlen := enc_len o h0
    have hvl := val_lt o h0
    have hp : (128 : Nat) ^ (5 + 1) = 4398046511104 := by decide
    have hA := o.a
    have hn := ih (i + 1) (acc ++ (encN (val (rd_T45 l i) now) ++ [keyB (rd_T45 l i)])) (rd_T45 l i).f0 _ (by omega) (by omega) (by omega) (by simp; omega) g2
    rw [show acc ++ enc (rd_T45 l i :: l.drop (i + 1)) now = acc ++ (encN (val (rd_T45 l i) now) ++ [keyB (rd_T45 l i)]) ++ enc (l.drop (i + 1)) (rd_T45 l i).f0 by simp [enc]]
    rw [← wrapS (by omega)] at hn
    have hw := rwrite_num l (rd_T45 l i).f0 i hi' o.m o.k _ (val (rd_T45 l i) now) acc (by omega) (by omega) hn
    refine succ ?_
    simp only [diapasonref29_Write.l0]
    have e1 : IntKind.u64.wrap ((rd_T45 l i).f0 - now) = (rd_T45 l i).f0 - now := wrapU (by omega) (by omega)
    have e2 : IntKind.u64.wrap (2 * ((rd_T45 l i).f0 - now)) = 2 * ((rd_T45 l i).f0 - now) := wrapU (by omega) (by omega)
    have e4 : IntKind.u64.wrap (2 * ((rd_T45 l i).f0 - now) + 1) = 2 * ((rd_T45 l i).f0 - now) + 1 := wrapU (by omega) (by omega)
    rw [e1, e2, e4]
    refine pos (by omega) (pos (by omega) ?_)
    by_cases hd' : (rd_T45 l (i : Int)).f2 = true
    · refine pos hd' (succ ?_)
      simp only [diapasonref29_Write.j1]
      rw [show 2 * ((rd_T45 l (i : Int)).f0 - now) + 1 = ((val (rd_T45 l i) now : Nat) : Int) by unfold val; rw [if_pos hd']; omega]
      exact pos (by omega) (pos (by omega) hw)
    · refine neg hd' (succ ?_)
      simp only [diapasonref29_Write.j1]
      rw [show 2 * ((rd_T45 l (i : Int)).f0 - now) = ((val (rd_T45 l i) now : Nat) : Int) by unfold val; rw [if_neg hd']; omega]
      exact pos (by omega) (pos (by omega) hw)
theorem rwrite {l : List E} (hl : l.length ≤ 16384) (hg : RecOk l 0 []) : Ev (fun k => diapasonref29_Write.f k l) (strOfNums (enc l 0), 0) := by
  unfold diapasonref29_Write.f
  refine bnd (rcheck l) ?_
  rw [chk_good hl hg]
  exact pos rfl (rwrite_loop l hl _ 0 [] 0 [] rfl (by omega) (by omega) (by simp) hg)

/-! ### Held -/
theorem out_loop (D : List Bool) (hD : D.length = 244) : ∀ (d j : Nat) (acc : List S43), 244 - j = d → j ≤ 244 → acc.length ≤ j →
    Ev (fun k => diapasonref29_Held.l1 k D acc (j : Int)) (acc ++ (((List.finRange 244).drop j).filter fun i => D.getD i.val false).map (fun i => record_Held.key i.val), 0) := by
  intro d
  induction d with
  | zero =>
    intro j acc hd hj ha
    refine succ ?_
    simp only [diapasonref29_Held.l1]
    refine neg (by omega) (ret ?_)
    rw [List.drop_of_length_le (by simp; omega)]; simp
  | succ d ih =>
    intro j acc hd hj ha
    have hj' : j < (List.finRange 244).length := by simp; omega
    rw [List.drop_eq_getElem_cons hj']
    have hg : ((List.finRange 244)[j]).val = j := by simp
    have hk : (⟨wrap64 (Int.tdiv (j : Int) 61), Int.tmod (j : Int) 61⟩ : S43) = record_Held.key ((List.finRange 244)[j]).val := by
      rw [hg]
      have t1 : Int.tmod (j : Int) 61 = (j : Int) % 61 := Int.tmod_eq_emod_of_nonneg (by omega)
      have t2 : Int.tdiv (j : Int) 61 = (j : Int) / 61 := Int.tdiv_eq_ediv_of_nonneg (by omega)
      unfold record_Held.key
      rw [t1, t2, wrapI (by omega) (by omega)]
      congr 1 <;> omega
    refine succ ?_
    simp only [diapasonref29_Held.l1]
    rw [hk, wrapS (by omega), List.filter_cons, hg]
    have hrd : rdOf false D (j : Int) = D.getD j false := rfl
    rw [hrd]
    refine pos (by omega) (pos (by omega) ?_)
    by_cases h : D.getD j false = true
    · rw [if_pos h]
      refine pos h (pos (by omega) ?_)
      have := ih (j + 1) (acc ++ [record_Held.key ((List.finRange 244)[j]).val]) (by omega) (by omega) (by simp; omega)
      rw [List.append_assoc, hg] at this
      rw [List.map_cons, hg]
      exact this
    · rw [if_neg h]
      exact neg h (ih (j + 1) acc (by omega) (by omega) (by omega))
theorem says_keys {D : List Bool} {S : List (Int × Int)} (h : Says D S) : ((List.finRange 244).filter fun i => D.getD i.val false).map (fun i => record_Held.key i.val) = record_Held.keys S := by
  unfold record_Held.keys
  congr 1
  refine List.filter_congr (fun i _ => ?_)
  have := h.2 ((i.val / 61 : Nat) : Int) ((i.val % 61 : Nat) : Int) (by omega) (by omega) (by omega) (by omega)
  rw [← this]
  congr 1
  omega
theorem held_loop (l : List E) (hl : l.length ≤ 16384) (a1 : Int) (hk : ∀ e ∈ l, ∃ n, Ok e n) : ∀ (n i : Nat) (D : List Bool) (S : List (Int × Int)), l.length - i = n → i ≤ l.length → Says D S →
    Ev (fun k => diapasonref29_Held.l0 k l a1 D (i : Int)) (record_Held.keys (record_Held.fold a1 (l.drop i) S), 0) := by
  intro n
  induction n with
  | zero =>
    intro i D S hn hi hs
    refine succ ?_
    simp only [diapasonref29_Held.l0]
    rw [List.drop_of_length_le (by omega)]
    refine neg (by omega) ?_
    have := out_loop D hs.1 _ 0 [] rfl (by omega) (by simp)
    rw [List.nil_append, List.drop_zero, says_keys hs] at this
    exact this
  | succ n ih =>
    intro i D S hn hi hs
    have hi' : i < l.length := by omega
    obtain ⟨q, o⟩ := hk _ (rd_mem l i hi')
    rw [drop_cons l i hi']
    refine succ ?_
    simp only [diapasonref29_Held.l0]
    have hih := fun D S hs => ih (i + 1) D S (by omega) (by omega) hs
    generalize rd_T45 l (i : Int) = x at *
    have hm := o.m
    have hkk := o.k
    have hix : 0 ≤ x.f1.f0 * 61 + x.f1.f1 ∧ x.f1.f0 * 61 + x.f1.f1 < (D.length : Int) := by have := hs.1; omega
    rw [place hm hkk, wrapS (by omega)]
    refine pos (by omega) (pos (by omega) ?_)
    unfold record_Held.fold
    by_cases h : x.f0 ≤ a1
    · rw [if_pos h]
      exact pos h (some_bnd (pos hix.1 (pos hix.2 (hih _ _ (says_set hs hm hkk)))))
    · rw [if_neg h]
      exact neg h (hih _ _ hs)
theorem rheld {l : List E} (a1 : Int) (hl : l.length ≤ 16384) (hg : RecOk l 0 []) : Ev (fun k => diapasonref29_Held.f k l a1) (record_Held.keys (record_Held.fold a1 l []), 0) := by
  unfold diapasonref29_Held.f
  refine bnd (rcheck l) ?_
  rw [chk_good hl hg]
  refine pos rfl (pos (by decide) ?_)
  have := held_loop l hl a1 (good_at hg) _ 0 _ [] rfl (by omega) says_nil
  rw [List.drop_zero] at this
  exact this

/-! ### alike -/
theorem same_loop (l : List E) (hl : l.length < 9223372036854775807) : ∀ (d i : Nat), l.length - i = d → i ≤ l.length → Ev (fun k => diapasonref29_Same.l0 k l l (i : Int)) true := by
  intro d
  induction d with
  | zero =>
    intro i hd hi
    refine succ ?_
    simp only [diapasonref29_Same.l0]
    exact neg (by omega) (ret rfl)
  | succ d ih =>
    intro i hd hi
    refine succ ?_
    simp only [diapasonref29_Same.l0]
    rw [wrapS (by omega)]
    exact pos (by omega) (pos (by omega) (pos (by omega) (neg (by simp) (ih (i + 1) (by omega) (by omega)))))
theorem rsame (l : List E) (hl : l.length < 9223372036854775807) : Ev (fun k => diapasonref29_Same.f k l l) true := by
  unfold diapasonref29_Same.f
  exact pos rfl (same_loop l hl _ 0 rfl (by omega))
theorem keys_loop (l : List S43) (hl : l.length < 9223372036854775807) : ∀ (d i : Nat), l.length - i = d → i ≤ l.length → Ev (fun k => diapasonref29_SameKeys.l0 k l l (i : Int)) true := by
  intro d
  induction d with
  | zero =>
    intro i hd hi
    refine succ ?_
    simp only [diapasonref29_SameKeys.l0]
    exact neg (by omega) (ret rfl)
  | succ d ih =>
    intro i hd hi
    refine succ ?_
    simp only [diapasonref29_SameKeys.l0]
    rw [wrapS (by omega)]
    exact pos (by omega) (pos (by omega) (pos (by omega) (neg (by simp) (ih (i + 1) (by omega) (by omega)))))
theorem rkeys (l : List S43) (hl : l.length < 9223372036854775807) : Ev (fun k => diapasonref29_SameKeys.f k l l) true := by
  unfold diapasonref29_SameKeys.f
  exact pos rfl (keys_loop l hl _ 0 rfl (by omega))
theorem keys_len (S : List (Int × Int)) : (record_Held.keys S).length ≤ 244 := by
  unfold record_Held.keys
  rw [List.length_map]
  exact Nat.le_trans (List.length_filter_le _ _) (by simp)
theorem works : Ev (fun k => diapasonlaw29_works.f k) true := Ev.of diapasonlaw29_works.mono (k := 100) (by decide +kernel)

/-! ### the statement -/
theorem RecordTells : diapasonlaw29_RecordTells.Pure := by
  intro l a1 a2 a3 h1 h2 h3 h4 h5 h6
  have hmx : l.length < 9223372036854775807 := by omega
  refine Ev.rounds (r := true) ?_
  unfold diapasonlaw29_RecordTells.f
  rw [pcheck]
  refine some_bnd (bnd (rcheck l) ?_)
  by_cases hc : (chk l).2 = 0
  · obtain ⟨hl, hg⟩ := chk_ok hc
    have hcg := chk_good hl hg
    have hh : record_Held.f l a1 = some (record_Held.keys (record_Held.fold a1 l []), 0) := by
      unfold record_Held.f; rw [pcheck, hcg]; rfl
    rw [hh]
    refine bnd (write hl hg) (bnd (rwrite hl hg) (some_bnd (bnd (rheld a1 hl hg) (bnd (rkeys (record_Held.keys (record_Held.fold a1 l [])) (by have := keys_len (record_Held.fold a1 l []); omega)) ?_))))
    by_cases hk : a3 < 1 ∨ 61 < a3
    · have ht : record_Transpose.f l a2 a3 = some ([], 0, 2) := by
        unfold record_Transpose.f; rw [pcheck, hcg]
        exact (Option.bind_some _ _).trans (by rw [if_pos rfl, if_pos hk])
      have hu : Ev (fun k => diapasonref29_Transpose.f k l a2 a3) ([], 0, 2) := by
        unfold diapasonref29_Transpose.f
        refine bnd (rcheck l) ?_
        rw [hcg]
        exact pos rfl (pos hk (ret rfl))
      rw [ht]
      refine some_bnd (bnd hu (bnd (rsame [] (by simp)) (bnd (rsame l hmx) (bnd works (pos ⟨rfl, rfl, rfl, rfl, rfl, rfl, rfl, rfl, rfl, h2⟩ (ret rfl))))))
    · have ht : record_Transpose.f l a2 a3 = some (record_Transpose.moved a2 a3 l, (l.length : Int) - ((record_Transpose.moved a2 a3 l).length : Int), 0) := by
        unfold record_Transpose.f; rw [pcheck, hcg]
        exact (Option.bind_some _ _).trans (by rw [if_pos rfl, if_neg hk])
      have hri : diapasonref29_Transpose.right l = true := by
        unfold diapasonref29_Transpose.right
        rw [List.all_eq_true]
        intro e he
        obtain ⟨n, o⟩ := good_at hg e he
        have := o.k
        simp only [Bool.and_eq_true, decide_eq_true_eq]
        exact this
      have hu : Ev (fun k => diapasonref29_Transpose.f k l a2 a3) (record_Transpose.moved a2 a3 l, (l.length : Int) - ((record_Transpose.moved a2 a3 l).length : Int), 0) := by
        unfold diapasonref29_Transpose.f
        refine bnd (rcheck l) ?_
        rw [hcg]
        exact pos rfl (neg hk (pos ⟨hl, hri⟩ (ret rfl)))
      have hml : (record_Transpose.moved a2 a3 l).length ≤ l.length := by unfold record_Transpose.moved; rw [List.length_map]; exact List.length_filter_le _ _
      rw [ht]
      refine some_bnd (bnd hu (bnd (rsame (record_Transpose.moved a2 a3 l) (by omega)) (bnd (rsame l hmx) (bnd works (pos ⟨rfl, rfl, rfl, rfl, rfl, rfl, rfl, rfl, rfl, h2⟩ (ret rfl))))))
  · have hh : record_Held.f l a1 = some ([], (chk l).2) := by
      unfold record_Held.f; rw [pcheck]
      exact (Option.bind_some _ _).trans (if_neg hc)
    have ht : record_Transpose.f l a2 a3 = some ([], 0, (chk l).2) := by
      unfold record_Transpose.f; rw [pcheck]
      exact (Option.bind_some _ _).trans (if_neg hc)
    have hw : Ev (fun k => record_Write.f k l) (⟨#[]⟩, (chk l).2) := by
      unfold record_Write.f
      rw [pcheck]
      exact some_bnd (neg hc (ret rfl))
    have hw' : Ev (fun k => diapasonref29_Write.f k l) (⟨#[]⟩, (chk l).2) := by
      unfold diapasonref29_Write.f
      exact bnd (rcheck l) (neg hc (ret rfl))
    have hr : Ev (fun k => diapasonref29_Held.f k l a1) ([], (chk l).2) := by
      unfold diapasonref29_Held.f
      exact bnd (rcheck l) (neg hc (ret rfl))
    have hu : Ev (fun k => diapasonref29_Transpose.f k l a2 a3) ([], 0, (chk l).2) := by
      unfold diapasonref29_Transpose.f
      exact bnd (rcheck l) (neg hc (ret rfl))
    rw [hh, ht]
    exact bnd hw (bnd hw' (some_bnd (bnd hr (bnd (rkeys [] (by simp)) (some_bnd (bnd hu (bnd (rsame [] (by simp)) (bnd (rsame l hmx) (bnd works (pos ⟨rfl, rfl, rfl, rfl, rfl, rfl, rfl, rfl, rfl, h2⟩ (ret rfl)))))))))))
end Go.Proofs.Ytfcomoledfdojaa.Pure
