/- Records moved up and down, compared, and made out of touches: what the program's Transpose and the statements' own same and played compute. For the statement RecordBack. -/
import Derived.Test.YtfcomoledfdojaaRecARecordBack
set_option linter.unusedVariables false
set_option linter.unusedSimpArgs false
namespace Go.Proofs.Ytfcomoledfdojaa.RecRecordBack
open Go.RowKit Go.Proofs.YtfcomoledfdojaaW.PrintWords Go.Proofs.YtfcomoledfdojaaW.PrintMore Go.Proofs.Ytfcomoledfdojaa.Pl Go.Proofs.Ytfcomoledfdojaa.PRecordBack

/-! ### alike -/
theorem same_loop (l : List E) (hl : l.length < 9223372036854775807) : ∀ (d i : Nat), l.length - i = d → i ≤ l.length → Ev (fun k => diapasonlaw29_same.l0 k l l (i : Int)) true := by
  intro d
  induction d with
  | zero =>
    intro i hd hi
    refine succ ?_
    simp only [diapasonlaw29_same.l0]
    exact neg (by omega) (ret rfl)
  | succ d ih =>
    intro i hd hi
    refine succ ?_
    simp only [diapasonlaw29_same.l0]
    rw [wrapS (by omega)]
    exact pos (by omega) (pos (by omega) (pos (by omega) (neg (by simp) (ih (i + 1) (by omega) (by omega)))))
theorem same (l : List E) (hl : l.length < 9223372036854775807) : Ev (fun k => diapasonlaw29_same.f k l l) true := by
  unfold diapasonlaw29_same.f
  exact pos rfl (same_loop l hl _ 0 rfl (by omega))

/-! ### moved -/
def mv (by_ : Int) (e : E) : E := ⟨e.f0, ⟨e.f1.f0, e.f1.f1 + by_⟩, e.f2⟩
def can (by_ : Int) (e : E) : Bool := decide (-by_ ≤ e.f1.f1) && decide (by_ < 61 - e.f1.f1) && decide (-61 ≤ by_)
def moved (by_ : Int) (l : List E) : List E := (l.filter (can by_)).map (mv by_)
theorem moved_len (by_ : Int) (l : List E) : (moved by_ l).length ≤ l.length := by unfold moved; rw [List.length_map]; exact List.length_filter_le _ _
theorem good_at : ∀ {l : List E} {now : Int} {S : List (Int × Int)}, RecOk l now S → ∀ e ∈ l, ∃ n, Ok e n
  | [], _, _, _, e, h => by cases h
  | x :: t, now, S, hg, e, h => by
    rcases List.mem_cons.1 h with rfl | h
    · exact ⟨now, (ok_of hg.1).1⟩
    · exact good_at hg.2 e h
theorem rd_mem (l : List E) (i : Nat) (h : i < l.length) : rd_T45 l (i : Int) ∈ l := by
  unfold rd_T45
  rw [Int.toNat_natCast, List.getD_eq_getElem?_getD, List.getElem?_eq_getElem h]
  exact List.getElem_mem h
theorem hmoved {by_ : Int} (hb : -128 ≤ by_ ∧ by_ ≤ 128) (l : List E) : record_Transpose.moved by_ 61 l = moved by_ l := by
  unfold record_Transpose.moved moved
  congr 1
  refine List.filter_congr (fun x _ => ?_)
  unfold record_Transpose.can can
  rw [wrapI (x := -by_) (by omega) (by omega)]
theorem trans {l : List E} {by_ : Int} (hb : -128 ≤ by_ ∧ by_ ≤ 128) (hl : l.length ≤ 16384) (hg : RecOk l 0 []) : record_Transpose.f l by_ 61 = some (moved by_ l, (l.length : Int) - ((moved by_ l).length : Int), 0) := by
  unfold record_Transpose.f
  rw [check_good hg hl, hmoved hb]
  rfl
def mvK (by_ : Int) (x : Int × Int) : Int × Int := (x.1, x.2 + by_)
theorem contains_mv (by_ : Int) (S : List (Int × Int)) (m k : Int) : (S.map (mvK by_)).contains (m, k + by_) = S.contains (m, k) := by
  rw [Bool.eq_iff_iff]
  simp only [List.contains_eq_mem, decide_eq_true_eq, List.mem_map]
  constructor
  · rintro ⟨⟨a, b⟩, h, e⟩
    simp only [mvK, Prod.mk.injEq] at e
    obtain ⟨rfl, e⟩ := e
    obtain rfl : b = k := by omega
    exact h
  · intro h; exact ⟨(m, k), h, rfl⟩
theorem turn_mv (by_ : Int) (S : List (Int × Int)) (m k : Int) (d : Bool) : Sets.turn (S.map (mvK by_)) m (k + by_) d = (Sets.turn S m k d).map (mvK by_) := by
  unfold Sets.turn
  rw [contains_mv]
  by_cases h : (S.contains (m, k) == d) = true
  · rw [if_pos h, if_pos h]
  · rw [if_neg h, if_neg h]
    cases d with
    | true => rfl
    | false =>
      simp only [Bool.false_eq_true, if_false]
      rw [List.filter_map]
      congr 1
      refine List.filter_congr (fun x _ => ?_)
      rw [Bool.eq_iff_iff]
      simp only [Function.comp, mvK, bne_iff_ne, ne_eq, Prod.mk.injEq, not_and]
      obtain ⟨a, b⟩ := x
      simp only [Prod.mk.injEq, not_and]
      constructor
      · intro h e1 e2; exact h e1 (by omega)
      · intro h e1 e2; exact h e1 (by omega)
theorem good_mv {by_ : Int} : ∀ {l : List E} {now : Int} {S : List (Int × Int)}, RecOk l now S → (∀ e ∈ l, can by_ e = true) → RecOk (l.map (mv by_)) now (S.map (mvK by_))
  | [], _, _, _, _ => trivial
  | e :: t, now, S, hg, hc => by
    obtain ⟨o, ot⟩ := ok_of hg.1
    have hce := hc e (List.mem_cons_self ..)
    unfold can at hce
    simp only [Bool.and_eq_true, decide_eq_true_eq] at hce
    refine ⟨of_ok ⟨o.m, ?_, o.a⟩ ?_, ?_⟩
    · simp only [mv]; omega
    · simp only [mv]; rw [contains_mv]; exact ot
    · simp only [mv]
      rw [turn_mv]
      exact good_mv hg.2 (fun x hx => hc x (List.mem_cons_of_mem _ hx))
theorem moved_all {by_ : Int} {l : List E} (h : (moved by_ l).length = l.length) : ∀ e ∈ l, can by_ e = true := by
  unfold moved at h
  rw [List.length_map] at h
  exact List.length_filter_eq_length_iff.1 h
theorem moved_map {by_ : Int} {l : List E} (h : ∀ e ∈ l, can by_ e = true) : moved by_ l = l.map (mv by_) := by
  unfold moved; rw [List.filter_eq_self.2 h]
theorem moved_back {by_ : Int} {l : List E} (hk : ∀ e ∈ l, ∃ n, Ok e n) (h : ∀ e ∈ l, can by_ e = true) : moved (-by_) (l.map (mv by_)) = l := by
  rw [moved_map]
  · rw [List.map_map]
    have : ∀ e ∈ l, ((mv (-by_)) ∘ (mv by_)) e = e := fun e _ => by
      obtain ⟨a, ⟨m, k⟩, d⟩ := e
      simp only [Function.comp, mv]
      congr 2
      omega
    rw [List.map_congr_left this]; simp
  · intro x hx
    obtain ⟨e, he, rfl⟩ := List.mem_map.1 hx
    obtain ⟨n, o⟩ := hk e he
    have hce := h e he
    have := o.k
    unfold can at hce
    simp only [Bool.and_eq_true, decide_eq_true_eq] at hce
    unfold can mv
    simp only [Bool.and_eq_true, decide_eq_true_eq]
    refine ⟨⟨?_, ?_⟩, ?_⟩ <;> omega

/-! ### played -/
def ix (x : Int × Int) : Nat := (x.1 * 61 + x.2).toNat
/-- The list of what is down and the set say the same. -/
def Says (D : List Bool) (S : List (Int × Int)) : Prop := D.length = 256 ∧ ∀ m k, 0 ≤ m → m < 4 → 0 ≤ k → k < 61 → D.getD (ix (m, k)) false = S.contains (m, k)
theorem ix_inj {m k m' k' : Int} (h1 : 0 ≤ m) (h2 : 0 ≤ k) (h3 : k < 61) (h1' : 0 ≤ m') (h2' : 0 ≤ k') (h3' : k' < 61) (e : ix (m, k) = ix (m', k')) : m = m' ∧ k = k' := by
  unfold ix at e; simp only at e; omega
theorem getD_set {α : Type} (l : List α) (i j : Nat) (v z : α) (h : i < l.length) : (l.set i v).getD j z = if j = i then v else l.getD j z := by
  rw [List.getD_eq_getElem?_getD, List.getElem?_set]
  by_cases e : i = j
  · subst e; rw [if_pos rfl, if_pos h, if_pos rfl]; rfl
  · rw [if_neg e, if_neg (fun c => e c.symm), List.getD_eq_getElem?_getD]
theorem contains_turn (S : List (Int × Int)) (m k m' k' : Int) (d : Bool) (h : (S.contains (m, k) != d) = true) : (Sets.turn S m k d).contains (m', k') = if (m', k') = (m, k) then d else S.contains (m', k') := by
  unfold Sets.turn
  have h1 : ¬ (S.contains (m, k) == d) = true := by simpa using h
  rw [if_neg h1]
  cases d with
  | true =>
    rw [if_pos rfl]
    by_cases e : (m', k') = (m, k)
    · rw [if_pos e, e]; simp
    · rw [if_neg e, Bool.eq_iff_iff]; simp only [List.contains_eq_mem, decide_eq_true_eq, List.mem_cons, e, false_or]
  | false =>
    rw [if_neg (by simp)]
    by_cases e : (m', k') = (m, k)
    · rw [if_pos e, e]
      rw [Bool.eq_false_iff]; simp [List.mem_filter]
    · rw [if_neg e, Bool.eq_iff_iff]; simp only [List.contains_eq_mem, decide_eq_true_eq, List.mem_filter, bne_iff_ne, ne_eq, e, not_false_eq_true, and_true]
theorem says_turn {D : List Bool} {S : List (Int × Int)} (h : Says D S) {m k : Int} (hm : 0 ≤ m ∧ m < 4) (hk : 0 ≤ k ∧ k < 61) : Says (D.set (ix (m, k)) (!D.getD (ix (m, k)) false)) (Sets.turn S m k (!D.getD (ix (m, k)) false)) := by
  refine ⟨by rw [List.length_set]; exact h.1, fun m' k' h1 h2 h3 h4 => ?_⟩
  have hd := h.2 m k hm.1 hm.2 hk.1 hk.2
  have hi : ix (m, k) < D.length := by have := h.1; unfold ix; simp only; omega
  rw [getD_set _ _ _ _ _ hi, contains_turn _ _ _ _ _ _ (by rw [← hd]; cases D.getD (ix (m, k)) false <;> rfl)]
  by_cases e : (m', k') = (m, k)
  · rw [if_pos e, e, if_pos rfl]
  · rw [if_neg e, if_neg (fun c => e (by
      have := ix_inj h1 h3 h4 hm.1 hk.1 hk.2 c
      rw [this.1, this.2]))]
    exact h.2 m' k' h1 h2 h3 h4
theorem says_nil : Says (List.replicate 256 false) [] := ⟨List.length_replicate, fun m k _ _ _ _ => by
  rw [List.getD_eq_getElem?_getD]
  by_cases h : ix (m, k) < 256
  · rw [List.getElem?_replicate, if_pos h]; rfl
  · rw [List.getElem?_replicate, if_neg h]; rfl⟩
def OkT (x : S70) : Prop := (Lit.int .u16 x.f0).wf = true ∧ (Lit.int .u8 x.f1).wf = true
theorem okT_at {l : List S70} (h : ∀ x ∈ l, OkT x) {i : Nat} (hi : i < l.length) : OkT (rd_T70 l (i : Int)) := by
  unfold rd_T70
  rw [Int.toNat_natCast, List.getD_eq_getElem?_getD, List.getElem?_eq_getElem hi]
  exact h _ (List.getElem_mem hi)
theorem played_loop (l : List S70) (hl : ∀ x ∈ l, OkT x) (first n : Int) (hf : 0 ≤ first ∧ 1 ≤ n ∧ first + n ≤ 4) : ∀ (d i : Nat) (D : List Bool) (now : Int) (out : List E), 300 - i = d → i ≤ 300 → Says D (held out []) → RecOk out 0 [] → now = lastNow out 0 → 0 ≤ now → now ≤ 65535 * i → out.length ≤ i →
    (∀ e ∈ out, first ≤ e.f1.f0 ∧ e.f1.f0 < first + n) →
    ∃ r, Ev (fun k => diapasonlaw29_played.l0 k l first n D now out (i : Int)) r ∧ RecOk r 0 [] ∧ r.length ≤ 300 ∧ (∀ e ∈ r, first ≤ e.f1.f0 ∧ e.f1.f0 < first + n) ∧ lastNow r 0 ≤ 19660500 := by
  intro d
  induction d with
  | zero =>
    intro i D now out hd hi hs hg hn h0 hu ho hm
    refine ⟨out, succ ?_, hg, by omega, hm, by omega⟩
    simp only [diapasonlaw29_played.l0]
    exact alt (fun _ => neg (by omega) (ret rfl)) (fun _ => ret rfl)
  | succ d ih =>
    intro i D now out hd hi hs hg hn h0 hu ho hm
    by_cases h : i < l.length
    · obtain ⟨o1, o2⟩ := okT_at hl h
      have w1 := wfu16 o1
      have w2 := wfu8 o2
      have hdl := hs.1
      generalize hx : rd_T70 l (i : Int) = x at *
      obtain ⟨later, key⟩ := x
      simp only at w1 w2 o1 o2
      have e1 : IntKind.u64.wrap later = later := wrapU (by omega) (by omega)
      have e2 : IntKind.u64.wrap (now + later) = now + later := wrapU (by omega) (by omega)
      have e3 : wrap64 key = key := wrapI (by omega) (by omega)
      have t1 : Int.tmod key n = key % n := Int.tmod_eq_emod_of_nonneg (by omega)
      have t2 : Int.tdiv key 4 = key / 4 := Int.tdiv_eq_ediv_of_nonneg (by omega)
      have t3 : Int.tmod (key / 4) 61 = key / 4 % 61 := Int.tmod_eq_emod_of_nonneg (by omega)
      have m1 : 0 ≤ key % n := Int.emod_nonneg _ (by omega)
      have m2 : key % n < n := Int.emod_lt_of_pos _ (by omega)
      have e4 : wrap64 (key / 4) = key / 4 := wrapI (by omega) (by omega)
      have e5 : wrap64 (first + key % n) = first + key % n := wrapI (by omega) (by omega)
      have e6 : wrap64 ((first + key % n) * 61) = (first + key % n) * 61 := wrapI (by omega) (by omega)
      have e7 : wrap64 ((first + key % n) * 61 + key / 4 % 61) = (first + key % n) * 61 + key / 4 % 61 := wrapI (by omega) (by omega)
      obtain ⟨m, hm'⟩ : ∃ m, m = first + key % n := ⟨_, rfl⟩
      obtain ⟨k, hk'⟩ : ∃ k, k = key / 4 % 61 := ⟨_, rfl⟩
      have hmr : 0 ≤ m ∧ m < 4 := by omega
      have hkr : 0 ≤ k ∧ k < 61 := by omega
      have hix : ((m * 61 + k : Int)).toNat = ix (m, k) := rfl
      have hv : rdOf false (D.set (ix (m, k)) (!rdOf false D (m * 61 + k))) (m * 61 + k) = !D.getD (ix (m, k)) false := by
        unfold rdOf
        rw [hix, getD_set _ _ _ _ _ (by unfold ix; simp only; omega), if_pos rfl]
      have hv2 : rdOf false D (m * 61 + k) = D.getD (ix (m, k)) false := rfl
      have hd' := hs.2 m k hmr.1 hmr.2 hkr.1 hkr.2
      have hs' := says_turn hs hmr hkr
      have hgo : RecOk (out ++ [(⟨now + later, ⟨m, k⟩, !D.getD (ix (m, k)) false⟩ : E)]) 0 [] := by
        rw [good_app]
        refine ⟨hg, of_ok ⟨hmr, hkr, ?_⟩ ?_, trivial⟩
        · simp only; omega
        · simp only; rw [← hd']; cases D.getD (ix (m, k)) false <;> rfl
      obtain ⟨r, hr, rest⟩ := ih (i + 1) _ (now + later) (out ++ [(⟨now + later, ⟨m, k⟩, !D.getD (ix (m, k)) false⟩ : E)]) (by omega) (by omega) (by rw [held_app]; exact hs') hgo (by rw [lastNow_app]; rfl) (by omega) (by omega) (by simp; omega) (fun e he => by
        rcases List.mem_append.1 he with he | he
        · exact hm e he
        · rw [List.mem_singleton.1 he]; simp only; omega)
      refine ⟨r, succ ?_, rest⟩
      simp only [diapasonlaw29_played.l0, hx]
      rw [e1, e2, e3, t1, t2, e4, t3, e5, e6, e7, ← hm', ← hk', hv2, hix, wrapS (by omega)]
      refine pos (by omega) (pos (by omega) (pos (by omega) (neg (by omega) (pos (by omega) (pos (by omega) (some_bnd (pos (by omega) ?_)))))))
      have hv3 := hv
      rw [hv2] at hv3
      rw [hv3]
      exact hr
    · refine ⟨out, succ ?_, hg, by omega, hm, by omega⟩
      simp only [diapasonlaw29_played.l0]
      exact neg (by omega) (ret rfl)
theorem played (l : List S70) (hl : ∀ x ∈ l, OkT x) (first n : Int) (hf : 0 ≤ first ∧ 1 ≤ n ∧ first + n ≤ 4) : ∃ r, Ev (fun k => diapasonlaw29_played.f k l first n) r ∧ RecOk r 0 [] ∧ r.length ≤ 300 ∧ (∀ e ∈ r, first ≤ e.f1.f0 ∧ e.f1.f0 < first + n) ∧ lastNow r 0 ≤ 19660500 := by
  obtain ⟨r, h1, h2⟩ := played_loop l hl first n hf 300 0 (List.replicate 256 false) 0 [] rfl (by omega) says_nil trivial rfl (by omega) (by omega) (by simp) (fun e he => by cases he)
  refine ⟨r, ?_, h2⟩
  unfold diapasonlaw29_played.f
  exact pos (by decide) h1
end Go.Proofs.Ytfcomoledfdojaa.RecRecordBack
