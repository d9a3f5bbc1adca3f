-- Written by a program of this session (the kit's print, turned: wip/px).
import Derived.Test.YtfcomoledfdojaaPRecordTellsx0
import Derived.Test.YtfcomoledfdojaaPRecordTellsx3
import Derived.Test.YtfcomoledfdojaaPRecordTellsx6
namespace Go.Proofs.Ytfcomoledfdojaa.PRecordTells
open Go.RowKit Go.Proofs.YtfcomoledfdojaaW.PrintWords Go.Proofs.YtfcomoledfdojaaW.PrintLast Go.Proofs.YtfcomoledfdojaaW.PrintMore
attribute [local go_sem] max2_int min2_int max_two min_two max_three min_three max_four min_four   -- for this text's walks alone
set_option linter.unusedVariables false
set_option linter.unusedSimpArgs false

/-! ### record_Held: function 24 -/
/-! the set's fold, its keys in order -/
def record_Held.fold (at_ : Int) : List S45 → List (Int × Int) → List (Int × Int)
  | [], S => S
  | e :: t, S => if e.f0 ≤ at_ then record_Held.fold at_ t (Sets.turn S e.f1.f0 e.f1.f1 e.f2) else record_Held.fold at_ t S
def record_Held.key (i : Nat) : S43 := ⟨(i / 61 : Nat), (i % 61 : Nat)⟩
def record_Held.keys (S : List (Int × Int)) : List S43 := ((List.finRange 244).filter (fun i => S.contains (((i.val / 61 : Nat) : Int), ((i.val % 61 : Nat) : Int)))).map (fun i => record_Held.key i.val)
def record_Held.f (l : List S45) (at_ : Int) : Option (List S43 × Int) := (record_Check.f l).bind fun c => if c.2 = 0 then some (record_Held.keys (record_Held.fold at_ l []), 0) else some ([], c.2)
def record_Held.Right (S : List (Int × Int)) : Prop := ∀ m k, (m, k) ∈ S → 0 ≤ m ∧ m < 4 ∧ 0 ≤ k ∧ k < 61
theorem record_Held.turn_right {S : List (Int × Int)} (h : record_Held.Right S) {m k : Int} {d : Bool} (hm : 0 ≤ m ∧ m < 4 ∧ 0 ≤ k ∧ k < 61) : record_Held.Right (Sets.turn S m k d) := by
  intro a b hab
  unfold Sets.turn at hab
  split at hab
  · exact h a b hab
  · split at hab
    · rcases List.mem_cons.1 hab with e | hab
      · injection e with e1 e2; subst e1; subst e2; exact hm
      · exact h a b hab
    · exact h a b (List.mem_filter.1 hab).1
theorem record_Held.good_right : ∀ (l : List S45) (now : Int) (S : List (Int × Int)) (i r : Int), record_Check.go l now S i = (r, 0) → ∀ e ∈ l, 0 ≤ e.f1.f0 ∧ e.f1.f0 < 4 ∧ 0 ≤ e.f1.f1 ∧ e.f1.f1 < 61
  | [], _, _, _, _, _, e, he => by cases he
  | x :: t, now, S, i, r, h, e, he => by
    rw [record_Check.go] at h
    by_cases c : record_Check.ok x now S = true
    · rw [if_pos c] at h
      rcases List.mem_cons.1 he with rfl | he
      · unfold record_Check.ok record_Check.right at c
        simp only [Bool.and_eq_true, decide_eq_true_eq] at c
        exact ⟨c.1.1.1.1.1.1, c.1.1.1.1.1.2, c.1.1.1.1.2, c.1.1.1.2⟩
      · exact record_Held.good_right t _ _ _ _ h e he
    · rw [if_neg c] at h
      injection h with _ h
      exact absurd h (by decide)
theorem record_Held.fold_right (at_ : Int) : ∀ (l : List S45) (S : List (Int × Int)), (∀ e ∈ l, 0 ≤ e.f1.f0 ∧ e.f1.f0 < 4 ∧ 0 ≤ e.f1.f1 ∧ e.f1.f1 < 61) → record_Held.Right S → record_Held.Right (record_Held.fold at_ l S)
  | [], S, _, h => h
  | e :: t, S, hl, h => by
    unfold record_Held.fold
    split
    · exact record_Held.fold_right at_ t _ (fun x hx => hl x (List.mem_cons_of_mem _ hx)) (record_Held.turn_right h (hl e (List.mem_cons_self ..)))
    · exact record_Held.fold_right at_ t _ (fun x hx => hl x (List.mem_cons_of_mem _ hx)) h
/-! what a map's keys read as -/
theorem record_Held.int_inv (d : Nat) (c : Value) (L : List Lit) (h : Try.prog.keyLits (d + 1) 3 [c] = some L) : ∃ n, c = .int .i64 n ∧ Sets.wf n := by
  rw [Program.keyLits.eq_def] at h
  simp only [Try.underlying3] at h
  split at h <;> try (simp at h; done)
  · rename_i hu hc
    cases hu
  · rename_i q q' n hu hc
    injection hu with hu
    injection hu with hu
    subst hu
    injection hc with hc _
    subst hc
    split at h
    · rename_i hq
      obtain ⟨rfl, hw⟩ := hq
      exact ⟨n, rfl, hw⟩
    · cases h
  · rename_i hu hc
    cases hu
  · rename_i hu
    cases hu
  · rename_i hu
    cases hu
set_option maxRecDepth 100000 in
theorem record_Held.inv {key : Value} {kl : Lit} (h : keyOf Try.prog 43 key = some kl) : ∃ m k, key = .agg #[.int .i64 m, .int .i64 k] ∧ Sets.wf m ∧ Sets.wf k := by
  obtain ⟨xs, L, rfl, hL, _⟩ := keyOf_top record_turn.wide h
  have hc : Try.prog.cellsOf 43 = 2 := by kernel_rfl
  have hi : Try.prog.cellsOf 3 = 1 := by kernel_rfl
  have h3 : Try.prog.types.size = (Try.prog.types.size - 1) + 1 := by kernel_rfl
  rw [h3] at hL
  generalize Try.prog.types.size - 1 = D at hL
  rw [Program.keyLits.eq_def] at hL
  simp only [Try.underlying43] at hL
  split at hL
  · rename_i hq
    obtain ⟨hlen, _⟩ := hq
    rw [hc] at hlen
    obtain ⟨c0, c1, e⟩ : ∃ c0 c1, xs.toList = [c0, c1] := by
      match h : xs.toList, hlen with
      | [c0, c1], _ => exact ⟨c0, c1, rfl⟩
    rw [e] at hL
    simp only [List.mapM_cons, List.mapM_nil, hi, List.drop_zero, List.drop_succ_cons, List.take_succ_cons, List.take_zero] at hL
    rw [Option.map_eq_some_iff] at hL
    obtain ⟨M, hM, _⟩ := hL
    cases h0 : Try.prog.keyLits (D + 1) 3 [c0] with
    | none => rw [h0] at hM; cases hM
    | some L0 =>
      cases h1 : Try.prog.keyLits (D + 1) 3 [c1] with
      | none => rw [h0, h1] at hM; cases hM
      | some L1 =>
        obtain ⟨m, rfl, hm⟩ := record_Held.int_inv D c0 L0 h0
        obtain ⟨k, rfl, hk⟩ := record_Held.int_inv D c1 L1 h1
        refine ⟨m, k, ?_, hm, hk⟩
        rw [← Array.toArray_toList (xs := xs), e]
  · cases hL
/-! the sorted row of keys -/
def record_Held.enc (i : Fin 244) : List Value := [.int .i64 ((i.val / 61 : Nat) : Int), .int .i64 ((i.val % 61 : Nat) : Int)]
theorem record_Held.enc_key (w : World) (base : Nat) (ok : Nat → Prop) (i : Fin 244) : k43.M w base ok (record_Held.key i.val) (record_Held.enc i) := k43_mkM w base ok (record_Held.key i.val)
theorem record_Held.add0 (g j : Nat) : (⟨g, 0, none⟩ : Addr).add j = ⟨g, j, none⟩ := by
  unfold Addr.add
  by_cases h : j = 0
  · subst h; simp
  · simp [h]
theorem record_Held.holds {w : World} {base g cap : Nat} {ok : Nat → Prop} {ns : List (Fin 244)} (hR : Kd.R k43 43 w base ok (.slice (some ⟨g, 0, none⟩) ns.length cap) (ns.map fun i => record_Held.key i.val)) : Sort.HoldsK record_Held.enc 2 w g 0 ns.toArray := by
  obtain ⟨A, c, he, _, hC⟩ := Kd.R_reads hR
  obtain ⟨h0, inner, hown, hr⟩ := hR
  obtain ⟨cells, hb⟩ := own_typed hown g rfl
  injection he with he _ _
  subst he
  rw [List.length_map] at hC
  intro j hj
  rw [Sort.size_flatK, List.size_toArray] at hj
  rw [Sort.get_flatK _ _ _ _ (by rw [List.size_toArray]; exact hj)]
  have hq : j / 2 < ns.length := by omega
  obtain ⟨ad, e, h1, h2⟩ := at_T43 hC ((j / 2 : Nat) : Int) (by omega) (by omega)
  injection e with e
  subst e
  have hrd : rd_T43 (ns.map fun i => record_Held.key i.val) ((j / 2 : Nat) : Int) = record_Held.key (ns[j / 2]).val := by
    unfold rd_T43
    rw [Int.toNat_natCast, List.getD_eq_getElem?_getD, List.getElem?_map, List.getElem?_eq_getElem hq]; rfl
  rw [hrd] at h1 h2
  rw [Int.toNat_natCast] at h1 h2
  have hel : (ns.toArray)[j / 2]! = ns[j / 2] := by rw [getElem!_pos _ _ (by rw [List.size_toArray]; exact hq)]; simp
  rw [hel]
  refine ⟨?_, by simp [World.frozen?, hb]⟩
  rcases Nat.mod_two_eq_zero_or_one j with hm | hm
  · rw [hm]
    have e1 : j / 2 * 2 = j := by omega
    rw [e1, record_Held.add0] at h1
    rw [Nat.zero_add]
    exact h1
  · rw [hm]
    have e1 : j / 2 * 2 + 1 = j := by omega
    rw [record_Held.add0] at h2
    simp only at h2
    rw [e1] at h2
    rw [Nat.zero_add]
    exact h2
theorem record_Held.take_put (cur : Array Value) (l : Array Value) (h : l.size ≤ cur.size) : (Sort.putCells id 0 l cur).toList.take l.size = l.toList := by
  apply List.ext_getElem?
  intro j
  by_cases hj : j < l.size
  · rw [List.getElem?_take_of_lt hj, Array.getElem?_toList]
    simp [Sort.putCells, hj, show j < cur.size by omega]
  · rw [List.getElem?_take_eq_none (by omega), List.getElem?_eq_none (by simp; omega)]
theorem record_Held.heap_sorted {w : World} {g n : Nat} {os : Array Obj} {cur : Array Value} {e : TypeId} {fr : Nat × Nat} (d : Array (Fin 244)) (hb : w.heap[g]? = some (.cells cur e fr)) :
    (sortWorldK record_Held.enc 2 w g 0 n d os).heap[g]? = some (.cells (Sort.putCells id 0 (Sort.flatK record_Held.enc 2 d) cur) e fr) := by
  have hg : g < w.heap.size := (Array.getElem?_eq_some_iff.1 hb).1
  unfold sortWorldK
  rw [Sort.heap_grow_old _ _ (by simpa [Sort.putRowK] using hg)]
  simp [Sort.putRowK, Sort.putRow, Sort.mapBlock, Sort.ahead, Array.getElem?_modify, hb, Sort.onCells]
theorem record_Held.grown_sorted {w : World} {g n : Nat} {os : Array Obj} (d : Array (Fin 244)) : w.grownBy (sortWorldK record_Held.enc 2 w g 0 n d os) (some g) := by
  unfold sortWorldK
  refine ⟨rfl, rfl, rfl, by simp [Sort.putRowK], fun k hk hne => ?_⟩
  rw [Sort.heap_grow_old _ _ (by simpa [Sort.putRowK] using hk)]
  have : g ≠ k := fun e => hne (by rw [e])
  simp [Sort.putRowK, Sort.putRow, Sort.mapBlock, Sort.ahead, Array.getElem?_modify, this]
theorem record_Held.reps (w : World) (base : Nat) (ok : Nat → Prop) (ts : List (Fin 244)) : Reps (k43.M w base ok) 2 (ts.map fun i => record_Held.key i.val) (Sort.flatK record_Held.enc 2 ts.toArray).toList := by
  refine ⟨by simp, fun j p hj => ?_⟩
  rw [List.getElem?_map, Option.map_eq_some_iff] at hj
  obtain ⟨i, hi, rfl⟩ := hj
  have hjl : j < ts.length := (List.getElem?_eq_some_iff.1 hi).1
  have e : ((Sort.flatK record_Held.enc 2 ts.toArray).toList.drop (j * 2)).take 2 = record_Held.enc i := by
    apply List.ext_getElem?
    intro u
    by_cases hu : u < 2
    · rw [List.getElem?_take_of_lt hu, List.getElem?_drop, Array.getElem?_toList]
      have hs : j * 2 + u < ts.toArray.size * 2 := by simp; omega
      have h1 := Sort.get_flatK record_Held.enc 2 ts.toArray (j * 2 + u) hs
      rw [getElem!_pos _ _ (by simpa using hs)] at h1
      rw [Array.getElem?_eq_getElem (by simpa using hs), h1]
      have e1 : (j * 2 + u) / 2 = j := by omega
      have e2 : (j * 2 + u) % 2 = u := by omega
      rw [e1, e2]
      have hel : (ts.toArray)[j]! = i := by
        rw [getElem!_pos _ _ (by simpa using hjl)]
        have := (List.getElem?_eq_some_iff.1 hi).2
        simpa using this
      rw [hel]
      have hl : u < (record_Held.enc i).length := hu
      rw [getElem!_pos (record_Held.enc i) u hl, List.getElem?_eq_getElem hl]
    · rw [List.getElem?_take_eq_none (by omega), List.getElem?_eq_none (by simp [record_Held.enc]; omega)]
  show k43.M w base ok _ (((Sort.flatK record_Held.enc 2 ts.toArray).toList.drop (j * 2)).take 2)
  rw [e]
  exact record_Held.enc_key w base ok i
theorem record_Held.sorted {w : World} {base g cap n : Nat} {ok : Nat → Prop} {os : Array Obj} {ns ts : List (Fin 244)} (hl : ts.length = ns.length) (hR : Kd.R k43 43 w base ok (.slice (some ⟨g, 0, none⟩) ns.length cap) (ns.map fun i => record_Held.key i.val)) :
    Kd.R k43 43 (sortWorldK record_Held.enc 2 w g 0 n ts.toArray os) base ok (.slice (some ⟨g, 0, none⟩) ns.length cap) (ts.map fun i => record_Held.key i.val) := by
  obtain ⟨h0, inner, ⟨hlen, ho⟩, hr⟩ := hR
  rcases ho with ⟨hn, _⟩ | ⟨g', cap', cur, hv, hbase, hb, h1, h2, h3, h4⟩
  · cases hn
  · injection hv with e1 e2 e3
    injection e1 with e1
    injection e1 with e1
    subst e1
    subst e3
    rw [List.length_map] at h1 h4 hlen
    have hsz : (Sort.flatK record_Held.enc 2 ts.toArray).size = ns.length * 2 := by rw [Sort.size_flatK, List.size_toArray, hl]
    have hs2 : k43.sz = 2 := rfl
    refine ⟨h0, _, ⟨by rw [List.length_map, Array.length_toList, hsz, hl, hs2], .inr ⟨g, cap, _, by rw [List.length_map, hl], hbase, record_Held.heap_sorted _ hb, by rw [List.length_map, hl]; exact h1, h2, by simp [Sort.putCells, h3], ?_⟩⟩, record_Held.reps _ _ _ ts⟩
    rw [List.length_map, hl, hs2, ← hsz]
    exact record_Held.take_put _ _ (by rw [hsz, h3, hs2]; omega)
/-! the loop over the keys -/
def record_Held.pm (i : Fin 244) : Int := ((i.val / 61 : Nat) : Int)
def record_Held.pk (i : Fin 244) : Int := ((i.val % 61 : Nat) : Int)
def record_Held.klf (i : Fin 244) : Lit := Sets.kl (record_Held.pm i) (record_Held.pk i)
theorem record_Held.wf_pm (i : Fin 244) : Sets.wf (record_Held.pm i) := record_Check.wf (by unfold record_Held.pm; omega) (by unfold record_Held.pm; omega)
theorem record_Held.wf_pk (i : Fin 244) : Sets.wf (record_Held.pk i) := record_Check.wf (by unfold record_Held.pk; omega) (by unfold record_Held.pk; omega)
theorem record_Held.klf_inj {P : Program} {K : TypeId} (T : Sets.KeyTy P K) {i j : Fin 244} (h : record_Held.klf i = record_Held.klf j) : i = j := by
  obtain ⟨h1, h2⟩ := Sets.kl_inj T (record_Held.wf_pm i) (record_Held.wf_pk i) (record_Held.wf_pm j) (record_Held.wf_pk j) h
  unfold record_Held.pm at h1
  unfold record_Held.pk at h2
  apply Fin.ext
  omega
structure record_Held.Mid (S : List (Int × Int)) (D : DataW Unit) (left : Lit → Bool) (cnt N : Nat) (ns : List (Fin 244)) : Prop where
  low : ∀ kl, left kl = true → Maps.has D kl = true
  all : ∀ i : Fin 244, (record_Held.pm i, record_Held.pk i) ∈ S ↔ (left (record_Held.klf i) = true ∨ i ∈ ns)
  done : ∀ i ∈ ns, left (record_Held.klf i) = false
  nodup : ns.Nodup
  len : ns.length + cnt ≤ N
theorem record_Held.mid0 {S : List (Int × Int)} {D : DataW Unit} (hS : ∀ m k, Sets.wf m → Sets.wf k → Maps.has D (Sets.kl m k) = S.contains (m, k)) : record_Held.Mid S D (Maps.has D) (Maps.size D) (Maps.size D) [] := by
  refine ⟨fun _ h => h, fun i => ?_, fun i h => (List.not_mem_nil h).elim, List.nodup_nil, by simp⟩
  rw [record_Held.klf, hS _ _ (record_Held.wf_pm i) (record_Held.wf_pk i)]
  simp
theorem record_Held.mid_step {P : Program} {K : TypeId} (T : Sets.KeyTy P K) {S : List (Int × Int)} {D : DataW Unit} {left : Lit → Bool} {cnt cnt' N : Nat} {ns : List (Fin 244)} (hS : ∀ m k, Sets.wf m → Sets.wf k → Maps.has D (Sets.kl m k) = S.contains (m, k))
    (hR : record_Held.Right S) (h : record_Held.Mid S D left cnt N ns) {m k : Int} (hm : Sets.wf m) (hk : Sets.wf k) (hl : left (Sets.kl m k) = true) (hlt : cnt' < cnt) :
    ∃ i : Fin 244, m = record_Held.pm i ∧ k = record_Held.pk i ∧ record_Held.Mid S D (fun z => left z && !z.sameKey (Sets.kl m k)) cnt' N (ns ++ [i]) := by
  have hc := h.low _ hl
  rw [hS m k hm hk, List.contains_eq_mem, decide_eq_true_eq] at hc
  obtain ⟨a1, a2, a3, a4⟩ := hR m k hc
  obtain ⟨i, rfl, rfl⟩ : ∃ i : Fin 244, m = record_Held.pm i ∧ k = record_Held.pk i := ⟨⟨(m * 61 + k).toNat, by omega⟩, by unfold record_Held.pm; simp only; omega, by unfold record_Held.pk; simp only; omega⟩
  refine ⟨i, rfl, rfl, ?_⟩
  have hself : (record_Held.klf i).sameKey (Sets.kl (record_Held.pm i) (record_Held.pk i)) = true := WideAt.sameKey_self (Sets.isKey _ _)
  have hoth : ∀ j, j ≠ i → (record_Held.klf j).sameKey (Sets.kl (record_Held.pm i) (record_Held.pk i)) = false := fun j hj => by
    rw [Bool.eq_false_iff]
    intro c
    exact hj (record_Held.klf_inj T (WideAt.sameKey_eq c))
  have hni : i ∉ ns := fun c => by rw [show left (Sets.kl (record_Held.pm i) (record_Held.pk i)) = false from h.done i c] at hl; cases hl
  refine ⟨fun kl hkl => h.low kl (by simp only [Bool.and_eq_true] at hkl; exact hkl.1), fun j => ?_, fun j hj => ?_, ?_, by have := h.len; simp; omega⟩
  · rw [h.all j]
    by_cases e : j = i
    · subst e
      rw [hself]
      simp [show left (record_Held.klf j) = true from hl]
    · rw [hoth j e]
      simp [e]
  · rcases List.mem_append.1 hj with hj | hj
    · simp only [h.done j hj, Bool.false_and]
    · rw [List.mem_singleton.1 hj, hself]; simp
  · rw [List.nodup_append]
    refine ⟨h.nodup, by simp, fun a ha b hb e => ?_⟩
    subst e
    rw [List.mem_singleton.1 hb] at ha
    exact hni ha
/-! the order -/
def record_Held.cf (i j : Fin 244) : Int := if record_Held.pm i - record_Held.pm j = 0 then record_Held.pk i - record_Held.pk j else record_Held.pm i - record_Held.pm j
theorem record_Held.lt_eq (i j : Fin 244) : ltOf record_Held.cf i j = decide (i < j) := by
  unfold ltOf
  congr 1
  rw [eq_iff_iff, Fin.lt_def]
  unfold record_Held.cf record_Held.pm record_Held.pk
  split <;> omega
theorem record_Held.swo : Sort.SWO (ltOf record_Held.cf) where
  irrefl x := by rw [record_Held.lt_eq]; simp
  trans x y z h1 h2 := by rw [record_Held.lt_eq] at *; simp only [decide_eq_true_eq, Fin.lt_def] at *; omega
  ntrans x y z h1 h2 := by rw [record_Held.lt_eq] at *; simp only [decide_eq_false_iff_not, Fin.lt_def] at *; omega
theorem record_Held.total (x y : Fin 244) (h1 : ltOf record_Held.cf x y = false) (h2 : ltOf record_Held.cf y x = false) : x = y := by
  rw [record_Held.lt_eq] at h1 h2
  simp only [decide_eq_false_iff_not, Fin.lt_def] at h1 h2
  apply Fin.ext
  omega
theorem record_Held.mid_end {S : List (Int × Int)} {D : DataW Unit} {left : Lit → Bool} {cnt N : Nat} {ns : List (Fin 244)} (h : record_Held.Mid S D left cnt N ns) (hl : ∀ kl, left kl = false) :
    (ns.mergeSort fun x y => !(ltOf record_Held.cf) y x).map (fun i => record_Held.key i.val) = record_Held.keys S := by
  unfold record_Held.keys
  have hf := List.Pairwise.filter (fun i : Fin 244 => S.contains (((i.val / 61 : Nat) : Int), ((i.val % 61 : Nat) : Int))) (List.pairwise_lt_finRange 244)
  congr 1
  refine List.Perm.eq_of_pairwise (le := fun x y => (!(ltOf record_Held.cf) y x) = true) ?_ ?_ ?_ ((List.mergeSort_perm _ _).trans ?_)
  · intro a b _ _ h1 h2
    simp only [Bool.not_eq_true'] at h1 h2
    exact record_Held.total a b h2 h1
  · refine List.pairwise_mergeSort ?_ ?_ ns
    · intro a b c h1 h2
      simp only [record_Held.lt_eq, Bool.not_eq_true', decide_eq_false_iff_not, Fin.lt_def] at *
      omega
    · intro a b
      simp only [record_Held.lt_eq, Bool.or_eq_true, Bool.not_eq_true', decide_eq_false_iff_not, Fin.lt_def]
      omega
  · refine hf.imp fun {a b} hab => ?_
    simp only [record_Held.lt_eq, Bool.not_eq_true', decide_eq_false_iff_not, Fin.lt_def] at *
    omega
  · refine (List.perm_ext_iff_of_nodup h.nodup (hf.imp fun {a b} hab => Fin.ne_of_lt hab)).2 fun i => ?_
    rw [List.mem_filter]
    have := h.all i
    rw [hl] at this
    simp only [Bool.false_eq_true, false_or] at this
    rw [← this]
    simp only [List.mem_finRange, true_and, List.contains_eq_mem, decide_eq_true_eq]
    rfl
theorem record_Held.size_le {P : Program} {K : TypeId} {w : World} {b n : Nat} {D : DataW Unit} (h : w.ownsMap P K unitElem b n D) : Maps.size D ≤ n := by
  obtain ⟨es, clock, hb, F, hs, rfl⟩ := h
  simpa [Maps.size, length_sorted] using hs
/-! the closure -/
theorem record_Held.or2 (x y : Int) : cmp_Or_int.f 4 [x, y] = some (if x = 0 then y else x) := by
  unfold cmp_Or_int.f
  have e : wrap64 (0 + 1) = 1 := by unfold wrap64; omega
  have e1 : wrap64 1 = 1 := by unfold wrap64; omega
  have e2 : wrap64 (1 + 1) = 2 := by unfold wrap64; omega
  have e3 : wrap64 2 = 2 := by unfold wrap64; omega
  simp only [cmp_Or_int.l0, List.length_cons, List.length_nil, rd]
  by_cases h : x = 0
  · by_cases h2 : y = 0
    · simp [h, h2, e, e1, e2, e3]
    · simp [h, h2, e, e1]
  · simp [h]
theorem record_Held.row2 (x y : Int) (W : World) (b : Nat) (hb : W.heap.size = b) : Kd.C (Kd.int .i64) (W.alloc (.cells #[.int .i64 x, .int .i64 y] 3)) (some ⟨b, 0, none⟩) 2 [x, y] := by
  subst hb
  have hz := blk_new W (.cells #[.int .i64 x, .int .i64 y] 3)
  refine ⟨rfl, by decide, fun _ => ⟨_, rfl, fun j p hj => ?_⟩⟩
  match j, hj with
  | 0, hj =>
    injection hj with hj
    subst hj
    refine ⟨[.int .i64 x], rfl, rfl, fun i u hu => ?_⟩
    match i, hu with
    | 0, hu => injection hu with hu; subst hu; exact (blk_cell hz 0).trans rfl
  | 1, hj =>
    injection hj with hj
    subst hj
    refine ⟨[.int .i64 y], rfl, rfl, fun i u hu => ?_⟩
    match i, hu with
    | 0, hu => injection hu with hu; subst hu; exact (blk_cell hz 1).trans rfl
set_option maxHeartbeats 2000000 in
set_option maxRecDepth 100000 in
theorem record_Held.closure (i j : Fin 244) (W : World) : Calls Try.prog 38 #[.agg (record_Held.enc i).toArray, .agg (record_Held.enc j).toArray] W fun e w' => e = .returned (.int .i64 (record_Held.cf i j)) ∧ ∃ q os', w' = Sort.grow (W.drewN q) os' := by
  have hcf : record_Held.cf i j = if record_Held.pm i - record_Held.pm j = 0 then record_Held.pk i - record_Held.pk j else record_Held.pm i - record_Held.pm j := rfl
  have h1 : 0 ≤ record_Held.pm i ∧ record_Held.pm i < 4 ∧ 0 ≤ record_Held.pm j ∧ record_Held.pm j < 4 := by unfold record_Held.pm; omega
  have h2 : 0 ≤ record_Held.pk i ∧ record_Held.pk i < 61 ∧ 0 ≤ record_Held.pk j ∧ record_Held.pk j < 61 := by unfold record_Held.pk; omega
  obtain ⟨h11, h12, h13, h14⟩ := h1
  obtain ⟨h21, h22, h23, h24⟩ := h2
  change Calls Try.prog 38 #[.agg #[.int .i64 (record_Held.pm i), .int .i64 (record_Held.pk i)], .agg #[.int .i64 (record_Held.pm j), .int .i64 (record_Held.pk j)]] W _
  rw [hcf]
  clear hcf
  generalize record_Held.pm i = a at *
  generalize record_Held.pk i = b at *
  generalize record_Held.pm j = c at *
  generalize record_Held.pk j = d at *
  have hu43 := Try.underlying43
  go_enter Try.func38, Try.ntmps38
  go_wp2_with (go_at_call 39; refine (cmp_Or_int.calls 4 _ _ [a - c, b - d] _ _ ?hC (Nat.le_refl _) (record_Held.or2 _ _)).mono ?_; rotate_left; rintro e w' ⟨rfl, hd⟩)
  case hC => exact record_Held.row2 _ _ _ _ (by simp)
  all_goals go_ret
  all_goals obtain ⟨n, rfl⟩ := hd
  all_goals exact ⟨rfl, n, _, by rw [Sort.alloc_eq_grow, Sort.alloc_eq_grow, Sort.alloc_eq_grow, Sort.grow_grow, Sort.grow_grow]; rfl⟩
/-! the library's sort at the keys -/
def record_Held.kv : Fin 244 → S43 := fun i => record_Held.key i.val
def record_Held.ts (ns : List (Fin 244)) : List (Fin 244) := ns.mergeSort fun x y => !(ltOf record_Held.cf) y x
theorem record_Held.ne_iter {xs : List S43} {v : Value} {wc : World} {base b r n : Nat} {D : DataW Unit} {left : Lit → Bool} {cnt : Nat} (hR : Kd.R k43 43 wc base (fun _ => True) v xs) (hg : wc.ranges Try.prog 43 unitElem b r n D left cnt) : some b ≠ v.ownBlock ∧ some r ≠ v.ownBlock := by
  obtain ⟨_, inner, hown, _⟩ := hR
  obtain ⟨es, clock, since, seen, c0, hb, _, _, _, hr, _⟩ := hg
  refine ⟨fun e => ?_, fun e => ?_⟩
  · obtain ⟨cells, hc⟩ := own_typed hown b e.symm
    rw [hb] at hc; cases hc
  · obtain ⟨cells, hc⟩ := own_typed hown r e.symm
    rw [hr] at hc; cases hc
theorem record_Held.R_iter {xs : List S43} {v : Value} {wc w1 : World} {base b r n : Nat} {D : DataW Unit} {left : Lit → Bool} {cnt : Nat} (hR : Kd.R k43 43 wc base (fun _ => True) v xs) (hg : wc.ranges Try.prog 43 unitElem b r n D left cnt) (hw : wc.grownBy w1 (some r)) : Kd.R k43 43 w1 base (fun _ => True) v xs := by
  obtain ⟨es, clock, since, seen, c0, hb, _, _, _, hr, _⟩ := hg
  refine Kd.R_mono (Kd.R_move (Kd.R_bound hR) (fun k hk => ?_)) (fun _ _ => trivial)
  obtain ⟨_, _, hlt, q, _, cells, hc⟩ := hk
  refine hw.block k hlt (fun e => ?_)
  injection e with e
  subst e
  rw [hr] at hc; cases hc
set_option maxHeartbeats 2000000 in
set_option maxRecDepth 100000 in
theorem record_Held.sort_calls {v : Value} {wc : World} {base : Nat} {ns : List (Fin 244)} (hR : Kd.R k43 43 wc base (fun _ => True) v (ns.map record_Held.kv)) (hlen : ns.length ≤ 16384) :
    Calls Try.prog 37 #[v, .func (.func 38) #[] #[]] wc fun e w' => e = .returned (.tuple #[]) ∧ Kd.R k43 43 w' base (fun _ => True) v ((record_Held.ts ns).map record_Held.kv) ∧ wc.grownBy w' v.ownBlock := by
  have eg : ∀ args w, (callFunc 38 args).run Try.prog w = .ok (.enter 38 args) w := enters_of Try.func38 (by kernel_rfl) rfl
  obtain ⟨h0, inner, hown, hr⟩ := id hR
  have hsh := hown.2
  rw [List.length_map] at hsh
  rcases hsh with ⟨rfl, hn⟩ | ⟨g, cap, cur, rfl, hbase, hb, hcap, _⟩
  · obtain rfl := List.eq_nil_of_length_eq_zero hn
    have h := AnyF.slices_SortFunc_none Try.sortHeld none 0 (.func (.func 38) #[] #[]) wc
    refine Calls.mono h ?_
    rintro e w' ⟨rfl, rfl⟩
    refine ⟨rfl, ?_, ⟨rfl, rfl, rfl, Nat.le_refl _, fun _ _ _ => rfl⟩⟩
    rw [show record_Held.ts [] = [] from by simp [record_Held.ts]]
    exact hR
  · have hblk : g < wc.heap.size := (Array.getElem?_eq_some_iff.1 hb).1
    have hH := record_Held.holds (ns := ns) hR
    have h := AnyQ.slices_SortFunc_total Try.sortHeld 2 Try.isAgg43 Try.sizeOf43 record_Held.enc (fun _ => rfl) (fun x v hv => by simp [record_Held.enc] at hv; rcases hv with rfl | rfl <;> rfl) record_Held.cf record_Held.swo 38 #[] g 0 cap ns.toArray wc eg
      (fun _ _ _ _ x y => record_Held.closure x y _) hH hblk (by simp; omega) record_Held.total
    refine Calls.mono (show Calls Try.prog 37 #[.slice (some ⟨g, 0, none⟩) ns.length cap, .func (.func 38) #[] #[]] wc _ from h) ?_
    rintro e w' ⟨rfl, n, os, rfl⟩
    exact ⟨rfl, record_Held.sorted (ts := record_Held.ts ns) (List.length_mergeSort ..) hR, record_Held.grown_sorted _⟩
/-! the walk -/
theorem record_Held.kept {w wr w1 : World} {o1 : Obj} {n : Nat} (hB : Below w.heap.size w wr) (hn : w.heap.size ≤ n) (hg : (wr.alloc o1).grownBy w1 (some n)) : Below w.heap.size w w1 :=
  (below_alloc hB _).grown hg (below_alloc hB _).size (fun j hj => by cases hj; exact hn)
theorem record_Held.yes {at_ a m k : Int} {d : Bool} {t : List S45} {S : List (Int × Int)} {R : List (Int × Int)} (h : record_Held.fold at_ (⟨a, ⟨m, k⟩, d⟩ :: t) S = R) (c : a ≤ at_) : record_Held.fold at_ t (Sets.turn S m k d) = R := by
  rw [← h]; conv => rhs; unfold record_Held.fold
  rw [if_pos c]
theorem record_Held.no {at_ a m k : Int} {d : Bool} {t : List S45} {S : List (Int × Int)} {R : List (Int × Int)} (h : record_Held.fold at_ (⟨a, ⟨m, k⟩, d⟩ :: t) S = R) (c : ¬ a ≤ at_) : record_Held.fold at_ t S = R := by
  rw [← h]; conv => rhs; unfold record_Held.fold
  rw [if_neg c]
theorem record_Held.invK (key : Value) (kl : Lit) (h : keyOf Try.prog 43 key = some kl) : ∃ x : Int × Int, key = (fun x : Int × Int => Value.agg #[.int .i64 x.1, .int .i64 x.2]) x := by
  obtain ⟨m, k, e, _, _⟩ := record_Held.inv h
  exact ⟨(m, k), e⟩
theorem record_Held.next {xm xk : Int} {kl : Lit} (h : keyOf Try.prog 43 (.agg #[.int .i64 xm, .int .i64 xk]) = some kl) : Sets.wf xm ∧ Sets.wf xk ∧ kl = Sets.kl xm xk := by
  obtain ⟨m, k, e, hm, hk⟩ := record_Held.inv h
  injection e with e
  injection e with e
  simp only [List.cons.injEq, Value.int.injEq, true_and, and_true] at e
  obtain ⟨rfl, rfl⟩ := e
  rw [record_turn.ty.key xm xk hm hk] at h
  injection h with h
  exact ⟨hm, hk, h.symm⟩
theorem record_Held.room {n c s l : Nat} (h1 : n + c ≤ s) (h2 : s ≤ l) (h3 : l ≤ 16384) : (n + 1) * 16 ≤ 140737488355328 := by omega
theorem record_Held.own_base {xs : List S43} {v : Value} {wc : World} {base : Nat} (hR : Kd.R k43 43 wc base (fun _ => True) v xs) {k : Nat} (hk : v.ownBlock = some k) : base ≤ k := by
  obtain ⟨_, inner, hown, _⟩ := hR
  exact hown.lt k hk |>.1
theorem record_Held.more {P : Program} {K : TypeId} {w : World} {b n : Nat} {S : List (Int × Int)} (h : Sets.SetAt P K w b n S) : Sets.SetAt P K w b (n + 1) S := by
  obtain ⟨D, h1, h2⟩ := h
  exact ⟨D, h1.mono (Nat.le_succ n), h2⟩
set_option maxHeartbeats 8000000 in
set_option maxRecDepth 100000 in
theorem record_Held.calls (A0 : Option Addr) (c0 : Nat) (l0 : List S45) (a1 : Int) (r1 : List S43) (r2 : Int) (w : World) (hr0 : Kd.C k45 w A0 l0.length l0) (hc0 : l0.length ≤ c0) (h : record_Held.f l0 a1 = some (r1, r2)) :
    Calls Try.prog 24 #[.slice A0 l0.length c0, .int .u64 a1] w fun e w' => ∃ v0_ : Value, e = .returned (.tuple #[v0_, .int .i64 r2]) ∧ Kd.R k43 43 w' w.heap.size (fun _ => True) v0_ r1 ∧ Below w.heap.size w w' := by
  have hu45 := Try.underlying45
  have hu43 := Try.underlying43
  have HR0 := Aside0.mk hr0
  have hmx := Kd.C_max hr0
  have hmm := @run_makeMap Try.prog
  clear hr0
  unfold record_Held.f at h
  obtain ⟨⟨q1, q2⟩, AC, h⟩ := Option.bind_eq_some_iff.mp h
  have HC := Aside0.mk AC
  clear AC
  simp only at h
  by_cases g1 : q2 = 0
  case neg =>
    rw [if_neg g1] at h
    injection h with h
    injection h with h1 h2
    subst h1
    subst h2
    have gb : (q2 != 0) = true := by simp [g1]
    go_enter Try.func24, Try.ntmps24
    go_wp2_with (go_at_call 21; refine (record_Check.calls A0 c0 l0 q1 q2 w HR0.out hc0 HC.out).mono ?_; rintro e w1 ⟨rfl, hb⟩; have HB1 := Aside0.mk hb; clear hb)
    go_ret2
    exact ⟨_, rfl, Kd.R_nil _ _ _ _ _, HB1.out⟩
  rw [if_pos g1] at h
  obtain ⟨hl, hright⟩ : l0.length ≤ 16384 ∧ ∀ e ∈ l0, 0 ≤ e.f1.f0 ∧ e.f1.f0 < 4 ∧ 0 ≤ e.f1.f1 ∧ e.f1.f1 < 61 := by
    have hc := HC.out
    unfold record_Check.f at hc
    injection hc with hc
    by_cases hl : 16384 < l0.length
    · rw [if_pos hl] at hc
      injection hc with _ hc
      rw [g1] at hc
      cases hc
    · rw [if_neg hl] at hc
      subst g1
      exact ⟨by omega, record_Held.good_right l0 0 [] 0 q1 hc⟩
  have HRt := Aside0.mk hright
  clear hright
  have gb : (q2 != 0) = false := by simp [g1]
  clear g1
  injection h with h
  injection h with h1 h2
  subst h2
  obtain ⟨T, hT⟩ : ∃ T, record_Held.fold a1 l0 [] = T := ⟨_, rfl⟩
  rw [hT] at h1
  have HT := Aside0.mk (record_Held.fold_right a1 l0 [] HRt.out (fun m k h => by cases h))
  rw [hT] at HT
  have HF0 := Aside0.mk hT
  clear hT
  have H1 := Aside0.mk h1
  clear h1
  have hi43 : (Try.prog.info? 43).map (fun i => (i.zero, i.size, i.bytes)) = some (some (.agg #[(.int .i64 0), (.int .i64 0)]), 2, 16) := by kernel_rfl
  go_enter Try.func24, Try.ntmps24
  go_wp2_with (go_at_call 21; refine (record_Check.calls A0 c0 l0 q1 q2 w HR0.out hc0 HC.out).mono ?_; rintro e w1 ⟨rfl, hb⟩; have HB1 := Aside0.mk hb; have hsz := hb.size; clear hb)
  generalize hbm : w1.heap.size = bm at *
  go_loopw [24] (fun v24 wr => ∃ (i : Nat) (S : List (Int × Int)), v24 = .int .i64 i ∧ i ≤ l0.length ∧ Aside0 (record_Held.fold a1 (l0.drop i) S = T) ∧ Aside0 (Sets.SetAt Try.prog 43 wr bm i S) ∧ Aside0 (Below w.heap.size w wr)) (fun v24 _ => l0.length - (intOf v24).toNat)
  case atStart => exact ⟨0, [], rfl, Nat.zero_le _, ⟨by rw [List.drop_zero]; exact HF0.out⟩, ⟨by rw [← hbm]; exact record_Check.made _⟩, ⟨below_alloc HB1.out _⟩⟩
  case round =>
    obtain ⟨i, S, rfl, hi, HG, HS, HB⟩ := hrel
    by_cases hlt : i < l0.length
    · have hG := HG.out
      rw [record_Check.drop l0 i hlt] at hG
      clear HG
      have hx := HRt.out _ (show rd_T45 l0 (i : Int) ∈ l0 by
        unfold rd_T45
        rw [Int.toNat_natCast, List.getD_eq_getElem?_getD, List.getElem?_eq_getElem hlt]
        exact List.getElem_mem hlt)
      obtain ⟨ad, rfl, hx0, hx1, hx2, hx3⟩ := at_T45 HR0.out (i : Int) (by omega) (by omega)
      rw [Int.toNat_natCast] at hx0 hx1 hx2 hx3
      replace hx0 := (HB.out.cell (World.block_lt_of_cell? w _ hx0)).trans hx0
      replace hx1 := (HB.out.cell (World.block_lt_of_cell? w _ hx1)).trans hx1
      replace hx2 := (HB.out.cell (World.block_lt_of_cell? w _ hx2)).trans hx2
      replace hx3 := (HB.out.cell (World.block_lt_of_cell? w _ hx3)).trans hx3
      generalize rd_T45 l0 (i : Int) = x at hG hx hx0 hx1 hx2 hx3
      obtain ⟨a, ⟨m, k⟩, d⟩ := x
      simp only at hx hx0 hx1 hx2 hx3
      obtain ⟨hm1, hm2, hk1, hk2⟩ := hx
      have HG := Aside0.mk hG
      clear hG
      by_cases c1 : a ≤ a1
      · have HG1 := Aside0.mk (record_Held.yes HG.out c1)
        clear HG
        go_wp2_with (go_at_call 34; refine (record_turn.calls bm i S m k d _ (HS.out.alloc _) (by omega) (record_Check.wf (by omega) (by omega)) (record_Check.wf (by omega) (by omega))).mono ?_; rintro e w2 ⟨he, hS1, hg⟩; subst he; have HB1 := Aside0.mk (record_Held.kept HB.out hsz hg); have HS1 := Aside0.mk hS1; clear hS1 hg)
        go_roundw
        case rel => exact ⟨i + 1, _, by go_num, by omega, HG1, HS1, HB1⟩
        case measure => simp [intOf]; omega
      · have HG1 := Aside0.mk (record_Held.no HG.out c1)
        clear HG
        go_wp2
        go_roundw
        case rel => exact ⟨i + 1, S, by go_num, by omega, HG1, ⟨record_Held.more (HS.out.alloc _)⟩, ⟨below_alloc HB.out _⟩⟩
        case measure => simp [intOf]; omega
    · have hG := HG.out
      rw [List.drop_of_length_le (by omega)] at hG
      have hS : S = T := hG
      clear hG HG
      subst hS
      obtain ⟨D, hown, hD⟩ := HS.out
      have HD := Aside0.mk hD
      clear hD
      have hNle := Nat.le_trans (record_Held.size_le hown) hi
      have hrb : w.heap.size ≤ wr.heap.size := HB.out.size
      go_wp2_with (first | (at_range; refine wpList_range_own _ rfl _ 77 rfl 43 87 record_turn.ty.keyed Try.underlying77 unitElem bm i D rfl hown ?_; intro wr2 hrg0 hg0 hs0))
      clear hown
      have HRG := Aside0.mk hrg0
      have HB2 := Aside0.mk (HB.out.grown hg0 hrb (fun j hj => by cases hj))
      generalize hrr : wr.heap.size = rb at *
      clear hg0 hs0 hrg0 HB HS
      go_frame
      go_loopw [11] (fun v11 wc => ∃ (ns : List (Fin 244)) (left : Lit → Bool) (cnt : Nat), Aside0 (record_Held.Mid S D left cnt (Maps.size D) ns) ∧ Aside0 (Kd.R k43 43 wc w.heap.size (fun _ => True) v11 (ns.map record_Held.kv)) ∧ Aside0 (wc.ranges Try.prog 43 unitElem bm rb i D left cnt) ∧ Aside0 (Below w.heap.size w wc)) (fun _ wc => wc.rangeLeft bm rb)
      case atStart => exact ⟨[], _, _, ⟨record_Held.mid0 HD.out⟩, ⟨Kd.R_nil _ _ _ _ _⟩, HRG, HB2⟩
      case round =>
        obtain ⟨ns, left, cnt, HM, HO, HG, HB⟩ := hrel
        clear HRG HB2
        have hns := HM.out.len
        have hne := record_Held.ne_iter HO.out HG.out
        obtain ⟨Av, cv, rfl⟩ := Kd.R_slice HO.out
        rw [List.length_map] at *
        go_wp2_with (at_next; refine wpList_next_ranges _ rfl _ rfl 43 record_turn.ty.keyed unitElem (fun x : Int × Int => .agg #[.int .i64 x.1, .int .i64 x.2]) (fun v : Value => v) record_Held.invK (fun v _ _ => ⟨v, rfl⟩) bm rb i D left cnt rfl HG.out ?_ ?_)
        · intro hc0 hl0
          have HL := Aside0.mk hl0
          clear hl0
          go_wp2_with (go_at_call 37
                       refine (record_Held.sort_calls HO.out (by omega)).mono ?_
                       rintro e w4 ⟨rfl, hR, hg⟩
                       have HR4 := Aside0.mk hR
                       have HB4 := Aside0.mk (HB.out.grown hg HB.out.size (fun k hk => record_Held.own_base HO.out hk))
                       clear hR hg)
          go_ret2
          refine ⟨_, rfl, ?_, HB4.out⟩
          rw [← H1.out, ← record_Held.mid_end HM.out HL.out]
          exact HR4.out
        · intro xm xk c kl y1 y2 w1 cnt' hkey hlk hv hat hrg1 hlt1 hg1 hs1 hen
          obtain ⟨hwm, hwk, rfl⟩ := record_Held.next hkey
          obtain ⟨j, rfl, rfl, hm1⟩ := record_Held.mid_step record_turn.ty HD.out HT.out HM.out hwm hwk hlk hlt1
          have HM1 := Aside0.mk hm1
          have HO1 := Aside0.mk (record_Held.R_iter HO.out HG.out hg1)
          have HB1 := Aside0.mk (HB.out.grown hg1 HB.out.size (fun j hj => by cases hj; exact hrb))
          have HRG1 := Aside0.mk hrg1
          clear hkey hlk hv hat hrg1 hg1 hs1 hwm hwk hm1
          go_wp2_with
            (at_builtin
             refine Kd.R_append k43 (w0 := w) w.heap.size ?g1 (.tmp 45) (.tmp 47) 49 43 (.agg #[(.int .i64 0), (.int .i64 0)]) 16 ?g2 ?g3 ?g4 ?g5 ?g6 ?g17 (.slice Av ns.length cv) (ns.map record_Held.kv) (record_Held.kv j) [.int .i64 (record_Held.pm j), .int .i64 (record_Held.pk j)] (fun _ => True) (fun _ => False) ?g7 ?g8 ?g9 ?g10 ?g11 ?g12 ?g13 ?g14 ?g15 ?g16
             (case g1 => exact rfl)
             (case g2 => exact rfl)
             (case g3 => exact Try.underlying49)
             (case g4 => exact hi43)
             (case g5 => exact rfl)
             (case g6 => decide)
             (case g17 => decide)
             (case g7 => exact rfl)
             (case g8 => exact (congrArg (fun n => Value.slice (some ⟨n, 0, none⟩) 1 1) (by simp)))
             (case g9 => exact record_Held.enc_key _ _ _ j)
             (case g10 => exact (fun _ hk => hk.elim))
             (case g11 => exact (fun _ _ => trivial))
             (case g12 => exact Kd.R_alloc HO1.out _)
             (case g13 => exact below_alloc HB1.out _)
             (case g14 => exact (below_alloc HB1.out _).size)
             (case g15 => rw [List.length_map]; exact record_Held.room hns hNle hl)
             intro v1 w3 hR hB hg hat
             have HR3 := Aside0.mk hR
             have HB3 := Aside0.mk hB
             have HRG3 := Aside0.mk ((HRG1.out.alloc _).kept hg hne.1 hne.2)
             clear hR hB hg hat)
          go_roundw
          case rel => exact ⟨ns ++ [j], _, cnt', HM1, ⟨by rw [List.map_append]; exact HR3.out⟩, HRG3, HB3⟩
          case measure => rw [HRG3.out.left_eq, HG.out.left_eq]; exact hlt1


end Go.Proofs.Ytfcomoledfdojaa.PRecordTells
