-- Written by a program of this session (the kit's print, turned: wip/px).
import Derived.Test.YtfcomoledfdojaaPRecordKnownx0
import Derived.Test.YtfcomoledfdojaaPRecordKnownx1
import Derived.Test.YtfcomoledfdojaaPRecordKnownx2
namespace Go.Proofs.Ytfcomoledfdojaa.PRecordKnown
open Go.RowKit Go.Proofs.YtfcomoledfdojaaW.PrintWords Go.Proofs.YtfcomoledfdojaaW.PrintLast Go.Proofs.YtfcomoledfdojaaW.PrintMore
attribute [local go_sem] max2_int min2_int max_two min_two max_three min_three max_four min_four   -- for this text's walks alone
set_option linter.unusedVariables false
set_option linter.unusedSimpArgs false

/-! ### record_Join: function 18 -/
def record_Join.on : S45 := ⟨0, ⟨0, 0⟩, true⟩
def record_Join.on1 : S45 := ⟨1, ⟨0, 0⟩, true⟩
def record_Join.ev (e d : S45) : Bool := e.f0 == d.f0 && e.f1.f0 == d.f1.f0 && e.f1.f1 == d.f1.f1 && e.f2 == d.f2
def record_Join.is : List (List S45) → Bool
  | [[a], [b]] => record_Join.ev a record_Join.on && record_Join.ev b record_Join.on1
  | _ => false
/-- At the one argument that the statement hands it. -/
def record_Join.f (l : List (List S45)) : Option (List S45 × Int) := if record_Join.is l = true then some ([], 8) else none
/-! slices.Grow of nothing by two -/
theorem record_Join.grow (w : World) (base : Nat) (hb : base ≤ w.heap.size) : Calls Try.prog 40 #[.slice none 0 0, .int .i64 2] w fun e w' => ∃ v : Value, e = .returned v ∧ Kd.R k45 45 w' base (fun _ => True) v [] ∧ Below w.heap.size w w' := by
  have hi45 : (Try.prog.info? 45).map (fun i => (i.zero, i.size, i.bytes)) = some (some (.agg #[(.int .u64 0), (.int .i64 0), (.int .i64 0), (.bool false)]), 4, 32) := by kernel_rfl
  obtain ⟨i0, hi0, hz0, hs0, hb0⟩ := info_parts hi45
  have h := Any8.slices_Grow_grow Try.growEv i0 _ hi0 hz0 (by rw [hs0]; decide) none 0 0 2 [] w (Nat.le_refl _) (by decide) (by rw [hb0]; decide) (by decide) (by simp) (fun _ => rfl) (fun a ha => by cases ha)
  refine Calls.mono (show Calls Try.prog 40 #[.slice none 0 0, .int .i64 2] w _ from h) ?_
  rintro e w' ⟨rfl, rfl⟩
  have h2 := grownCap_ge w (0 + 2) 0 45
  have h3 := grownCap_le_maxLen w (0 + 2) 0 45 (by decide)
  refine ⟨_, rfl, ⟨fun _ _ => trivial, [], ⟨rfl, .inr ⟨w.heap.size, _, _, rfl, hb, blk_new w.drew _, Nat.zero_le _, h3, ?_, by simp⟩⟩, Reps.none _ _⟩, below_alloc (below_drew1 (Below.refl _ _)) _⟩
  show Array.size _ = grownCap w (0 + 2) 0 45 * 4
  rw [Array.size_append, Array.size_append, size_zeroCells, size_zeroCells]
  change 0 + (0 + 2 - 0) * 4 + (grownCap w (0 + 2) 0 45 - (0 + 2)) * 4 = grownCap w (0 + 2) 0 45 * 4
  omega
/-! slices.Concat of two records of one event -/
def record_Join.two : List S45 := [record_Join.on, record_Join.on1]
set_option maxHeartbeats 4000000 in
set_option maxRecDepth 100000 in
theorem record_Join.concat (ad : Addr) (c0 : Nat) (w : World) (hx : ∀ i, i < 2 → ∃ A c, w.cell? (ad.add i) = some (.slice A 1 c) ∧ Kd.C k45 w A 1 [record_Join.two.getD i record_Join.on]) (h2 : 2 ≤ c0) :
    Calls Try.prog 30 #[.slice (some ad) 2 c0] w fun e w' => ∃ v : Value, e = .returned v ∧ Kd.R k45 45 w' w.heap.size (fun _ => True) v record_Join.two ∧ Below w.heap.size w w' := by
  have hi45 : (Try.prog.info? 45).map (fun i => (i.zero, i.size, i.bytes)) = some (some (.agg #[(.int .u64 0), (.int .i64 0), (.int .i64 0), (.bool false)]), 4, 32) := by kernel_rfl
  have HX := Aside0.mk hx
  clear hx
  go_enter Try.func30, Try.ntmps30
  go_wp2
  go_loopw [3, 11] (fun v3 v11 wr => ∃ i : Nat, v3 = .int .i64 i ∧ v11 = .int .i64 i ∧ i ≤ 2 ∧ Aside0 (Below w.heap.size w wr)) (fun _ v11 _ => 2 - (intOf v11).toNat)
  case atStart => exact ⟨0, rfl, rfl, by omega, ⟨Below.refl _ _⟩⟩
  case round =>
    obtain ⟨i, rfl, rfl, hi, HB⟩ := hrel
    by_cases hlt : i < 2
    · obtain ⟨A, c, hc, _⟩ := HX.out i hlt
      have hc := (HB.out.cell (World.block_lt_of_cell? w _ hc)).trans hc
      go_wp2
      go_roundw
      case rel => exact ⟨i + 1, by go_num, by go_num, by omega, HB⟩
      case measure => simp [intOf]; omega
    · obtain rfl : i = 2 := by omega
      go_wp2_with (go_at_call 40; refine (record_Join.grow _ w.heap.size HB.out.size).mono ?_; rintro e w1 ⟨v, rfl, hv, hb⟩; have HV := Aside0.mk hv; have HB1 := Aside0.mk (below_step HB.out hb); clear hv hb)
      go_loopw [6, 27] (fun v6 v27 wr => ∃ i : Nat, v27 = .int .i64 i ∧ i ≤ 2 ∧ Aside0 (Kd.R k45 45 wr w.heap.size (fun _ => True) v6 (record_Join.two.take i)) ∧ Aside0 (Below w.heap.size w wr)) (fun _ v27 _ => 2 - (intOf v27).toNat)
      case atStart => exact ⟨0, rfl, by omega, HV, HB1⟩
      case round =>
        clear HV HB1 HB
        obtain ⟨i, rfl, hi, HO, HB⟩ := hrel
        by_cases hlt : i < 2
        · obtain ⟨A, c, hc, hC⟩ := HX.out i hlt
          have HC := Aside0.mk (Kd.C_below hC HB.out)
          have hc := (HB.out.cell (World.block_lt_of_cell? w _ hc)).trans hc
          obtain ⟨Av, cv, rfl⟩ := Kd.R_slice HO.out
          have hln : (record_Join.two.take i).length = i := by rw [List.length_take]; simp [record_Join.two]; omega
          go_wp2_with (at_builtin; refine Kd.R_append_rows k45 (w0 := w) w.heap.size rfl (.tmp 31) (.tmp 32) 22 45 (.agg #[(.int .u64 0), (.int .i64 0), (.int .i64 0), (.bool false)]) 32 rfl Try.underlying22 hi45 rfl (by decide) (by omega) (.slice Av (record_Join.two.take i).length cv) (record_Join.two.take i) [record_Join.two.getD i record_Join.on] _ _ _ (fun _ => True) (fun _ => False) rfl rfl ?aO ?aR (fun _ _ h => h) (fun _ h => h.elim) ?aF ?aB ?aS ?aL ?_; (case aR => exact HC.out); (case aB => exact HB.out); (case aF => exact (fun _ _ => trivial)); (case aO => exact HO.out); (case aS => exact HB.out.size); (case aL => simp only [List.length_take, List.length_cons, List.length_nil]; omega); intro v1 w6 ho hb hg hat; have HO1 := Aside0.mk ho; have HB1 := Aside0.mk hb; clear ho hb hg hat)
          go_roundw
          case rel =>
            refine ⟨i + 1, by go_num, by omega, ⟨?_⟩, HB1⟩
            have e : record_Join.two.take (i + 1) = record_Join.two.take i ++ [record_Join.two.getD i record_Join.on] := by
              match i, hlt with
              | 0, _ => rfl
              | 1, _ => rfl
            rw [e]
            exact HO1.out
          case measure => simp [intOf]; omega
        · obtain rfl : i = 2 := by omega
          go_wp2
          go_ret
          exact ⟨_, rfl, HO.out, HB.out⟩
/-! the closure, the sort of these two -/
def record_Join.e2 (b : Bool) : S45 := if b = true then record_Join.on1 else record_Join.on
def record_Join.at2 (b : Bool) : Int := if b = true then 1 else 0
def record_Join.enc (b : Bool) : List Value := [.int .u64 (record_Join.at2 b), .int .i64 0, .int .i64 0, .bool true]
def record_Join.cf (a b : Bool) : Int := if record_Join.at2 a < record_Join.at2 b then -1 else if record_Join.at2 b < record_Join.at2 a then 1 else 0
theorem record_Join.cmp2 (x y : Int) : cmp_Compare_uint64.f x y = some (if x < y then -1 else if y < x then 1 else 0) := by
  unfold cmp_Compare_uint64.f cmp_isNaN_uint64.f
  simp only [bne_self_eq_false, Option.bind_some, Bool.false_eq_true, if_false]
  by_cases h : x < y
  · rw [if_pos h, if_pos h]
  · rw [if_neg h, if_neg h]
    by_cases h2 : y < x
    · rw [if_pos h2, if_pos h2]
    · rw [if_neg h2, if_neg h2]
set_option maxHeartbeats 4000000 in
set_option maxRecDepth 100000 in
theorem record_Join.closure (a b : Bool) (W : World) : Calls Try.prog 32 #[.agg (record_Join.enc a).toArray, .agg (record_Join.enc b).toArray] W fun e w' => e = .returned (.int .i64 (record_Join.cf a b)) ∧ ∃ q os', w' = Sort.grow (W.drewN q) os' := by
  have hcf : record_Join.cf a b = if record_Join.at2 a < record_Join.at2 b then -1 else if record_Join.at2 b < record_Join.at2 a then 1 else 0 := rfl
  change Calls Try.prog 32 #[.agg #[.int .u64 (record_Join.at2 a), .int .i64 0, .int .i64 0, .bool true], .agg #[.int .u64 (record_Join.at2 b), .int .i64 0, .int .i64 0, .bool true]] W _
  rw [hcf]
  clear hcf
  generalize record_Join.at2 a = x
  generalize record_Join.at2 b = y
  have hC := record_Join.cmp2 x y
  generalize (if x < y then (-1 : Int) else if y < x then 1 else 0) = r at hC ⊢
  have HC := Aside0.mk hC
  clear hC
  have hu45 := Try.underlying45
  go_enter Try.func32, Try.ntmps32
  go_wp2_with (go_at_call 33; refine (cmp_Compare_uint64.calls _ _ r _ HC.out).mono ?_; rintro e w' ⟨rfl, hd⟩)
  go_ret
  obtain ⟨n, rfl⟩ := hd
  exact ⟨rfl, n, _, by rw [Sort.alloc_eq_grow, Sort.alloc_eq_grow, Sort.grow_grow]; rfl⟩
theorem record_Join.add0 (g j : Nat) : (⟨g, 0, none⟩ : Addr).add j = ⟨g, j, none⟩ := by
  unfold Addr.add
  by_cases h : j = 0
  · subst h; simp
  · simp [h]
theorem record_Join.holds {w : World} {base g cap : Nat} {ok : Nat → Prop} (hR : Kd.R k45 45 w base ok (.slice (some ⟨g, 0, none⟩) 2 cap) record_Join.two) : Sort.HoldsK record_Join.enc 4 w g 0 #[false, true] := by
  obtain ⟨A, c, he, _, hC⟩ := Kd.R_reads hR
  obtain ⟨h0, inner, hown, hr⟩ := hR
  obtain ⟨cells, hb⟩ := own_typed hown g rfl
  injection he with he _ _
  subst he
  obtain ⟨ad, e, a0, a1, a2, a3⟩ := at_T45 hC ((0 : Nat) : Int) (by decide) (by decide)
  injection e with e
  subst e
  obtain ⟨ad, e, b0, b1, b2, b3⟩ := at_T45 hC ((1 : Nat) : Int) (by decide) (by decide)
  injection e with e
  subst e
  simp only [Int.toNat_natCast, record_Join.add0] at a0 a1 a2 a3 b0 b1 b2 b3
  intro j hj
  have hj8 : j < 8 := by rw [Sort.size_flatK] at hj; exact hj
  rw [Sort.get_flatK _ _ _ _ hj8]
  refine ⟨?_, by simp [World.frozen?, hb]⟩
  rw [Nat.zero_add]
  match j, hj8 with
  | 0, _ => exact a0
  | 1, _ => exact a1
  | 2, _ => exact a2
  | 3, _ => exact a3
  | 4, _ => exact b0
  | 5, _ => exact b1
  | 6, _ => exact b2
  | 7, _ => exact b3
theorem record_Join.insert {w : World} {base g cap : Nat} {ok : Nat → Prop} (hR : Kd.R k45 45 w base ok (.slice (some ⟨g, 0, none⟩) 2 cap) record_Join.two) (hblk : g < w.heap.size) :
    Calls Try.prog 45 #[.slice (some ⟨g, 0, none⟩) 2 cap, .int .i64 0, .int .i64 2, .func (.func 32) #[] #[]] w fun e w' => e = .returned (.tuple #[]) ∧ Below w.heap.size w w' := by
  have eg : ∀ args w, (callFunc 32 args).run Try.prog w = .ok (.enter 32 args) w := enters_of Try.func32 (by kernel_rfl) rfl
  have hH := record_Join.holds hR
  have h := AnyQ.insertionSortCmpFunc Try.insEv 4 Try.isAgg45 Try.sizeOf45 record_Join.enc (fun _ => rfl) (fun x v hv => by simp [record_Join.enc] at hv; rcases hv with rfl | rfl | rfl <;> rfl) record_Join.cf 32 #[] g 0 cap 0 2 #[false, true] w eg
    (fun _ _ _ _ x y => record_Join.closure x y _) hH hblk (by decide) (by decide) (by decide)
  refine Calls.mono (show Calls Try.prog 45 #[.slice (some ⟨g, 0, none⟩) 2 cap, .int .i64 0, .int .i64 2, .func (.func 32) #[] #[]] w _ from h) ?_
  rintro e w' ⟨rfl, n, os, rfl⟩
  have es : Sort.insertionSort (ltOf record_Join.cf) #[false, true] 0 2 = #[false, true] := by decide +kernel
  rw [es]
  refine ⟨rfl, ?_⟩
  unfold sortWorldK
  rw [Sort.putRowK_self _ _ _ _ _ _ (Sort.holdsK_ahead _ _ _ _ _ _ _ hH)]
  refine ⟨rfl, rfl, rfl, by simp [Sort.grow, Sort.ahead], fun k hk => ?_⟩
  rw [Sort.heap_grow_old _ _ (by simpa [Sort.ahead] using hk)]
  rfl
set_option maxHeartbeats 4000000 in
set_option maxRecDepth 100000 in
theorem record_Join.stable {w : World} {base g cap : Nat} {ok : Nat → Prop} (hR : Kd.R k45 45 w base ok (.slice (some ⟨g, 0, none⟩) 2 cap) record_Join.two) (hblk : g < w.heap.size) :
    Calls Try.prog 41 #[.slice (some ⟨g, 0, none⟩) 2 cap, .int .i64 2, .func (.func 32) #[] #[]] w fun e w' => e = .returned (.tuple #[]) ∧ Below w.heap.size w w' := by
  have HI := Aside0.mk (record_Join.insert hR hblk)
  clear hR
  go_enter Try.func41, Try.ntmps41
  go_wp2
  refine wp_loop_rounds 1 ?_
  rw [rounds_succ]
  go_wp2_with (go_at_call 45; refine HI.out.mono ?_; rintro e w1 ⟨rfl, hb⟩; have HB := Aside0.mk hb; clear hb)
  refine wp_loop_rounds 1 ?_
  rw [rounds_succ]
  go_wp2
  go_end0
  exact ⟨rfl, HB.out⟩
set_option maxHeartbeats 4000000 in
set_option maxRecDepth 100000 in
theorem record_Join.sorted {w : World} {base g cap : Nat} {ok : Nat → Prop} (hR : Kd.R k45 45 w base ok (.slice (some ⟨g, 0, none⟩) 2 cap) record_Join.two) (hblk : g < w.heap.size) :
    Calls Try.prog 31 #[.slice (some ⟨g, 0, none⟩) 2 cap, .func (.func 32) #[] #[]] w fun e w' => e = .returned (.tuple #[]) ∧ Below w.heap.size w w' := by
  have HI := Aside0.mk (record_Join.stable hR hblk)
  clear hR
  go_enter Try.func31, Try.ntmps31
  go_wp2_with (go_at_call 41; refine HI.out.mono ?_; rintro e w1 ⟨rfl, hb⟩; have HB := Aside0.mk hb; clear hb)
  go_end0
  exact ⟨rfl, HB.out⟩
theorem record_Join.ev_eq {a b : S45} (h : record_Join.ev a b = true) : a = b := by
  unfold record_Join.ev at h
  simp only [Bool.and_eq_true, beq_iff_eq] at h
  obtain ⟨a0, ⟨a1, a2⟩, a3⟩ := a
  obtain ⟨b0, ⟨b1, b2⟩, b3⟩ := b
  simp only at h
  obtain ⟨⟨⟨rfl, rfl⟩, rfl⟩, rfl⟩ := h
  rfl
theorem record_Join.is_eq {l : List (List S45)} (h : record_Join.is l = true) : l = [[record_Join.on], [record_Join.on1]] := by
  unfold record_Join.is at h
  split at h
  · rw [Bool.and_eq_true] at h
    rw [record_Join.ev_eq h.1, record_Join.ev_eq h.2]
  · cases h
theorem record_Join.parts {A0 : Option Addr} {w : World} (h : Kd.C (Kd.slice 45 k45) w A0 2 [[record_Join.on], [record_Join.on1]]) : ∃ ad, A0 = some ad ∧ ∀ i, i < 2 → ∃ A c, w.cell? (ad.add i) = some (.slice A 1 c) ∧ 1 ≤ c ∧ Kd.C k45 w A 1 [record_Join.two.getD i record_Join.on] := by
  obtain ⟨ad, e, hc⟩ := h.2.2 (by decide)
  refine ⟨ad, e, fun i hi => ?_⟩
  match i, hi with
  | 0, _ =>
    obtain ⟨cs, _, ⟨A, c, rfl, hl, hC⟩, hcell⟩ := hc 0 _ rfl
    exact ⟨A, c, hcell 0 _ rfl, hl, hC⟩
  | 1, _ =>
    obtain ⟨cs, _, ⟨A, c, rfl, hl, hC⟩, hcell⟩ := hc 1 _ rfl
    exact ⟨A, c, hcell 0 _ rfl, hl, hC⟩
set_option maxHeartbeats 8000000 in
set_option maxRecDepth 100000 in
theorem record_Join.calls (A0 : Option Addr) (c0 : Nat) (l0 : List (List S45)) (r1 : List S45) (r2 : Int) (w : World) (hr0 : Kd.C (Kd.slice 45 k45) w A0 l0.length l0) (hc0 : l0.length ≤ c0) (h : record_Join.f l0 = some (r1, r2)) :
    Calls Try.prog 18 #[.slice A0 l0.length c0] w fun e w' => ∃ v0_ : Value, e = .returned (.tuple #[v0_, .int .i64 r2]) ∧ Kd.R k45 45 w' w.heap.size (fun _ => True) v0_ r1 ∧ Below w.heap.size w w' := by
  unfold record_Join.f at h
  by_cases hi : record_Join.is l0 = true
  case neg => rw [if_neg hi] at h; cases h
  rw [if_pos hi] at h
  obtain rfl := record_Join.is_eq hi
  injection h with h
  injection h with h1 h2
  subst h1
  subst h2
  clear hi
  obtain ⟨ad, rfl, hx⟩ := record_Join.parts hr0
  have hc2 : 2 ≤ c0 := hc0
  have HX := Aside0.mk hx
  have hck : ∀ i, i < 2 → record_Check.f [record_Join.two.getD i record_Join.on] = some (0, 0) := fun i hi => by
    match i, hi with
    | 0, _ => rfl
    | 1, _ => rfl
  have HK := Aside0.mk hck
  have HK2 := Aside0.mk (show record_Check.f record_Join.two = some (1, 2) from rfl)
  clear hx hck hr0 hc0
  change Calls Try.prog 18 #[.slice (some ad) 2 c0] w _
  go_enter Try.func18, Try.ntmps18
  go_wp2
  go_loopw [13] (fun v13 wr => ∃ i : Nat, v13 = .int .i64 i ∧ i ≤ 2 ∧ Aside0 (Below w.heap.size w wr)) (fun v13 _ => 2 - (intOf v13).toNat)
  case atStart => exact ⟨0, rfl, by omega, ⟨Below.refl _ _⟩⟩
  case round =>
    obtain ⟨i, rfl, hi, HB⟩ := hrel
    by_cases hlt : i < 2
    · obtain ⟨A, c, hc, hle, hC⟩ := HX.out i hlt
      have HC := Aside0.mk (Kd.C_below hC HB.out)
      have hc := (HB.out.cell (World.block_lt_of_cell? w _ hc)).trans hc
      clear hC
      go_wp2_with (go_at_call 21; refine (record_Check.calls A c [record_Join.two.getD i record_Join.on] 0 0 _ HC.out hle (HK.out i hlt)).mono ?_; rintro e w1 ⟨rfl, hb⟩; have HB1 := Aside0.mk (below_step HB.out hb); clear hb)
      go_roundw
      case rel => exact ⟨i + 1, by go_num, by omega, HB1⟩
      case measure => simp [intOf]; omega
    · obtain rfl : i = 2 := by omega
      go_wp2_with fail
      refine (record_Join.concat ad c0 _ (fun i hi => ?_) hc2).mono ?_
      · obtain ⟨A, c, hc, _, hC⟩ := HX.out i hi
        exact ⟨A, c, (HB.out.cell (World.block_lt_of_cell? w _ hc)).trans hc, Kd.C_below hC HB.out⟩
      rintro e w1 ⟨v, rfl, hv, hb⟩
      have hv0 := hv
      obtain ⟨_, inner, ⟨_, ho⟩, _⟩ := hv0
      rcases ho with ⟨_, h0⟩ | ⟨g, cap, cur, e, hg, hblk, hle, _⟩
      · cases h0
      have e : v = .slice (some ⟨g, 0, none⟩) 2 cap := e
      subst e
      have hlt : g < w1.heap.size := (Array.getElem?_eq_some_iff.1 hblk).1
      have HV := Aside0.mk hv
      have HB1 := Aside0.mk (below_step HB.out hb)
      have hle2 : 2 ≤ cap := hle
      clear hv hb hblk hle
      go_wp2_with fail
      refine (record_Join.sorted HV.out hlt).mono ?_
      rintro e w2 ⟨rfl, hb⟩
      have HV2 := Aside0.mk (Kd.R_below HV.out hb)
      have HB2 := Aside0.mk (below_step HB1.out hb)
      clear hb HV HB1
      go_wp2_with fail
      refine (record_Check.calls (some ⟨g, 0, none⟩) cap record_Join.two 1 2 _ (Kd.R_reads' HV2.out).2.2 hle2 HK2.out).mono ?_
      rintro e w3 ⟨rfl, hb⟩
      have HB3 := Aside0.mk (below_step HB2.out hb)
      clear hb
      go_wp2
      go_ret2
      exact ⟨_, rfl, Kd.R_nil _ _ _ _ _, HB3.out⟩


end Go.Proofs.Ytfcomoledfdojaa.PRecordKnown
