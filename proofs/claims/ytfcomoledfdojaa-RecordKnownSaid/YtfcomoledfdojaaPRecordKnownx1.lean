-- Written by a program of this session (the kit's print, turned: wip/px).
import Derived.Test.YtfcomoledfdojaaPRecordKnownx0
namespace Go.Proofs.Ytfcomoledfdojaa.PRecordKnown
open Go.RowKit Go.Proofs.YtfcomoledfdojaaW.PrintWords Go.Proofs.YtfcomoledfdojaaW.PrintLast Go.Proofs.YtfcomoledfdojaaW.PrintMore
attribute [local go_sem] max2_int min2_int max_two min_two max_three min_three max_four min_four   -- for this text's walks alone
set_option linter.unusedVariables false
set_option linter.unusedSimpArgs false

/-! ### record_Check: function 21 -/
theorem record_turn.laidOut : laidOutB Try.prog = true := by kernel_rfl
theorem record_turn.row : (43 : TypeId) < Try.prog.types.size := of_decide_eq_true (by kernel_rfl)
theorem record_turn.wide : (match Try.prog.underlying 43 with | some (.array _ _) | some (.struct _) => true | _ => false) = true := by rw [Try.underlying43]
set_option maxRecDepth 100000 in
theorem record_turn.law : WideMaps.KeyLaw Try.prog 43 := deep_law_laid record_turn.laidOut (m := 2) (by omega) record_turn.row (by kernel_rfl) record_turn.wide
theorem record_turn.isKey : Try.prog.keyType 43 = true := by kernel_rfl
theorem record_turn.lit (d : Nat) (m : Int) (hm : Sets.wf m) : Try.prog.keyLits (d + 1) 3 [.int .i64 m] = some [.int .i64 m] := by
  unfold Sets.wf at hm
  rw [Program.keyLits.eq_def]
  simp only [Try.underlying3]
  rw [if_pos ⟨trivial, hm⟩]
theorem record_turn.lits (d : Nat) (m k : Int) (hm : Sets.wf m) (hk : Sets.wf k) : Try.prog.keyLits (d + 1 + 1) 43 [.int .i64 m, .int .i64 k] = some [.int .i64 m, .int .i64 k] := by
  have hc : Try.prog.cellsOf 43 = 2 := by kernel_rfl
  have hi : Try.prog.cellsOf 3 = 1 := by kernel_rfl
  rw [Program.keyLits.eq_def]
  simp only [Try.underlying43]
  rw [if_pos ⟨by rw [hc]; rfl, by simp⟩]
  simp only [List.mapM_cons, List.mapM_nil, hi]
  have e1 := record_turn.lit d m hm
  have e2 := record_turn.lit d k hk
  simp only [List.drop_zero, List.drop_succ_cons, List.take_succ_cons, List.take_zero, e1, e2]
  rfl
theorem record_turn.ty : Sets.KeyTy Try.prog 43 := ⟨fun m k hm hk => by
  have hf : (Value.agg #[.int .i64 m, .int .i64 k]).formed Try.prog 43 = true := by
    have hc : Try.prog.cellsOf 43 = 2 := by kernel_rfl
    simp [Value.formed, Try.underlying43, hc]
  unfold keyOf
  rw [Try.underlying43]
  simp only [record_turn.isKey, hf, Bool.and_self, if_true]
  show (Try.prog.keyLits (Try.prog.types.size + 1) 43 [.int .i64 m, .int .i64 k]).map _ = _
  have h3 : Try.prog.types.size = (Try.prog.types.size - 1) + 1 := by kernel_rfl
  rw [h3, record_turn.lits _ m k hm hk]
  rfl, Go.Maps.Keyed.of_law record_turn.law, record_turn.law.inj⟩
theorem record_turn.zero (w : World) : (zeroValue 87).run Try.prog w = .ok (.agg #[]) w := by kernel_rfl
set_option maxHeartbeats 4000000 in
set_option maxRecDepth 100000 in
theorem record_turn.calls (b n : Nat) (S : List (Int × Int)) (m k : Int) (down : Bool) (w : World) (hS : Sets.SetAt Try.prog 43 w b n S) (hn : n < 1000000) (hm : Sets.wf m) (hk : Sets.wf k) :
    Calls Try.prog 34 #[.map (some b), .agg #[.int .i64 m, .int .i64 k], .bool down] w fun e w' => e = .returned (.bool (S.contains (m, k) != down)) ∧ Sets.SetAt Try.prog 43 w' b (n + 1) (Sets.turn S m k down) ∧ w.grownBy w' (some b) := by
  have hu43 := Try.underlying43
  have hu87 := Try.underlying87
  have hb := hS.lt
  obtain ⟨D, hown, hD⟩ := hS
  have HD := Aside0.mk hD
  have hkey := record_turn.ty.key m k hm hk
  have hh := hD m k hm hk
  have HM := Aside0.mk (hown.isMap)
  clear hD
  cases hc : S.contains (m, k) with
  | false =>
    rw [hc] at hh
    have HC := Aside0.mk hc
    clear hc
    cases down with
    | false =>
      go_enter Try.func34, Try.ntmps34
      go_wp2_with (at_lookup; refine wpList_lookup_own_unit _ (by rfl) _ _ 77 (by rfl) 43 87 record_turn.ty.keyed Try.underlying77 (record_turn.zero _) b n D (by rfl) (hown.alloc _) (.agg #[.int .i64 m, .int .i64 k]) (Sets.kl m k) (by rfl) hkey ?_)
      go_ret
      refine ⟨rfl, ?_, (World.grownBy_alloc _ _ _).trans (World.grownBy_alloc _ _ _)⟩
      rw [show Sets.turn S m k false = S by unfold Sets.turn; rw [HC.out]; rfl]
      exact ⟨D, ((hown.alloc _).alloc _).mono (Nat.le_succ n), HD.out⟩
    | true =>
      go_enter Try.func34, Try.ntmps34
      go_wp2_with (first | (at_lookup; refine wpList_lookup_own_unit _ (by rfl) _ _ 77 (by rfl) 43 87 record_turn.ty.keyed Try.underlying77 (record_turn.zero _) b n D (by rfl) (hown.alloc _) (.agg #[.int .i64 m, .int .i64 k]) (Sets.kl m k) (by rfl) hkey ?_) | (at_mapUpdate; refine wpList_mapUpdate_own _ (by rfl) _ _ _ 77 (by rfl) 43 87 record_turn.ty.keyed Try.underlying77 (unitElem (H := Unit)) b n D (by rfl) ((hown.alloc _).alloc _) (by unfold maxLen; omega) (.agg #[.int .i64 m, .int .i64 k]) (.agg #[]) (Sets.kl m k) (by rfl) (by rfl) hkey _ [] unitElem_mk ?_; intro w1 hown1 hgrow1))
      go_ret
      refine ⟨rfl, ?_, ((World.grownBy_alloc _ _ _).trans (World.grownBy_alloc _ _ _)).trans hgrow1⟩
      rw [show Sets.turn S m k true = (m, k) :: S by unfold Sets.turn; rw [HC.out]; rfl]
      exact ⟨_, hown1, Sets.SetAt.put record_turn.ty hm hk HM.out HD.out _⟩
  | true =>
    rw [hc] at hh
    have HC := Aside0.mk hc
    clear hc
    cases down with
    | true =>
      go_enter Try.func34, Try.ntmps34
      go_wp2_with (at_lookup; refine wpList_lookup_own_unit _ (by rfl) _ _ 77 (by rfl) 43 87 record_turn.ty.keyed Try.underlying77 (record_turn.zero _) b n D (by rfl) (hown.alloc _) (.agg #[.int .i64 m, .int .i64 k]) (Sets.kl m k) (by rfl) hkey ?_)
      go_ret
      refine ⟨rfl, ?_, (World.grownBy_alloc _ _ _).trans (World.grownBy_alloc _ _ _)⟩
      rw [show Sets.turn S m k true = S by unfold Sets.turn; rw [HC.out]; rfl]
      exact ⟨D, ((hown.alloc _).alloc _).mono (Nat.le_succ n), HD.out⟩
    | false =>
      go_enter Try.func34, Try.ntmps34
      go_wp2_with (first | (at_lookup; refine wpList_lookup_own_unit _ (by rfl) _ _ 77 (by rfl) 43 87 record_turn.ty.keyed Try.underlying77 (record_turn.zero _) b n D (by rfl) (hown.alloc _) (.agg #[.int .i64 m, .int .i64 k]) (Sets.kl m k) (by rfl) hkey ?_) | (at_delete; refine wpList_delete_own _ (by rfl) _ _ 77 43 (by rfl) 87 record_turn.ty.keyed Try.underlying77 _ b n D (by rfl) ((hown.alloc _).alloc _) (.agg #[.int .i64 m, .int .i64 k]) (Sets.kl m k) (by rfl) hkey ?_; intro w1 hown1 hturn1))
      go_ret
      refine ⟨rfl, ?_, ((World.grownBy_alloc _ _ _).trans (World.grownBy_alloc _ _ _)).trans hturn1.grown⟩
      rw [show Sets.turn S m k false = S.filter (fun x => x != (m, k)) by unfold Sets.turn; rw [HC.out]; rfl]
      exact ⟨_, hown1.mono (Nat.le_succ n), Sets.SetAt.del record_turn.ty hm hk HD.out⟩
def record_Check.right (m k : Int) : Bool := decide (0 ≤ m) && decide (m < 4) && decide (0 ≤ k) && decide (k < 61)
def record_Check.ok (e : S45) (now : Int) (S : List (Int × Int)) : Bool := record_Check.right e.f1.f0 e.f1.f1 && !decide (e.f0 < now) && !decide (1099511627776 < e.f0) && (S.contains (e.f1.f0, e.f1.f1) != e.f2)
def record_Check.go : List S45 → Int → List (Int × Int) → Int → Int × Int
  | [], _, _, _ => (0, 0)
  | e :: t, now, S, i => if record_Check.ok e now S = true then record_Check.go t e.f0 (Sets.turn S e.f1.f0 e.f1.f1 e.f2) (i + 1) else (i, 2)
def record_Check.f (l0 : List S45) : Option (Int × Int) := some (if 16384 < l0.length then (16384, 3) else record_Check.go l0 0 [] 0)
theorem record_Check.drop (l : List S45) (i : Nat) (h : i < l.length) : l.drop i = rd_T45 l i :: l.drop (i + 1) := by
  rw [List.drop_eq_getElem_cons h]
  congr 1
  unfold rd_T45
  rw [Int.toNat_natCast, List.getD_eq_getElem?_getD, List.getElem?_eq_getElem h]; rfl
theorem record_Check.wf {x : Int} (h0 : 0 ≤ x) (h1 : x < 1000) : Sets.wf x := by
  have hmin : IntKind.i64.min = -9223372036854775808 := rfl
  have hmax : IntKind.i64.max = 9223372036854775807 := rfl
  unfold Sets.wf
  simp only [Lit.wf, Bool.and_eq_true, decide_eq_true_eq]
  omega
theorem record_Check.no {a m k now : Int} {d : Bool} {S : List (Int × Int)} {t : List S45} {i r1 r2 : Int} (h : (if (decide (0 ≤ m) && decide (m < 4) && decide (0 ≤ k) && decide (k < 61) && !decide (a < now) && !decide (1099511627776 < a) && (S.contains (m, k) != d)) = true then record_Check.go t a (Sets.turn S m k d) (i + 1) else (i, 2)) = (r1, r2))
    (hn : ¬ (0 ≤ m ∧ m < 4 ∧ 0 ≤ k ∧ k < 61 ∧ now ≤ a ∧ a ≤ 1099511627776) ∨ (S.contains (m, k) != d) = false) : Ending.returned (.tuple #[.int .i64 i, .int .i64 2]) = Ending.returned (.tuple #[.int .i64 r1, .int .i64 r2]) := by
  rw [if_neg] at h
  · injection h with h1 h2; rw [h1, h2]
  · intro c
    simp only [Bool.and_eq_true, decide_eq_true_eq, Bool.not_eq_true', decide_eq_false_iff_not] at c
    obtain ⟨⟨⟨⟨⟨⟨c1, c2⟩, c3⟩, c4⟩, c5⟩, c6⟩, c7⟩ := c
    rcases hn with hn | hn
    · exact hn ⟨c1, c2, c3, c4, by omega, by omega⟩
    · rw [hn] at c7; cases c7
theorem record_Check.yes {a m k now : Int} {d : Bool} {S : List (Int × Int)} {t : List S45} {i : Nat} {r1 r2 : Int} (h : (if (decide (0 ≤ m) && decide (m < 4) && decide (0 ≤ k) && decide (k < 61) && !decide (a < now) && !decide (1099511627776 < a) && (S.contains (m, k) != d)) = true then record_Check.go t a (Sets.turn S m k d) ((i : Int) + 1) else ((i : Int), 2)) = (r1, r2))
    (hy : 0 ≤ m ∧ m < 4 ∧ 0 ≤ k ∧ k < 61 ∧ now ≤ a ∧ a ≤ 1099511627776) (hq : (S.contains (m, k) != d) = true) : record_Check.go t a (Sets.turn S m k d) ((i + 1 : Nat) : Int) = (r1, r2) := by
  rw [if_pos] at h
  · exact h
  · simp only [Bool.and_eq_true, decide_eq_true_eq, Bool.not_eq_true', decide_eq_false_iff_not]
    exact ⟨⟨⟨⟨⟨⟨hy.1, hy.2.1⟩, hy.2.2.1⟩, hy.2.2.2.1⟩, by omega⟩, by omega⟩, hq⟩
theorem record_Check.kept {w wr w1 : World} {o1 o2 : Obj} (hB : Below w.heap.size w wr) (hg : ((wr.alloc o1).alloc o2).grownBy w1 (some w.heap.size)) (hl : True) : Below w.heap.size w w1 :=
  (below_alloc (below_alloc hB _) _).grown hg (below_alloc (below_alloc hB _) _).size (fun j hj => by cases hj; exact Nat.le_refl _)
theorem record_Check.box {w wr w1 : World} {o1 o2 : Obj} (hg : ((wr.alloc o1).alloc o2).grownBy w1 (some w.heap.size)) (hl : w.heap.size < wr.heap.size) : w1.heap[wr.heap.size]? = some o1 := by
  have H : ((wr.alloc o1).alloc o2).heap[wr.heap.size]? = some o1 := blk_alloc (blk_new wr o1) o2
  exact (hg.block _ (blk_lt H) (fun c => by injection c with c; omega)).trans H
theorem record_Check.made (w : World) : Sets.SetAt Try.prog 43 (w.alloc (.map #[] 0)) w.heap.size 0 [] := ⟨.map [], World.ownsMap_made _ _ _ _, fun m k _ _ => rfl⟩
set_option maxHeartbeats 8000000 in
set_option maxRecDepth 100000 in
theorem record_Check.calls (A0 : Option Addr) (c0 : Nat) (l0 : List S45) (r1 : Int) (r2 : Int) (w : World) (hr0 : Kd.C k45 w A0 l0.length l0) (hc0 : l0.length ≤ c0) (h : record_Check.f l0 = some (r1, r2)) :
    Calls Try.prog 21 #[.slice A0 l0.length c0] w fun e w' => e = .returned (.tuple #[.int .i64 r1, .int .i64 r2]) ∧ Below w.heap.size w w' := by
  have hu45 := Try.underlying45
  have hu43 := Try.underlying43
  have HR0 := Aside0.mk hr0
  have hmx := Kd.C_max hr0
  have hmm := @run_makeMap Try.prog
  clear hr0
  unfold record_Check.f at h
  injection h with h
  by_cases hl : 16384 < l0.length
  · rw [if_pos hl] at h
    injection h with h1 h2
    subst h1
    subst h2
    go_enter Try.func21, Try.ntmps21
    go_wp2
    go_ret2
    exact ⟨rfl, Below.refl _ _⟩
  · rw [if_neg hl] at h
    have HH := Aside0.mk h
    clear h
    have hl2 : l0.length ≤ 16384 := by omega
    clear hl
    go_enter Try.func21, Try.ntmps21
    go_wp2
    go_loopw [5, 16] (fun v5 v16 wr => ∃ (i : Nat) (now : Int) (S : List (Int × Int)), v5 = .int .u64 now ∧ v16 = .int .i64 i ∧ i ≤ l0.length ∧ Aside0 (record_Check.go (l0.drop i) now S i = (r1, r2)) ∧ Aside0 (Sets.SetAt Try.prog 43 wr w.heap.size i S) ∧ Aside0 (Below w.heap.size w wr)) (fun _ v16 _ => l0.length - (intOf v16).toNat)
    case atStart => exact ⟨0, 0, [], rfl, rfl, Nat.zero_le _, HH, ⟨record_Check.made _⟩, ⟨(Below.refl _ _).alloc (Nat.le_refl _) _⟩⟩
    case round =>
      obtain ⟨i, now, S, rfl, rfl, hi, HG, HS, HB⟩ := hrel
      clear HH
      by_cases hlt : i < l0.length
      · have hG := HG.out
        rw [record_Check.drop l0 i hlt] at hG
        clear HG
        obtain ⟨ad, rfl, hx0, hx1, hx2, hx3⟩ := at_T45 HR0.out (i : Int) (by omega) (by omega)
        rw [Int.toNat_natCast] at hx0 hx1 hx2 hx3
        replace hx0 := (HB.out.cell (World.block_lt_of_cell? w _ hx0)).trans hx0
        replace hx1 := (HB.out.cell (World.block_lt_of_cell? w _ hx1)).trans hx1
        replace hx2 := (HB.out.cell (World.block_lt_of_cell? w _ hx2)).trans hx2
        replace hx3 := (HB.out.cell (World.block_lt_of_cell? w _ hx3)).trans hx3
        generalize rd_T45 l0 (i : Int) = x at hG hx0 hx1 hx2 hx3
        obtain ⟨a, ⟨m, k⟩, d⟩ := x
        simp only [record_Check.go, record_Check.ok, record_Check.right] at hG
        have HG := Aside0.mk hG
        clear hG
        have hlw := HS.out.lt
        cases hq : (S.contains (m, k) != d) with
        | false =>
          have HQ := Aside0.mk hq
          clear hq
          go_wp2_with (go_at_call 34; refine (record_turn.calls w.heap.size i S m k d _ ((HS.out.alloc _).alloc _) (by omega) (record_Check.wf (by omega) (by omega)) (record_Check.wf (by omega) (by omega))).mono ?_; rintro e w1 ⟨he, hS1, hg⟩; rw [HQ.out] at he; subst he; have HB1 := Aside0.mk (record_Check.kept HB.out hg trivial); clear hS1 hg)
          all_goals go_ret2
          all_goals first
            | (refine ⟨record_Check.no HG.out (by first | (left; omega) | (right; exact HQ.out)), ?_⟩; first | exact HB1.out | exact below_alloc (below_alloc HB.out _) _)
        | true =>
          have HQ := Aside0.mk hq
          clear hq
          go_wp2_with (go_at_call 34; refine (record_turn.calls w.heap.size i S m k d _ ((HS.out.alloc _).alloc _) (by omega) (record_Check.wf (by omega) (by omega)) (record_Check.wf (by omega) (by omega))).mono ?_; rintro e w1 ⟨he, hS1, hg⟩; rw [HQ.out] at he; subst he; have HB1 := Aside0.mk (record_Check.kept HB.out hg trivial); have HS1 := Aside0.mk hS1; have hz := record_Check.box hg hlw; clear hS1; have e0 := (blk_cell hz 0).trans rfl; clear hg hz)
          all_goals first
            | (go_ret2; refine ⟨record_Check.no HG.out (by left; omega), ?_⟩; exact below_alloc (below_alloc HB.out _) _)
            | (go_roundw
               case rel => exact ⟨i + 1, a, _, rfl, by go_num, by omega, ⟨record_Check.yes HG.out (by omega) HQ.out⟩, HS1, HB1⟩
               case measure => simp [intOf]; omega)
      · have e : i = l0.length := by omega
        have hG := HG.out
        rw [List.drop_of_length_le (by omega)] at hG
        injection hG with h1 h2
        subst h1
        subst h2
        go_wp2
        go_ret2
        exact ⟨rfl, HB.out⟩


/-! ### record_Read: function 9 -/
theorem record_Read.bt_eq (s : ByteArray) (i : Nat) (h : i < s.size) : ((s[i]'h).toNat : Int) = bt s (i : Int) := by have := bt_at s (i : Int) (by simpa using h); simpa using this
/-- The three variables that the closures share: the text, the place, the first closure. -/
structure record_Read.Vars (W : World) (bs ba bn : Nat) (s : ByteArray) (at_ : Nat) : Prop where
  ks : W.heap[bs]? = some (.cells #[.string s] 9 (0, 0))
  ka : W.heap[ba]? = some (.cells #[.int .i64 (at_ : Int)] 3 (0, 0))
  kn : W.heap[bn]? = some (.cells #[.func (.func 28) #[] #[.pointer (some ⟨ba, 0, none⟩), .pointer (some ⟨bs, 0, none⟩)]] 62 (0, 0))
theorem record_Read.Vars.moved {W W1 : World} {bs ba bn : Nat} {s : ByteArray} {i : Nat} (h : record_Read.Vars W bs ba bn s i) (e1 : W1.heap[bs]? = W.heap[bs]?) (e2 : W1.heap[ba]? = W.heap[ba]?) (e3 : W1.heap[bn]? = W.heap[bn]?) : record_Read.Vars W1 bs ba bn s i := ⟨e1.trans h.ks, e2.trans h.ka, e3.trans h.kn⟩
theorem record_Read.Vars.put {W : World} {bs ba bn : Nat} {s : ByteArray} {i : Nat} (h : record_Read.Vars W bs ba bn s i) (j : Nat) : record_Read.Vars (W.setCell ⟨ba, 0, none⟩ (.int .i64 (j : Int))) bs ba bn s j :=
  ⟨blk_far h.ks (blk_ne h.ks h.ka (by decide)) _, blk_put h.ka 0 _ rfl, blk_far h.kn (blk_ne h.kn h.ka (by decide)) _⟩
theorem record_Read.Vars.drew {W : World} {bs ba bn : Nat} {s : ByteArray} {i : Nat} (h : record_Read.Vars W bs ba bn s i) : record_Read.Vars W.drew bs ba bn s i := ⟨h.ks, h.ka, h.kn⟩
def record_Read.nx (s : ByteArray) (i : Nat) : Int × Bool × Nat := if i < s.size then (bt s i, true, i + 1) else (0, false, i)
set_option maxHeartbeats 4000000 in
set_option maxRecDepth 100000 in
theorem record_Read.next_calls (bs ba bn : Nat) (s : ByteArray) (i : Nat) (hs : s.size ≤ 140737488355328) (hi : i ≤ s.size) (w0 W : World) (hV : record_Read.Vars W bs ba bn s i) (hB : Below w0.heap.size w0 W) (hba : w0.heap.size ≤ ba) :
    Calls Try.prog 28 #[.pointer (some ⟨ba, 0, none⟩), .pointer (some ⟨bs, 0, none⟩)] W fun e W' => e = .returned (.tuple #[.int .u8 (record_Read.nx s i).1, .bool (record_Read.nx s i).2.1]) ∧ record_Read.Vars W' bs ba bn s (record_Read.nx s i).2.2 ∧ Below w0.heap.size w0 W' ∧ KeepBut W W' ba none := by
  have e0 : W.cell? ⟨ba, 0, none⟩ = some (.int .i64 (i : Int)) := (blk_cell hV.ka 0).trans rfl
  have f0 := blk_frozen hV.ka 0
  have e1 : W.cell? ⟨bs, 0, none⟩ = some (.string s) := (blk_cell hV.ks 0).trans rfl
  have HV := Aside0.mk hV
  have HB := Aside0.mk hB
  clear hV hB
  by_cases h : i < s.size
  · have hn : record_Read.nx s i = (bt s i, true, i + 1) := by unfold record_Read.nx; rw [if_pos h]
    rw [hn]
    have e2 : (W.setCell ⟨ba, 0, none⟩ (.int .i64 ((i : Int) + 1))).cell? ⟨bs, 0, none⟩ = some (.string s) := (blk_cell (HV.out.put (i + 1)).ks 0).trans rfl
    have e3 : (W.setCell ⟨ba, 0, none⟩ (.int .i64 ((i : Int) + 1))).cell? ⟨ba, 0, none⟩ = some (.int .i64 ((i : Int) + 1)) := (blk_cell (HV.out.put (i + 1)).ka 0).trans rfl
    have hbt := record_Read.bt_eq s i h
    have HN := Aside0.mk hbt
    clear hbt hn
    go_enter Try.func28, Try.ntmps28
    go_wp2
    go_ret2
    refine ⟨by rw [← HN.out]; rfl, HV.out.put (i + 1), below_set HB.out hba, (KeepBut.refl _ _ _).set_ 0 _⟩
  · have hn : record_Read.nx s i = (0, false, i) := by unfold record_Read.nx; rw [if_neg h]
    rw [hn]
    clear hn
    go_enter Try.func28, Try.ntmps28
    go_wp2
    go_ret2
    exact ⟨rfl, HV.out, HB.out, KeepBut.refl _ _ _⟩
def record_Read.acc (n b : Int) (k : Nat) : Int := Go.bits .or .u64 n (IntKind.u64.wrap (IntKind.u64.wrap (Go.bits .and .u8 b 127) * 2 ^ (7 * k)))
def record_Read.num (s : ByteArray) : Nat → Int → Nat → Nat → Int × Bool × Nat
  | 0, _, i, _ => (0, false, i)
  | d + 1, n, i, k => if (record_Read.nx s i).2.1 = true then (if (record_Read.nx s i).1 / 128 = 0 then (record_Read.acc n (record_Read.nx s i).1 k, ((record_Read.nx s i).1 != 0) || (k == 0), (record_Read.nx s i).2.2) else record_Read.num s d (record_Read.acc n (record_Read.nx s i).1 k) (record_Read.nx s i).2.2 (k + 1)) else (0, false, (record_Read.nx s i).2.2)
theorem record_Read.num_no {s : ByteArray} {d i k : Nat} {n b : Int} {j : Nat} (h : record_Read.nx s i = (b, false, j)) : record_Read.num s (d + 1) n i k = (0, false, j) := by
  rw [record_Read.num, h, if_neg (by simp)]
theorem record_Read.num_end {s : ByteArray} {d i k : Nat} {n b : Int} {j : Nat} (h : record_Read.nx s i = (b, true, j)) (hb : b / 128 = 0) : record_Read.num s (d + 1) n i k = (record_Read.acc n b k, (b != 0) || (k == 0), j) := by
  rw [record_Read.num, h, if_pos rfl, if_pos hb]
theorem record_Read.num_more {s : ByteArray} {d i k : Nat} {n b : Int} {j : Nat} (h : record_Read.nx s i = (b, true, j)) (hb : ¬ b / 128 = 0) : record_Read.num s (d + 1) n i k = record_Read.num s d (record_Read.acc n b k) j (k + 1) := by
  rw [record_Read.num, h, if_pos rfl, if_neg hb]
theorem record_Read.end2 {n n' : Int} {b b' : Bool} (h : n = n') (e : b = b') : Ending.returned (.tuple #[.int .u64 n, .bool b]) = Ending.returned (.tuple #[.int .u64 n', .bool b']) := by rw [h, e]
theorem record_Read.k0 (k : Nat) : ((7 * (k : Int)) == 0) = (k == 0) := by rw [Bool.eq_iff_iff]; simp; omega
theorem record_Read.nx_le (s : ByteArray) (i : Nat) (h : i ≤ s.size) : (record_Read.nx s i).2.2 ≤ s.size := by
  unfold record_Read.nx; split
  · show i + 1 ≤ _; omega
  · exact h
theorem record_Read.nx_range (s : ByteArray) (i : Nat) : 0 ≤ (record_Read.nx s i).1 ∧ (record_Read.nx s i).1 ≤ 255 := by
  unfold record_Read.nx; split
  · exact bt_range s i
  · simp
structure record_Read.After (w0 W W' : World) (bs ba bn : Nat) (s : ByteArray) (j : Nat) : Prop where
  vars : record_Read.Vars W' bs ba bn s j
  below : Below w0.heap.size w0 W'
  le : j ≤ s.size
  keep : KeepBut W W' ba none
set_option maxHeartbeats 8000000 in
set_option maxRecDepth 100000 in
theorem record_Read.number_calls (bs ba bn : Nat) (s : ByteArray) (i : Nat) (hs : s.size ≤ 140737488355328) (hi : i ≤ s.size) (w0 W : World) (hV : record_Read.Vars W bs ba bn s i) (hB : Below w0.heap.size w0 W) (hba : w0.heap.size ≤ ba) :
    Calls Try.prog 29 #[.pointer (some ⟨bn, 0, none⟩)] W fun e W' => e = .returned (.tuple #[.int .u64 (record_Read.num s 10 0 i 0).1, .bool (record_Read.num s 10 0 i 0).2.1]) ∧ record_Read.After w0 W W' bs ba bn s (record_Read.num s 10 0 i 0).2.2 := by
  obtain ⟨R, hR⟩ : ∃ R, R = record_Read.num s 10 0 i 0 := ⟨_, rfl⟩
  rw [← hR]
  have HR := Aside0.mk hR.symm
  have HV := Aside0.mk hV
  have HB := Aside0.mk hB
  clear hV hB hR
  go_enter Try.func29, Try.ntmps29
  go_wp2
  go_loopw [3, 4] (fun v3 v4 wr => ∃ (n : Int) (k j : Nat), v3 = .int .u64 n ∧ v4 = .int .i64 (7 * k : Int) ∧ k ≤ 10 ∧ j ≤ s.size ∧ Aside0 (record_Read.num s (10 - k) n j k = R) ∧ Aside0 (record_Read.Vars wr bs ba bn s j) ∧ Aside0 (Below w0.heap.size w0 wr) ∧ Aside0 (KeepBut W wr ba none)) (fun _ v4 _ => 70 - (intOf v4).toNat)
  case atStart => exact ⟨0, 0, i, rfl, rfl, by omega, hi, HR, HV, HB, ⟨KeepBut.refl _ _ _⟩⟩
  case round =>
    obtain ⟨n, k, j, rfl, rfl, hk, hj, HN, HW, HC, HK⟩ := hrel
    clear HR HV HB
    by_cases hlt : k < 10
    · have hn := HN.out
      obtain ⟨d, hd⟩ : ∃ d, 10 - k = d + 1 := ⟨9 - k, by omega⟩
      have HD := Aside0.mk (show d = 10 - (k + 1) by omega)
      rw [hd] at hn
      clear hd
      have hx := record_Read.nx_le s j hj
      have hxr := record_Read.nx_range s j
      have HX := Aside0.mk (record_Read.next_calls bs ba bn s j hs hj w0 wr HW.out HC.out hba)
      have e0 : wr.cell? ⟨bn, 0, none⟩ = some (.func (.func 28) #[] #[.pointer (some ⟨ba, 0, none⟩), .pointer (some ⟨bs, 0, none⟩)]) := (blk_cell HW.out.kn 0).trans rfl
      obtain ⟨x, ex⟩ : ∃ x, record_Read.nx s j = x := ⟨_, rfl⟩
      rw [ex] at hx hxr HX
      obtain ⟨b, is, j'⟩ := x
      simp only at hx hxr HX
      have ht : decide ((7 * (k : Int)) < 64) = true := by simp; omega
      clear HN
      cases is with
      | false =>
        rw [record_Read.num_no ex] at hn
        clear ex
        subst hn
        go_wp2_with fail
        refine HX.out.mono ?_
        rintro e w1 ⟨rfl, hW1, hC1, hK1⟩
        have HA := Aside0.mk (record_Read.After.mk hW1 hC1 hx (KeepBut.trans HK.out hK1 (Or.inl rfl)))
        clear hW1 hC1 hK1
        go_wp2
        go_ret2
        exact ⟨rfl, HA.out⟩
      | true =>
        by_cases hb : b / 128 = 0
        · rw [record_Read.num_end ex hb] at hn
          clear ex
          subst hn
          go_wp2_with fail
          refine HX.out.mono ?_
          rintro e w1 ⟨rfl, hW1, hC1, hK1⟩
          have HA := Aside0.mk (record_Read.After.mk hW1 hC1 hx (KeepBut.trans HK.out hK1 (Or.inl rfl)))
          clear hW1 hC1 hK1
          go_wp2
          all_goals go_ret2
          all_goals refine ⟨record_Read.end2 rfl ?_, HA.out⟩
          · exact (record_Read.k0 k).trans (by simp)
          · have hbn : b ≠ 0 := by first | assumption | (intro c; simp_all)
            simp [hbn]
        · rw [record_Read.num_more ex hb] at hn
          have HN := Aside0.mk hn
          clear hn ex
          go_wp2_with fail
          refine HX.out.mono ?_
          rintro e w1 ⟨rfl, hW1, hC1, hK1⟩
          have HW1 := Aside0.mk hW1
          have HC1 := Aside0.mk hC1
          have HK1 := Aside0.mk (KeepBut.trans HK.out hK1 (Or.inl rfl))
          clear hW1 hC1 hK1
          go_wp2
          go_roundw
          case rel => exact ⟨_, k + 1, j', rfl, by go_num, by omega, hx, ⟨HD.out ▸ HN.out⟩, HW1, HC1, HK1⟩
          case measure => simp [intOf]; omega
    · have ht : decide ((7 * (k : Int)) < 64) = false := by simp; omega
      have hn := HN.out
      rw [show 10 - k = 0 by omega] at hn
      simp only [record_Read.num] at hn
      subst hn
      clear HN
      go_wp2
      go_ret2
      exact ⟨rfl, HW.out, HC.out, hj, HK.out⟩
def record_Read.ev (n now b : Int) : S45 := ⟨IntKind.u64.wrap (now + n / 2), ⟨b / 64, b % 64⟩, Go.bits .and .u64 n 1 == 1⟩
def record_Read.l0 (s : ByteArray) : Nat → Nat → List S45 → Int → Option (List S45 × Int)
  | 0, _, _, _ => none
  | k + 1, i, out, now =>
    if i < s.size then
      (if (record_Read.num s 10 0 i 0).2.1 = true then
        (if (record_Read.nx s (record_Read.num s 10 0 i 0).2.2).2.1 = true then
          (if 1099511627776 < (record_Read.num s 10 0 i 0).1 / 2 then some ([], 6) else
            if 16384 ≤ out.length then some ([], 6) else
              record_Read.l0 s k (record_Read.nx s (record_Read.num s 10 0 i 0).2.2).2.2 (out ++ [record_Read.ev (record_Read.num s 10 0 i 0).1 now (record_Read.nx s (record_Read.num s 10 0 i 0).2.2).1]) (IntKind.u64.wrap (now + (record_Read.num s 10 0 i 0).1 / 2)))
        else some ([], 6))
      else some ([], 6))
    else (record_Check.f out).bind fun c => if c.2 = 0 then some (out, 0) else some ([], 6)
def record_Read.f (k : Nat) (a0 : ByteArray) : Option (List S45 × Int) := if a0.size ≤ 140737488351232 then record_Read.l0 a0 k 0 [] 0 else none
theorem record_Read.room {n : Nat} (h : n < 16384) : (n + 1) * 32 ≤ 140737488355328 := by omega
theorem record_Read.Vars.grown {W W1 : World} {bs ba bn : Nat} {s : ByteArray} {i : Nat} {row : Option Nat} (h : record_Read.Vars W bs ba bn s i) (hg : W.grownBy W1 row) (h1 : some bs ≠ row) (h2 : some ba ≠ row) (h3 : some bn ≠ row) : record_Read.Vars W1 bs ba bn s i := ⟨blk_grown h.ks hg h1, blk_grown h.ka hg h2, blk_grown h.kn hg h3⟩
theorem record_Read.l0_mono (s : ByteArray) : ∀ (k i : Nat) (out : List S45) (now : Int), LeO (record_Read.l0 s k i out now) (record_Read.l0 s (k + 1) i out now) := by
  intro k
  induction k with
  | zero => intro i out now; exact LeO.none _
  | succ k ih =>
    intro i out now
    rw [record_Read.l0, record_Read.l0]
    exact LeO.ite (LeO.ite (LeO.ite (LeO.ite (LeO.refl _) (LeO.ite (LeO.refl _) (ih _ _ _))) (LeO.refl _)) (LeO.refl _)) (LeO.refl _)
theorem record_Read.mono : ∀ a0 k, LeO (record_Read.f k a0) (record_Read.f (k + 1) a0) := by
  intro a0 k
  unfold record_Read.f
  exact LeO.ite (record_Read.l0_mono _ _ _ _ _) (LeO.none _)
set_option maxHeartbeats 8000000 in
set_option maxRecDepth 100000 in
theorem record_Read.calls (k : Nat) (a0 : ByteArray) (r1 : List S45) (r2 : Int) (w : World) (h : record_Read.f k a0 = some (r1, r2)) :
    Calls Try.prog 9 #[.string a0] w fun e w' => ∃ v0_ : Value, e = .returned (.tuple #[v0_, .int .i64 r2]) ∧ Kd.R k45 45 w' w.heap.size (fun _ => True) v0_ r1 ∧ Below w.heap.size w w' := by
  have hu45 := Try.underlying45
  have hu43 := Try.underlying43
  unfold record_Read.f at h
  by_cases hsz : a0.size ≤ 140737488351232
  case neg => rw [if_neg hsz] at h; cases h
  rw [if_pos hsz] at h
  have hs : a0.size ≤ 140737488355328 := by omega
  have H' := Aside0.mk h
  clear h
  have hsf : ∀ (a : Addr) (fn : Fn) (x y : Array Value) (m : Mode) (w : World), (Go.store a (.func fn x y) m).run Try.prog w = stored Try.prog w a (.func fn x y) m := fun a fn x y m w => run_store Try.prog w a _ m rfl
  go_enter Try.func9, Try.ntmps9
  go_wp2
  go_loopg [7, 8] k (fun kq v7 v8 wr => ∃ (i : Nat) (out : List S45) (now : Int), v8 = .int .u64 now ∧ Aside0 (record_Read.l0 a0 kq i out now = some (r1, r2)) ∧ i ≤ a0.size ∧ Aside0 (Kd.R k45 45 wr w.heap.size (fun _ => True) v7 out) ∧ Aside0 (record_Read.Vars wr w.heap.size (w.heap.size + 1) (w.heap.size + 1 + 1) a0 i) ∧ Aside0 (Below w.heap.size w wr))
  case atStart =>
    refine ⟨0, [], 0, rfl, H', Nat.zero_le _, ⟨Kd.R_nil _ _ _ _ _⟩, ⟨⟨?_, ?_, ?_⟩⟩, ⟨below_alloc (below_alloc (below_alloc (Below.refl _ _) _) _) _⟩⟩
    · exact blk_alloc (blk_alloc (blk_new w _) _) _
    · refine blk_alloc ?_ _
      have := blk_new (w.alloc (.cells #[.string a0] 9 (0, 0))) (.cells #[.int .i64 0] 3 (0, 0))
      simpa using this
    · have := blk_new ((w.alloc (.cells #[.string a0] 9 (0, 0))).alloc (.cells #[.int .i64 0] 3 (0, 0))) (.cells #[.func (.func 28) #[] #[.pointer (some ⟨w.heap.size + 1, 0, none⟩), .pointer (some ⟨w.heap.size, 0, none⟩)]] 62 (0, 0))
      simpa using this
  case round =>
    obtain ⟨i, out, now, rfl, HA, hi, HO, HV, HB⟩ := hrel
    clear H'
    obtain ⟨Av, cv, rfl⟩ := Kd.R_slice HO.out
    cases gk with
    | zero => exact absurd HA.out (by simp [record_Read.l0])
    | succ k1 =>
      have H := HA.out
      clear HA
      have e0 : wr.cell? ⟨w.heap.size, 0, none⟩ = some (.string a0) := (blk_cell HV.out.ks 0).trans rfl
      have e1 : wr.cell? ⟨w.heap.size + 1, 0, none⟩ = some (.int .i64 (i : Int)) := (blk_cell HV.out.ka 0).trans rfl
      by_cases hlt : i < a0.size
      · have HX := Aside0.mk (record_Read.number_calls w.heap.size (w.heap.size + 1) (w.heap.size + 1 + 1) a0 i hs hi w wr HV.out HB.out (Nat.le_succ _))
        simp only [record_Read.l0, if_pos hlt] at H
        generalize record_Read.num a0 10 0 i 0 = R at H HX
        obtain ⟨n, is, j⟩ := R
        simp only at H HX
        have HH := Aside0.mk H
        clear H
        cases is with
        | false =>
          have hH := HH.out
          rw [if_neg (by simp)] at hH
          injection hH with hH
          injection hH with h1 h2
          subst h1
          subst h2
          clear HH
          go_wp2_with fail
          refine HX.out.mono ?_
          rintro e w1 ⟨rfl, hF⟩
          have HF := Aside0.mk hF
          clear hF
          have e2 : w1.cell? ⟨w.heap.size + 1 + 1, 0, none⟩ = some (.func (.func 28) #[] #[.pointer (some ⟨w.heap.size + 1, 0, none⟩), .pointer (some ⟨w.heap.size, 0, none⟩)]) := (blk_cell HF.out.vars.kn 0).trans rfl
          have HY := Aside0.mk (record_Read.next_calls w.heap.size (w.heap.size + 1) (w.heap.size + 1 + 1) a0 j hs HF.out.le w w1 HF.out.vars HF.out.below (Nat.le_succ _))
          go_wp2_with fail
          refine HY.out.mono ?_
          rintro e w2 ⟨rfl, hV2, hB2, hK2⟩
          have HB2 := Aside0.mk hB2
          clear hV2 hB2 hK2
          go_wp2
          go_ret2
          exact ⟨_, rfl, Kd.R_nil _ _ _ _ _, HB2.out⟩
        | true =>
          have hH := HH.out
          rw [if_pos rfl] at hH
          clear HH
          have hxr := record_Read.nx_range a0 j
          obtain ⟨x, ex⟩ : ∃ x, record_Read.nx a0 j = x := ⟨_, rfl⟩
          rw [ex] at hxr hH
          have EX := Aside0.mk ex
          clear ex
          obtain ⟨b, also, j'⟩ := x
          simp only at hxr
          cases also with
          | false =>
            rw [if_neg (by simp)] at hH
            injection hH with hH
            injection hH with h1 h2
            subst h1
            subst h2
            go_wp2_with fail
            refine HX.out.mono ?_
            rintro e w1 ⟨rfl, hF⟩
            have HF := Aside0.mk hF
            clear hF
            have e2 : w1.cell? ⟨w.heap.size + 1 + 1, 0, none⟩ = some (.func (.func 28) #[] #[.pointer (some ⟨w.heap.size + 1, 0, none⟩), .pointer (some ⟨w.heap.size, 0, none⟩)]) := (blk_cell HF.out.vars.kn 0).trans rfl
            have hy := record_Read.next_calls w.heap.size (w.heap.size + 1) (w.heap.size + 1 + 1) a0 j hs HF.out.le w w1 HF.out.vars HF.out.below (Nat.le_succ _)
            have hx := record_Read.nx_le a0 j HF.out.le
            rw [EX.out] at hy hx
            simp only at hy hx
            have HY := Aside0.mk hy
            clear hy EX
            go_wp2_with fail
            refine HY.out.mono ?_
            rintro e w2 ⟨rfl, hV2, hB2, hK2⟩
            have HB2 := Aside0.mk hB2
            clear hV2 hB2 hK2
            go_wp2
            go_ret2
            exact ⟨_, rfl, Kd.R_nil _ _ _ _ _, HB2.out⟩
          | true =>
            rw [if_pos rfl] at hH
            by_cases q1 : 1099511627776 < n / 2
            · rw [if_pos q1] at hH
              injection hH with hH
              injection hH with h1 h2
              subst h1
              subst h2
              go_wp2_with fail
              refine HX.out.mono ?_
              rintro e w1 ⟨rfl, hF⟩
              have HF := Aside0.mk hF
              clear hF
              have e2 : w1.cell? ⟨w.heap.size + 1 + 1, 0, none⟩ = some (.func (.func 28) #[] #[.pointer (some ⟨w.heap.size + 1, 0, none⟩), .pointer (some ⟨w.heap.size, 0, none⟩)]) := (blk_cell HF.out.vars.kn 0).trans rfl
              have hy := record_Read.next_calls w.heap.size (w.heap.size + 1) (w.heap.size + 1 + 1) a0 j hs HF.out.le w w1 HF.out.vars HF.out.below (Nat.le_succ _)
              have hx := record_Read.nx_le a0 j HF.out.le
              rw [EX.out] at hy hx
              simp only at hy hx
              have HY := Aside0.mk hy
              clear hy EX
              go_wp2_with fail
              refine HY.out.mono ?_
              rintro e w2 ⟨rfl, hV2, hB2, hK2⟩
              have HB2 := Aside0.mk hB2
              clear hV2 hB2 hK2
              go_wp2
              go_ret2
              exact ⟨_, rfl, Kd.R_nil _ _ _ _ _, HB2.out⟩
            · rw [if_neg q1] at hH
              have q1b : decide (1099511627776 < n / 2) = false := decide_eq_false q1
              clear q1
              by_cases q2 : 16384 ≤ out.length
              · rw [if_pos q2] at hH
                injection hH with hH
                injection hH with h1 h2
                subst h1
                subst h2
                go_wp2_with fail
                refine HX.out.mono ?_
                rintro e w1 ⟨rfl, hF⟩
                have HF := Aside0.mk hF
                clear hF
                have e2 : w1.cell? ⟨w.heap.size + 1 + 1, 0, none⟩ = some (.func (.func 28) #[] #[.pointer (some ⟨w.heap.size + 1, 0, none⟩), .pointer (some ⟨w.heap.size, 0, none⟩)]) := (blk_cell HF.out.vars.kn 0).trans rfl
                have hy := record_Read.next_calls w.heap.size (w.heap.size + 1) (w.heap.size + 1 + 1) a0 j hs HF.out.le w w1 HF.out.vars HF.out.below (Nat.le_succ _)
                have hx := record_Read.nx_le a0 j HF.out.le
                rw [EX.out] at hy hx
                simp only at hy hx
                have HY := Aside0.mk hy
                clear hy EX
                go_wp2_with fail
                refine HY.out.mono ?_
                rintro e w2 ⟨rfl, hV2, hB2, hK2⟩
                have HB2 := Aside0.mk hB2
                clear hV2 hB2 hK2
                go_wp2
                go_ret2
                exact ⟨_, rfl, Kd.R_nil _ _ _ _ _, HB2.out⟩
              · rw [if_neg q2] at hH
                have HH := Aside0.mk hH
                clear hH
                have q2a : out.length < 16384 := by omega
                clear q2
                have hi45 : (Try.prog.info? 45).map (fun i => (i.zero, i.size, i.bytes)) = some (some (.agg #[(.int .u64 0), (.int .i64 0), (.int .i64 0), (.bool false)]), 4, 32) := by kernel_rfl
                go_wp2_with fail
                refine HX.out.mono ?_
                rintro e w1 ⟨rfl, hF⟩
                have HF := Aside0.mk hF
                clear hF
                have e2 : w1.cell? ⟨w.heap.size + 1 + 1, 0, none⟩ = some (.func (.func 28) #[] #[.pointer (some ⟨w.heap.size + 1, 0, none⟩), .pointer (some ⟨w.heap.size, 0, none⟩)]) := (blk_cell HF.out.vars.kn 0).trans rfl
                have hy := record_Read.next_calls w.heap.size (w.heap.size + 1) (w.heap.size + 1 + 1) a0 j hs HF.out.le w w1 HF.out.vars HF.out.below (Nat.le_succ _)
                have hx := record_Read.nx_le a0 j HF.out.le
                rw [EX.out] at hy hx
                simp only at hy hx
                have HY := Aside0.mk hy
                clear hy EX
                go_wp2_with fail
                refine HY.out.mono ?_
                rintro e w2 ⟨rfl, hV2, hB2, hK2⟩
                have HB2 := Aside0.mk hB2
                have HV2 := Aside0.mk hV2
                have HO2 := Aside0.mk (Kd.R_mono (Kd.R_keep (Kd.R_types (Kd.R_keep (Kd.R_types HO.out HV.out.ka (by decide)) HF.out.keep (fun k hk => hk.2)) HF.out.vars.ka (by decide)) hK2 (fun k hk => hk.2)) (ok' := fun _ => True) (fun _ _ => trivial))
                clear hV2 hB2 hK2
                go_wp2_with
                  (at_builtin
                   refine Kd.R_append k45 (w0 := w) w.heap.size ?g1 (.tmp 51) (.tmp 64) 22 45 (.agg #[(.int .u64 0), (.int .i64 0), (.int .i64 0), (.bool false)]) 32 ?g2 ?g3 ?g4 ?g5 ?g6 ?g17 (.slice Av out.length cv) out (record_Read.ev n now b) [.int .u64 (IntKind.u64.wrap (now + n / 2)), .int .i64 (b / 64), .int .i64 (b % 64), .bool (Go.bits .and .u64 n 1 == 1)] (fun _ => True) (fun _ => False) ?g7 ?g8 ?g9 ?g10 ?g11 ?g12 ?g13 ?g14 ?g15 ?g16
                   (case g1 => exact rfl)
                   (case g2 => exact rfl)
                   (case g3 => exact Try.underlying22)
                   (case g4 => exact hi45)
                   (case g5 => exact rfl)
                   (case g6 => decide)
                   (case g17 => decide)
                   (case g7 => exact rfl)
                   (case g8 => exact rfl)
                   (case g9 => exact k45_mkM _ _ _ (record_Read.ev n now b))
                   (case g10 => exact (fun _ hk => hk.elim))
                   (case g11 => exact (fun _ _ => trivial))
                   (case g12 => exact HO2.out)
                   (case g13 => exact HB2.out)
                   (case g14 => exact HB2.out.size)
                   (case g15 => exact record_Read.room q2a)
                   intro v1 w3 hR hB hg hat
                   have HR3 := Aside0.mk hR
                   have HB3 := Aside0.mk hB
                   have HV3 := Aside0.mk (record_Read.Vars.grown HV2.out hg (Kd.R_ne HO2.out HV2.out.ks (by decide)) (Kd.R_ne HO2.out HV2.out.ka (by decide)) (Kd.R_ne HO2.out HV2.out.kn (by decide)))
                   clear hR hB hg hat)
                go_roundg k1
                case rel => exact ⟨j', _, _, rfl, HH, hx, HR3, HV3, HB3⟩
                case measure => omega
      · simp only [record_Read.l0, if_neg hlt] at H
        have hie : i = a0.size := by omega
        obtain ⟨c, AC, H⟩ := Option.bind_eq_some_iff.mp H
        obtain ⟨c1, c2⟩ := c
        have HC := Aside0.mk AC
        clear AC
        have HRd := Aside0.mk (Kd.R_reads' HO.out)
        simp only at H
        by_cases q : c2 = 0
        · rw [if_pos q] at H
          injection H with H
          injection H with h1 h2
          subst h1
          subst h2
          have qb : (c2 != 0) = false := by simp [q]
          go_wp2_with (go_at_call 21; refine (record_Check.calls Av cv out c1 c2 wr HRd.out.2.2 HRd.out.2.1 HC.out).mono ?_; rintro e w1 ⟨rfl, hb⟩; have HB1 := Aside0.mk (below_step HB.out hb); have HO1 := Aside0.mk (Kd.R_below HO.out hb); clear hb)
          go_ret2
          exact ⟨_, rfl, HO1.out, HB1.out⟩
        · rw [if_neg q] at H
          injection H with H
          injection H with h1 h2
          subst h1
          subst h2
          have qb : (c2 != 0) = true := by simp [q]
          go_wp2_with (go_at_call 21; refine (record_Check.calls Av cv out c1 c2 wr HRd.out.2.2 HRd.out.2.1 HC.out).mono ?_; rintro e w1 ⟨rfl, hb⟩; have HB1 := Aside0.mk (below_step HB.out hb); clear hb)
          go_ret2
          exact ⟨_, rfl, Kd.R_nil _ _ _ _ _, HB1.out⟩


end Go.Proofs.Ytfcomoledfdojaa.PRecordKnown
