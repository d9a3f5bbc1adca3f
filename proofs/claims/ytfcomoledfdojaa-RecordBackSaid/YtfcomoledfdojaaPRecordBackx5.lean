-- Written by a program of this session (the kit's print, turned: wip/px).
import Derived.Test.YtfcomoledfdojaaPRecordBackx0
import Derived.Test.YtfcomoledfdojaaPRecordBackx2
namespace Go.Proofs.Ytfcomoledfdojaa.PRecordBack
open Go.RowKit Go.Proofs.YtfcomoledfdojaaW.PrintWords Go.Proofs.YtfcomoledfdojaaW.PrintLast Go.Proofs.YtfcomoledfdojaaW.PrintMore
attribute [local go_sem] max2_int min2_int max_two min_two max_three min_three max_four min_four   -- for this text's walks alone
set_option linter.unusedVariables false
set_option linter.unusedSimpArgs false

/-! ### record_Transpose: function 16 -/
def record_Transpose.can (by_ keys : Int) (e : S45) : Bool := decide (wrap64 (-by_) ≤ e.f1.f1) && decide (by_ < keys - e.f1.f1) && decide (-61 ≤ by_)
def record_Transpose.mv (by_ : Int) (e : S45) : S45 := ⟨e.f0, ⟨e.f1.f0, e.f1.f1 + by_⟩, e.f2⟩
def record_Transpose.moved (by_ keys : Int) (l : List S45) : List S45 := (l.filter (record_Transpose.can by_ keys)).map (record_Transpose.mv by_)
def record_Transpose.f (l : List S45) (by_ keys : Int) : Option (List S45 × Int × Int) := (record_Check.f l).bind fun c => if c.2 = 0 then (if keys < 1 ∨ 61 < keys then some ([], 0, 2) else some (record_Transpose.moved by_ keys l, (l.length : Int) - ((record_Transpose.moved by_ keys l).length : Int), 0)) else some ([], 0, c.2)
theorem record_Transpose.good_right : ∀ (l : List S45) (now : Int) (S : List (Int × Int)) (i r : Int), record_Check.go l now S i = (r, 0) → ∀ e ∈ l, 0 ≤ e.f1.f0 ∧ e.f1.f0 < 4 ∧ 0 ≤ e.f1.f1 ∧ e.f1.f1 < 61
  | [], _, _, _, _, _, e, he => by cases he
  | x :: t, now, S, i, r, h, e, he => by
    rw [record_Check.go] at h
    by_cases c : record_Check.ok x now S = true
    · rw [if_pos c] at h
      rcases List.mem_cons.1 he with rfl | he
      · unfold record_Check.ok record_Check.right at c
        simp only [Bool.and_eq_true, decide_eq_true_eq] at c
        exact ⟨c.1.1.1.1.1.1, c.1.1.1.1.1.2, c.1.1.1.1.2, c.1.1.1.2⟩
      · exact record_Transpose.good_right t _ _ _ _ h e he
    · rw [if_neg c] at h
      injection h with _ h
      exact absurd h (by decide)
theorem record_Transpose.all_right {l : List S45} {c : Int × Int} (h : record_Check.f l = some c) (h0 : c.2 = 0) : l.length ≤ 16384 ∧ ∀ e ∈ l, 0 ≤ e.f1.f0 ∧ e.f1.f0 < 4 ∧ 0 ≤ e.f1.f1 ∧ e.f1.f1 < 61 := by
  unfold record_Check.f at h
  injection h with h
  by_cases hl : 16384 < l.length
  · rw [if_pos hl] at h; subst h; simp at h0
  · rw [if_neg hl] at h
    obtain ⟨c1, c2⟩ := c
    simp only at h0
    subst h0
    exact ⟨by omega, record_Transpose.good_right l 0 [] 0 c1 h⟩
theorem record_Transpose.moved_len (by_ keys : Int) (l : List S45) : (record_Transpose.moved by_ keys l).length ≤ l.length := by unfold record_Transpose.moved; rw [List.length_map]; exact List.length_filter_le _ _
theorem record_Transpose.mem (l : List S45) (i : Nat) (h : i < l.length) : rd_T45 l (i : Int) ∈ l := by
  unfold rd_T45
  rw [Int.toNat_natCast, List.getD_eq_getElem?_getD, List.getElem?_eq_getElem h]
  exact List.getElem_mem h
theorem record_Transpose.yes {by_ keys : Int} {x : S45} {t out R : List S45} (h : out ++ record_Transpose.moved by_ keys (x :: t) = R) (c1 : wrap64 (-by_) ≤ x.f1.f1) (c2 : by_ < keys - x.f1.f1) (c3 : -61 ≤ by_) : (out ++ [record_Transpose.mv by_ x]) ++ record_Transpose.moved by_ keys t = R := by
  have : record_Transpose.can by_ keys x = true := by unfold record_Transpose.can; simp only [Bool.and_eq_true, decide_eq_true_eq]; exact ⟨⟨c1, c2⟩, c3⟩
  rw [← h, List.append_assoc]
  unfold record_Transpose.moved
  rw [List.filter_cons, this]; rfl
theorem record_Transpose.no {by_ keys : Int} {x : S45} {t out R : List S45} (h : out ++ record_Transpose.moved by_ keys (x :: t) = R) (hc : ¬ (wrap64 (-by_) ≤ x.f1.f1 ∧ by_ < keys - x.f1.f1 ∧ -61 ≤ by_)) : out ++ record_Transpose.moved by_ keys t = R := by
  have : record_Transpose.can by_ keys x = false := by
    unfold record_Transpose.can
    rw [Bool.eq_false_iff]
    intro c
    simp only [Bool.and_eq_true, decide_eq_true_eq] at c
    exact hc ⟨c.1.1, c.1.2, c.2⟩
  rw [← h]
  unfold record_Transpose.moved
  rw [List.filter_cons, this]; rfl
theorem record_Transpose.room {n : Nat} (h : n ≤ 16384) : (n + 1) * 32 ≤ 140737488355328 := by omega
theorem record_Transpose.outLen {by_ keys : Int} {out t R : List S45} (h : out ++ record_Transpose.moved by_ keys t = R) : out.length ≤ R.length := by rw [← h, List.length_append]; omega
set_option maxHeartbeats 8000000 in
set_option maxRecDepth 100000 in
theorem record_Transpose.calls (A0 : Option Addr) (c0 : Nat) (l0 : List S45) (a1 : Int) (a2 : Int) (r1 : List S45) (r2 : Int) (r3 : Int) (w : World) (hr0 : Kd.C k45 w A0 l0.length l0) (hc0 : l0.length ≤ c0) (h : record_Transpose.f l0 a1 a2 = some (r1, r2, r3)) :
    Calls Try.prog 16 #[.slice A0 l0.length c0, .int .i64 a1, .int .i64 a2] w fun e w' => ∃ v0_ : Value, e = .returned (.tuple #[v0_, .int .i64 r2, .int .i64 r3]) ∧ Kd.R k45 45 w' w.heap.size (fun _ => True) v0_ r1 ∧ Below w.heap.size w w' := by
  have hu45 := Try.underlying45
  have hu43 := Try.underlying43
  have HR0 := Aside0.mk hr0
  have hmx := Kd.C_max hr0
  clear hr0
  unfold record_Transpose.f at h
  obtain ⟨⟨q1, q2⟩, AC, h⟩ := Option.bind_eq_some_iff.mp h
  have HC := Aside0.mk AC
  clear AC
  simp only at h
  by_cases g1 : q2 = 0
  case neg =>
    rw [if_neg g1] at h
    injection h with h
    injection h with h1 h
    injection h with h2 h3
    subst h1
    subst h2
    subst h3
    have gb : (q2 != 0) = true := by simp [g1]
    go_enter Try.func16, Try.ntmps16
    go_wp2_with (go_at_call 21; refine (record_Check.calls A0 c0 l0 q1 q2 w HR0.out hc0 HC.out).mono ?_; rintro e w1 ⟨rfl, hb⟩; have HB1 := Aside0.mk hb; clear hb)
    go_ret3
    exact ⟨_, rfl, Kd.R_nil _ _ _ _ _, HB1.out⟩
  rw [if_pos g1] at h
  obtain ⟨hl, hright⟩ := record_Transpose.all_right HC.out g1
  have HRt := Aside0.mk hright
  clear hright
  have gb : (q2 != 0) = false := by simp [g1]
  clear g1
  by_cases g2 : a2 < 1 ∨ 61 < a2
  · rw [if_pos g2] at h
    injection h with h
    injection h with h1 h
    injection h with h2 h3
    subst h1
    subst h2
    subst h3
    rcases g2 with g2 | g2
    · go_enter Try.func16, Try.ntmps16
      go_wp2_with (go_at_call 21; refine (record_Check.calls A0 c0 l0 q1 q2 w HR0.out hc0 HC.out).mono ?_; rintro e w1 ⟨rfl, hb⟩; have HB1 := Aside0.mk hb; clear hb)
      go_ret3
      exact ⟨_, rfl, Kd.R_nil _ _ _ _ _, HB1.out⟩
    · have g3 : ¬ a2 < 1 := by omega
      go_enter Try.func16, Try.ntmps16
      go_wp2_with (go_at_call 21; refine (record_Check.calls A0 c0 l0 q1 q2 w HR0.out hc0 HC.out).mono ?_; rintro e w1 ⟨rfl, hb⟩; have HB1 := Aside0.mk hb; clear hb)
      go_ret3
      exact ⟨_, rfl, Kd.R_nil _ _ _ _ _, HB1.out⟩
  · rw [if_neg g2] at h
    injection h with h
    injection h with h1 h
    injection h with h2 h3
    have hk1 : 1 ≤ a2 := by omega
    have hk2 : a2 ≤ 61 := by omega
    clear g2
    have HL := Aside0.mk (record_Transpose.moved_len a1 a2 l0)
    rw [h1] at h2 HL
    have H1 := Aside0.mk h1
    have H2 := Aside0.mk h2
    clear h1 h2
    subst h3
    have hi45 : (Try.prog.info? 45).map (fun i => (i.zero, i.size, i.bytes)) = some (some (.agg #[(.int .u64 0), (.int .i64 0), (.int .i64 0), (.bool false)]), 4, 32) := by kernel_rfl
    go_enter Try.func16, Try.ntmps16
    go_wp2_with (go_at_call 21; refine (record_Check.calls A0 c0 l0 q1 q2 w HR0.out hc0 HC.out).mono ?_; rintro e w1 ⟨rfl, hb⟩; have HB1 := Aside0.mk hb; clear hb)
    go_loopw [11, 30] (fun v11 v30 wr => ∃ (i : Nat) (out : List S45), v30 = .int .i64 i ∧ i ≤ l0.length ∧ Aside0 (out ++ record_Transpose.moved a1 a2 (l0.drop i) = r1) ∧ Aside0 (Kd.R k45 45 wr w.heap.size (fun _ => True) v11 out) ∧ Aside0 (Below w.heap.size w wr)) (fun _ v30 _ => l0.length - (intOf v30).toNat)
    case atStart => exact ⟨0, [], rfl, Nat.zero_le _, ⟨by rw [List.nil_append, List.drop_zero]; exact H1.out⟩, ⟨Kd.R_nil _ _ _ _ _⟩, HB1⟩
    case round =>
      obtain ⟨i, out, rfl, hi, HG, HO, HB⟩ := hrel
      obtain ⟨Av, cv, rfl⟩ := Kd.R_slice HO.out
      clear H1
      by_cases hlt : i < l0.length
      · have hG := HG.out
        have hol := Nat.le_trans (record_Transpose.outLen hG) (Nat.le_trans HL.out hl)
        rw [record_Check.drop l0 i hlt] at hG
        clear HG
        have hx := HRt.out _ (record_Transpose.mem l0 i hlt)
        obtain ⟨ad, rfl, hx0, hx1, hx2, hx3⟩ := at_T45 HR0.out (i : Int) (by omega) (by omega)
        rw [Int.toNat_natCast] at hx0 hx1 hx2 hx3
        replace hx0 := (HB.out.cell (World.block_lt_of_cell? w _ hx0)).trans hx0
        replace hx1 := (HB.out.cell (World.block_lt_of_cell? w _ hx1)).trans hx1
        replace hx2 := (HB.out.cell (World.block_lt_of_cell? w _ hx2)).trans hx2
        replace hx3 := (HB.out.cell (World.block_lt_of_cell? w _ hx3)).trans hx3
        generalize rd_T45 l0 (i : Int) = x at hG hx hx0 hx1 hx2 hx3
        obtain ⟨a, ⟨m, k⟩, d⟩ := x
        simp only at hx hx0 hx1 hx2 hx3
        obtain ⟨_, _, hk3, hk4⟩ := hx
        have HG := Aside0.mk hG
        clear hG
        by_cases c1 : wrap64 (-a1) ≤ k
        · by_cases c2 : a1 < a2 - k
          · by_cases c3 : -61 ≤ a1
            · have HG1 := Aside0.mk (record_Transpose.yes HG.out c1 c2 c3)
              have c1b : decide (wrap64 (-a1) ≤ k) = true := decide_eq_true c1
              have hs1 : a1 ≤ 60 := by omega
              have c1n : -a1 ≤ k := by rw [show wrap64 (-a1) = -a1 from by unfold wrap64; omega] at c1; exact c1
              clear HG c1
              go_wp2_with
                (at_builtin
                 refine Kd.R_append k45 (w0 := w) w.heap.size ?g1 (.tmp 60) (.tmp 62) 22 45 (.agg #[(.int .u64 0), (.int .i64 0), (.int .i64 0), (.bool false)]) 32 ?g2 ?g3 ?g4 ?g5 ?g6 ?g17 (.slice Av out.length cv) out (record_Transpose.mv a1 ⟨a, ⟨m, k⟩, d⟩) [.int .u64 a, .int .i64 m, .int .i64 (k + a1), .bool d] (fun _ => True) (fun _ => False) ?g7 ?g8 ?g9 ?g10 ?g11 ?g12 ?g13 ?g14 ?g15 ?g16
                 (case g1 => exact rfl)
                 (case g2 => exact rfl)
                 (case g3 => exact Try.underlying22)
                 (case g4 => exact hi45)
                 (case g5 => exact rfl)
                 (case g6 => decide)
                 (case g17 => decide)
                 (case g7 => exact rfl)
                 (case g8 => exact (congrArg (fun n => Value.slice (some ⟨n, 0, none⟩) 1 1) (by simp)))
                 (case g9 => exact k45_mkM _ _ _ (record_Transpose.mv a1 ⟨a, ⟨m, k⟩, d⟩))
                 (case g10 => exact (fun _ hk => hk.elim))
                 (case g11 => exact (fun _ _ => trivial))
                 (case g12 => exact Kd.R_alloc HO.out _)
                 (case g13 => exact below_alloc HB.out _)
                 (case g14 => exact (below_alloc HB.out _).size)
                 (case g15 => exact record_Transpose.room hol)
                 intro v1 w3 hR hB hg hat
                 have HR3 := Aside0.mk hR
                 have HB3 := Aside0.mk hB
                 clear hR hB hg hat)
              go_roundw
              case rel => exact ⟨i + 1, _, by go_num, by omega, HG1, HR3, HB3⟩
              case measure => simp [intOf]; omega
            · have HG1 := Aside0.mk (record_Transpose.no HG.out (fun h => c3 h.2.2))
              have c1b : decide (wrap64 (-a1) ≤ k) = true := decide_eq_true c1
              have c3b : decide (-61 ≤ a1) = false := decide_eq_false c3
              clear HG c1 c3
              go_wp2
              go_roundw
              case rel => exact ⟨i + 1, out, by go_num, by omega, HG1, ⟨Kd.R_alloc HO.out _⟩, ⟨below_alloc HB.out _⟩⟩
              case measure => simp [intOf]; omega
          · have HG1 := Aside0.mk (record_Transpose.no HG.out (fun h => c2 h.2.1))
            have c1b : decide (wrap64 (-a1) ≤ k) = true := decide_eq_true c1
            have c2b : decide (a1 < a2 - k) = false := decide_eq_false c2
            clear HG c1 c2
            go_wp2
            go_roundw
            case rel => exact ⟨i + 1, out, by go_num, by omega, HG1, ⟨Kd.R_alloc HO.out _⟩, ⟨below_alloc HB.out _⟩⟩
            case measure => simp [intOf]; omega
        · have HG1 := Aside0.mk (record_Transpose.no HG.out (fun h => c1 h.1))
          have c1b : decide (wrap64 (-a1) ≤ k) = false := decide_eq_false c1
          clear HG c1
          go_wp2
          go_roundw
          case rel => exact ⟨i + 1, out, by go_num, by omega, HG1, ⟨Kd.R_alloc HO.out _⟩, ⟨below_alloc HB.out _⟩⟩
          case measure => simp [intOf]; omega
      · have hG := HG.out
        rw [List.drop_of_length_le (by omega)] at hG
        have hG2 : out = r1 := by rw [← hG]; simp [record_Transpose.moved]
        clear hG HG
        subst hG2
        have hlen := HL.out
        have h2 := H2.out
        clear H2
        subst h2
        go_wp2
        go_ret3
        exact ⟨_, rfl, HO.out, HB.out⟩


end Go.Proofs.Ytfcomoledfdojaa.PRecordBack
