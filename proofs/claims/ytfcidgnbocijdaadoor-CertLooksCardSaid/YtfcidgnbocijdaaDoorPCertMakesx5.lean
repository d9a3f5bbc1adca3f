-- Written by a program of this session (the kit's print, turned: wip/px).
import Derived.Test.YtfcidgnbocijdaaDoorPCertMakesx0
import Derived.Test.YtfcidgnbocijdaaDoorPCertMakesx1
import Derived.Test.YtfcidgnbocijdaaDoorPCertMakesx2
import Derived.Test.YtfcidgnbocijdaaDoorPCertMakesx3
import Derived.Test.YtfcidgnbocijdaaDoorPCertMakesx4
import Derived.Test.YtfcidgnbocijdaaDoorSq2
namespace Go.Proofs.YtfcidgnbocijdaaDoor.PCertMakes
open Go.Proofs.YtfcidgnbocijdaaDoor.Sq
open Go.RowKit Go.Proofs.YtfcidgnbocijdaaDoorW.PrintWords Go.Proofs.YtfcidgnbocijdaaDoorW.PrintLast Go.Proofs.YtfcidgnbocijdaaDoorW.PrintMore
attribute [local go_sem] max2_int min2_int max_two min_two max_three min_three max_four min_four   -- for this text's walks alone
set_option linter.unusedVariables false
set_option linter.unusedSimpArgs false

/-! ### regis_Best: function 12 -/
def regis_Best.go (k : Nat) (l0 : List Int) (l1 : List (List Int)) (l2 : List Int) (a3 : Int) : Nat → Int → List Int → List Int → (List Int × Int × Int) → Option (List Int × Int × Int)
  | 0, _, _, _, _ => none
  | d + 1, wd, S, T, B =>
    if a3 < wd then some B
    else (regis_least.f k l0 l1 l2 a3 S).bind fun x =>
      if B.2.1 < x then some B
      else if (S.length : Int) = (l1.length : Int) then
        (slices_Clone_int_int.f T).bind fun T' => (regis_weighed.f k l0 l1 l2 a3 T').bind fun c => (regis_Better.f k T' c.2.1 c.2.2 B.1 B.2.1 B.2.2).bind fun t => if t then some (T', c.2.1, c.2.2) else some B
      else if S.length < 1000 ∧ T.length < 1000 ∧ S.length < l2.length then
        (regis_Best.go k l0 l1 l2 a3 d (wrap64 (wd + rd l2 S.length)) (S ++ [1]) (T ++ [(S.length : Int)]) B).bind fun B1 => regis_Best.go k l0 l1 l2 a3 d wd (S ++ [2]) T B1
      else none
structure regis_Best.Inv (w0 W : World) (bs bw bh bp bg br : Nat) (cr : Array Value) (A0 : Option Addr) (c0 : Nat) (l0 : List Int) (A1 : Option Addr) (c1 : Nat) (l1 : List (List Int)) (A2 : Option Addr) (c2 : Nat) (l2 : List Int) (a3 : Int) (S T : List Int) (B : List Int × Int × Int) : Prop where
  ls : w0.heap.size ≤ bs
  lh : w0.heap.size ≤ bh
  lp : w0.heap.size ≤ bp
  below : Below w0.heap.size w0 W
  kw : W.heap[bw]? = some (.cells #[.slice A0 l0.length c0, .slice A1 l1.length c1, .slice A2 l2.length c2, .int .i64 a3] 28 (0, 0))
  kg : W.heap[bg]? = some (.cells #[.func (.func 41) #[] #[.pointer (some ⟨bs, 0, none⟩), .pointer (some ⟨bw, 0, none⟩), .pointer (some ⟨bh, 0, none⟩), .pointer (some ⟨bp, 0, none⟩), .pointer (some ⟨bg, 0, none⟩)]] 79 (0, 0))
  kr : W.heap[br]? = some (.cells cr 31 (0, 0))
  ks : ∃ A c, W.heap[bs]? = some (.cells #[.slice A S.length c] 64 (0, 0)) ∧ Kd.R (Kd.int .u8) 5 W w0.heap.size (fun _ => True) (.slice A S.length c) S
  kp : ∃ A c, W.heap[bp]? = some (.cells #[.slice A T.length c] 25 (0, 0)) ∧ Kd.R (Kd.int .i64) 3 W w0.heap.size (fun _ => True) (.slice A T.length c) T ∧ ∃ Ab cb, W.heap[bh]? = some (.cells #[.slice A0 l0.length c0, .slice A1 l1.length c1, .slice A2 l2.length c2, .int .i64 a3, .slice Ab B.1.length cb, .int .i64 B.2.1, .int .i64 B.2.2, .func (.func 19) #[] #[]] 78 (0, 0)) ∧ Kd.R (Kd.int .i64) 3 W w0.heap.size (fun k => some k ≠ (Value.slice A T.length c).ownBlock) (.slice Ab B.1.length cb) B.1
theorem regis_Best.len1 {n : Nat} (h : n < 1000) : (n + 1) * 1 ≤ 140737488355328 := by omega
theorem regis_Best.len8 {n : Nat} (h : n < 1000) : (n + 1) * 8 ≤ 140737488355328 := by omega
theorem regis_Best.wrapq (n : Int) : wrap64 n = IntKind.i64.wrap n := by rw [IntKind.wrap_i64, wrap64]
theorem regis_Best.wlen1 {n m : Nat} (h : n < 1000) (e : m = n + 1) : wrap64 ((m : Int) - 1) = (n : Int) := by simp only [wrap64]; omega
theorem regis_Best.Inv.step {w0 W W1 : World} {bs bw bh bp bg br : Nat} {cr : Array Value} {A0 : Option Addr} {c0 : Nat} {l0 : List Int} {A1 : Option Addr} {c1 : Nat} {l1 : List (List Int)} {A2 : Option Addr} {c2 : Nat} {l2 : List Int} {a3 : Int} {S T : List Int} {B : List Int × Int × Int} (h : regis_Best.Inv w0 W bs bw bh bp bg br cr A0 c0 l0 A1 c1 l1 A2 c2 l2 a3 S T B) (hb : Below W.heap.size W W1) : regis_Best.Inv w0 W1 bs bw bh bp bg br cr A0 c0 l0 A1 c1 l1 A2 c2 l2 a3 S T B := by
  obtain ⟨ls, lh, lp, below, kw, kg, kr, ⟨A, c, h1, h2⟩, ⟨A', c', h3, h4, Ab, cb, h5, h6⟩⟩ := h
  have hk : ∀ {g : Nat} {o : Obj}, W.heap[g]? = some o → W1.heap[g]? = some o := fun h => (hb.block _ (blk_lt h)).trans h
  exact ⟨ls, lh, lp, below_step below hb, hk kw, hk kg, hk kr, ⟨A, c, hk h1, Kd.R_below h2 hb⟩, ⟨A', c', hk h3, Kd.R_below h4 hb, Ab, cb, hk h5, Kd.R_below h6 hb⟩⟩
theorem regis_Best.Inv.rowS {w0 W W1 : World} {bs bw bh bp bg br : Nat} {cr : Array Value} {A0 : Option Addr} {c0 : Nat} {l0 : List Int} {A1 : Option Addr} {c1 : Nat} {l1 : List (List Int)} {A2 : Option Addr} {c2 : Nat} {l2 : List Int} {a3 : Int} {S S' T T' : List Int} {B : List Int × Int × Int} {A : Option Addr} {c : Nat} {v : Value} (h : regis_Best.Inv w0 W bs bw bh bp bg br cr A0 c0 l0 A1 c1 l1 A2 c2 l2 a3 S T B)
    (hs : W.heap[bs]? = some (.cells #[.slice A S.length c] 64 (0, 0))) (hR0 : Kd.R (Kd.int .u8) 5 W w0.heap.size (fun _ => True) (.slice A S.length c) S) (hg : W.grownBy W1 (Value.slice A S.length c).ownBlock) (hB : Below w0.heap.size w0 W1) (hR : Kd.R (Kd.int .u8) 5 W1 w0.heap.size (fun _ => True) (.slice A S.length c) S') (hl : S'.length = S.length) : regis_Best.Inv w0 W1 bs bw bh bp bg br cr A0 c0 l0 A1 c1 l1 A2 c2 l2 a3 S' T B := by
  obtain ⟨ls, lh, lp, below, kw, kg, kr, -, ⟨A', c', h3, h4, Ab, cb, h5, h6⟩⟩ := h
  exact ⟨ls, lh, lp, hB, blk_grown kw hg (Kd.R_ne hR0 kw (by decide)), blk_grown kg hg (Kd.R_ne hR0 kg (by decide)), blk_grown kr hg (Kd.R_ne hR0 kr (by decide)), ⟨A, c, by rw [hl]; exact blk_grown hs hg (Kd.R_ne hR0 hs (by decide)), by rw [hl]; exact hR⟩,
    ⟨A', c', blk_grown h3 hg (Kd.R_ne hR0 h3 (by decide)), Kd.R_over h4 hR0 (by decide) hg, Ab, cb, blk_grown h5 hg (Kd.R_ne hR0 h5 (by decide)), Kd.R_over h6 hR0 (by decide) hg⟩⟩
theorem regis_Best.Inv.putS {w0 W W1 : World} {bs bw bh bp bg br : Nat} {cr : Array Value} {A0 : Option Addr} {c0 : Nat} {l0 : List Int} {A1 : Option Addr} {c1 : Nat} {l1 : List (List Int)} {A2 : Option Addr} {c2 : Nat} {l2 : List Int} {a3 : Int} {S S' T T' : List Int} {B : List Int × Int × Int} {A : Option Addr} {c : Nat} {v : Value} (h : regis_Best.Inv w0 W bs bw bh bp bg br cr A0 c0 l0 A1 c1 l1 A2 c2 l2 a3 S T B)
    (hs : W.heap[bs]? = some (.cells #[.slice A S.length c] 64 (0, 0))) (hR0 : Kd.R (Kd.int .u8) 5 W w0.heap.size (fun _ => True) (.slice A S.length c) S) (hg : W.grownBy W1 (Value.slice A S.length c).ownBlock) (hB : Below w0.heap.size w0 W1) (hR : Kd.R (Kd.int .u8) 5 W1 w0.heap.size (fun _ => True) v S') : regis_Best.Inv w0 (W1.setCell ⟨bs, 0, none⟩ v) bs bw bh bp bg br cr A0 c0 l0 A1 c1 l1 A2 c2 l2 a3 S' T B := by
  obtain ⟨ls, lh, lp, below, kw, kg, kr, -, ⟨A', c', h3, h4, Ab, cb, h5, h6⟩⟩ := h
  have hs1 := blk_grown hs hg (Kd.R_ne hR0 hs (by decide))
  have kw1 := blk_grown kw hg (Kd.R_ne hR0 kw (by decide))
  have kg1 := blk_grown kg hg (Kd.R_ne hR0 kg (by decide))
  have kr1 := blk_grown kr hg (Kd.R_ne hR0 kr (by decide))
  have h31 := blk_grown h3 hg (Kd.R_ne hR0 h3 (by decide))
  have h51 := blk_grown h5 hg (Kd.R_ne hR0 h5 (by decide))
  obtain ⟨Av, cv, rfl⟩ := Kd.R_slice hR
  exact ⟨ls, lh, lp, hB.setCell ls _, blk_far kw1 (blk_ne kw1 hs1 (by decide)) _, blk_far kg1 (blk_ne kg1 hs1 (by decide)) _, blk_far kr1 (blk_ne kr1 hs1 (by decide)) _, ⟨Av, cv, blk_put hs1 0 _ rfl, Kd.R_set hR hs1 (by decide) _ _⟩,
    ⟨A', c', blk_far h31 (blk_ne h31 hs1 (by decide)) _, Kd.R_set (Kd.R_over h4 hR0 (by decide) hg) hs1 (by decide) _ _, Ab, cb, blk_far h51 (blk_ne h51 hs1 (by decide)) _, Kd.R_set (Kd.R_over h6 hR0 (by decide) hg) hs1 (by decide) _ _⟩⟩
theorem regis_Best.Inv.putP {w0 W W1 : World} {bs bw bh bp bg br : Nat} {cr : Array Value} {A0 : Option Addr} {c0 : Nat} {l0 : List Int} {A1 : Option Addr} {c1 : Nat} {l1 : List (List Int)} {A2 : Option Addr} {c2 : Nat} {l2 : List Int} {a3 : Int} {S S' T T' : List Int} {B : List Int × Int × Int} {A : Option Addr} {c : Nat} {v : Value} {Ab : Option Addr} {cb : Nat} (h : regis_Best.Inv w0 W bs bw bh bp bg br cr A0 c0 l0 A1 c1 l1 A2 c2 l2 a3 S T B)
    (hp : W.heap[bp]? = some (.cells #[.slice A T.length c] 25 (0, 0))) (hR0 : Kd.R (Kd.int .i64) 3 W w0.heap.size (fun _ => True) (.slice A T.length c) T)
    (hh : W.heap[bh]? = some (.cells #[.slice A0 l0.length c0, .slice A1 l1.length c1, .slice A2 l2.length c2, .int .i64 a3, .slice Ab B.1.length cb, .int .i64 B.2.1, .int .i64 B.2.2, .func (.func 19) #[] #[]] 78 (0, 0)))
    (h6 : Kd.R (Kd.int .i64) 3 W w0.heap.size (fun k => some k ≠ (Value.slice A T.length c).ownBlock) (.slice Ab B.1.length cb) B.1)
    (hg : W.grownBy W1 (Value.slice A T.length c).ownBlock) (hB : Below w0.heap.size w0 W1) (hR : Kd.R (Kd.int .i64) 3 W1 w0.heap.size (fun _ => True) v T') (hat : v.ownBlock = (Value.slice A T.length c).ownBlock ∨ ∃ b, v.ownBlock = some b ∧ W.heap.size ≤ b) : regis_Best.Inv w0 (W1.setCell ⟨bp, 0, none⟩ v) bs bw bh bp bg br cr A0 c0 l0 A1 c1 l1 A2 c2 l2 a3 S T' B := by
  obtain ⟨ls, lh, lp, below, kw, kg, kr, ⟨As, cs, h1, h2⟩, -⟩ := h
  have hp1 := blk_grown hp hg (Kd.R_ne hR0 hp (by decide))
  have kw1 := blk_grown kw hg (Kd.R_ne hR0 kw (by decide))
  have kg1 := blk_grown kg hg (Kd.R_ne hR0 kg (by decide))
  have kr1 := blk_grown kr hg (Kd.R_ne hR0 kr (by decide))
  have h11 := blk_grown h1 hg (Kd.R_ne hR0 h1 (by decide))
  have h51 := blk_grown hh hg (Kd.R_ne hR0 hh (by decide))
  have h61 := Kd.R_after (Kd.R_mono h6 (fun k hk => (⟨trivial, hk⟩ : True ∧ some k ≠ (Value.slice A T.length c).ownBlock))) hg hat
  obtain ⟨Av, cv, rfl⟩ := Kd.R_slice hR
  exact ⟨ls, lh, lp, hB.setCell lp _, blk_far kw1 (blk_ne kw1 hp1 (by decide)) _, blk_far kg1 (blk_ne kg1 hp1 (by decide)) _, blk_far kr1 (blk_ne kr1 hp1 (by decide)) _, ⟨As, cs, blk_far h11 (blk_ne h11 hp1 (by decide)) _, Kd.R_set (Kd.R_over h2 hR0 (by decide) hg) hp1 (by decide) _ _⟩,
    ⟨Av, cv, blk_put hp1 0 _ rfl, Kd.R_set hR hp1 (by decide) _ _, Ab, cb, blk_far h51 (blk_ne h51 hp1 (by decide)) _, Kd.R_set (Kd.R_mono h61 (fun _ hk => hk.2)) hp1 (by decide) _ _⟩⟩
set_option maxHeartbeats 40000000 in
set_option maxRecDepth 100000 in
theorem regis_Best.go_calls (k : Nat) (w0 : World) (bs bw bh bp bg br : Nat) (cr : Array Value) (A0 : Option Addr) (c0 : Nat) (l0 : List Int) (A1 : Option Addr) (c1 : Nat) (l1 : List (List Int)) (A2 : Option Addr) (c2 : Nat) (l2 : List Int) (a3 : Int)
    (hr0 : Kd.C (Kd.int .i64) w0 A0 l0.length l0) (hc0 : l0.length ≤ c0) (hr1 : Kd.C (Kd.slice 3 (Kd.int .i64)) w0 A1 l1.length l1) (hc1 : l1.length ≤ c1) (hr2 : Kd.C (Kd.int .i64) w0 A2 l2.length l2) (hc2 : l2.length ≤ c2) :
    ∀ (d : Nat) (wd : Int) (S T : List Int) (B B' : List Int × Int × Int) (W : World), regis_Best.Inv w0 W bs bw bh bp bg br cr A0 c0 l0 A1 c1 l1 A2 c2 l2 a3 S T B → regis_Best.go k l0 l1 l2 a3 d wd S T B = some B' →
    Calls Tryd.prog 41 #[.int .i64 wd, .pointer (some ⟨bs, 0, none⟩), .pointer (some ⟨bw, 0, none⟩), .pointer (some ⟨bh, 0, none⟩), .pointer (some ⟨bp, 0, none⟩), .pointer (some ⟨bg, 0, none⟩)] W fun e W' => e = .returned (.tuple #[]) ∧ regis_Best.Inv w0 W' bs bw bh bp bg br cr A0 c0 l0 A1 c1 l1 A2 c2 l2 a3 S T B' := by
  have HR0 := Aside0.mk hr0
  have HR1 := Aside0.mk hr1
  have HR2 := Aside0.mk hr2
  clear hr0 hr1 hr2
  intro d
  induction d with
  | zero => intro wd S T B B' W _ h; cases h
  | succ d ih0 =>
  intro wd S T B B' W hinv hgo
  have ih := Aside0.mk ih0
  clear ih0
  obtain ⟨ls, lh, lp, below, kw, kg, kr, ⟨A, c, h1, h2⟩, ⟨A', c', h3, h4, Ab, cb, h5, h6⟩⟩ := id hinv
  have HI := Aside0.mk hinv
  have HG := Aside0.mk hgo
  clear hinv hgo
  have HB := Aside0.mk below
  have H2 := Aside0.mk h2
  have H4 := Aside0.mk h4
  have H6 := Aside0.mk h6
  clear below h2 h4 h6
  have e1 : W.cell? ⟨bs, 0, none⟩ = some (.slice A S.length c) := (blk_cell h1 0).trans rfl
  have f1 := blk_frozen h1 0
  have ew0 : W.cell? ⟨bw, 0, none⟩ = some (.slice A0 l0.length c0) := (blk_cell kw 0).trans rfl
  have ew1 : W.cell? ⟨bw, 1, none⟩ = some (.slice A1 l1.length c1) := (blk_cell kw 1).trans rfl
  have ew2 : W.cell? ⟨bw, 2, none⟩ = some (.slice A2 l2.length c2) := (blk_cell kw 2).trans rfl
  have ew3 : W.cell? ⟨bw, 3, none⟩ = some (.int .i64 a3) := (blk_cell kw 3).trans rfl
  have eh5 : W.cell? ⟨bh, 5, none⟩ = some (.int .i64 B.2.1) := (blk_cell h5 5).trans rfl
  have hu25 := Tryd.underlying28
  have hu28 := Tryd.underlying31
  have hu56 := Tryd.underlying78
  have hgo := HG.out
  clear HG
  simp only [regis_Best.go] at hgo
  by_cases q1 : a3 < wd
  · rw [if_pos q1] at hgo
    injection hgo with hgo
    subst hgo
    go_enter Tryd.func41, Tryd.ntmps41
    go_wp2
    go_region
    all_goals (try go_wp2)
    all_goals ((try simp only [Exit.inBlock, Exit.then]); refine bodyPost_ret (results_none rfl _ _ _) rfl ?_; exact ⟨rfl, HI.out.step (below_drew (Below.refl _ _))⟩)
  have q1b : decide (a3 < wd) = false := decide_eq_false q1
  rw [if_neg q1] at hgo
  obtain ⟨x, AL, hgo⟩ := Option.bind_eq_some_iff.mp hgo
  replace AL := Aside0.mk AL
  go_enter Tryd.func41, Tryd.ntmps41
  go_upto_region 1 with fail
  go_cut [11] (fun s11 wx => ∃ bb : Bool, s11 = .bool bb ∧ bb = decide (B.2.1 < x) ∧ regis_Best.Inv w0 wx bs bw bh bp bg br cr A0 c0 l0 A1 c1 l1 A2 c2 l2 a3 S T B)
  case first =>
    go_region_with (go_at_call 42; refine (regis_least.calls k A0 c0 l0 A1 c1 l1 A2 c2 l2 a3 A c S x W.drew (Kd.C_below HR0.out (below_drew HB.out)) hc0 (Kd.C_below HR1.out (below_drew HB.out)) hc1 (Kd.C_below HR2.out (below_drew HB.out)) hc2 (Kd.R_reads' (Kd.R_below H2.out (below_drew (Below.refl _ _)))).2.2 (Kd.R_reads' H2.out).2.1 AL.out).mono ?_; rintro e w1 ⟨rfl, hb⟩; have eh5' := pw_cell_below (below_step (below_drew (Below.refl _ _)) hb) eh5; have HI' := Aside0.mk (HI.out.step (below_step (below_drew (Below.refl _ _)) hb)))
    all_goals (go_wp2; go_meet)
    all_goals exact ⟨_, rfl, rfl, HI'.out⟩
  case rest =>
    obtain ⟨bb, rfl, hbb, hinv⟩ := hcut
    rename World => wa
    clear h1 h3 h5 kw kg kr e1 f1 ew0 ew1 ew2 ew3 eh5 HI HB H2 H4 H6
    obtain ⟨_, _, _, below, kw, kg, kr, ⟨A, c, h1, h2⟩, ⟨A', c', h3, h4, Ab, cb, h5, h6⟩⟩ := id hinv
    have HI := Aside0.mk hinv
    clear hinv
    have HB := Aside0.mk below
    have H2 := Aside0.mk h2
    have H4 := Aside0.mk h4
    have H6 := Aside0.mk h6
    clear below h2 h4 h6
    have e1 : wa.cell? ⟨bs, 0, none⟩ = some (.slice A S.length c) := (blk_cell h1 0).trans rfl
    have f1 := blk_frozen h1 0
    have ew0 : wa.cell? ⟨bw, 0, none⟩ = some (.slice A0 l0.length c0) := (blk_cell kw 0).trans rfl
    have ew1 : wa.cell? ⟨bw, 1, none⟩ = some (.slice A1 l1.length c1) := (blk_cell kw 1).trans rfl
    have ew2 : wa.cell? ⟨bw, 2, none⟩ = some (.slice A2 l2.length c2) := (blk_cell kw 2).trans rfl
    have ew3 : wa.cell? ⟨bw, 3, none⟩ = some (.int .i64 a3) := (blk_cell kw 3).trans rfl
    have ep0 : wa.cell? ⟨bp, 0, none⟩ = some (.slice A' T.length c') := (blk_cell h3 0).trans rfl
    by_cases q2 : B.2.1 < x
    · rw [if_pos q2] at hgo
      injection hgo with hgo
      subst hgo
      obtain rfl : bb = true := hbb.trans (decide_eq_true q2)
      go_wp2
      first | (go_end0) | ((try simp only [Exit.inBlock, Exit.then]); refine bodyPost_ret (results_none rfl _ _ _) rfl ?_)
      exact ⟨rfl, HI.out⟩
    · rw [if_neg q2] at hgo
      obtain rfl : bb = false := hbb.trans (decide_eq_false q2)
      clear hbb
      by_cases q3 : (S.length : Int) = (l1.length : Int)
      · rw [if_pos q3] at hgo
        have q3b : ((S.length : Int) == (l1.length : Int)) = true := beq_iff_eq.2 q3
        replace q3 := Aside0.mk q3
        obtain ⟨T', AC, hgo1⟩ := Option.bind_eq_some_iff.mp hgo
        clear hgo
        replace AC := Aside0.mk AC
        obtain ⟨⟨m1, m2, m3⟩, AW, hgo2⟩ := Option.bind_eq_some_iff.mp hgo1
        clear hgo1
        replace AW := Aside0.mk AW
        obtain ⟨tt, AT, hgo3⟩ := Option.bind_eq_some_iff.mp hgo2
        clear hgo2
        replace AT := Aside0.mk AT
        simp only [] at hgo3 AT
        have hTc := (Kd.R_reads' H4.out).2.1
        go_upto_region 3 with fail
        go_cut [8] (fun s8 wx => ∃ gc AT cT, s8 = .pointer (some ⟨gc, 0, none⟩) ∧ wx.heap[gc]? = some (.cells #[.slice AT T'.length cT, .int .i64 m2, .int .i64 m3] 31 (0, 0)) ∧ Kd.R (Kd.int .i64) 3 wx wa.heap.size (fun _ => True) (.slice AT T'.length cT) T' ∧ Below wa.heap.size wa wx)
        case first =>
          have HW : Aside0 (Kd.C (Kd.int .i64) wa A' T.length T) := Aside0.mk (Kd.R_reads' H4.out).2.2
          have HC := Aside0.mk (Kd.C_below HR0.out HB.out)
          have HC1 := Aside0.mk (Kd.C_below HR1.out HB.out)
          have HC2 := Aside0.mk (Kd.C_below HR2.out HB.out)
          have ew0z : (wa.alloc (.cells #[.slice none 0 0, .int .i64 0, .int .i64 0] 31 (0, 0))).cell? ⟨bw, 0, none⟩ = some (.slice A0 l0.length c0) := Lib.cell?_alloc_some _ ew0
          have ew1z : (wa.alloc (.cells #[.slice none 0 0, .int .i64 0, .int .i64 0] 31 (0, 0))).cell? ⟨bw, 1, none⟩ = some (.slice A1 l1.length c1) := Lib.cell?_alloc_some _ ew1
          have ew2z : (wa.alloc (.cells #[.slice none 0 0, .int .i64 0, .int .i64 0] 31 (0, 0))).cell? ⟨bw, 2, none⟩ = some (.slice A2 l2.length c2) := Lib.cell?_alloc_some _ ew2
          have ew3z : (wa.alloc (.cells #[.slice none 0 0, .int .i64 0, .int .i64 0] 31 (0, 0))).cell? ⟨bw, 3, none⟩ = some (.int .i64 a3) := Lib.cell?_alloc_some _ ew3
          have ep0z : (wa.alloc (.cells #[.slice none 0 0, .int .i64 0, .int .i64 0] 31 (0, 0))).cell? ⟨bp, 0, none⟩ = some (.slice A' T.length c') := Lib.cell?_alloc_some _ ep0
          go_region_with (first
            | (go_at_call 43
               refine (slices_Clone_int_int.calls A' c' T T' _ ?hC hTc AC.out).mono ?_
               (case hC => first | exact Kd.C_drew HW.out | exact Kd.C_drew (Kd.C_alloc HW.out _))
               rintro e w1 ⟨vT, rfl, hRT, hb1⟩
               obtain ⟨AT, cT, rfl, hcT, hCT⟩ := Kd.R_reads hRT
               have HRT : Aside0 (Kd.R (Kd.int .i64) 3 w1 wa.heap.size (fun _ => True) (.slice AT T'.length cT) T') := Aside0.mk (by first | exact hRT | exact Kd.R_lower hRT (by simp))
               have HCT := Aside0.mk hCT
               have HB1 := Aside0.mk hb1
               clear hRT hCT hb1
               have HBw : Aside0 (Below wa.heap.size wa w1) := Aside0.mk (by first | exact below_step (below_drew (Below.refl _ _)) HB1.out | exact below_step (below_drew (below_alloc (Below.refl _ _) _)) HB1.out)
               have ew0y : w1.cell? ⟨bw, 0, none⟩ = some (.slice A0 l0.length c0) := pw_cell_below HBw.out ew0
               have ew0x : (w1.alloc (.cells #[.slice none 0 0, .int .i64 0, .int .i64 0] 31 (0, 0))).cell? ⟨bw, 0, none⟩ = some (.slice A0 l0.length c0) := Lib.cell?_alloc_some _ ew0y
               have ew1y : w1.cell? ⟨bw, 1, none⟩ = some (.slice A1 l1.length c1) := pw_cell_below HBw.out ew1
               have ew1x : (w1.alloc (.cells #[.slice none 0 0, .int .i64 0, .int .i64 0] 31 (0, 0))).cell? ⟨bw, 1, none⟩ = some (.slice A1 l1.length c1) := Lib.cell?_alloc_some _ ew1y
               have ew2y : w1.cell? ⟨bw, 2, none⟩ = some (.slice A2 l2.length c2) := pw_cell_below HBw.out ew2
               have ew2x : (w1.alloc (.cells #[.slice none 0 0, .int .i64 0, .int .i64 0] 31 (0, 0))).cell? ⟨bw, 2, none⟩ = some (.slice A2 l2.length c2) := Lib.cell?_alloc_some _ ew2y
               have ew3y : w1.cell? ⟨bw, 3, none⟩ = some (.int .i64 a3) := pw_cell_below HBw.out ew3
               have ew3x : (w1.alloc (.cells #[.slice none 0 0, .int .i64 0, .int .i64 0] 31 (0, 0))).cell? ⟨bw, 3, none⟩ = some (.int .i64 a3) := Lib.cell?_alloc_some _ ew3y
               (try have hz1 : w1.heap[wa.heap.size]? = some (.cells #[.slice none 0 0, .int .i64 0, .int .i64 0] 31 (0, 0)) := blk_below (blk_drew (blk_new wa _)) HB1.out))
            | (go_at_call 40
               refine (regis_weighed.calls k A0 c0 l0 A1 c1 l1 A2 c2 l2 a3 AT cT T' m1 m2 m3 _ ?h0 hc0 ?h1 hc1 ?h2 hc2 ?h3 hcT AW.out).mono ?_
               (case h0 => first | exact Kd.C_below HC.out HBw.out | exact Kd.C_alloc (Kd.C_below HC.out HBw.out) _)
               (case h1 => first | exact Kd.C_below HC1.out HBw.out | exact Kd.C_alloc (Kd.C_below HC1.out HBw.out) _)
               (case h2 => first | exact Kd.C_below HC2.out HBw.out | exact Kd.C_alloc (Kd.C_below HC2.out HBw.out) _)
               (case h3 => first | exact HCT.out | exact Kd.C_alloc HCT.out _)
               rintro e w2 ⟨rfl, hb2⟩
               have HB2 := Aside0.mk hb2
               clear hb2
               have HBx : Aside0 (Below wa.heap.size wa w2) := Aside0.mk (by first | exact below_step HBw.out HB2.out | exact below_step (below_alloc HBw.out _) HB2.out)
               have HRx : Aside0 (Kd.R (Kd.int .i64) 3 w2 wa.heap.size (fun _ => True) (.slice AT T'.length cT) T') := Aside0.mk (by first | exact Kd.R_below HRT.out HB2.out | exact Kd.R_below (Kd.R_alloc HRT.out _) HB2.out)
               (try (have hz2 : w2.heap[wa.heap.size]? = some (.cells #[.slice none 0 0, .int .i64 0, .int .i64 0] 31 (0, 0)) := blk_below hz1 HB2.out; have z0 : w2.cell? ⟨wa.heap.size, 0, none⟩ = some (.slice none 0 0) := (blk_cell hz2 0).trans rfl; have z1 : w2.cell? ⟨wa.heap.size, 1, none⟩ = some (.int .i64 0) := (blk_cell hz2 1).trans rfl; have z2 : w2.cell? ⟨wa.heap.size, 2, none⟩ = some (.int .i64 0) := (blk_cell hz2 2).trans rfl; have y0 := blk_frozen hz2 0; have y1 := blk_frozen hz2 1; have y2 := blk_frozen hz2 2))
               (try (have hz2 : w2.heap[w1.heap.size]? = some (.cells #[.slice none 0 0, .int .i64 0, .int .i64 0] 31 (0, 0)) := blk_below (blk_new w1 _) HB2.out; have z0 : w2.cell? ⟨w1.heap.size, 0, none⟩ = some (.slice none 0 0) := (blk_cell hz2 0).trans rfl; have z1 : w2.cell? ⟨w1.heap.size, 1, none⟩ = some (.int .i64 0) := (blk_cell hz2 1).trans rfl; have z2 : w2.cell? ⟨w1.heap.size, 2, none⟩ = some (.int .i64 0) := (blk_cell hz2 2).trans rfl; have y0 := blk_frozen hz2 0; have y1 := blk_frozen hz2 1; have y2 := blk_frozen hz2 2))))
          all_goals (go_wp2; go_meet)
          all_goals first
            | (have p0 := blk_put hz2 0 (.slice AT T'.length cT) rfl
               have p1 := blk_put p0 1 (.int .i64 m2) rfl
               have p2 := blk_put p1 2 (.int .i64 m3) rfl
               exact ⟨_, _, _, rfl, p2, Kd.R_set (Kd.R_set (Kd.R_set HRx.out hz2 (by decide) _ _) p0 (by decide) _ _) p1 (by decide) _ _, below_set (below_set (below_set HBx.out (by first | exact Nat.le_refl _ | exact HBw.out.size)) (by first | exact Nat.le_refl _ | exact HBw.out.size)) (by first | exact Nat.le_refl _ | exact HBw.out.size)⟩)
            | exact ⟨_, _, _, rfl, blk_new _ _, Kd.R_alloc HRx.out _, below_alloc HBx.out _⟩
        case rest =>
          obtain ⟨gc, AN, cN, rfl, hz, hRN, hbN⟩ := hcut
          have HN := Aside0.mk hRN
          have HBN := Aside0.mk hbN
          clear hRN hbN
          have x0 : wc.cell? ⟨gc, 0, none⟩ = some (.slice AN T'.length cN) := (blk_cell hz 0).trans rfl
          have x1 : wc.cell? ⟨gc, 1, none⟩ = some (.int .i64 m2) := (blk_cell hz 1).trans rfl
          have x2 : wc.cell? ⟨gc, 2, none⟩ = some (.int .i64 m3) := (blk_cell hz 2).trans rfl
          have h5c := blk_below h5 HBN.out
          have g4 : wc.cell? ⟨bh, 4, none⟩ = some (.slice Ab B.1.length cb) := (blk_cell h5c 4).trans rfl
          have g5 : wc.cell? ⟨bh, 5, none⟩ = some (.int .i64 B.2.1) := (blk_cell h5c 5).trans rfl
          have g6 : wc.cell? ⟨bh, 6, none⟩ = some (.int .i64 B.2.2) := (blk_cell h5c 6).trans rfl
          have g7 : wc.cell? ⟨bh, 7, none⟩ = some (.func (.func 19) #[] #[]) := (blk_cell h5c 7).trans rfl
          have HCN := Aside0.mk (Kd.R_reads' HN.out).2
          have HCB := Aside0.mk (Kd.R_reads' (Kd.R_below H6.out HBN.out)).2
          cases tt with
          | false =>
            go_wp2_with (go_at_call 19
                         refine (regis_Better.calls k AN cN T' m2 m3 Ab cb B.1 B.2.1 B.2.2 false wc HCN.out.2 HCN.out.1 HCB.out.2 HCB.out.1 AT.out).mono ?_
                         rintro e wd3 ⟨rfl, hb⟩
                         have HB3 := Aside0.mk hb
                         clear hb
                         have hz3 := blk_below hz HB3.out
                         have h53 := blk_below h5c HB3.out
                         have x0' : wd3.cell? ⟨gc, 0, none⟩ = some (.slice AN T'.length cN) := (blk_cell hz3 0).trans rfl
                         have x1' : wd3.cell? ⟨gc, 1, none⟩ = some (.int .i64 m2) := (blk_cell hz3 1).trans rfl
                         have x2' : wd3.cell? ⟨gc, 2, none⟩ = some (.int .i64 m3) := (blk_cell hz3 2).trans rfl
                         have g4' : wd3.cell? ⟨bh, 4, none⟩ = some (.slice Ab B.1.length cb) := (blk_cell h53 4).trans rfl
                         have g5' : wd3.cell? ⟨bh, 5, none⟩ = some (.int .i64 B.2.1) := (blk_cell h53 5).trans rfl
                         have g6' : wd3.cell? ⟨bh, 6, none⟩ = some (.int .i64 B.2.2) := (blk_cell h53 6).trans rfl
                         have i4' := blk_frozen h53 4
                         have i5' := blk_frozen h53 5
                         have i6' := blk_frozen h53 6)
            (try simp only [Exit.inBlock, Exit.then]); refine bodyPost_ret (results_none rfl _ _ _) rfl ?_
            obtain rfl : B = B' := by simpa using hgo3
            exact ⟨rfl, HI.out.step (below_step HBN.out HB3.out)⟩
          | true =>
            go_wp2_with (go_at_call 19
                         refine (regis_Better.calls k AN cN T' m2 m3 Ab cb B.1 B.2.1 B.2.2 true wc HCN.out.2 HCN.out.1 HCB.out.2 HCB.out.1 AT.out).mono ?_
                         rintro e wd3 ⟨rfl, hb⟩
                         have HB3 := Aside0.mk hb
                         clear hb
                         have hz3 := blk_below hz HB3.out
                         have h53 := blk_below h5c HB3.out
                         have x0' : wd3.cell? ⟨gc, 0, none⟩ = some (.slice AN T'.length cN) := (blk_cell hz3 0).trans rfl
                         have x1' : wd3.cell? ⟨gc, 1, none⟩ = some (.int .i64 m2) := (blk_cell hz3 1).trans rfl
                         have x2' : wd3.cell? ⟨gc, 2, none⟩ = some (.int .i64 m3) := (blk_cell hz3 2).trans rfl
                         have g4' : wd3.cell? ⟨bh, 4, none⟩ = some (.slice Ab B.1.length cb) := (blk_cell h53 4).trans rfl
                         have g5' : wd3.cell? ⟨bh, 5, none⟩ = some (.int .i64 B.2.1) := (blk_cell h53 5).trans rfl
                         have g6' : wd3.cell? ⟨bh, 6, none⟩ = some (.int .i64 B.2.2) := (blk_cell h53 6).trans rfl
                         have i4' := blk_frozen h53 4
                         have i5' := blk_frozen h53 5
                         have i6' := blk_frozen h53 6)
            (try simp only [Exit.inBlock, Exit.then]); refine bodyPost_ret (results_none rfl _ _ _) rfl ?_
            obtain rfl : (T', m2, m3) = B' := by simpa using hgo3
            have hb3 := below_step HBN.out HB3.out
            have kw3 := blk_below kw hb3
            have kg3 := blk_below kg hb3
            have kr3 := blk_below kr hb3
            have h13 := blk_below h1 hb3
            have h33 := blk_below h3 hb3
            have p0 := blk_put h53 4 (.slice AN T'.length cN) rfl
            have p1 := blk_put p0 5 (.int .i64 m2) rfl
            have p2 := blk_put p1 6 (.int .i64 m3) rfl
            have hN3 := Kd.R_lower (Kd.R_mono (Kd.R_bound (Kd.R_below HN.out HB3.out)) (ok' := fun k => some k ≠ (Value.slice A' T.length c').ownBlock) (fun k hk he => by have := Kd.R_lt H4.out k he.symm; have := hk.2.1; omega)) HB.out.size
            exact ⟨rfl, ls, lh, lp, ((below_step HB.out hb3).setCell lh _ |>.setCell lh _ |>.setCell lh _),
              blk_far (blk_far (blk_far kw3 (blk_ne kw3 h53 (by decide)) _) (blk_ne kw3 h53 (by decide)) _) (blk_ne kw3 h53 (by decide)) _,
              blk_far (blk_far (blk_far kg3 (blk_ne kg3 h53 (by decide)) _) (blk_ne kg3 h53 (by decide)) _) (blk_ne kg3 h53 (by decide)) _,
              blk_far (blk_far (blk_far kr3 (blk_ne kr3 h53 (by decide)) _) (blk_ne kr3 h53 (by decide)) _) (blk_ne kr3 h53 (by decide)) _,
              ⟨A, c, blk_far (blk_far (blk_far h13 (blk_ne h13 h53 (by decide)) _) (blk_ne h13 h53 (by decide)) _) (blk_ne h13 h53 (by decide)) _, Kd.R_set (Kd.R_set (Kd.R_set (Kd.R_below H2.out hb3) h53 (by decide) _ _) p0 (by decide) _ _) p1 (by decide) _ _⟩,
              ⟨A', c', blk_far (blk_far (blk_far h33 (blk_ne h33 h53 (by decide)) _) (blk_ne h33 h53 (by decide)) _) (blk_ne h33 h53 (by decide)) _, Kd.R_set (Kd.R_set (Kd.R_set (Kd.R_below H4.out hb3) h53 (by decide) _ _) p0 (by decide) _ _) p1 (by decide) _ _,
                AN, cN, p2, Kd.R_set (Kd.R_set (Kd.R_set hN3 h53 (by decide) _ _) p0 (by decide) _ _) p1 (by decide) _ _⟩⟩
      · rw [if_neg q3] at hgo
        have q3b : ((S.length : Int) == (l1.length : Int)) = false := beq_eq_false_iff_ne.2 q3
        clear q3
        by_cases q4 : S.length < 1000 ∧ T.length < 1000 ∧ S.length < l2.length
        case neg => rw [if_neg q4] at hgo; cases hgo
        rw [if_pos q4] at hgo
        obtain ⟨q5, q6, q7⟩ := q4
        obtain ⟨B1, G1, G2⟩ := Option.bind_eq_some_iff.mp hgo
        clear hgo
        replace G1 := Aside0.mk G1
        replace G2 := Aside0.mk G2
        have hi5 : (Tryd.prog.info? 5).map (fun i => (i.zero, i.size, i.bytes)) = some (some (.int .u8 0), 1, 1) := by kernel_rfl
        have hi3 : (Tryd.prog.info? 3).map (fun i => (i.zero, i.size, i.bytes)) = some (some (.int .i64 0), 1, 8) := by kernel_rfl
        replace q5 := Aside0.mk q5
        replace q6 := Aside0.mk q6
        obtain ⟨S1, hS1⟩ : ∃ S1 : List Int, S1 = S ++ [1] := ⟨_, rfl⟩
        obtain ⟨T1, hT1⟩ : ∃ T1 : List Int, T1 = T ++ [(S.length : Int)] := ⟨_, rfl⟩
        rw [← hS1, ← hT1] at G1
        have NS1 := Aside0.mk hS1
        have NT1 := Aside0.mk hT1
        clear hS1 hT1
        obtain ⟨adt, rfl, hxt⟩ := Kd.at_int HR2.out (S.length : Int) (Int.natCast_nonneg _) (Int.ofNat_lt.2 q7)
        have HXT := Aside0.mk hxt
        clear hxt
        have q7a : ((S.length : Int) < (l2.length : Int)) := Int.ofNat_lt.2 q7
        have PS := fun (w1 : World) (Av : Option Addr) (cv : Nat) => Aside0.mk (@regis_Best.Inv.putS w0 wa w1 bs bw bh bp bg br cr A0 c0 l0 A1 c1 l1 (some adt) c2 l2 a3 S S1 T T B A c (.slice Av S1.length cv) HI.out h1 H2.out)
        have PP := fun (W w1 : World) (Ab : Option Addr) (cb : Nat) (Ap : Option Addr) (cp : Nat) (Av : Option Addr) (cv : Nat) => Aside0.mk (@regis_Best.Inv.putP w0 W w1 bs bw bh bp bg br cr A0 c0 l0 A1 c1 l1 (some adt) c2 l2 a3 S1 S T T1 B Ap cp (.slice Av T1.length cv) Ab cb)
        go_wp2_with (first
          | (at_builtin
             refine Kd.R_append (Kd.int .u8) (w0 := w0) w0.heap.size ?g1 (.tmp 43) (.tmp 44) 64 5 (.int .u8 0) 1 ?g2 ?g3 ?g4 ?g5 ?g6 ?g17 (.slice A S.length c) S 1 [.int .u8 1] (fun _ => True) (fun _ => False) ?g7 ?g8 ?g9 ?g10 ?g11 ?g12 ?g13 ?g14 ?g15 ?g16
             (case g1 => exact rfl)
             (case g2 => exact rfl)
             (case g3 => exact Tryd.underlying64)
             (case g4 => exact hi5)
             (case g5 => exact rfl)
             (case g6 => decide)
             (case g17 => decide)
             (case g7 => exact rfl)
             (case g8 => exact rfl)
             (case g9 => exact rfl)
             (case g10 => exact (fun _ hk => hk.elim))
             (case g11 => exact (fun _ _ => trivial))
             (case g12 => exact H2.out)
             (case g13 => exact HB.out)
             (case g14 => exact HB.out.size)
             (case g15 => exact regis_Best.len1 q5.out)
             intro v1 w1 hR hB hg hat
             rw [← NS1.out] at hR
             obtain ⟨Av, cv, rfl⟩ := Kd.R_slice hR
             have s1 := blk_grown h1 hg (Kd.R_ne H2.out h1 (by decide))
             have s2 : w1.cell? ⟨bs, 0, none⟩ = some (.slice A S.length c) := (blk_cell s1 0).trans rfl
             have s3 := blk_frozen s1 0
             have HI1 := Aside0.mk ((PS w1 Av cv).out hg hB hR)
             obtain ⟨Ap, cp, k1, k2, Ab1, cb1, k3, k4⟩ := HI1.out.kp
             have K1 := Aside0.mk k1
             have K2 := Aside0.mk k2
             have K3 := Aside0.mk k3
             have K4 := Aside0.mk k4
             have u1 : (w1.setCell ⟨bs, 0, none⟩ (.slice Av S1.length cv)).cell? ⟨bp, 0, none⟩ = some (.slice Ap T.length cp) := (blk_cell k1 0).trans rfl
             clear hR hB hg hat s1 k1 k2 k3 k4)
          | (at_builtin
             refine Kd.R_append (Kd.int .i64) (w0 := w0) w0.heap.size ?j1 (.tmp 46) (.tmp 48) 25 3 (.int .i64 0) 8 ?j2 ?j3 ?j4 ?j5 ?j6 ?j17 (.slice Ap T.length cp) T (S.length : Int) [.int .i64 (S.length : Int)] (fun _ => True) (fun _ => False) ?j7 ?j8 ?j9 ?j10 ?j11 ?j12 ?j13 ?j14 ?j15 ?j16
             (case j1 => exact rfl)
             (case j2 => exact rfl)
             (case j3 => exact Tryd.underlying25)
             (case j4 => exact hi3)
             (case j5 => exact rfl)
             (case j6 => decide)
             (case j17 => decide)
             (case j7 => exact rfl)
             (case j8 => exact (congrArg (fun n => Value.slice (some ⟨n, 0, none⟩) 1 1) (World.size_setCell ..)).symm)
             (case j9 => exact rfl)
             (case j10 => exact (fun _ hk => hk.elim))
             (case j11 => exact (fun _ _ => trivial))
             (case j12 => exact K2.out)
             (case j13 => exact HI1.out.below)
             (case j14 => exact HI1.out.below.size)
             (case j15 => exact regis_Best.len8 q6.out)
             intro v1 w2 hR hB hg hat
             rw [← NT1.out] at hR
             obtain ⟨Aq, cq, rfl⟩ := Kd.R_slice hR
             have s1 := blk_grown K1.out hg (Kd.R_ne K2.out K1.out (by decide))
             have s2' : w2.cell? ⟨bp, 0, none⟩ = some (.slice Ap T.length cp) := (blk_cell s1 0).trans rfl
             have s3' := blk_frozen s1 0
             have HI2 := Aside0.mk ((PP (w1.setCell ⟨bs, 0, none⟩ (.slice Av S1.length cv)) w2 Ab1 cb1 Ap cp Aq cq).out HI1.out K1.out K2.out K3.out K4.out hg hB hR hat)
             clear hR hB hg hat s1))
        have HI3 := Aside0.mk (HI2.out.step (below_drew (Below.refl _ _)))
        have IH1 := ih.out

        have hwq : wrap64 (wd + rd l2 S.length) = IntKind.i64.wrap (wd + rd l2 S.length) := regis_Best.wrapq _
        replace G1 := Aside0.mk (hwq ▸ G1.out)
        clear hwq
        have IH := Aside0.mk (fun W => IH1 (IntKind.i64.wrap (wd + rd l2 S.length)) S1 T1 B B1 W)
        clear IH1
        have m1 : (w2.setCell ⟨bp, 0, none⟩ (.slice Aq T1.length cq)).cell? ⟨bg, 0, none⟩ = some (.func (.func 41) #[] #[.pointer (some ⟨bs, 0, none⟩), .pointer (some ⟨bw, 0, none⟩), .pointer (some ⟨bh, 0, none⟩), .pointer (some ⟨bp, 0, none⟩), .pointer (some ⟨bg, 0, none⟩)]) := (blk_cell HI2.out.kg 0).trans rfl
        have m2 : (w2.setCell ⟨bp, 0, none⟩ (.slice Aq T1.length cq)).cell? ⟨bw, 2, none⟩ = some (.slice (some adt) l2.length c2) := (blk_cell HI2.out.kw 2).trans rfl
        have m3 : (w2.setCell ⟨bp, 0, none⟩ (.slice Aq T1.length cq)).cell? (adt.add S.length) = some (.int .i64 (rd l2 (S.length : Int))) := pw_cell_below HI2.out.below HXT.out
        go_cut [] (fun wx => regis_Best.Inv w0 wx bs bw bh bp bg br cr A0 c0 l0 A1 c1 l1 (some adt) c2 l2 a3 S1 T1 B1)
        case first =>
          go_region_with (go_at_call 41
                          refine (IH.out _ ?hI8 G1.out).mono ?_
                          (case hI8 => exact HI3.out)
                          rintro e w4 ⟨rfl, hI⟩
                          have HI4 := Aside0.mk hI
                          clear hI)
          all_goals (go_wp2; go_meet)
          all_goals exact HI4.out
        case rest =>
          rename World => wb
          clear HI3 IH m1 m2 m3 HI2 HI1 u1 s2 s3 s2' s3' K1 K2 K3 K4
          have HI5 := Aside0.mk hcut
          obtain ⟨-, -, -, below5, kw5, kg5, kr5, ⟨A5, c5, h15, h25⟩, ⟨A6, c6, h35, h45, Ab5, cb5, h55, h65⟩⟩ := hcut
          have HB5 := Aside0.mk below5
          clear below5
          have hl1 : S1.length = S.length + 1 := by rw [NS1.out]; simp
          have hl2 : T1.length = T.length + 1 := by rw [NT1.out]; simp
          obtain ⟨g5, c5', hv5, -, -, -⟩ := Kd.R_form h25 (by omega)
          injection hv5 with hv5 _ hv6
          subst hv5
          subst hv6
          have H25 := Aside0.mk h25
          have H45 := Aside0.mk h45
          have H65 := Aside0.mk h65
          clear h25 h45 h65
          have hc6 := (Kd.R_reads' H45.out).2.1
          have hc5 := (Kd.R_reads' H25.out).2.1
          rw [hl2] at hc6
          rw [hl1] at hc5
          have hTt : T1.take T.length = T := by rw [NT1.out]; simp
          have hS2 : S1.set S.length 2 = S ++ [2] := by rw [NS1.out]; simp [List.set_append]
          have HP5 := Aside0.mk (regis_Best.Inv.putP HI5.out h35 H45.out h55 H65.out (v := .slice A6 T.length c6) (S' := S1) (T' := T) (World.grownBy.refl _ _) HB5.out (by have := Kd.R_take H45.out (m := T.length) (by omega); rw [hTt] at this; exact this) (.inl (by cases A6 <;> rfl)))
          obtain ⟨-, -, -, -, kw6, kg6, -, -, -⟩ := id HP5.out
          have h16 : (wb.setCell ⟨bp, 0, none⟩ (.slice A6 T.length c6)).heap[bs]? = some (.cells #[.slice (some ⟨g5, 0, none⟩) S1.length c5] 64 (0, 0)) := blk_far h15 (blk_ne h15 h35 (by decide)) _
          have H26 := Aside0.mk (Kd.R_set H25.out h35 (by decide) 0 (.slice A6 T.length c6))
          have hst := Kd.R_putg H26.out (S.length : Int) 2
          have HP6 := Aside0.mk (regis_Best.Inv.rowS (T' := T) (v := .nilIface) HP5.out h16 H26.out hst.2 (HP5.out.below.grown hst.2 HP5.out.below.size (Kd.R_base H26.out)) hst.1 (by simp))
          have hce := Kd.R_cell (0 : Int) H26.out (S.length : Int) (Int.natCast_nonneg _) (by omega)
          have v0 : wb.cell? ⟨bp, 0, none⟩ = some (.slice A6 T1.length c6) := (blk_cell h35 0).trans rfl
          have v1 := blk_frozen h35 0
          have v2 : (wb.setCell ⟨bp, 0, none⟩ (.slice A6 T.length c6)).cell? ⟨bs, 0, none⟩ = some (.slice (some ⟨g5, 0, none⟩) S1.length c5) := (blk_cell h16 0).trans rfl
          have v3 : (wb.setCell ⟨bp, 0, none⟩ (.slice A6 T.length c6)).cell? ⟨g5, S.length, none⟩ = some (.int .u8 (rdOf 0 S1 S.length)) := hce.1
          have v4 : (wb.setCell ⟨bp, 0, none⟩ (.slice A6 T.length c6)).frozen? ⟨g5, S.length, none⟩ = false := hce.2
          have HQ6 : Aside0 (regis_Best.Inv w0 ((wb.setCell ⟨bp, 0, none⟩ (.slice A6 T.length c6)).setCell ⟨g5, S.length, none⟩ (.int .u8 2)) bs bw bh bp bg br cr A0 c0 l0 A1 c1 l1 (some adt) c2 l2 a3 (S ++ [2]) T B1) := Aside0.mk (by rw [← hS2]; exact HP6.out)
          have v5 : ((wb.setCell ⟨bp, 0, none⟩ (.slice A6 T.length c6)).setCell ⟨g5, S.length, none⟩ (.int .u8 2)).cell? ⟨bg, 0, none⟩ = some (.func (.func 41) #[] #[.pointer (some ⟨bs, 0, none⟩), .pointer (some ⟨bw, 0, none⟩), .pointer (some ⟨bh, 0, none⟩), .pointer (some ⟨bp, 0, none⟩), .pointer (some ⟨bg, 0, none⟩)]) := (blk_cell HQ6.out.kg 0).trans rfl
          clear hst hce h16 kw6 kg6 kw5 kg5 kr5 h15 h35 h55 hTt hS2 HP6 H26 HP5
          have IH := ih.out
          clear ih
          replace IH := Aside0.mk IH
          have hwT : wrap64 ((T1.length : Int) - 1) = (T.length : Int) := regis_Best.wlen1 q6.out hl2
          have hS1 : S.length < S1.length := by omega
          have hS1i : (S.length : Int) < (S1.length : Int) := Int.ofNat_lt.2 hS1
          have hT6 : T.length ≤ c6 := by omega
          have hT6i : (T.length : Int) ≤ (c6 : Int) := Int.ofNat_le.2 hT6
          clear hl1 hl2 hc6 hc5
          obtain ⟨S2, hS2⟩ : ∃ S2 : List Int, S2 = S ++ [2] := ⟨_, rfl⟩
          rw [← hS2] at HQ6 G2
          have NS2 := Aside0.mk hS2
          clear hS2
          go_wp2_with (go_at_call 41
                       refine (IH.out _ _ _ _ _ _ HQ6.out G2.out).mono ?_
                       rintro e w7 ⟨rfl, hI⟩
                       have HI7 := Aside0.mk hI
                       obtain ⟨A8, c8, k1, k2⟩ := hI.ks
                       have K1 := Aside0.mk k1
                       have K2 := Aside0.mk k2
                       have z1 : w7.cell? ⟨bs, 0, none⟩ = some (.slice A8 S2.length c8) := (blk_cell k1 0).trans rfl
                       have z2 := blk_frozen k1 0
                       have z3 : S.length ≤ c8 := by have := (Kd.R_reads' k2).2.1; rw [NS2.out] at this; simp at this; omega
                       have z4 : (S.length : Int) ≤ (c8 : Int) := Int.ofNat_le.2 z3
                       clear hI k1 k2)
          first | go_end0 | ((try simp only [Exit.inBlock, Exit.then]); refine bodyPost_ret (results_none rfl _ _ _) rfl ?_)
          exact ⟨rfl, regis_Best.Inv.putS (T' := T) HI7.out K1.out K2.out (World.grownBy.refl _ _) HI7.out.below (by have := Kd.R_take K2.out (m := S.length) (by rw [NS2.out]; simp); rw [NS2.out] at this; simpa using this)⟩
def regis_Best.f (k : Nat) (l0_0 : List Int) (l0_1 : List (List Int)) (l0_2 : List Int) (a0_3 : Int) : Option (List Int × Int × Int × Int) :=
  (regis_Check.f k l0_0 l0_1 l0_2 a0_3).bind fun e =>
    if e = 0 then (regis_weighed.f k l0_0 l0_1 l0_2 a0_3 []).bind fun c => (regis_Best.go k l0_0 l0_1 l0_2 a0_3 k 0 [] [] ([], c.2.1, c.2.2)).bind fun B => some (B.1, B.2.1, B.2.2, 0)
    else some ([], 0, 0, e)
theorem regis_Best.mono_go (k : Nat) (l0 : List Int) (l1 : List (List Int)) (l2 : List Int) (a3 : Int) : ∀ (d : Nat) (wd : Int) (S T : List Int) (B : List Int × Int × Int), LeO (regis_Best.go k l0 l1 l2 a3 d wd S T B) (regis_Best.go (k + 1) l0 l1 l2 a3 (d + 1) wd S T B) := by
  intro d
  induction d with
  | zero => intro wd S T B; exact LeO.none _
  | succ d ih =>
    intro wd S T B
    rw [regis_Best.go, regis_Best.go]
    refine LeO.ite (LeO.refl _) (LeO.bind (regis_least.mono _ _ _ _ _ _) (fun x => LeO.ite (LeO.refl _) (LeO.ite (LeO.bind (LeO.refl _) (fun T' => LeO.bind (regis_weighed.mono _ _ _ _ _ _) (fun c => LeO.bind (regis_Better.mono _ _ _ _ _ _ _) (fun t => LeO.refl _)))) (LeO.ite (LeO.bind (ih _ _ _ _) (fun B1 => ih _ _ _ _)) (LeO.none _)))))
theorem regis_Best.mono : ∀ a0 a1 a2 a3 k, LeO (regis_Best.f k a0 a1 a2 a3) (regis_Best.f (k + 1) a0 a1 a2 a3) := by
  intro a0 a1 a2 a3 k
  unfold regis_Best.f
  exact LeO.bind (regis_Check.mono _ _ _ _ _) (fun e => LeO.ite (LeO.bind (regis_weighed.mono _ _ _ _ _ _) (fun c => LeO.bind (regis_Best.mono_go k a0 a1 a2 a3 k _ _ _ _) (fun B => LeO.refl _))) (LeO.refl _))
set_option maxHeartbeats 40000000 in
set_option maxRecDepth 100000 in
theorem regis_Best.calls (k : Nat) (A0_0 : Option Addr) (c0_0 : Nat) (l0_0 : List Int) (A0_1 : Option Addr) (c0_1 : Nat) (l0_1 : List (List Int)) (A0_2 : Option Addr) (c0_2 : Nat) (l0_2 : List Int) (a0_3 : Int) (r1 : List Int) (r2 : Int) (r3 : Int) (r4 : Int) (w : World) (hr0_0 : Kd.C (Kd.int .i64) w A0_0 l0_0.length l0_0) (hc0_0 : l0_0.length ≤ c0_0) (hr0_1 : Kd.C (Kd.slice 3 (Kd.int .i64)) w A0_1 l0_1.length l0_1) (hc0_1 : l0_1.length ≤ c0_1) (hr0_2 : Kd.C (Kd.int .i64) w A0_2 l0_2.length l0_2) (hc0_2 : l0_2.length ≤ c0_2) (h : regis_Best.f k l0_0 l0_1 l0_2 a0_3 = some (r1, r2, r3, r4)) :
    Calls Tryd.prog 12 #[.agg #[.slice A0_0 l0_0.length c0_0, .slice A0_1 l0_1.length c0_1, .slice A0_2 l0_2.length c0_2, .int .i64 a0_3]] w fun e w' => ∃ v0_ : Value, e = .returned (.tuple #[.agg #[v0_, .int .i64 r2, .int .i64 r3], .int .i64 r4]) ∧ Kd.R (Kd.int .i64) 3 w' w.heap.size (fun _ => True) v0_ r1 ∧ Below w.heap.size w w' := by
  have hu25 := Tryd.underlying28
  have hu28 := Tryd.underlying31
  have hu56 := Tryd.underlying78
  have hmf : ∀ (fn : Fn) (first cap : Array Value) (w : World), (Instr.makeFunc fn first cap).run Tryd.prog w = .ok (.func fn first cap) w := fun _ _ _ _ => rfl
  have hsf : ∀ (a : Addr) (fn : Fn) (x y : Array Value) (m : Mode) (w : World), (Go.store a (.func fn x y) m).run Tryd.prog w = stored Tryd.prog w a (.func fn x y) m := fun a fn x y m w => run_store Tryd.prog w a _ m rfl
  have HR0 := Aside0.mk hr0_0
  have HR1 := Aside0.mk hr0_1
  have HR2 := Aside0.mk hr0_2
  clear hr0_0 hr0_1 hr0_2
  unfold regis_Best.f at h
  obtain ⟨e0, AE, H⟩ := Option.bind_eq_some_iff.mp h
  clear h
  replace AE := Aside0.mk AE
  go_enter Tryd.func12, Tryd.ntmps12
  go_upto_region 0 with fail
  go_cut [1, 2, 3] (fun s1 s2 s3 wx => ∃ bw br, s1 = .pointer (some ⟨bw, 0, none⟩) ∧ s2 = .pointer (some ⟨br, 0, none⟩) ∧ s3 = .int .i64 0 ∧ w.heap.size ≤ bw ∧ w.heap.size ≤ br ∧ wx.heap[bw]? = some (.cells #[.slice A0_0 l0_0.length c0_0, .slice A0_1 l0_1.length c0_1, .slice A0_2 l0_2.length c0_2, .int .i64 a0_3] 28 (0, 0)) ∧ wx.heap[br]? = some (.cells #[.slice none 0 0, .int .i64 0, .int .i64 0] 31 (0, 0)) ∧ Below w.heap.size w wx)
  case first =>
    go_wp2
    go_meet
    exact ⟨_, _, rfl, rfl, rfl, Nat.le_refl _, by simp, blk_alloc (blk_new _ _) _, by have := blk_new (w.alloc (.cells #[.slice A0_0 l0_0.length c0_0, .slice A0_1 l0_1.length c0_1, .slice A0_2 l0_2.length c0_2, .int .i64 a0_3] 28 (0, 0))) (.cells #[.slice none 0 0, .int .i64 0, .int .i64 0] 31 (0, 0)); simpa using this, below_alloc (below_alloc (Below.refl _ _) _) _⟩
  case rest =>
    obtain ⟨bw, br, rfl, rfl, rfl, lw, lr, kw, kr, hb0⟩ := hcut
    rename World => wa
    have HB0 := Aside0.mk hb0
    clear hb0
    have ew0 : wa.cell? ⟨bw, 0, none⟩ = some (.slice A0_0 l0_0.length c0_0) := (blk_cell kw 0).trans rfl
    have ew1 : wa.cell? ⟨bw, 1, none⟩ = some (.slice A0_1 l0_1.length c0_1) := (blk_cell kw 1).trans rfl
    have ew2 : wa.cell? ⟨bw, 2, none⟩ = some (.slice A0_2 l0_2.length c0_2) := (blk_cell kw 2).trans rfl
    have ew3 : wa.cell? ⟨bw, 3, none⟩ = some (.int .i64 a0_3) := (blk_cell kw 3).trans rfl
    have ec0 : wa.cell? ⟨br, 0, none⟩ = some (.slice none 0 0) := (blk_cell kr 0).trans rfl
    by_cases he : e0 = 0
    case neg =>
      rw [if_neg he] at H
      have heb : (e0 == 0) = false := beq_eq_false_iff_ne.2 he
      have hen : (e0 != 0) = true := by simpa [bne] using he
      simp only [Option.some.injEq, Prod.mk.injEq] at H
      obtain ⟨rfl, rfl, rfl, rfl⟩ := H
      go_wp2_with (go_at_call 39
                   refine (regis_Check.calls k A0_0 c0_0 l0_0 A0_1 c0_1 l0_1 A0_2 c0_2 l0_2 a0_3 e0 wa (Kd.C_below HR0.out HB0.out) hc0_0 (Kd.C_below HR1.out HB0.out) hc0_1 (Kd.C_below HR2.out HB0.out) hc0_2 AE.out).mono ?_
                   rintro e w1 ⟨rfl, hb⟩
                   have HB1 := Aside0.mk (below_step HB0.out hb)
                   have kr1 := blk_below kr hb
                   have c0' : w1.cell? ⟨br, 0, none⟩ = some (.slice none 0 0) := (blk_cell kr1 0).trans rfl
                   have c1' : w1.cell? ⟨br, 1, none⟩ = some (.int .i64 0) := (blk_cell kr1 1).trans rfl
                   have c2' : w1.cell? ⟨br, 2, none⟩ = some (.int .i64 0) := (blk_cell kr1 2).trans rfl
                   have d0' := blk_frozen kr1 0
                   have d1' := blk_frozen kr1 1
                   have d2' := blk_frozen kr1 2
                   clear hb)
      (try simp only [Exit.inBlock, Exit.then])
      refine bodyPost_ret (results_ct rfl _ _ br 31 #[.slice none 0 0, .int .i64 0, .int .i64 0] (0, 0) _ rfl (blk_put (blk_put (blk_put kr1 0 _ rfl) 1 _ rfl) 2 _ rfl) hu28 rfl (by kernel_rfl)) rfl ?_
      exact ⟨_, rfl, Kd.R_nil _ _ _ _ _, below_set (below_set (below_set HB1.out lr) lr) lr⟩
    case pos =>
      subst he
      rw [if_pos rfl] at H
      obtain ⟨⟨m1, m2, m3⟩, AW, H2⟩ := Option.bind_eq_some_iff.mp H
      clear H
      replace AW := Aside0.mk AW
      obtain ⟨⟨b1, b2, b3⟩, AG, H3⟩ := Option.bind_eq_some_iff.mp H2
      clear H2
      replace AG := Aside0.mk AG
      simp only [Option.some.injEq, Prod.mk.injEq] at H3 AG
      obtain ⟨rfl, rfl, rfl, rfl⟩ := H3
      go_wp2_with (go_at_call 39
                   refine (regis_Check.calls k A0_0 c0_0 l0_0 A0_1 c0_1 l0_1 A0_2 c0_2 l0_2 a0_3 0 wa (Kd.C_below HR0.out HB0.out) hc0_0 (Kd.C_below HR1.out HB0.out) hc0_1 (Kd.C_below HR2.out HB0.out) hc0_2 AE.out).mono ?_
                   rintro e w1 ⟨rfl, hb⟩
                   have HB1 := Aside0.mk (below_step HB0.out hb)
                   have kr1 := blk_below kr hb
                   have kw1 := blk_below kw hb
                   clear hb)
      have e10 : w1.cell? ⟨bw, 0, none⟩ = some (.slice A0_0 l0_0.length c0_0) := (blk_cell kw1 0).trans rfl
      have e11 : w1.cell? ⟨bw, 1, none⟩ = some (.slice A0_1 l0_1.length c0_1) := (blk_cell kw1 1).trans rfl
      have e12 : w1.cell? ⟨bw, 2, none⟩ = some (.slice A0_2 l0_2.length c0_2) := (blk_cell kw1 2).trans rfl
      have e13 : w1.cell? ⟨bw, 3, none⟩ = some (.int .i64 a0_3) := (blk_cell kw1 3).trans rfl
      go_cut [5] (fun s5 wx => ∃ bh, s5 = .pointer (some ⟨bh, 0, none⟩) ∧ wx.heap[bh]? = some (.cells #[.slice A0_0 l0_0.length c0_0, .slice A0_1 l0_1.length c0_1, .slice A0_2 l0_2.length c0_2, .int .i64 a0_3, .slice none 0 0, .int .i64 m2, .int .i64 m3, .func (.func 19) #[] #[]] 78 (0, 0)) ∧ w1.heap.size ≤ bh ∧ Below w1.heap.size w1 wx)
      case first =>
        have e10_ : (w1.alloc (.cells #[.slice none 0 0, .slice none 0 0, .slice none 0 0, .int .i64 0, .slice none 0 0, .int .i64 0, .int .i64 0, .nilFunc] 78 (0, 0))).cell? ⟨bw, 0, none⟩ = some (.slice A0_0 l0_0.length c0_0) := Lib.cell?_alloc_some _ e10
        have e11_ : (w1.alloc (.cells #[.slice none 0 0, .slice none 0 0, .slice none 0 0, .int .i64 0, .slice none 0 0, .int .i64 0, .int .i64 0, .nilFunc] 78 (0, 0))).cell? ⟨bw, 1, none⟩ = some (.slice A0_1 l0_1.length c0_1) := Lib.cell?_alloc_some _ e11
        have e12_ : (w1.alloc (.cells #[.slice none 0 0, .slice none 0 0, .slice none 0 0, .int .i64 0, .slice none 0 0, .int .i64 0, .int .i64 0, .nilFunc] 78 (0, 0))).cell? ⟨bw, 2, none⟩ = some (.slice A0_2 l0_2.length c0_2) := Lib.cell?_alloc_some _ e12
        have e13_ : (w1.alloc (.cells #[.slice none 0 0, .slice none 0 0, .slice none 0 0, .int .i64 0, .slice none 0 0, .int .i64 0, .int .i64 0, .nilFunc] 78 (0, 0))).cell? ⟨bw, 3, none⟩ = some (.int .i64 a0_3) := Lib.cell?_alloc_some _ e13
        go_region_with (go_at_call 40
                        refine (regis_weighed.calls k A0_0 c0_0 l0_0 A0_1 c0_1 l0_1 A0_2 c0_2 l0_2 a0_3 none 0 [] m1 m2 m3 _ ?h0 hc0_0 ?h1 hc0_1 ?h2 hc0_2 (Kd.C_nil _ _) (Nat.le_refl _) AW.out).mono ?_
                        (case h0 => first | exact Kd.C_drew (Kd.C_below HR0.out HB1.out) | exact Kd.C_drew (Kd.C_alloc (Kd.C_below HR0.out HB1.out) _))
                        (case h1 => first | exact Kd.C_drew (Kd.C_below HR1.out HB1.out) | exact Kd.C_drew (Kd.C_alloc (Kd.C_below HR1.out HB1.out) _))
                        (case h2 => first | exact Kd.C_drew (Kd.C_below HR2.out HB1.out) | exact Kd.C_drew (Kd.C_alloc (Kd.C_below HR2.out HB1.out) _))
                        rintro e w2 ⟨rfl, hb⟩
                        have HB2 := Aside0.mk hb
                        clear hb
                        have HBx : Aside0 (Below w1.heap.size w1 w2) := Aside0.mk (by first | exact below_step (below_drew (Below.refl _ _)) HB2.out | exact below_step (below_drew (below_alloc (Below.refl _ _) _)) HB2.out)
                        have e20 : w2.cell? ⟨bw, 0, none⟩ = some (.slice A0_0 l0_0.length c0_0) := pw_cell_below HBx.out e10
                        have e20_ : (w2.alloc (.cells #[.slice none 0 0, .slice none 0 0, .slice none 0 0, .int .i64 0, .slice none 0 0, .int .i64 0, .int .i64 0, .nilFunc] 78 (0, 0))).cell? ⟨bw, 0, none⟩ = some (.slice A0_0 l0_0.length c0_0) := Lib.cell?_alloc_some _ e20
                        have e21 : w2.cell? ⟨bw, 1, none⟩ = some (.slice A0_1 l0_1.length c0_1) := pw_cell_below HBx.out e11
                        have e21_ : (w2.alloc (.cells #[.slice none 0 0, .slice none 0 0, .slice none 0 0, .int .i64 0, .slice none 0 0, .int .i64 0, .int .i64 0, .nilFunc] 78 (0, 0))).cell? ⟨bw, 1, none⟩ = some (.slice A0_1 l0_1.length c0_1) := Lib.cell?_alloc_some _ e21
                        have e22 : w2.cell? ⟨bw, 2, none⟩ = some (.slice A0_2 l0_2.length c0_2) := pw_cell_below HBx.out e12
                        have e22_ : (w2.alloc (.cells #[.slice none 0 0, .slice none 0 0, .slice none 0 0, .int .i64 0, .slice none 0 0, .int .i64 0, .int .i64 0, .nilFunc] 78 (0, 0))).cell? ⟨bw, 2, none⟩ = some (.slice A0_2 l0_2.length c0_2) := Lib.cell?_alloc_some _ e22
                        have e23 : w2.cell? ⟨bw, 3, none⟩ = some (.int .i64 a0_3) := pw_cell_below HBx.out e13
                        have e23_ : (w2.alloc (.cells #[.slice none 0 0, .slice none 0 0, .slice none 0 0, .int .i64 0, .slice none 0 0, .int .i64 0, .int .i64 0, .nilFunc] 78 (0, 0))).cell? ⟨bw, 3, none⟩ = some (.int .i64 a0_3) := Lib.cell?_alloc_some _ e23
                        (try (have hz : w2.heap[w1.heap.size]? = some (.cells #[.slice none 0 0, .slice none 0 0, .slice none 0 0, .int .i64 0, .slice none 0 0, .int .i64 0, .int .i64 0, .nilFunc] 78 (0, 0)) := blk_below (blk_drew (blk_new w1 _)) HB2.out; have z0 : w2.cell? ⟨w1.heap.size, 0, none⟩ = some (.slice none 0 0) := (blk_cell hz 0).trans rfl; have y0 := blk_frozen hz 0; have z1 : w2.cell? ⟨w1.heap.size, 1, none⟩ = some (.slice none 0 0) := (blk_cell hz 1).trans rfl; have y1 := blk_frozen hz 1; have z2 : w2.cell? ⟨w1.heap.size, 2, none⟩ = some (.slice none 0 0) := (blk_cell hz 2).trans rfl; have y2 := blk_frozen hz 2; have z3 : w2.cell? ⟨w1.heap.size, 3, none⟩ = some (.int .i64 0) := (blk_cell hz 3).trans rfl; have y3 := blk_frozen hz 3; have z4 : w2.cell? ⟨w1.heap.size, 4, none⟩ = some (.slice none 0 0) := (blk_cell hz 4).trans rfl; have y4 := blk_frozen hz 4; have z5 : w2.cell? ⟨w1.heap.size, 5, none⟩ = some (.int .i64 0) := (blk_cell hz 5).trans rfl; have y5 := blk_frozen hz 5; have z6 : w2.cell? ⟨w1.heap.size, 6, none⟩ = some (.int .i64 0) := (blk_cell hz 6).trans rfl; have y6 := blk_frozen hz 6; have z7 : w2.cell? ⟨w1.heap.size, 7, none⟩ = some (.nilFunc) := (blk_cell hz 7).trans rfl; have y7 := blk_frozen hz 7)))
        all_goals (go_wp2; go_meet)
        all_goals first
            | (skip
               have p1 := blk_put hz 0 (.slice A0_0 l0_0.length c0_0) rfl
               have p2 := blk_put p1 1 (.slice A0_1 l0_1.length c0_1) rfl
               have p3 := blk_put p2 2 (.slice A0_2 l0_2.length c0_2) rfl
               have p4 := blk_put p3 3 (.int .i64 a0_3) rfl
               have p5 := blk_put p4 4 (.slice none 0 0) rfl
               have p6 := blk_put p5 5 (.int .i64 m2) rfl
               have p7 := blk_put p6 6 (.int .i64 m3) rfl
               have p8 := blk_put p7 7 (.func (.func 19) #[] #[]) rfl
               exact ⟨_, rfl, p8, Nat.le_refl _, (below_set (below_set (below_set (below_set (below_set (below_set (below_set (below_set HBx.out (Nat.le_refl _)) (Nat.le_refl _)) (Nat.le_refl _)) (Nat.le_refl _)) (Nat.le_refl _)) (Nat.le_refl _)) (Nat.le_refl _)) (Nat.le_refl _))⟩)
            | exact ⟨_, rfl, blk_new _ _, HBx.out.size, below_alloc HBx.out _⟩
      case rest =>
        obtain ⟨bh, rfl, kh, lh, hbh⟩ := hcut
        have HBh := Aside0.mk (below_step HB1.out hbh)
        have kw2 := blk_below kw1 hbh
        have kr2 := blk_below kr1 hbh
        clear hbh
        rename World => wb
        have hG3 : (((wb.alloc (.cells #[.slice none 0 0] 64 (0, 0))).alloc (.cells #[.slice none 0 0] 25 (0, 0))).alloc (.cells #[.nilFunc] 79 (0, 0))).heap[wb.heap.size + 1 + 1]? = some (.cells #[.nilFunc] 79 (0, 0)) := by
          have := blk_new ((wb.alloc (.cells #[.slice none 0 0] 64 (0, 0))).alloc (.cells #[.slice none 0 0] 25 (0, 0))) (.cells #[.nilFunc] 79 (0, 0))
          simpa using this
        have q0 : (((wb.alloc (.cells #[.slice none 0 0] 64 (0, 0))).alloc (.cells #[.slice none 0 0] 25 (0, 0))).alloc (.cells #[.nilFunc] 79 (0, 0))).cell? ⟨wb.heap.size + 1 + 1, 0, none⟩ = some .nilFunc := (blk_cell hG3 0).trans rfl
        have q1 := blk_frozen hG3 0
        clear hG3
        have hG : (((wb.alloc (.cells #[.slice none 0 0] 64 (0, 0))).alloc (.cells #[.slice none 0 0] 25 (0, 0))).alloc (.cells #[.func (.func 41) #[] #[.pointer (some ⟨wb.heap.size, 0, none⟩), .pointer (some ⟨bw, 0, none⟩), .pointer (some ⟨bh, 0, none⟩), .pointer (some ⟨wb.heap.size + 1, 0, none⟩), .pointer (some ⟨wb.heap.size + 1 + 1, 0, none⟩)]] 79 (0, 0))).heap[wb.heap.size + 1 + 1]? = some (.cells #[.func (.func 41) #[] #[.pointer (some ⟨wb.heap.size, 0, none⟩), .pointer (some ⟨bw, 0, none⟩), .pointer (some ⟨bh, 0, none⟩), .pointer (some ⟨wb.heap.size + 1, 0, none⟩), .pointer (some ⟨wb.heap.size + 1 + 1, 0, none⟩)]] 79 (0, 0)) := by
          have := blk_new ((wb.alloc (.cells #[.slice none 0 0] 64 (0, 0))).alloc (.cells #[.slice none 0 0] 25 (0, 0))) (.cells #[.func (.func 41) #[] #[.pointer (some ⟨wb.heap.size, 0, none⟩), .pointer (some ⟨bw, 0, none⟩), .pointer (some ⟨bh, 0, none⟩), .pointer (some ⟨wb.heap.size + 1, 0, none⟩), .pointer (some ⟨wb.heap.size + 1 + 1, 0, none⟩)]] 79 (0, 0))
          simpa using this
        have hS : (((wb.alloc (.cells #[.slice none 0 0] 64 (0, 0))).alloc (.cells #[.slice none 0 0] 25 (0, 0))).alloc (.cells #[.func (.func 41) #[] #[.pointer (some ⟨wb.heap.size, 0, none⟩), .pointer (some ⟨bw, 0, none⟩), .pointer (some ⟨bh, 0, none⟩), .pointer (some ⟨wb.heap.size + 1, 0, none⟩), .pointer (some ⟨wb.heap.size + 1 + 1, 0, none⟩)]] 79 (0, 0))).heap[wb.heap.size]? = some (.cells #[.slice none 0 0] 64 (0, 0)) := blk_alloc (blk_alloc (blk_new _ _) _) _
        have hP : (((wb.alloc (.cells #[.slice none 0 0] 64 (0, 0))).alloc (.cells #[.slice none 0 0] 25 (0, 0))).alloc (.cells #[.func (.func 41) #[] #[.pointer (some ⟨wb.heap.size, 0, none⟩), .pointer (some ⟨bw, 0, none⟩), .pointer (some ⟨bh, 0, none⟩), .pointer (some ⟨wb.heap.size + 1, 0, none⟩), .pointer (some ⟨wb.heap.size + 1 + 1, 0, none⟩)]] 79 (0, 0))).heap[wb.heap.size + 1]? = some (.cells #[.slice none 0 0] 25 (0, 0)) := by
          refine blk_alloc ?_ _
          have := blk_new (wb.alloc (.cells #[.slice none 0 0] 64 (0, 0))) (.cells #[.slice none 0 0] 25 (0, 0))
          simpa using this
        have q2 : (((wb.alloc (.cells #[.slice none 0 0] 64 (0, 0))).alloc (.cells #[.slice none 0 0] 25 (0, 0))).alloc (.cells #[.func (.func 41) #[] #[.pointer (some ⟨wb.heap.size, 0, none⟩), .pointer (some ⟨bw, 0, none⟩), .pointer (some ⟨bh, 0, none⟩), .pointer (some ⟨wb.heap.size + 1, 0, none⟩), .pointer (some ⟨wb.heap.size + 1 + 1, 0, none⟩)]] 79 (0, 0))).cell? ⟨wb.heap.size + 1 + 1, 0, none⟩ = some (.func (.func 41) #[] #[.pointer (some ⟨wb.heap.size, 0, none⟩), .pointer (some ⟨bw, 0, none⟩), .pointer (some ⟨bh, 0, none⟩), .pointer (some ⟨wb.heap.size + 1, 0, none⟩), .pointer (some ⟨wb.heap.size + 1 + 1, 0, none⟩)]) := (blk_cell hG 0).trans rfl
        have HI : Aside0 (regis_Best.Inv w (((wb.alloc (.cells #[.slice none 0 0] 64 (0, 0))).alloc (.cells #[.slice none 0 0] 25 (0, 0))).alloc (.cells #[.func (.func 41) #[] #[.pointer (some ⟨wb.heap.size, 0, none⟩), .pointer (some ⟨bw, 0, none⟩), .pointer (some ⟨bh, 0, none⟩), .pointer (some ⟨wb.heap.size + 1, 0, none⟩), .pointer (some ⟨wb.heap.size + 1 + 1, 0, none⟩)]] 79 (0, 0))) wb.heap.size bw bh (wb.heap.size + 1) (wb.heap.size + 1 + 1) br #[.slice none 0 0, .int .i64 0, .int .i64 0] A0_0 c0_0 l0_0 A0_1 c0_1 l0_1 A0_2 c0_2 l0_2 a0_3 [] [] ([], m2, m3)) :=
          Aside0.mk ⟨HBh.out.size, Nat.le_trans HB1.out.size lh, Nat.le_trans HBh.out.size (Nat.le_succ _), below_alloc (below_alloc (below_alloc HBh.out _) _) _, blk_alloc (blk_alloc (blk_alloc kw2 (.cells #[.slice none 0 0] 64 (0, 0))) (.cells #[.slice none 0 0] 25 (0, 0))) (.cells #[.func (.func 41) #[] #[.pointer (some ⟨wb.heap.size, 0, none⟩), .pointer (some ⟨bw, 0, none⟩), .pointer (some ⟨bh, 0, none⟩), .pointer (some ⟨wb.heap.size + 1, 0, none⟩), .pointer (some ⟨wb.heap.size + 1 + 1, 0, none⟩)]] 79 (0, 0)), hG, blk_alloc (blk_alloc (blk_alloc kr2 (.cells #[.slice none 0 0] 64 (0, 0))) (.cells #[.slice none 0 0] 25 (0, 0))) (.cells #[.func (.func 41) #[] #[.pointer (some ⟨wb.heap.size, 0, none⟩), .pointer (some ⟨bw, 0, none⟩), .pointer (some ⟨bh, 0, none⟩), .pointer (some ⟨wb.heap.size + 1, 0, none⟩), .pointer (some ⟨wb.heap.size + 1 + 1, 0, none⟩)]] 79 (0, 0)), ⟨none, 0, hS, Kd.R_nil _ _ _ _ _⟩, ⟨none, 0, hP, Kd.R_nil _ _ _ _ _, none, 0, blk_alloc (blk_alloc (blk_alloc kh (.cells #[.slice none 0 0] 64 (0, 0))) (.cells #[.slice none 0 0] 25 (0, 0))) (.cells #[.func (.func 41) #[] #[.pointer (some ⟨wb.heap.size, 0, none⟩), .pointer (some ⟨bw, 0, none⟩), .pointer (some ⟨bh, 0, none⟩), .pointer (some ⟨wb.heap.size + 1, 0, none⟩), .pointer (some ⟨wb.heap.size + 1 + 1, 0, none⟩)]] 79 (0, 0)), Kd.R_nil _ _ _ _ _⟩⟩
        clear hG hS hP
        go_wp2_with (go_at_call 41
                     refine (regis_Best.go_calls k w wb.heap.size bw bh (wb.heap.size + 1) (wb.heap.size + 1 + 1) br #[.slice none 0 0, .int .i64 0, .int .i64 0] A0_0 c0_0 l0_0 A0_1 c0_1 l0_1 A0_2 c0_2 l0_2 a0_3 HR0.out hc0_0 HR1.out hc0_1 HR2.out hc0_2 k 0 [] [] ([], m2, m3) (b1, b2, b3) _ HI.out AG.out).mono ?_
                     rintro e w6 ⟨rfl, hI⟩
                     have HB6 := Aside0.mk hI.below
                     have kr6 := hI.kr
                     obtain ⟨_, _, _, _, Ab, cb, k3, k4⟩ := hI.kp
                     have K4 := Aside0.mk k4
                     have n0 : w6.cell? ⟨bh, 4, none⟩ = some (.slice Ab b1.length cb) := (blk_cell k3 4).trans rfl
                     have n1 : w6.cell? ⟨bh, 5, none⟩ = some (.int .i64 b2) := (blk_cell k3 5).trans rfl
                     have n2 : w6.cell? ⟨bh, 6, none⟩ = some (.int .i64 b3) := (blk_cell k3 6).trans rfl
                     have u0 : w6.cell? ⟨br, 0, none⟩ = some (.slice none 0 0) := (blk_cell kr6 0).trans rfl
                     have u1 : w6.cell? ⟨br, 1, none⟩ = some (.int .i64 0) := (blk_cell kr6 1).trans rfl
                     have u2 : w6.cell? ⟨br, 2, none⟩ = some (.int .i64 0) := (blk_cell kr6 2).trans rfl
                     have o0 := blk_frozen kr6 0
                     have o1 := blk_frozen kr6 1
                     have o2 := blk_frozen kr6 2
                     clear hI k3 k4)
        (try simp only [Exit.inBlock, Exit.then])
        have t0 := blk_put kr6 0 (.slice Ab b1.length cb) rfl
        have t1 := blk_put t0 1 (.int .i64 b2) rfl
        have t2 := blk_put t1 2 (.int .i64 b3) rfl
        refine bodyPost_ret (results_ct rfl _ _ br 31 #[.slice Ab b1.length cb, .int .i64 b2, .int .i64 b3] (0, 0) _ rfl t2 hu28 rfl (by kernel_rfl)) rfl ?_
        exact ⟨_, rfl, Kd.R_mono (Kd.R_set (Kd.R_set (Kd.R_set K4.out kr6 (by decide) _ _) t0 (by decide) _ _) t1 (by decide) _ _) (fun _ _ => trivial), below_set (below_set (below_set HB6.out lr) lr) lr⟩


-- NOT PRINTED: function 84 (slices_IndexFunc_uint8_uint8)

-- NOT PRINTED: function 63 (slices_ContainsFunc_uint8_uint8)

/-! ### regis_Bound_1: function 64 -/
def regis_Bound_1.f (a0 : Int) : Option (Bool) := if a0 = 1 then (some false) else (some (a0 != 2))
set_option maxHeartbeats 8000000 in
set_option maxRecDepth 100000 in
theorem regis_Bound_1.calls (a0 : Int) (r : Bool) (w : World) (h : regis_Bound_1.f a0 = some r) :
  Calls Tryd.prog 64 #[.int .u8 a0] w fun e w' => e = .returned (.bool r) ∧ Drawn0 w w':=by
 have H : (if a0 = 1 then (some false) else (some (a0 != 2))) = some r:=h;clear h
 by_cases c2 : a0 = 1
 ·rw [if_pos c2] at H;have c2b0 : (a0 == 1) = true:=beq_iff_eq.mpr c2;have c2b1 : (a0 != 1) = false:=bne_eq_false_iff_eq.mpr c2;clear c2;obtain rfl:=Option.some.inj H;go_enter Tryd.func64, Tryd.ntmps64
  go_wp2
  go_ret
  exact ⟨by first | rfl | (simp;done) | (simp [*];done), by repeat (first | exact Drawn0.refl _ | apply Drawn0.step)⟩
 ·rw [if_neg c2] at H;have c2b0 : (a0 == 1) = false:=beq_eq_false_iff_ne.mpr c2;have c2b1 : (a0 != 1) = true:=bne_iff_ne.mpr c2;obtain rfl:=Option.some.inj H;go_enter Tryd.func64, Tryd.ntmps64
  go_wp2
  go_ret
  exact ⟨by first | rfl | (simp;done) | (simp [*];done), by repeat (first | exact Drawn0.refl _ | apply Drawn0.step)⟩

/-! ### slices_IndexFunc_uint8_uint8_regis_Bound_1: function 1000003 -/
def slices_IndexFunc_uint8_uint8_regis_Bound_1.l0 : Nat → List Int → Int → Int → Option (Int)
 | 0, _, _, _ => none
 | k + 1, x0, x7, x8 => if x8 < x7 then (if 0 ≤ x8 then (if x8 < (x0.length : Int) then ((regis_Bound_1.f (rd x0 x8)).bind fun t147 => (if t147 = true then (some x8) else (slices_IndexFunc_uint8_uint8_regis_Bound_1.l0 k x0 x7 (wrap64 (x8 + 1))))) else (none)) else (none)) else (some (-1))
def slices_IndexFunc_uint8_uint8_regis_Bound_1.f (k : Nat) (l0 : List Int)  : Option (Int) := slices_IndexFunc_uint8_uint8_regis_Bound_1.l0 k l0 (l0.length : Int) 0
theorem slices_IndexFunc_uint8_uint8_regis_Bound_1.mono_l : ∀ k, (∀ y0 y1 y2, LeO (slices_IndexFunc_uint8_uint8_regis_Bound_1.l0 k y0 y1 y2) (slices_IndexFunc_uint8_uint8_regis_Bound_1.l0 (k + 1) y0 y1 y2))
 | 0 => fun _ _ _ r h => by simp [slices_IndexFunc_uint8_uint8_regis_Bound_1.l0] at h
 | k + 1 => by
  have ih0:=slices_IndexFunc_uint8_uint8_regis_Bound_1.mono_l k
  ·intro y0 y1 y2
   unfold slices_IndexFunc_uint8_uint8_regis_Bound_1.l0
   repeat' first
   | (with_reducible exact ih0 _ _ _)
   | (with_reducible exact LeO.refl _)
   | (with_reducible exact LeO.none _)
   | (with_reducible refine LeO.ite ?_ ?_)
   | (with_reducible refine LeO.bind ?_ (fun _ => ?_))
   | exact ih0 _ _ _
   | exact LeO.none _
   | refine LeO.ite ?_ ?_
   | refine LeO.bind ?_ (fun _ => ?_)
theorem slices_IndexFunc_uint8_uint8_regis_Bound_1.mono : ∀ a0 k, LeO (slices_IndexFunc_uint8_uint8_regis_Bound_1.f k a0) (slices_IndexFunc_uint8_uint8_regis_Bound_1.f (k + 1) a0) := by
 intro a0 k;have ih0:=slices_IndexFunc_uint8_uint8_regis_Bound_1.mono_l k
 unfold slices_IndexFunc_uint8_uint8_regis_Bound_1.f
 repeat' first
   | (with_reducible exact ih0 _ _ _)
   | (with_reducible exact LeO.refl _)
   | (with_reducible exact LeO.none _)
   | (with_reducible refine LeO.ite ?_ ?_)
   | (with_reducible refine LeO.bind ?_ (fun _ => ?_))
   | exact ih0 _ _ _
   | exact LeO.none _
   | refine LeO.ite ?_ ?_
   | refine LeO.bind ?_ (fun _ => ?_)
set_option maxHeartbeats 8000000 in
set_option maxRecDepth 100000 in
theorem slices_IndexFunc_uint8_uint8_regis_Bound_1.calls (k : Nat) (A0 : Option Addr) (c0 : Nat) (l0 : List Int)  (r : Int) (w : World) (hr0 : Kd.C (Kd.int .u8) w A0 l0.length l0) (hc0 : l0.length ≤ c0) (h : slices_IndexFunc_uint8_uint8_regis_Bound_1.f k l0 = some r) :
  Calls Tryd.prog 84 #[.slice A0 l0.length c0, .func (.func 64) #[] #[]] w fun e w' => e = .returned (.int .i64 r) ∧ Drawn0 w w':=by
 have HR0:=am_ hr0;have HC0:=am_ hc0;clear hr0 hc0;have H : (slices_IndexFunc_uint8_uint8_regis_Bound_1.l0 k l0 (l0.length : Int) 0) = some r:=h;clear h;have H':=am_ H;clear H;go_enter Tryd.func84, Tryd.ntmps84
 go_wp2
 go_loopg [8] k (fun kq v8 w' => ∃ (x8_1 : Int), v8 = .int .i64 x8_1 ∧ Aside0 (slices_IndexFunc_uint8_uint8_regis_Bound_1.l0 kq l0 (l0.length : Int) x8_1 = some r) ∧ Aside0 (kq ≤ k) ∧ Drawn0 w w')
 case atStart => exact ⟨(0), (by first | rfl | (simp;done) | (simp [*];done)), H', ⟨Nat.le_refl _⟩, by repeat (first | exact Drawn0.refl _ | apply Drawn0.step)⟩
 case round =>
  clear H';(try clear p2);obtain ⟨x8_1, rfl, HA, HK1, ⟨m1, rfl⟩⟩:=hrel
  cases gk with
  | zero => exact absurd HA.out (by simp [slices_IndexFunc_uint8_uint8_regis_Bound_1.l0])
  | succ k1 =>
   have H:=HA.out;clear HA;simp only [slices_IndexFunc_uint8_uint8_regis_Bound_1.l0] at H
   by_cases c3 : x8_1 < (l0.length : Int)
   ·rw [if_pos c3] at H;have c3b0 : decide (x8_1 < (l0.length : Int)) = true:=decide_eq_true c3;clear c3
    by_cases c4 : 0 ≤ x8_1
    ·rw [if_pos c4] at H;have c4b0 : decide (0 ≤ x8_1) = true:=decide_eq_true c4;clear c4
     by_cases c5 : x8_1 < (l0.length : Int)
     ·rw [if_pos c5] at H;have c5b0 : decide (x8_1 < (l0.length : Int)) = true:=decide_eq_true c5;clear c5;replace H:=Option.bind_eq_some_iff.mp H;obtain ⟨t147, A60, H⟩:=H;replace H : (if t147 = true then (some x8_1) else (slices_IndexFunc_uint8_uint8_regis_Bound_1.l0 k1 l0 (l0.length : Int) (wrap64 (x8_1 + 1)))) = some r:=H;have A6:=am_ A60;clear A60
      by_cases c7 : t147 = true
      ·subst c7;have H1 : (some x8_1) = some r:=by rw [if_pos rfl] at H;exact H
       clear H;have H:=H1;clear H1;obtain rfl:=Option.some.inj H;have p146 : 0 ≤ (x8_1 : Int):=of_decide_eq_true (by first | (with_reducible assumption) | assumption);have q146 : x8_1 < (l0.length : Int):=of_decide_eq_true (by first | (with_reducible assumption) | assumption);obtain ⟨ad146, e146, hx146_0⟩:=Kd.at_int HR0.out x8_1 p146 q146
       cases e146
       replace p146:=eq_true p146;replace q146:=eq_true q146
       go_wp2_with (first | (go_at_call 64;(with_reducible refine (regis_Bound_1.calls (rd l0 x8_1) true _ A6.out).mono ?_);rintro e w' ⟨rfl, ⟨nd, rfl⟩⟩))
       go_ret
       exact ⟨by first | rfl | (simp;done) | (simp [*];done), by repeat (first | exact Drawn0.refl _ | apply Drawn0.step)⟩
      ·replace c7:=Bool.eq_false_iff.mpr c7;subst c7;have H1 : (slices_IndexFunc_uint8_uint8_regis_Bound_1.l0 k1 l0 (l0.length : Int) (wrap64 (x8_1 + 1))) = some r:=by rw [if_neg (show ¬ (false = true) by decide)] at H;exact H
       clear H;have H:=H1;clear H1;have H':=am_ H;clear H;have p146 : 0 ≤ (x8_1 : Int):=of_decide_eq_true (by first | (with_reducible assumption) | assumption);have q146 : x8_1 < (l0.length : Int):=of_decide_eq_true (by first | (with_reducible assumption) | assumption);obtain ⟨ad146, e146, hx146_0⟩:=Kd.at_int HR0.out x8_1 p146 q146
       cases e146
       replace p146:=eq_true p146;replace q146:=eq_true q146
       go_wp2_with (first | (go_at_call 64;(with_reducible refine (regis_Bound_1.calls (rd l0 x8_1) false _ A6.out).mono ?_);rintro e w' ⟨rfl, ⟨nd, rfl⟩⟩))
       go_roundg k1
       case measure => have:=HK1.out;omega
       case rel => exact ⟨(wrap64 (x8_1 + 1)), (by first | rfl | (simp;done) | (simp [*];done)), H', ⟨by have:=HK1.out;omega⟩, by repeat (first | exact Drawn0.refl _ | apply Drawn0.step)⟩
     ·rw [if_neg c5] at H;exact absurd H (by simp)
    ·rw [if_neg c4] at H;exact absurd H (by simp)
   ·rw [if_neg c3] at H;have c3b0 : decide (x8_1 < (l0.length : Int)) = false:=decide_eq_false c3;clear c3;obtain rfl:=Option.some.inj H
    go_wp2
    go_ret
    exact ⟨by first | rfl | (simp;done) | (simp [*];done), by repeat (first | exact Drawn0.refl _ | apply Drawn0.step)⟩

/-! ### slices_ContainsFunc_uint8_uint8_regis_Bound_1: function 1000002 -/
def slices_ContainsFunc_uint8_uint8_regis_Bound_1.f (k : Nat) (l0 : List Int)  : Option (Bool) := (slices_IndexFunc_uint8_uint8_regis_Bound_1.f k l0).bind fun t148 => (some (decide (t148 ≥ 0)))
theorem slices_ContainsFunc_uint8_uint8_regis_Bound_1.mono : ∀ a0 k, LeO (slices_ContainsFunc_uint8_uint8_regis_Bound_1.f k a0) (slices_ContainsFunc_uint8_uint8_regis_Bound_1.f (k + 1) a0) := by
 intro a0 k
 unfold slices_ContainsFunc_uint8_uint8_regis_Bound_1.f
 repeat' first
   | (with_reducible exact slices_IndexFunc_uint8_uint8_regis_Bound_1.mono _ _)
   | (with_reducible exact LeO.refl _)
   | (with_reducible exact LeO.none _)
   | (with_reducible refine LeO.ite ?_ ?_)
   | (with_reducible refine LeO.bind ?_ (fun _ => ?_))
   | exact slices_IndexFunc_uint8_uint8_regis_Bound_1.mono _ _
   | exact LeO.none _
   | refine LeO.ite ?_ ?_
   | refine LeO.bind ?_ (fun _ => ?_)
set_option maxHeartbeats 8000000 in
set_option maxRecDepth 100000 in
theorem slices_ContainsFunc_uint8_uint8_regis_Bound_1.calls (k : Nat) (A0 : Option Addr) (c0 : Nat) (l0 : List Int)  (r : Bool) (w : World) (hr0 : Kd.C (Kd.int .u8) w A0 l0.length l0) (hc0 : l0.length ≤ c0) (h : slices_ContainsFunc_uint8_uint8_regis_Bound_1.f k l0 = some r) :
  Calls Tryd.prog 63 #[.slice A0 l0.length c0, .func (.func 64) #[] #[]] w fun e w' => e = .returned (.bool r) ∧ Drawn0 w w':=by
 have HR0:=am_ hr0;have HC0:=am_ hc0;clear hr0 hc0;have H : ((slices_IndexFunc_uint8_uint8_regis_Bound_1.f k l0).bind fun t148 => (some (decide (t148 ≥ 0)))) = some r:=h;clear h;replace H:=Option.bind_eq_some_iff.mp H;obtain ⟨t148, A30, H⟩:=H;replace H : (some (decide (t148 ≥ 0))) = some r:=H;have A3:=am_ A30;clear A30;obtain rfl:=Option.some.inj H;go_enter Tryd.func63, Tryd.ntmps63
 go_wp2_with (first | (go_at_call 84;(with_reducible refine (slices_IndexFunc_uint8_uint8_regis_Bound_1.calls k _ _ l0  t148 _ ?side1 ?side2 A3.out).mono ?_);(case side1 => repeat (first | exact HR0.out | (with_reducible refine Kd.C_alloc ?_ _) | (with_reducible refine Kd.C_drewN ?_ _) | (with_reducible refine Kd.C_drew ?_)));(case side2 => exact HC0.out);rintro e w' ⟨rfl, ⟨nd, rfl⟩⟩))
 go_ret
 exact ⟨by first | rfl | (simp;done) | (simp [*];done), by repeat (first | exact Drawn0.refl _ | apply Drawn0.step)⟩

end Go.Proofs.YtfcidgnbocijdaaDoor.PCertMakes
