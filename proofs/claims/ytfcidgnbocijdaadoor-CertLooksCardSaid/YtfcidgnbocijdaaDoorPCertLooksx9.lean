-- Written by a program of this session (the kit's print, turned: wip/px).
import Derived.Test.YtfcidgnbocijdaaDoorPCertLooksx0
import Derived.Test.YtfcidgnbocijdaaDoorPCertLooksx8
import Derived.Test.YtfcidgnbocijdaaDoorPCertMakesx0
import Derived.Test.YtfcidgnbocijdaaDoorPCertMakesx1
import Derived.Test.YtfcidgnbocijdaaDoorPCertMakesx2
import Derived.Test.YtfcidgnbocijdaaDoorPCertMakesx3
import Derived.Test.YtfcidgnbocijdaaDoorPCertMakesx4
import Derived.Test.YtfcidgnbocijdaaDoorPCertMakesx5
import Derived.Test.YtfcidgnbocijdaaDoorPCertMakesx6
import Derived.Test.YtfcidgnbocijdaaDoorPCertMakesx7
import Derived.Test.YtfcidgnbocijdaaDoorPCertMakesx8
import Derived.Test.YtfcidgnbocijdaaDoorPCertMakesx9
import Derived.Test.YtfcidgnbocijdaaDoorPCertMakesx12
import Derived.Test.YtfcidgnbocijdaaDoorPCertMakesx13
import Derived.Test.YtfcidgnbocijdaaDoorPCertLooksx1
import Derived.Test.YtfcidgnbocijdaaDoorSq2
namespace Go.Proofs.YtfcidgnbocijdaaDoor.PCertLooks
open Go.Proofs.YtfcidgnbocijdaaDoor.PCertMakes
open Go.Proofs.YtfcidgnbocijdaaDoor.Sq
open Go.RowKit Go.Proofs.YtfcidgnbocijdaaDoorW.PrintWords Go.Proofs.YtfcidgnbocijdaaDoorW.PrintLast Go.Proofs.YtfcidgnbocijdaaDoorW.PrintMore
attribute [local go_sem] max2_int min2_int max_two min_two max_three min_three max_four min_four   -- for this text's walks alone
set_option linter.unusedVariables false
set_option linter.unusedSimpArgs false

/-! ### diapasonlaw27_example: function 34 -/
def diapasonlaw27_example.f  : Option (List Int × (List (List Int)) × List Int × Int) := some ((([10, 4] : List Int)), (([(([6, 0] : List Int)), (([5, 4] : List Int)), (([3, 1] : List Int))] : List (List Int))), (([2, 3, 1] : List Int)), 5)
set_option maxHeartbeats 8000000 in
set_option maxRecDepth 100000 in
theorem diapasonlaw27_example.calls  (r1 : List Int) (r2 : List (List Int)) (r3 : List Int) (r4 : Int) (w : World) (h : diapasonlaw27_example.f  = some (r1, r2, r3, r4)) :
  Calls Tryd.prog 34 #[] w fun e w' => ∃ v0_ v1_ v2_ : Value, e = .returned (.agg #[v0_, v1_, v2_, .int .i64 r4]) ∧ Kd.R (Kd.int .i64) 3 w' w.heap.size (fun k_ => (w.heap.size ≤ k_) ∧ some k_ ≠ (v2_ : Value).ownBlock) v0_ r1 ∧ Kd.N (Kd.slice 3 (Kd.int .i64)) 25 w' w.heap.size (fun k_ => (w.heap.size ≤ k_) ∧ some k_ ≠ (v0_ : Value).ownBlock ∧ some k_ ≠ (v2_ : Value).ownBlock) v1_ r2 ∧ Kd.R (Kd.int .i64) 3 w' w.heap.size (fun k_ => (w.heap.size ≤ k_) ∧ some k_ ≠ (v0_ : Value).ownBlock) v2_ r3 ∧ Below w.heap.size w w':=by
 have hu28:=Tryd.underlying28;have HB:=am_ (Below.refl w.heap.size w);have H : (some ((([10, 4] : List Int)), (([(([6, 0] : List Int)), (([5, 4] : List Int)), (([3, 1] : List Int))] : List (List Int))), (([2, 3, 1] : List Int)), 5)) = some (r1, r2, r3, r4):=h;clear h;obtain ⟨y166, hy166⟩ : ∃ y_ : List Int, y_ = (([10, 4] : List Int)):=⟨_, rfl⟩
 replace H : (some (y166, (([(([6, 0] : List Int)), (([5, 4] : List Int)), (([3, 1] : List Int))] : List (List Int))), (([2, 3, 1] : List Int)), 5)) = some (r1, r2, r3, r4):=by first | (rw [hy166];with_reducible exact H) | (have H2_:=(Option.bind_some _ _).symm.trans H;rw [hy166];with_reducible exact H2_) | (have H2_:=(Option.bind_some _ _).symm.trans H;with_reducible exact H2_) | with_reducible exact H | (rw [hy166];exact H) | exact H
 have Ny166:=am_ hy166;clear hy166;obtain ⟨y169, hy169⟩ : ∃ y_ : List Int, y_ = (([6, 0] : List Int)):=⟨_, rfl⟩
 replace H : (some (y166, (([y169, (([5, 4] : List Int)), (([3, 1] : List Int))] : List (List Int))), (([2, 3, 1] : List Int)), 5)) = some (r1, r2, r3, r4):=by first | (rw [hy169];with_reducible exact H) | (have H2_:=(Option.bind_some _ _).symm.trans H;rw [hy169];with_reducible exact H2_) | (have H2_:=(Option.bind_some _ _).symm.trans H;with_reducible exact H2_) | with_reducible exact H | (rw [hy169];exact H) | exact H
 have Ny169:=am_ hy169;clear hy169;obtain ⟨y172, hy172⟩ : ∃ y_ : List Int, y_ = (([5, 4] : List Int)):=⟨_, rfl⟩
 replace H : (some (y166, (([y169, y172, (([3, 1] : List Int))] : List (List Int))), (([2, 3, 1] : List Int)), 5)) = some (r1, r2, r3, r4):=by first | (rw [hy172];with_reducible exact H) | (have H2_:=(Option.bind_some _ _).symm.trans H;rw [hy172];with_reducible exact H2_) | (have H2_:=(Option.bind_some _ _).symm.trans H;with_reducible exact H2_) | with_reducible exact H | (rw [hy172];exact H) | exact H
 have Ny172:=am_ hy172;clear hy172;obtain ⟨y175, hy175⟩ : ∃ y_ : List Int, y_ = (([3, 1] : List Int)):=⟨_, rfl⟩
 replace H : (some (y166, (([y169, y172, y175] : List (List Int))), (([2, 3, 1] : List Int)), 5)) = some (r1, r2, r3, r4):=by first | (rw [hy175];with_reducible exact H) | (have H2_:=(Option.bind_some _ _).symm.trans H;rw [hy175];with_reducible exact H2_) | (have H2_:=(Option.bind_some _ _).symm.trans H;with_reducible exact H2_) | with_reducible exact H | (rw [hy175];exact H) | exact H
 have Ny175:=am_ hy175;clear hy175;obtain ⟨y178, hy178⟩ : ∃ y_ : List (List Int), y_ = (([y169, y172, y175] : List (List Int))):=⟨_, rfl⟩
 replace H : (some (y166, y178, (([2, 3, 1] : List Int)), 5)) = some (r1, r2, r3, r4):=by first | (rw [hy178];with_reducible exact H) | (have H2_:=(Option.bind_some _ _).symm.trans H;rw [hy178];with_reducible exact H2_) | (have H2_:=(Option.bind_some _ _).symm.trans H;with_reducible exact H2_) | with_reducible exact H | (rw [hy178];exact H) | exact H
 have Ny178:=am_ hy178;clear hy178;obtain ⟨y181, hy181⟩ : ∃ y_ : List Int, y_ = (([2, 3, 1] : List Int)):=⟨_, rfl⟩
 replace H : (some (y166, y178, y181, 5)) = some (r1, r2, r3, r4):=by first | (rw [hy181];with_reducible exact H) | (have H2_:=(Option.bind_some _ _).symm.trans H;rw [hy181];with_reducible exact H2_) | (have H2_:=(Option.bind_some _ _).symm.trans H;with_reducible exact H2_) | with_reducible exact H | (rw [hy181];exact H) | exact H
 have Ny181:=am_ hy181;clear hy181;simp only [Option.some.injEq, Prod.mk.injEq] at H;obtain ⟨rfl, rfl, rfl, rfl⟩:=H;go_enter Tryd.func34, Tryd.ntmps34
 go_wp2_with (first | ((with_reducible refine gate_dst (N:=0) rfl ?_);refine box_event ?hg (N:=0) ?hd (cs:=#[.slice none 0 0, .slice none 0 0, .slice none 0 0, .int .i64 0]) (t:=28) ?hr ?_;(case hd => rfl);(case hg => rfl);(case hr => first | (go_simp;done) | (go_simp;rfl));intro gb165 hg w1 hbox hb;have BK165:=am_ hbox;have GW165:=gz_ hg HB;have GE165:=gz_ hg HB;replace HB:=bs_ HB hb;clear hb hbox hg) | ((with_reducible refine gate_dst (N:=1) rfl ?_);refine Kd.R_lit (Kd.int .i64) _ 3 ?hg (N:=1) ?hd (xs:=([10, 4] : List Int)) (inner:=[.int .i64 10, .int .i64 4]) (ok:=fun _ => True) (okp:=fun _ => True) ?hr ?hp (fun _ hk => hk) trivial (Below.refl _ _) (Nat.le_refl _) (by simp) ?_;(case hd => rfl);(case hg => rfl);(case hr => first | (go_simp;done) | (go_simp;rfl));(case hp => exact (Reps.one (show Kd.M (Kd.int .i64) _ _ _ 10 [.int .i64 10] from rfl) (Reps.one (show Kd.M (Kd.int .i64) _ _ _ 4 [.int .i64 4] from rfl) (Reps.none _ _))));intro v167 w2 ho3 hb hg_ hnew_;clear hg_ hnew_;(first | rw [← Ny166.out] at ho3 | (simp only [Int.reduceToNat] at ho3;rw [← Ny166.out] at ho3));have HO168:=am_ (Kd.R_lower (Kd.R_newM (M:=fun k_ => (w.heap.size ≤ k_)) ho3 (bz_ HB) (fun k_ h_ => h_)) (bz_ HB));replace BK165:=bb_ BK165 hb;replace HB:=am_ (below_step (by repeat (first | (with_reducible first | exact HB.out | apply b1_|apply b2_|apply b3_ | refine below_set ?_ GE165.out) | exact HB.out)) hb);clear hb ho3) | ((with_reducible refine gate_dst (N:=2) rfl ?_);refine Kd.R_lit (Kd.int .i64) _ 3 ?hg (N:=2) ?hd (xs:=([6, 0] : List Int)) (inner:=[.int .i64 6, .int .i64 0]) (ok:=fun _ => True) (okp:=fun _ => True) ?hr ?hp (fun _ hk => hk) trivial (Below.refl _ _) (Nat.le_refl _) (by simp) ?_;(case hd => rfl);(case hg => rfl);(case hr => first | (go_simp;done) | (go_simp;rfl));(case hp => exact (Reps.one (show Kd.M (Kd.int .i64) _ _ _ 6 [.int .i64 6] from rfl) (Reps.one (show Kd.M (Kd.int .i64) _ _ _ 0 [.int .i64 0] from rfl) (Reps.none _ _))));intro v170 w4 ho5 hb hg_ hnew_;clear hg_ hnew_;(first | rw [← Ny169.out] at ho5 | (simp only [Int.reduceToNat] at ho5;rw [← Ny169.out] at ho5));have HO171:=am_ (Kd.R_lower (Kd.R_new' (Kd.R_newM (M:=fun k_ => (w.heap.size ≤ k_)) ho5 (bz_ HB) (fun k_ h_ => h_)) (Kd.R_lt (ru_ HO168))) (bz_ HB));replace HO168:=am_ (Kd.R_elder' (ru_ HO168) (Kd.R_base ho5) hb);replace BK165:=bb_ BK165 hb;replace HB:=am_ (below_step (by repeat (first | (with_reducible first | exact HB.out | apply b1_|apply b2_|apply b3_ | refine below_set ?_ GE165.out) | exact HB.out)) hb);clear hb ho5) | ((with_reducible refine gate_dst (N:=3) rfl ?_);refine Kd.R_lit (Kd.int .i64) _ 3 ?hg (N:=3) ?hd (xs:=([5, 4] : List Int)) (inner:=[.int .i64 5, .int .i64 4]) (ok:=fun _ => True) (okp:=fun _ => True) ?hr ?hp (fun _ hk => hk) trivial (Below.refl _ _) (Nat.le_refl _) (by simp) ?_;(case hd => rfl);(case hg => rfl);(case hr => first | (go_simp;done) | (go_simp;rfl));(case hp => exact (Reps.one (show Kd.M (Kd.int .i64) _ _ _ 5 [.int .i64 5] from rfl) (Reps.one (show Kd.M (Kd.int .i64) _ _ _ 4 [.int .i64 4] from rfl) (Reps.none _ _))));intro v173 w6 ho7 hb hg_ hnew_;clear hg_ hnew_;(first | rw [← Ny172.out] at ho7 | (simp only [Int.reduceToNat] at ho7;rw [← Ny172.out] at ho7));have HO174:=am_ (Kd.R_lower (Kd.R_new' (Kd.R_new' (Kd.R_newM (M:=fun k_ => (w.heap.size ≤ k_)) ho7 (bz_ HB) (fun k_ h_ => h_)) (Kd.R_lt (ru_ HO168))) (Kd.R_lt (ru_ HO171))) (bz_ HB));replace HO168:=am_ (Kd.R_elder' (ru_ HO168) (Kd.R_base ho7) hb);replace HO171:=am_ (Kd.R_elder' (ru_ HO171) (Kd.R_base ho7) hb);replace BK165:=bb_ BK165 hb;replace HB:=am_ (below_step (by repeat (first | (with_reducible first | exact HB.out | apply b1_|apply b2_|apply b3_ | refine below_set ?_ GE165.out) | exact HB.out)) hb);clear hb ho7) | ((with_reducible refine gate_dst (N:=4) rfl ?_);refine Kd.R_lit (Kd.int .i64) _ 3 ?hg (N:=4) ?hd (xs:=([3, 1] : List Int)) (inner:=[.int .i64 3, .int .i64 1]) (ok:=fun _ => True) (okp:=fun _ => True) ?hr ?hp (fun _ hk => hk) trivial (Below.refl _ _) (Nat.le_refl _) (by simp) ?_;(case hd => rfl);(case hg => rfl);(case hr => first | (go_simp;done) | (go_simp;rfl));(case hp => exact (Reps.one (show Kd.M (Kd.int .i64) _ _ _ 3 [.int .i64 3] from rfl) (Reps.one (show Kd.M (Kd.int .i64) _ _ _ 1 [.int .i64 1] from rfl) (Reps.none _ _))));intro v176 w8 ho9 hb hg_ hnew_;clear hg_ hnew_;(first | rw [← Ny175.out] at ho9 | (simp only [Int.reduceToNat] at ho9;rw [← Ny175.out] at ho9));have HO177:=am_ (Kd.R_lower (Kd.R_new' (Kd.R_new' (Kd.R_new' (Kd.R_newM (M:=fun k_ => (w.heap.size ≤ k_)) ho9 (bz_ HB) (fun k_ h_ => h_)) (Kd.R_lt (ru_ HO168))) (Kd.R_lt (ru_ HO171))) (Kd.R_lt (ru_ HO174))) (bz_ HB));replace HO168:=am_ (Kd.R_elder' (ru_ HO168) (Kd.R_base ho9) hb);replace HO171:=am_ (Kd.R_elder' (ru_ HO171) (Kd.R_base ho9) hb);replace HO174:=am_ (Kd.R_elder' (ru_ HO174) (Kd.R_base ho9) hb);replace BK165:=bb_ BK165 hb;replace HB:=am_ (below_step (by repeat (first | (with_reducible first | exact HB.out | apply b1_|apply b2_|apply b3_ | refine below_set ?_ GE165.out) | exact HB.out)) hb);clear hb ho9;obtain ⟨Ao10, co10, eo10⟩:=Kd.R_slice HO171.out;subst eo10;obtain ⟨Ao11, co11, eo11⟩:=Kd.R_slice HO174.out;subst eo11;obtain ⟨Ao12, co12, eo12⟩:=Kd.R_slice HO177.out;subst eo12) | ((with_reducible refine gate_dst (N:=5) rfl ?_);refine Kd.N_lit (Kd.slice 3 (Kd.int .i64)) _ 25 ?hg (N':=5) ?hd (xs:=([y169, y172, y175] : List (List Int))) (inner:=[.slice Ao10 y169.length co10, .slice Ao11 y172.length co11, .slice Ao12 y175.length co12]) (ok:=(fun k_ => (w.heap.size ≤ k_) ∧ some k_ ≠ (v167 : Value).ownBlock ∧ k_ ≠ gb165)) (okp:=(fun k_ => (w.heap.size ≤ k_) ∧ some k_ ≠ (v167 : Value).ownBlock ∧ k_ ≠ gb165)) ?hr ?hp (fun _ hk => hk) ((show ∀ k_, w8.heap.size ≤ k_ → (fun k_ => (w.heap.size ≤ k_) ∧ some k_ ≠ (v167 : Value).ownBlock ∧ k_ ≠ gb165) k_ from fun k_ hk => ⟨(Nat.le_trans (bz_ HB) hk), Kd.fresh' (Kd.R_lt (ru_ HO168)) k_ hk, Kd.freshB (g:=gb165) (o:=.cells #[.slice none 0 0, .slice none 0 0, .slice none 0 0, .int .i64 0] 28 (0, 0)) (bu_ BK165) k_ hk⟩) _ (Nat.le_refl _)) (Below.refl _ _) (Nat.le_refl _) (by simp) ?_;(case hd => rfl);(case hg => rfl);(case hr => first | (go_simp;done) | (go_simp;rfl));(case hp => exact (Reps.one (show Kd.FK (Kd.slice 3 (Kd.int .i64)) _ _ y169 [.slice Ao10 y169.length co10] from (Kd.FK_slice_mk (Kd.R_reads' (Kd.R_mono (ok':=(fun k_ => (w.heap.size ≤ k_) ∧ some k_ ≠ (v167 : Value).ownBlock ∧ k_ ≠ gb165)) (Kd.R_types (HO171.out) BK165.out (by decide)) (fun k_ hk => ⟨hk.1.1.1.1.1, ⟨hk.1.1.1.2, hk.2⟩⟩))).2.1 (Kd.R_F (Kd.R_mono (ok':=(fun k_ => (w.heap.size ≤ k_) ∧ some k_ ≠ (v167 : Value).ownBlock ∧ k_ ≠ gb165)) (Kd.R_types (HO171.out) BK165.out (by decide)) (fun k_ hk => ⟨hk.1.1.1.1.1, ⟨hk.1.1.1.2, hk.2⟩⟩))))) (Reps.one (show Kd.FK (Kd.slice 3 (Kd.int .i64)) _ _ y172 [.slice Ao11 y172.length co11] from (Kd.FK_slice_mk (Kd.R_reads' (Kd.R_mono (ok':=(fun k_ => (w.heap.size ≤ k_) ∧ some k_ ≠ (v167 : Value).ownBlock ∧ k_ ≠ gb165)) (Kd.R_types (HO174.out) BK165.out (by decide)) (fun k_ hk => ⟨hk.1.1.1.1.1, ⟨hk.1.1.1.2, hk.2⟩⟩))).2.1 (Kd.R_F (Kd.R_mono (ok':=(fun k_ => (w.heap.size ≤ k_) ∧ some k_ ≠ (v167 : Value).ownBlock ∧ k_ ≠ gb165)) (Kd.R_types (HO174.out) BK165.out (by decide)) (fun k_ hk => ⟨hk.1.1.1.1.1, ⟨hk.1.1.1.2, hk.2⟩⟩))))) (Reps.one (show Kd.FK (Kd.slice 3 (Kd.int .i64)) _ _ y175 [.slice Ao12 y175.length co12] from (Kd.FK_slice_mk (Kd.R_reads' (Kd.R_mono (ok':=(fun k_ => (w.heap.size ≤ k_) ∧ some k_ ≠ (v167 : Value).ownBlock ∧ k_ ≠ gb165)) (Kd.R_types (HO177.out) BK165.out (by decide)) (fun k_ hk => ⟨hk.1.1.1.1.1, ⟨hk.1.1.1.2, hk.2⟩⟩))).2.1 (Kd.R_F (Kd.R_mono (ok':=(fun k_ => (w.heap.size ≤ k_) ∧ some k_ ≠ (v167 : Value).ownBlock ∧ k_ ≠ gb165)) (Kd.R_types (HO177.out) BK165.out (by decide)) (fun k_ hk => ⟨hk.1.1.1.1.1, ⟨hk.1.1.1.2, hk.2⟩⟩))))) (Reps.none _ _)))));intro v179 w13 ho14 hb hg_ hnew_;clear hg_ hnew_;(first | rw [← Ny178.out] at ho14 | (simp only [Int.reduceToNat] at ho14;rw [← Ny178.out] at ho14));replace HO168:=rb_ HO168 hb;have HO180:=am_ (Kd.N_lower ho14 (bz_ HB));replace BK165:=bb_ BK165 hb;replace HB:=am_ (below_step (by repeat (first | (with_reducible first | exact HB.out | apply b1_|apply b2_|apply b3_ | refine below_set ?_ GE165.out) | exact HB.out)) hb);clear HO171 HO174 HO177;clear hb ho14) | ((with_reducible refine gate_dst (N:=6) rfl ?_);refine Kd.R_lit (Kd.int .i64) _ 3 ?hg (N:=6) ?hd (xs:=([2, 3, 1] : List Int)) (inner:=[.int .i64 2, .int .i64 3, .int .i64 1]) (ok:=fun _ => True) (okp:=fun _ => True) ?hr ?hp (fun _ hk => hk) trivial (Below.refl _ _) (Nat.le_refl _) (by simp) ?_;(case hd => rfl);(case hg => rfl);(case hr => first | (go_simp;done) | (go_simp;rfl));(case hp => exact (Reps.one (show Kd.M (Kd.int .i64) _ _ _ 2 [.int .i64 2] from rfl) (Reps.one (show Kd.M (Kd.int .i64) _ _ _ 3 [.int .i64 3] from rfl) (Reps.one (show Kd.M (Kd.int .i64) _ _ _ 1 [.int .i64 1] from rfl) (Reps.none _ _)))));intro v182 w15 ho16 hb hg_ hnew_;clear hg_ hnew_;(first | rw [← Ny181.out] at ho16 | (simp only [Int.reduceToNat] at ho16;rw [← Ny181.out] at ho16));replace HO180:=am_ (Kd.N_elder' (nu_ HO180) (Kd.R_base ho16) hb);have HO183:=am_ (Kd.R_lower (Kd.R_new' (Kd.R_newM (M:=fun k_ => (w.heap.size ≤ k_)) ho16 (bz_ HB) (fun k_ h_ => h_)) (Kd.R_lt (ru_ HO168))) (bz_ HB));replace HO168:=am_ (Kd.R_elder' (ru_ HO168) (Kd.R_base ho16) hb);replace BK165:=bb_ BK165 hb;replace HB:=am_ (below_step (by repeat (first | (with_reducible first | exact HB.out | apply b1_|apply b2_|apply b3_ | refine below_set ?_ GE165.out) | exact HB.out)) hb);clear hb ho16;obtain ⟨Ao17, co17, eo17⟩:=Kd.R_slice HO183.out;subst eo17;obtain ⟨Ao18, co18, eo18⟩:=Kd.N_slice HO180.out;subst eo18;obtain ⟨Ao19, co19, eo19⟩:=Kd.R_slice HO168.out;subst eo19;obtain ⟨hcz20_0, hcz20_1, hcz20_2, hcz20_3⟩:=c4_ BK165.out;obtain ⟨hfz20_0, hfz20_1, hfz20_2, hfz20_3⟩:=z4_ BK165.out))
 refine bodyPost_ret (results_cell_row rfl _ _ gb165 28 #[.slice Ao19 y166.length co19, .slice Ao18 y178.length co18, .slice Ao17 y181.length co17, .int .i64 5] (0, 0) _ rfl (by (with_reducible repeat first|apply q1_|apply q2_|apply q3_);refine blk_put (cs:=#[.slice Ao19 y166.length co19, .slice Ao18 y178.length co18, .slice Ao17 y181.length co17, .int .i64 0]) ?_ 3 _ rfl;(with_reducible repeat first|apply q1_|apply q2_|apply q3_);refine blk_put (cs:=#[.slice Ao19 y166.length co19, .slice Ao18 y178.length co18, .slice none 0 0, .int .i64 0]) ?_ 2 _ rfl;(with_reducible repeat first|apply q1_|apply q2_|apply q3_);refine blk_put (cs:=#[.slice Ao19 y166.length co19, .slice none 0 0, .slice none 0 0, .int .i64 0]) ?_ 1 _ rfl;(with_reducible repeat first|apply q1_|apply q2_|apply q3_);refine blk_put (cs:=#[.slice none 0 0, .slice none 0 0, .slice none 0 0, .int .i64 0]) ?_ 0 _ rfl;(with_reducible repeat first|apply q1_|apply q2_|apply q3_);exact BK165.out) Tryd.underlying28 rfl (by kernel_rfl)) rfl ?_;exact ⟨_, _, _, by first | rfl | (simp [errW_none, errW_some] <;> rfl) | (simp [*, errW_none, errW_some] <;> rfl), by (with_reducible repeat (first | apply Kd.R_alloc | apply Kd.R_drewN | apply Kd.R_drew));exact Kd.R_mono (Kd.R_far (p:=⟨gb165, 3, none⟩) (Kd.R_far (p:=⟨gb165, 2, none⟩) (Kd.R_far (p:=⟨gb165, 1, none⟩) (Kd.R_far (p:=⟨gb165, 0, none⟩) (Kd.R_types HO168.out BK165.out (by decide)) (fun _ hk => hk.2) (.slice Ao19 y166.length co19)) (fun _ hk => hk.2) (.slice Ao18 y178.length co18)) (fun _ hk => hk.2) (.slice Ao17 y181.length co17)) (fun _ hk => hk.2) (.int .i64 5)) (fun _ hk => ⟨hk.1.1.1.1.1.1, hk.1.2⟩), by (with_reducible repeat (first | apply Kd.N_alloc | apply Kd.N_drewN | apply Kd.N_drew));exact Kd.N_mono (Kd.N_far (p:=⟨gb165, 3, none⟩) (Kd.N_far (p:=⟨gb165, 2, none⟩) (Kd.N_far (p:=⟨gb165, 1, none⟩) (Kd.N_far (p:=⟨gb165, 0, none⟩) (Kd.N_mono HO180.out (fun k_ hk => (⟨hk, hk.1.2.2⟩ : _ ∧ k_ ≠ gb165))) (fun _ hk => hk.2) (.slice Ao19 y166.length co19)) (fun _ hk => hk.2) (.slice Ao18 y178.length co18)) (fun _ hk => hk.2) (.slice Ao17 y181.length co17)) (fun _ hk => hk.2) (.int .i64 5)) (fun _ hk => ⟨hk.1.1.1, ⟨hk.1.1.2.1, hk.1.2⟩⟩), by (with_reducible repeat (first | apply Kd.R_alloc | apply Kd.R_drewN | apply Kd.R_drew));exact Kd.R_mono (Kd.R_far (p:=⟨gb165, 3, none⟩) (Kd.R_far (p:=⟨gb165, 2, none⟩) (Kd.R_far (p:=⟨gb165, 1, none⟩) (Kd.R_far (p:=⟨gb165, 0, none⟩) (Kd.R_types HO183.out BK165.out (by decide)) (fun _ hk => hk.2) (.slice Ao19 y166.length co19)) (fun _ hk => hk.2) (.slice Ao18 y178.length co18)) (fun _ hk => hk.2) (.slice Ao17 y181.length co17)) (fun _ hk => hk.2) (.int .i64 5)) (fun _ hk => ⟨hk.1.1.1, hk.1.2⟩), by repeat (first | (with_reducible first | exact HB.out | apply b1_|apply b2_|apply b3_ | refine below_set ?_ GE165.out) | exact HB.out)⟩

/-! ### diapasonlaw27_works: function 25 -/
theorem diapasonlaw27_works.made : cert_Make.f 40 [10, 4] [[6, 0], [5, 4], [3, 1]] [2, 3, 1] 5 = some ([0, 1], 1, 5, [(⟨[1, 1], 1⟩ : S66), ⟨[1, 2], 4⟩, ⟨[2], 2⟩], 0) := by kernel_rfl
theorem diapasonlaw27_works.wrote : cert_Write.f [(⟨[1, 1], 1⟩ : S66), ⟨[1, 2], 4⟩, ⟨[2], 2⟩] = (⟨#[49, 49, 32, 49, 10, 49, 50, 32, 52, 10, 50, 32, 50, 10]⟩, 0) := by
  have h : cert_Write.text [(⟨[1, 1], 1⟩ : S66), ⟨[1, 2], 4⟩, ⟨[2], 2⟩] = [49, 49, 32, 49, 10, 49, 50, 32, 52, 10, 50, 32, 50, 10] := by
    simp only [cert_Write.text, List.flatMap_cons, List.flatMap_nil, Ct.lineL, Ct.body, Ct.head, Ct.digs]
    rw [show Lib.decDigits (1 : Int).toNat = _ from Lib.decDigits_one (by decide), show Lib.decDigits (4 : Int).toNat = _ from Lib.decDigits_one (by decide), show Lib.decDigits (2 : Int).toNat = _ from Lib.decDigits_one (by decide)]
    decide
  unfold cert_Write.f
  rw [if_neg (by decide), if_pos (by decide), h]
set_option maxHeartbeats 40000000 in
set_option maxRecDepth 100000 in
theorem diapasonlaw27_works.calls (w : World) (ht : Tab w) : Calls Tryd.prog 25 #[] w fun e w' => e = .returned (.bool true) ∧ Below w.heap.size w w' := by
  have hu28 := Tryd.underlying28
  have hu31 := Tryd.underlying31
  have HT := Aside0.mk ht
  have HM := Aside0.mk diapasonlaw27_works.made
  have HW := Aside0.mk diapasonlaw27_works.wrote
  clear ht
  obtain ⟨L, hL⟩ : ∃ L, L = [(⟨[1, 1], 1⟩ : S66), ⟨[1, 2], 4⟩, ⟨[2], 2⟩] := ⟨_, rfl⟩
  rw [← hL] at HM HW
  clear hL
  go_enter Tryd.func25, Tryd.ntmps25
  go_wp2_with (first
    | (go_at_call 34
       refine (diapasonlaw27_example.calls _ _ _ _ w rfl).mono ?_
       rintro e w1 ⟨v0, v1, v2, rfl, h0, h1, h2, hb⟩
       obtain ⟨A0, c0, rfl⟩ := Kd.R_slice h0
       obtain ⟨A1, c1, rfl, g1, j1⟩ := Kd.N_reads h1
       obtain ⟨A2, c2, rfl⟩ := Kd.R_slice h2
       have H0 := Aside0.mk (Kd.R_reads' h0)
       have H1 := Aside0.mk (And.intro g1 j1)
       have H2 := Aside0.mk (Kd.R_reads' h2)
       have HB := Aside0.mk hb
       clear h0 h1 h2 hb g1 j1)
    | (go_at_call 11
       refine (cert_Make.calls 40 A0 c0 _ A1 c1 _ A2 c2 _ 5 [0, 1] 1 5 L 0 w1 H0.out.2.2 H0.out.2.1 H1.out.2 H1.out.1 H2.out.2.2 H2.out.2.1 HM.out).mono ?_
       rintro e w2 ⟨v0, v3, rfl, h0, h3, hb⟩
       obtain ⟨A3, c3, rfl⟩ := Kd.R_slice h0
       obtain ⟨A4, c4, rfl⟩ := Kd.R_slice h3
       have H4 := Aside0.mk (Kd.R_reads' h3)
       have HB2 := Aside0.mk (below_step HB.out hb)
       clear h0 h3 hb)
    | (go_at_call 13
       refine (cert_Write.calls A4 c4 L _ (by first | exact H4.out.2.2 | exact Kd.C_alloc H4.out.2.2 _) H4.out.2.1 (HT.out.step (by first | exact HB2.out | exact below_alloc HB2.out _))).mono ?_
       rw [HW.out]
       rintro e w3 ⟨rfl, hb⟩
       have HB3 : Aside0 (Below w.heap.size w w3) := ⟨by first | exact below_step HB2.out hb | exact below_step (below_alloc HB2.out _) hb⟩
       have k3 := blk_below (blk_new w2 (.cells #[.slice A3 ([0, 1] : List Int).length c3, .int .i64 1, .int .i64 5] 31 (0, 0))) hb
       have k31 : w3.cell? ⟨w2.heap.size, 1, none⟩ = some (.int .i64 1) := (blk_cell k3 1).trans rfl
       have k32 : w3.cell? ⟨w2.heap.size, 2, none⟩ = some (.int .i64 5) := (blk_cell k3 2).trans rfl
       clear hb k3))
  go_ret
  exact ⟨rfl, HB3.out⟩


/-! ### diapasonlaw27_nodes: function 26 -/
def diapasonlaw27_nodes.l0 : Nat → List (S66) → List (S66) → Int → Option ((List (S66)))
 | 0, _, _, _ => none
 | k + 1, x0, x3, x4 => if x4 < (x0.length : Int) then (if x4 < 600 then (if 0 ≤ x4 then (if 0 ≤ (mn (((rd_T66 x0 x4).f0).length : Int) 20) then (if (mn (((rd_T66 x0 x4).f0).length : Int) 20) ≤ (((rd_T66 x0 x4).f0).length : Int) then (if ([] : List Int).length + (((rd_T66 x0 x4).f0).take ((mn (((rd_T66 x0 x4).f0).length : Int) 20) : Int).toNat).length < 140737488355328 then (if x3.length < 4398046511104 then (diapasonlaw27_nodes.l0 k x0 (x3 ++ [(⟨(([] : List Int) ++ (((rd_T66 x0 x4).f0).take ((mn (((rd_T66 x0 x4).f0).length : Int) 20) : Int).toNat)), (rd_T66 x0 x4).f1⟩ : S66)]) (wrap64 (x4 + 1))) else (none)) else (none)) else (none)) else (none)) else (none)) else (some x3)) else (some x3)
def diapasonlaw27_nodes.f (k : Nat) (l0 : List (S66)) : Option ((List (S66))) := diapasonlaw27_nodes.l0 k l0 ([] : List (S66)) 0
theorem diapasonlaw27_nodes.mono_l : ∀ k, (∀ y0 y1 y2, LeO (diapasonlaw27_nodes.l0 k y0 y1 y2) (diapasonlaw27_nodes.l0 (k + 1) y0 y1 y2))
 | 0 => fun _ _ _ r h => by simp [diapasonlaw27_nodes.l0] at h
 | k + 1 => by
  have ih0:=diapasonlaw27_nodes.mono_l k
  ·intro y0 y1 y2
   unfold diapasonlaw27_nodes.l0
   repeat' first
   | (with_reducible exact ih0 _ _ _)
   | (with_reducible exact LeO.refl _)
   | (with_reducible exact LeO.none _)
   | (with_reducible refine LeO.ite ?_ ?_)
   | (with_reducible refine LeO.bind ?_ (fun _ => ?_))
   | exact ih0 _ _ _
   | exact LeO.none _
   | refine LeO.ite ?_ ?_
   | refine LeO.bind ?_ (fun _ => ?_)
theorem diapasonlaw27_nodes.mono : ∀ a0 k, LeO (diapasonlaw27_nodes.f k a0) (diapasonlaw27_nodes.f (k + 1) a0) := by
 intro a0 k;have ih0:=diapasonlaw27_nodes.mono_l k
 unfold diapasonlaw27_nodes.f
 repeat' first
   | (with_reducible exact ih0 _ _ _)
   | (with_reducible exact LeO.refl _)
   | (with_reducible exact LeO.none _)
   | (with_reducible refine LeO.ite ?_ ?_)
   | (with_reducible refine LeO.bind ?_ (fun _ => ?_))
   | exact ih0 _ _ _
   | exact LeO.none _
   | refine LeO.ite ?_ ?_
   | refine LeO.bind ?_ (fun _ => ?_)
def diapasonlaw27_nodes.T6 : Bool × List (List Nat × List Nat) := (true, [([], []), ([], []), ([], []), ([1, 2], [1, 2]), ([3], [3]), ([4], [4]), ([], []), ([], []), ([6, 7], [6, 7]), ([8], [8]), ([9], [9]), ([10], [10]), ([11], [11]), ([5, 12], [5, 12]), ([0, 13], [0, 13]), ([14, 14, 0, 1, 2, 3, 4, 5, 6, 7, 8, 9, 10, 11, 12, 13, 14], [0, 14])])
def diapasonlaw27_nodes.B6 : List Nat := [0, 0, 0, 6, 14, 30, 0, 0, 192, 448, 960, 1984, 4032, 8190, 16383, 32767]
theorem diapasonlaw27_nodes.tab6 : rtab .any (opsOf Tryd.f26 6) = diapasonlaw27_nodes.T6 := by kernel_rfl
theorem diapasonlaw27_nodes.bits6 : waitsOk diapasonlaw27_nodes.T6.2 diapasonlaw27_nodes.B6 = true := by kernel_rfl
set_option maxHeartbeats 8000000 in
set_option maxRecDepth 100000 in
theorem diapasonlaw27_nodes.calls (k : Nat) (A0 : Option Addr) (c0 : Nat) (l0 : List (S66)) (r : List (S66)) (w : World) (hr0 : Kd.C k66 w A0 l0.length l0) (hc0 : l0.length ≤ c0) (h : diapasonlaw27_nodes.f k l0 = some r) :
  Calls Tryd.prog 26 #[.slice A0 l0.length c0] w fun e w' => ∃ v0_ : Value, e = .returned (v0_) ∧ Kd.S k66 66 w' w.heap.size (fun _ => True) v0_ r ∧ Below w.heap.size w w':=by
 have hu66:=Tryd.underlying66;have HR0:=am_ hr0;have HC0:=am_ hc0;clear hr0 hc0;have HB:=am_ (Below.refl w.heap.size w);have H : (diapasonlaw27_nodes.l0 k l0 ([] : List (S66)) 0) = some r:=h;clear h;have H':=am_ H;clear H;go_enter Tryd.func26, Tryd.ntmps26
 go_wp2
 go_loopg [3, 4] k (fun kq v3 v4 w' => ∃ (x3_1 : List (S66)) (x4_1 : Int), v4 = .int .i64 x4_1 ∧ Aside0 (diapasonlaw27_nodes.l0 kq l0 x3_1 x4_1 = some r) ∧ Aside0 (kq ≤ k) ∧ Aside0 (Kd.S k66 66 w' w.heap.size (fun _ => True) v3 x3_1) ∧ Aside0 (Below w.heap.size w w'))
 case atStart => exact ⟨(([] : List (S66))), (0), (by first | rfl | (simp;done) | (simp [*];done)), H', ⟨Nat.le_refl _⟩, ⟨by first | exact Kd.S_nil _ _ _ _ _ | exact Kd.N_nil _ _ _ _ _ | exact Kd.V_nil _ _ _ _ _ | exact Kd.Q_nil _ _ _ _ _ | exact Kd.R_nil _ _ _ _ _⟩, ⟨by repeat (first | (with_reducible first | exact HB.out | apply b1_|apply b2_|apply b3_) | exact HB.out)⟩⟩
 case round =>
  clear H';obtain ⟨x3_1, x4_1, rfl, HA, HK1, HO_3, HB⟩:=hrel
  cases gk with
  | zero => exact absurd HA.out (by simp [diapasonlaw27_nodes.l0])
  | succ k1 =>
   have H:=HA.out;clear HA;simp only [diapasonlaw27_nodes.l0] at H
   by_cases c2 : x4_1 < (l0.length : Int)
   ·rw [if_pos c2] at H;have c2b0 : decide (x4_1 < (l0.length : Int)) = true:=decide_eq_true c2;clear c2
    by_cases c3 : x4_1 < 600
    ·rw [if_pos c3] at H;have c3b0 : decide (x4_1 < 600) = true:=decide_eq_true c3;clear c3
     by_cases c4 : 0 ≤ x4_1
     ·rw [if_pos c4] at H;have c4b0 : decide (0 ≤ x4_1) = true:=decide_eq_true c4;clear c4;obtain ⟨ji5, hji5⟩ : ∃ j_ : Int, (mn (((rd_T66 l0 x4_1).f0).length : Int) 20) = j_:=⟨_, rfl⟩
      replace H : (if 0 ≤ (ji5) then (if (ji5) ≤ (((rd_T66 l0 x4_1).f0).length : Int) then (if ([] : List Int).length + (((rd_T66 l0 x4_1).f0).take ((ji5) : Int).toNat).length < 140737488355328 then (if x3_1.length < 4398046511104 then (diapasonlaw27_nodes.l0 k1 l0 (x3_1 ++ [(⟨(([] : List Int) ++ (((rd_T66 l0 x4_1).f0).take ((ji5) : Int).toNat)), (rd_T66 l0 x4_1).f1⟩ : S66)]) (wrap64 (x4_1 + 1))) else (none)) else (none)) else (none)) else (none)) = some r:=by first | (rw [hji5] at H;exact H) | (simp only [hji5] at H ⊢;exact H)
      have hji5_ : (if 20 < (((rd_T66 l0 x4_1).f0).length : Int) then 20 else (((rd_T66 l0 x4_1).f0).length : Int)) = ji5:=hji5
      by_cases c6 : 0 ≤ (ji5)
      ·rw [if_pos c6] at H;have c6b0:=eq_true c6;have c6b1 : decide (0 ≤ (ji5)) = true:=decide_eq_true c6;clear c6
       by_cases c7 : (ji5) ≤ (((rd_T66 l0 x4_1).f0).length : Int)
       ·rw [if_pos c7] at H;have c7b0:=eq_true c7;have c7b1 : decide ((ji5) ≤ (((rd_T66 l0 x4_1).f0).length : Int)) = true:=decide_eq_true c7;clear c7
        by_cases c8 : ([] : List Int).length + (((rd_T66 l0 x4_1).f0).take ((ji5) : Int).toNat).length < 140737488355328
        ·rw [if_pos c8] at H;have LMc8:=am_ c8;clear c8;obtain ⟨y187, hy187⟩ : ∃ y_ : List Int, y_ = (([] : List Int) ++ (((rd_T66 l0 x4_1).f0).take ((ji5) : Int).toNat)):=⟨_, rfl⟩
         replace H : (if x3_1.length < 4398046511104 then (diapasonlaw27_nodes.l0 k1 l0 (x3_1 ++ [(⟨y187, (rd_T66 l0 x4_1).f1⟩ : S66)]) (wrap64 (x4_1 + 1))) else (none)) = some r:=by first | (rw [hy187];with_reducible exact H) | (have H2_:=(Option.bind_some _ _).symm.trans H;rw [hy187];with_reducible exact H2_) | (have H2_:=(Option.bind_some _ _).symm.trans H;with_reducible exact H2_) | with_reducible exact H | (rw [hy187];exact H) | exact H
         have Ny187:=am_ hy187;clear hy187
         by_cases c9 : x3_1.length < 4398046511104
         ·rw [if_pos c9] at H;have LMc9:=am_ c9;clear c9;obtain ⟨y191, hy191⟩ : ∃ y_ : List (S66), y_ = (x3_1 ++ [(⟨y187, (rd_T66 l0 x4_1).f1⟩ : S66)]):=⟨_, rfl⟩
          replace H : (diapasonlaw27_nodes.l0 k1 l0 y191 (wrap64 (x4_1 + 1))) = some r:=by first | (rw [hy191];with_reducible exact H) | (have H2_:=(Option.bind_some _ _).symm.trans H;rw [hy191];with_reducible exact H2_) | (have H2_:=(Option.bind_some _ _).symm.trans H;with_reducible exact H2_) | with_reducible exact H | (rw [hy191];exact H) | exact H
          have Ny191:=am_ hy191;clear hy191;have H':=am_ H;clear H
          try go_wp2
          replace HO_3:=sd_ HO_3;replace HB:=wd_ HB;have p184 : 0 ≤ (x4_1 : Int):=of_decide_eq_true (by first | (with_reducible assumption) | assumption);have q184 : x4_1 < (l0.length : Int):=of_decide_eq_true (by first | (with_reducible assumption) | assumption);obtain ⟨ad184, A184_0, c184_0, e184, hx184_0, hx184_1, hl184_0, hi184_0⟩:=at_T66 HR0.out x4_1 p184 q184;have hw184_1:=hx184_1;have hw184_0:=hx184_0
          cases e184
          replace hx184_0:=(HB.out.cell (World.block_lt_of_cell? w _ hx184_0)).trans hx184_0;replace hx184_1:=(HB.out.cell (World.block_lt_of_cell? w _ hx184_1)).trans hx184_1;have HR184_0:=am_ hi184_0;have HC184_0:=am_ hl184_0;clear hi184_0 hl184_0;replace p184:=eq_true p184;replace q184:=eq_true q184;have p185 : 0 ≤ (x4_1 : Int):=of_decide_eq_true (by first | (with_reducible assumption) | assumption);have q185 : x4_1 < (l0.length : Int):=of_decide_eq_true (by first | (with_reducible assumption) | assumption);obtain ⟨ad185, A185_0, c185_0, e185, hx185_0, hx185_1, hl185_0, hi185_0⟩:=at_T66 HR0.out x4_1 p185 q185;have hw185_1:=hx185_1;have hw185_0:=hx185_0;obtain rfl : ad184 = ad185:=(by injection e185)
          replace hx185_0:=(HB.out.cell (World.block_lt_of_cell? w _ hx185_0)).trans hx185_0;replace hx185_1:=(HB.out.cell (World.block_lt_of_cell? w _ hx185_1)).trans hx185_1;have HR185_0:=am_ hi185_0;have HC185_0:=am_ hl185_0;clear hi185_0 hl185_0;replace p185:=eq_true p185;replace q185:=eq_true q185;have ea_:=Option.some.inj (hx184_0.symm.trans hx185_0);injection ea_ with ea_ en_ ec_;subst ea_;subst ec_;clear en_;obtain ⟨i011, hi011, _, hsz11, _⟩:=info_parts info5;obtain ⟨hcut11, hA11, hC11⟩:=print_take_of (P:=Tryd.prog) (Value.int .u8) 0 64 5 .i64 Tryd.underlying64 hi011 hsz11 A184_0 c184_0 ((rd_T66 l0 x4_1).f0) (ji5) (of_decide_eq_true (by first | (with_reducible assumption) | assumption)) (of_decide_eq_true (by first | (with_reducible assumption) | assumption)) HC184_0.out;have HR186:=am_ (Kd.C_of_reads (h1:=fun _ => rfl) (hA11 _ (Kd.reads_of_C HR184_0.out)));have HC186:=am_ hC11;clear hA11 hC11 hi011 hsz11;refine start_ (n:=16) (S:=fun w' => w'.cell? (ad184.add ((x4_1).toNat * 2)) = some (.slice A184_0 ((rd_T66 l0 x4_1).f0).length c184_0) ∧ w'.cell? ⟨(ad184.add ((x4_1).toNat * 2)).block, (ad184.add ((x4_1).toNat * 2)).off + 1, none⟩ = some (.int .i64 ((rd_T66 l0 x4_1).f1)) ∧ w'.cell? (ad184.add ((x4_1).toNat * 2)) = some (.slice A184_0 ((rd_T66 l0 x4_1).f0).length c184_0) ∧ w'.cell? ⟨(ad184.add ((x4_1).toNat * 2)).block, (ad184.add ((x4_1).toNat * 2)).off + 1, none⟩ = some (.int .i64 ((rd_T66 l0 x4_1).f1))) (ds:=[]) #[false, false, false, false, false, false, false, false, false, false, false, false, false, false, false, false] (by kernel_rfl) rfl rfl ⟨((HB.out.cell (World.block_lt_of_cell? w _ hw184_0)).trans hw184_0), ((HB.out.cell (World.block_lt_of_cell? w _ hw184_1)).trans hw184_1), ((HB.out.cell (World.block_lt_of_cell? w _ hw185_0)).trans hw185_0), ((HB.out.cell (World.block_lt_of_cell? w _ hw185_1)).trans hw185_1)⟩ (fun hHeld => ?_);refine with_tabW diapasonlaw27_nodes.tab6 diapasonlaw27_nodes.bits6 (fun HT_ HW_ => ?_);generalize wr.drew = w10 at HO_3 HB HR184_0 HR185_0 HR186 hx184_0 hx184_1 hx185_0 hx185_1 hHeld ⊢;refine pure_ (i:=0) (N:=some 16) (v:=?_) (a':=?_) #[true, false, false, false, false, false, false, false, false, false, false, false, false, false, false, false] rfl rfl (any_of HT_.out (by kernel_rfl)) (fun _ _ _ h => h) (Or.inl ⟨by rfl, ?_⟩) ?_ ?_;rotate_left
          ·intro w';go_simp;(with_reducible rfl)
          rotate_left
          ·simp only [Act.put, st_, s0_, s1_, i64_w, i32_w];rfl
          refine pure_ (i:=1) (N:=some 17) (v:=?_) (a':=?_) #[true, true, false, false, false, false, false, false, false, false, false, false, false, false, false, false] rfl rfl (any_of HT_.out (by kernel_rfl)) (fun _ _ _ h => h) (Or.inl ⟨by rfl, ?_⟩) ?_ ?_;rotate_left
          ·intro w';go_simp;(with_reducible rfl)
          rotate_left
          ·simp only [Act.put, st_, s0_, s1_, i64_w, i32_w];rfl
          refine pure_ (i:=2) (N:=some 18) (v:=?_) (a':=?_) #[true, true, true, false, false, false, false, false, false, false, false, false, false, false, false, false] rfl rfl (any_of HT_.out (by kernel_rfl)) (fun _ _ _ h => h) (Or.inl ⟨by rfl, ?_⟩) ?_ ?_;rotate_left
          ·intro w';go_simp;(with_reducible rfl)
          rotate_left
          ·simp only [Act.put, st_, s0_, s1_, i64_w, i32_w];rfl
          refine pure_ (i:=3) (N:=some 19) (v:=?_) (a':=?_) #[true, true, true, true, false, false, false, false, false, false, false, false, false, false, false, false] rfl rfl (any_of HT_.out (by kernel_rfl)) (fun _ _ _ h => h) (Or.inl ⟨by rfl, ?_⟩) ?_ ?_;rotate_left
          ·intro w';go_simp;(with_reducible rfl)
          rotate_left
          ·simp only [Act.put, st_, s0_, s1_, i64_w, i32_w];rfl
          refine pure_ (i:=4) (N:=some 20) (v:=?_) (a':=?_) #[true, true, true, true, true, false, false, false, false, false, false, false, false, false, false, false] rfl rfl (any_of HT_.out (by kernel_rfl)) (fun _ _ _ h => h) (Or.inl ⟨by rfl, ?_⟩) ?_ ?_;rotate_left
          ·intro w';go_simp;(with_reducible rfl)
          rotate_left
          ·simp only [Act.put, st_, s0_, s1_, i64_w, i32_w];rfl
          refine pure_ (i:=6) (N:=some 22) (v:=?_) (a':=?_) #[true, true, true, true, true, false, true, false, false, false, false, false, false, false, false, false] rfl rfl (any_of HT_.out (by kernel_rfl)) (fun _ _ _ h => h) (Or.inl ⟨by rfl, ?_⟩) ?_ ?_;rotate_left
          ·intro w';go_simp;(with_reducible rfl)
          rotate_left
          ·simp only [Act.put, st_, s0_, s1_, i64_w, i32_w];rfl
          refine pure_ (i:=7) (N:=some 23) (v:=?_) (a':=?_) #[true, true, true, true, true, false, true, true, false, false, false, false, false, false, false, false] rfl rfl (any_of HT_.out (by kernel_rfl)) (fun _ _ _ h => h) (Or.inl ⟨by rfl, ?_⟩) ?_ ?_;rotate_left
          ·intro w';go_simp;(with_reducible rfl)
          rotate_left
          ·simp only [Act.put, st_, s0_, s1_, i64_w, i32_w];rfl
          refine pure_ (i:=8) (N:=some 24) (v:=?_) (a':=?_) #[true, true, true, true, true, false, true, true, true, false, false, false, false, false, false, false] rfl rfl (any_of HT_.out (by kernel_rfl)) (fun _ _ _ h => h) (Or.inl ⟨by rfl, ?_⟩) ?_ ?_;rotate_left
          ·intro w';go_simp;(with_reducible rfl)
          rotate_left
          ·simp only [Act.put, st_, s0_, s1_, i64_w, i32_w];rfl
          refine pure_ (i:=9) (N:=some 25) (v:=?_) (a':=?_) #[true, true, true, true, true, false, true, true, true, true, false, false, false, false, false, false] rfl rfl (any_of HT_.out (by kernel_rfl)) (fun _ _ _ h => h) (Or.inl ⟨by rfl, ?_⟩) ?_ ?_;rotate_left
          ·intro w';go_simp;(with_reducible rfl)
          rotate_left
          ·simp only [Act.put, st_, s0_, s1_, i64_w, i32_w];rfl
          refine take_ (i:=5) (N:=some 21) (v:=?_) (a':=?_) #[true, true, true, true, true, true, true, true, true, true, false, false, false, false, false, false] rfl rfl (take_ofW HT_.out HW_.out (by kernel_rfl)) (fun _ _ _ h => h) (Or.inl ⟨by rfl, ?_⟩) hHeld ?_ ?_;rotate_left
          ·rintro w' ⟨s0, s1, s2, s3⟩;go_simp;(with_reducible rfl)
          rotate_left
          ·simp only [Act.put, st_, s0_, s1_, i64_w, i32_w];rfl
          refine take_ (i:=10) (N:=some 26) (v:=?_) (a':=?_) #[true, true, true, true, true, true, true, true, true, true, true, false, false, false, false, false] rfl rfl (take_ofW HT_.out HW_.out (by kernel_rfl)) (fun _ _ _ h => h) (Or.inl ⟨by rfl, ?_⟩) hHeld ?_ ?_;rotate_left
          ·rintro w' ⟨s0, s1, s2, s3⟩;go_simp;(with_reducible rfl)
          rotate_left
          ·simp only [Act.put, st_, s0_, s1_, i64_w, i32_w];rfl
          refine pure_ (i:=11) (N:=some 27) (v:=?_) (a':=?_) #[true, true, true, true, true, true, true, true, true, true, true, true, false, false, false, false] rfl rfl (any_of HT_.out (by kernel_rfl)) (fun _ _ _ h => h) (Or.inl ⟨by rfl, ?_⟩) ?_ ?_;rotate_left
          ·intro w';go_simp;(with_reducible rfl)
          rotate_left
          ·simp only [Act.put, st_, s0_, s1_, i64_w, i32_w];rfl
          refine pure_ (i:=12) (N:=some 28) (v:=?_) (a':=?_) #[true, true, true, true, true, true, true, true, true, true, true, true, true, false, false, false] rfl rfl (any_of HT_.out (by kernel_rfl)) (fun _ _ _ h => h) (Or.inl ⟨by rfl, ?_⟩) ?_ ?_;rotate_left
          ·intro w';go_simp;(with_reducible rfl)
          rotate_left
          ·simp only [Act.put, st_, s0_, s1_, i64_w, i32_w];rfl
          refine pure_ (i:=13) (N:=some 29) (v:=?_) (a':=?_) #[true, true, true, true, true, true, true, true, true, true, true, true, true, true, false, false] rfl rfl (any_of HT_.out (by kernel_rfl)) (fun _ _ _ h => h) (Or.inl ⟨by rfl, ?_⟩) ?_ ?_;rotate_left
          ·intro w';go_simp;(with_reducible rfl)
          rotate_left
          ·simp only [Act.put, st_, s0_, s1_, i64_w, i32_w];rfl
          refine one_ (i:=14) (N:=some 30) #[true, true, true, true, true, true, true, true, true, true, true, true, true, true, true, false] rfl rfl (one_of HT_.out (by kernel_rfl)) (by decide) (fun K hK => ?_);refine Kd.R_append_rows_step (Kd.int .u8) (w0:=w) w.heap.size (by rfl) (.tmp 16) (.tmp 29) 64 5 (.int .u8 0) 1 rfl Tryd.underlying64 info5 rfl (by decide) (by omega) (.slice none 0 0) ([] : List Int) (((rd_T66 l0 x4_1).f0).take ((ji5) : Int).toNat) _ _ _ (fun _ => True) (fun _ => False) rfl rfl ?aO ?aR (fun _ _ h => h) (fun _ h => h.elim) ?aF ?aB ?aS ?aL ?_;(case aR => first | (have hl_ : (((rd_T66 l0 x4_1).f0).take ((ji5) : Int).toNat).length = (ji5).toNat:=(by rw [List.length_take];have h_ : ((ji5) : Int) ≤ (((rd_T66 l0 x4_1).f0).length : Int):=of_decide_eq_true (by first | (with_reducible assumption) | assumption);omega);repeat (first | exact (Kd.C_below HR186.out HB.out) | exact (by have hx_:=(Kd.C_below HR186.out HB.out);rw [hl_] at hx_;exact hx_) | (with_reducible refine Kd.C_alloc ?_ _) | (with_reducible refine Kd.C_drewN ?_ _) | (with_reducible refine Kd.C_drew ?_))) | (exact cb_ HR186 HB));(case aB => exact (by repeat (first | (with_reducible first | exact HB.out | apply b1_|apply b2_|apply b3_) | exact HB.out)));(case aF => exact (fun _ _ => trivial));(case aO => exact ((Kd.R_nil _ _ _ _ (fun _ => True))));(case aS => exact (bz_ HB));(case aL => have:=LMc8.out;have hlx_:=(show (((rd_T66 l0 x4_1).f0).take ((ji5) : Int).toNat).length = (ji5).toNat from (by rw [List.length_take];have h_ : ((ji5) : Int) ≤ (((rd_T66 l0 x4_1).f0).length : Int):=of_decide_eq_true (by first | (with_reducible assumption) | assumption);omega));omega);intro v188 w12 ho hb hg hat;rw [← Ny187.out] at ho;replace HO_3:=am_ (Kd.S_after (Kd.S_apart_nil (su_ HO_3)) hg hat);replace HB:=am_ hb;have HO189:=am_ ho;clear ho hb hg hat;refine hK.out _ _ ⟨((HB.out.cell (World.block_lt_of_cell? w _ hw184_0)).trans hw184_0), ((HB.out.cell (World.block_lt_of_cell? w _ hw184_1)).trans hw184_1), ((HB.out.cell (World.block_lt_of_cell? w _ hw185_0)).trans hw185_0), ((HB.out.cell (World.block_lt_of_cell? w _ hw185_1)).trans hw185_1)⟩ (fun hHeld => ?_);clear hK K;refine norm_ (a':=?_) ?_ ?_;rotate_left
          ·show Act.put _ (some 30) _ = _;simp only [Act.put, st_, s0_, s1_, i64_w, i32_w];rfl
          refine pure_ (i:=15) (N:=some 5) (v:=?_) (a':=?_) #[true, true, true, true, true, true, true, true, true, true, true, true, true, true, true, true] rfl rfl (any_of HT_.out (by kernel_rfl)) (fun _ _ _ h => h) (Or.inl ⟨by rfl, ?_⟩) ?_ ?_;rotate_left
          ·intro w';go_simp;(with_reducible rfl)
          rotate_left
          ·simp only [Act.put, st_, s0_, s1_, i64_w, i32_w];rfl
          refine done_ (done_of HT_.out (by kernel_rfl)) ?_;have p190 : 0 ≤ (x4_1 : Int):=of_decide_eq_true (by first | (with_reducible assumption) | assumption);have q190 : x4_1 < (l0.length : Int):=of_decide_eq_true (by first | (with_reducible assumption) | assumption);obtain ⟨ad190, A190_0, c190_0, e190, hx190_0, hx190_1, hl190_0, hi190_0⟩:=at_T66 HR0.out x4_1 p190 q190;obtain rfl : ad184 = ad190:=(by injection e190)
          replace hx190_0:=(HB.out.cell (World.block_lt_of_cell? w _ hx190_0)).trans hx190_0;replace hx190_1:=(HB.out.cell (World.block_lt_of_cell? w _ hx190_1)).trans hx190_1;have HR190_0:=am_ hi190_0;have HC190_0:=am_ hl190_0;clear hi190_0 hl190_0;replace p190:=eq_true p190;replace q190:=eq_true q190;obtain ⟨Ao13, co13, eo13⟩:=Kd.R_slice HO189.out;subst eo13
          try go_wp2_with (first | ((with_reducible refine gate_builtin (b:=.append) (xs:=#[.tmp 31, .tmp 39]) rfl ?_);at_builtin;refine Kd.S_append k66 (w0:=w) w.heap.size rfl (.tmp 31) (.tmp 39) 32 66 (.agg #[(.slice none 0 0), (.int .i64 0)]) 32 rfl Tryd.underlying32 info66 rfl (by decide) (by omega) u3 x3_1 (⟨y187, (rd_T66 l0 x4_1).f1⟩ : S66) [.slice Ao13 y187.length co13, .int .i64 ((rd_T66 l0 x4_1).f1)] (fun _ => True) (fun k_ => some k_ = (.slice Ao13 y187.length co13 : Value).ownBlock) rfl rfl ?aP (fun k_ hk_ => ((Kd.R_mono (ok':=fun k_ => ((fun _ => True)) k_ ∧ some k_ ≠ (u3 : Value).ownBlock) (Kd.R_apart' (HO189.out) (Kd.S_typed HO_3.out) (by decide)) (fun k_ hk => ⟨trivial, hk.2⟩))).1 k_ hk_.symm) ?aF ?aO ?aB ?aS ?aL ?_;(case aP => exact k66_mkM _ _ _ (⟨y187, (rd_T66 l0 x4_1).f1⟩ : S66) (Kd.R_mono (Kd.R_tight rfl (Kd.R_mono (ok':=fun k_ => ((fun _ => True)) k_ ∧ some k_ ≠ (u3 : Value).ownBlock) (Kd.R_apart' (HO189.out) (Kd.S_typed HO_3.out) (by decide)) (fun k_ hk => ⟨trivial, hk.2⟩))) (fun _ h_ => h_)));(case aB => exact (by repeat (first | (with_reducible first | exact HB.out | apply b1_|apply b2_|apply b3_) | exact HB.out)));(case aF => exact (fun _ _ => trivial));(case aO => exact (by (with_reducible repeat (first | apply Kd.S_alloc | apply Kd.S_drewN | apply Kd.S_drew));exact Kd.S_mono HO_3.out (fun k_ hk => ⟨trivial, fun e_ => hk.2 e_⟩)));(case aS => exact (bz_ HB));(case aL => have:=LMc9.out;omega);intro v192 w14 ho hb hg hat;rw [← Ny191.out] at ho;replace HB:=am_ hb;have HO193:=am_ ho;clear HO_3 HO189;clear ho hb hg hat))
          go_roundg k1
          case measure => have:=HK1.out;omega
          case rel => exact ⟨(y191), (wrap64 (x4_1 + 1)), (by first | rfl | (simp;done) | (simp [*];done)), H', ⟨by have:=HK1.out;omega⟩, ⟨by (with_reducible repeat (first | apply Kd.S_alloc | apply Kd.S_drewN | apply Kd.S_drew));exact HO193.out⟩, ⟨by repeat (first | (with_reducible first | exact HB.out | apply b1_|apply b2_|apply b3_) | exact HB.out)⟩⟩
         ·rw [if_neg c9] at H;exact absurd H (by simp)
        ·rw [if_neg c8] at H;exact absurd H (by simp)
       ·rw [if_neg c7] at H;exact absurd H (by simp)
      ·rw [if_neg c6] at H;exact absurd H (by simp)
     ·rw [if_neg c4] at H;exact absurd H (by simp)
    ·rw [if_neg c3] at H;have c3b0 : decide (x4_1 < 600) = false:=decide_eq_false c3;clear c3;obtain rfl:=Option.some.inj H
     go_wp2
     go_ret
     exact ⟨_, by first | rfl | (simp [errW_none, errW_some] <;> rfl) | (simp [*, errW_none, errW_some] <;> rfl), by (with_reducible repeat (first | apply Kd.S_alloc | apply Kd.S_drewN | apply Kd.S_drew));exact HO_3.out, by repeat (first | (with_reducible first | exact HB.out | apply b1_|apply b2_|apply b3_) | exact HB.out)⟩
   ·rw [if_neg c2] at H;have c2b0 : decide (x4_1 < (l0.length : Int)) = false:=decide_eq_false c2;clear c2;obtain rfl:=Option.some.inj H
    go_wp2
    go_ret
    exact ⟨_, by first | rfl | (simp [errW_none, errW_some] <;> rfl) | (simp [*, errW_none, errW_some] <;> rfl), by (with_reducible repeat (first | apply Kd.S_alloc | apply Kd.S_drewN | apply Kd.S_drew));exact HO_3.out, by repeat (first | (with_reducible first | exact HB.out | apply b1_|apply b2_|apply b3_) | exact HB.out)⟩

/-! ### regis_Misses: function 18 -/
def regis_Misses.l0 : Nat → List Int → Int → List Int → Int → Int → List Int → List (List Int) → List Int → Int → Option (Int × Int × Int)
 | 0, _, _, _, _, _, _, _, _, _ => none
 | k + 1, x1, x7, x14, x15, x16, x195000, x195001, x195002, x195003 => if x16 < x15 then (if 0 ≤ x16 then (if x16 < (x14.length : Int) then (if (rd x14 x16) ≤ x7 then (some (0, 0, 2)) else (if (rd x14 x16) ≥ (x195001.length : Int) then (some (0, 0, 2)) else (regis_Misses.l0 k x1 (rd x14 x16) x14 x15 (wrap64 (x16 + 1)) x195000 x195001 x195002 x195003))) else (none)) else (none)) else ((regis_weighed.f k x195000 x195001 x195002 x195003 x1).bind fun bt197 => (some (bt197.2.1, bt197.2.2, 0)))
def regis_Misses.f (k : Nat) (l0_0 : List Int) (l0_1 : List (List Int)) (l0_2 : List Int) (a0_3 : Int) (l1 : List Int) : Option (Int × Int × Int) := (regis_Check.f k l0_0 l0_1 l0_2 a0_3).bind fun t195 => (if t195 = 0 then (regis_Misses.l0 k l1 (-1) l1 (l1.length : Int) 0 l0_0 l0_1 l0_2 a0_3) else (some (0, 0, 2)))
theorem regis_Misses.mono_l : ∀ k, (∀ y0 y1 y2 y3 y4 y5 y6 y7 y8, LeO (regis_Misses.l0 k y0 y1 y2 y3 y4 y5 y6 y7 y8) (regis_Misses.l0 (k + 1) y0 y1 y2 y3 y4 y5 y6 y7 y8))
 | 0 => fun _ _ _ _ _ _ _ _ _ r h => by simp [regis_Misses.l0] at h
 | k + 1 => by
  have ih0:=regis_Misses.mono_l k
  ·intro y0 y1 y2 y3 y4 y5 y6 y7 y8
   unfold regis_Misses.l0
   repeat' first
   | (with_reducible exact ih0 _ _ _ _ _ _ _ _ _)
   | (with_reducible exact regis_Check.mono _ _ _ _ _)
   | (with_reducible exact regis_weighed.mono _ _ _ _ _ _)
   | (with_reducible exact LeO.refl _)
   | (with_reducible exact LeO.none _)
   | (with_reducible refine LeO.ite ?_ ?_)
   | (with_reducible refine LeO.bind ?_ (fun _ => ?_))
   | exact ih0 _ _ _ _ _ _ _ _ _
   | exact regis_Check.mono _ _ _ _ _
   | exact regis_weighed.mono _ _ _ _ _ _
   | exact LeO.none _
   | refine LeO.ite ?_ ?_
   | refine LeO.bind ?_ (fun _ => ?_)
theorem regis_Misses.mono : ∀ a0 a1 a2 a3 a4 k, LeO (regis_Misses.f k a0 a1 a2 a3 a4) (regis_Misses.f (k + 1) a0 a1 a2 a3 a4) := by
 intro a0 a1 a2 a3 a4 k;have ih0:=regis_Misses.mono_l k
 unfold regis_Misses.f
 repeat' first
   | (with_reducible exact ih0 _ _ _ _ _ _ _ _ _)
   | (with_reducible exact regis_Check.mono _ _ _ _ _)
   | (with_reducible exact regis_weighed.mono _ _ _ _ _ _)
   | (with_reducible exact LeO.refl _)
   | (with_reducible exact LeO.none _)
   | (with_reducible refine LeO.ite ?_ ?_)
   | (with_reducible refine LeO.bind ?_ (fun _ => ?_))
   | exact ih0 _ _ _ _ _ _ _ _ _
   | exact regis_Check.mono _ _ _ _ _
   | exact regis_weighed.mono _ _ _ _ _ _
   | exact LeO.none _
   | refine LeO.ite ?_ ?_
   | refine LeO.bind ?_ (fun _ => ?_)
set_option maxHeartbeats 8000000 in
set_option maxRecDepth 100000 in
theorem regis_Misses.calls (k : Nat) (A0_0 : Option Addr) (c0_0 : Nat) (l0_0 : List Int) (A0_1 : Option Addr) (c0_1 : Nat) (l0_1 : List (List Int)) (A0_2 : Option Addr) (c0_2 : Nat) (l0_2 : List Int) (a0_3 : Int) (A1 : Option Addr) (c1 : Nat) (l1 : List Int) (r1 : Int) (r2 : Int) (r3 : Int) (w : World) (hr0_0 : Kd.C (Kd.int .i64) w A0_0 l0_0.length l0_0) (hc0_0 : l0_0.length ≤ c0_0) (hr0_1 : Kd.C (Kd.slice 3 (Kd.int .i64)) w A0_1 l0_1.length l0_1) (hc0_1 : l0_1.length ≤ c0_1) (hr0_2 : Kd.C (Kd.int .i64) w A0_2 l0_2.length l0_2) (hc0_2 : l0_2.length ≤ c0_2) (hr1 : Kd.C (Kd.int .i64) w A1 l1.length l1) (hc1 : l1.length ≤ c1) (h : regis_Misses.f k l0_0 l0_1 l0_2 a0_3 l1 = some (r1, r2, r3)) :
  Calls Tryd.prog 18 #[.agg #[.slice A0_0 l0_0.length c0_0, .slice A0_1 l0_1.length c0_1, .slice A0_2 l0_2.length c0_2, .int .i64 a0_3], .slice A1 l1.length c1] w fun e w' => e = .returned (.tuple #[.int .i64 r1, .int .i64 r2, .int .i64 r3]) ∧ Below w.heap.size w w':=by
 have hu28:=Tryd.underlying28;have hu31:=Tryd.underlying31;have HR0_0:=am_ hr0_0;have HC0_0:=am_ hc0_0;clear hr0_0 hc0_0;have HR0_1:=am_ hr0_1;have HC0_1:=am_ hc0_1;clear hr0_1 hc0_1;have HR0_2:=am_ hr0_2;have HC0_2:=am_ hc0_2;clear hr0_2 hc0_2;have HR1:=am_ hr1;have HC1:=am_ hc1;clear hr1 hc1;have HB:=am_ (Below.refl w.heap.size w);have H : ((regis_Check.f k l0_0 l0_1 l0_2 a0_3).bind fun t195 => (if t195 = 0 then (regis_Misses.l0 k l1 (-1) l1 (l1.length : Int) 0 l0_0 l0_1 l0_2 a0_3) else (some (0, 0, 2)))) = some (r1, r2, r3):=h;clear h;replace H:=Option.bind_eq_some_iff.mp H;obtain ⟨t195, A30, H⟩:=H;replace H : (if t195 = 0 then (regis_Misses.l0 k l1 (-1) l1 (l1.length : Int) 0 l0_0 l0_1 l0_2 a0_3) else (some (0, 0, 2))) = some (r1, r2, r3):=H;have A3:=am_ A30;clear A30
 by_cases c4 : t195 = 0
 ·rw [if_pos c4] at H;have c4b0 : (t195 == 0) = true:=beq_iff_eq.mpr c4;have c4b1 : (t195 != 0) = false:=bne_eq_false_iff_eq.mpr c4;clear c4;have H':=am_ H;clear H;go_enter Tryd.func18, Tryd.ntmps18
  go_wp2_with (first | ((with_reducible refine gate_dst (N:=2) rfl ?_);(try (refine gate_guard (by rfl) ?_;dsimp only));refine box_event ?hg (N:=2) ?hd (cs:=#[.slice A0_0 l0_0.length c0_0, .slice A0_1 l0_1.length c0_1, .slice A0_2 l0_2.length c0_2, .int .i64 a0_3]) (t:=28) ?hr ?_;(case hd => rfl);(case hg => rfl);(case hr => first | (go_simp;done) | (go_simp;rfl));intro gb194 hg w5 hbox hb;have BK194:=am_ hbox;have GW194:=gz_ hg HB;have GE194:=gz_ hg HB;replace HB:=bs_ HB hb;clear hb hbox hg;obtain ⟨hcz6_0, hcz6_1, hcz6_2, hcz6_3⟩:=c4_ BK194.out;obtain ⟨hfz6_0, hfz6_1, hfz6_2, hfz6_3⟩:=z4_ BK194.out) | (go_at_call 39;(with_reducible refine (regis_Check.calls k _ _ l0_0 _ _ l0_1 _ _ l0_2 a0_3 t195 _ ?side1 ?side2 ?side3 ?side4 ?side5 ?side6 A3.out).mono ?_);(case side1 => exact cb_ HR0_0 HB);(case side2 => exact HC0_0.out);(case side3 => exact cb_ HR0_1 HB);(case side4 => exact HC0_1.out);(case side5 => exact cb_ HR0_2 HB);(case side6 => exact HC0_2.out);rintro e w7 ⟨rfl, hb⟩;replace BK194:=bb_ BK194 hb;replace HB:=am_ (below_step (by repeat (first | (with_reducible first | exact HB.out | apply b1_|apply b2_|apply b3_ | refine below_set ?_ GE194.out) | exact HB.out)) hb);(try clear hb);(try clear hb2);(try clear hk);(try clear hi)))
  repeat (go_quiet (first | ((with_reducible refine gate_dst (N:=2) rfl ?_);(try (refine gate_guard (by rfl) ?_;dsimp only));refine box_event ?hg (N:=2) ?hd (cs:=#[.slice A0_0 l0_0.length c0_0, .slice A0_1 l0_1.length c0_1, .slice A0_2 l0_2.length c0_2, .int .i64 a0_3]) (t:=28) ?hr ?_;(case hd => rfl);(case hg => rfl);(case hr => first | (go_simp;done) | (go_simp;rfl));intro gb194 hg w5 hbox hb;have BK194:=am_ hbox;have GW194:=gz_ hg HB;have GE194:=gz_ hg HB;replace HB:=bs_ HB hb;clear hb hbox hg;obtain ⟨hcz6_0, hcz6_1, hcz6_2, hcz6_3⟩:=c4_ BK194.out;obtain ⟨hfz6_0, hfz6_1, hfz6_2, hfz6_3⟩:=z4_ BK194.out) | (go_at_call 39;(with_reducible refine (regis_Check.calls k _ _ l0_0 _ _ l0_1 _ _ l0_2 a0_3 t195 _ ?side1 ?side2 ?side3 ?side4 ?side5 ?side6 A3.out).mono ?_);(case side1 => exact cb_ HR0_0 HB);(case side2 => exact HC0_0.out);(case side3 => exact cb_ HR0_1 HB);(case side4 => exact HC0_1.out);(case side5 => exact cb_ HR0_2 HB);(case side6 => exact HC0_2.out);rintro e w7 ⟨rfl, hb⟩;replace BK194:=bb_ BK194 hb;replace HB:=am_ (below_step (by repeat (first | (with_reducible first | exact HB.out | apply b1_|apply b2_|apply b3_ | refine below_set ?_ GE194.out) | exact HB.out)) hb);(try clear hb);(try clear hb2);(try clear hk);(try clear hi)));try go_wp2_with (first | ((with_reducible refine gate_dst (N:=2) rfl ?_);(try (refine gate_guard (by rfl) ?_;dsimp only));refine box_event ?hg (N:=2) ?hd (cs:=#[.slice A0_0 l0_0.length c0_0, .slice A0_1 l0_1.length c0_1, .slice A0_2 l0_2.length c0_2, .int .i64 a0_3]) (t:=28) ?hr ?_;(case hd => rfl);(case hg => rfl);(case hr => first | (go_simp;done) | (go_simp;rfl));intro gb194 hg w5 hbox hb;have BK194:=am_ hbox;have GW194:=gz_ hg HB;have GE194:=gz_ hg HB;replace HB:=bs_ HB hb;clear hb hbox hg;obtain ⟨hcz6_0, hcz6_1, hcz6_2, hcz6_3⟩:=c4_ BK194.out;obtain ⟨hfz6_0, hfz6_1, hfz6_2, hfz6_3⟩:=z4_ BK194.out) | (go_at_call 39;(with_reducible refine (regis_Check.calls k _ _ l0_0 _ _ l0_1 _ _ l0_2 a0_3 t195 _ ?side1 ?side2 ?side3 ?side4 ?side5 ?side6 A3.out).mono ?_);(case side1 => exact cb_ HR0_0 HB);(case side2 => exact HC0_0.out);(case side3 => exact cb_ HR0_1 HB);(case side4 => exact HC0_1.out);(case side5 => exact cb_ HR0_2 HB);(case side6 => exact HC0_2.out);rintro e w7 ⟨rfl, hb⟩;replace BK194:=bb_ BK194 hb;replace HB:=am_ (below_step (by repeat (first | (with_reducible first | exact HB.out | apply b1_|apply b2_|apply b3_ | refine below_set ?_ GE194.out) | exact HB.out)) hb);(try clear hb);(try clear hb2);(try clear hk);(try clear hi))))
  go_loopg [7, 16] k (fun kq v7 v16 w' => ∃ (x7_1 : Int) (x16_1 : Int), v7 = .int .i64 x7_1 ∧ v16 = .int .i64 x16_1 ∧ Aside0 (regis_Misses.l0 kq l1 x7_1 l1 (l1.length : Int) x16_1 l0_0 l0_1 l0_2 a0_3 = some (r1, r2, r3)) ∧ Aside0 (kq ≤ k) ∧ Aside0 (w'.heap[gb194]? = some (.cells #[(.slice A0_0 l0_0.length c0_0), (.slice A0_1 l0_1.length c0_1), (.slice A0_2 l0_2.length c0_2), .int .i64 a0_3] 28 (0, 0))) ∧ Aside0 (Below w.heap.size w w'))
  case atStart => exact ⟨((-1)), (0), (by first | rfl | (simp;done) | (simp [*];done)), (by first | rfl | (simp;done) | (simp [*];done)), H', ⟨Nat.le_refl _⟩, ⟨by (with_reducible repeat first|apply q1_|apply q2_|apply q3_);exact BK194.out⟩, ⟨by repeat (first | (with_reducible first | exact HB.out | apply b1_|apply b2_|apply b3_ | refine below_set ?_ GE194.out) | exact HB.out)⟩⟩
  case round =>
   clear H';(try clear c1);(try clear p2);(try clear c4);(try clear c4b0);(try clear c4b1);(try clear hcz6_0);(try clear hcz6_1);(try clear hcz6_2);(try clear hcz6_3);(try clear hfz6_0);(try clear hfz6_1);(try clear hfz6_2);(try clear hfz6_3);obtain ⟨x7_1, x16_1, rfl, rfl, HA, HK1, BK194, HB⟩:=hrel
   cases gk with
   | zero => exact absurd HA.out (by simp [regis_Misses.l0])
   | succ k1 =>
    have H:=HA.out;clear HA;simp only [regis_Misses.l0] at H
    by_cases c8 : x16_1 < (l1.length : Int)
    ·rw [if_pos c8] at H;have c8b0 : decide (x16_1 < (l1.length : Int)) = true:=decide_eq_true c8;clear c8
     by_cases c9 : 0 ≤ x16_1
     ·rw [if_pos c9] at H;have c9b0 : decide (0 ≤ x16_1) = true:=decide_eq_true c9;clear c9
      by_cases c10 : x16_1 < (l1.length : Int)
      ·rw [if_pos c10] at H;have c10b0 : decide (x16_1 < (l1.length : Int)) = true:=decide_eq_true c10;clear c10
       by_cases c11 : (rd l1 x16_1) ≤ x7_1
       ·rw [if_pos c11] at H;have c11b0 : decide ((rd l1 x16_1) ≤ x7_1) = true:=decide_eq_true c11;clear c11;simp only [Option.some.injEq, Prod.mk.injEq] at H;obtain ⟨rfl, rfl, rfl⟩:=H;have p196 : 0 ≤ (x16_1 : Int):=of_decide_eq_true (by first | (with_reducible assumption) | assumption);have q196 : x16_1 < (l1.length : Int):=of_decide_eq_true (by first | (with_reducible assumption) | assumption);obtain ⟨ad196, e196, hx196_0⟩:=Kd.at_int HR1.out x16_1 p196 q196
        cases e196
        replace hx196_0:=(HB.out.cell (World.block_lt_of_cell? w _ hx196_0)).trans hx196_0;replace p196:=eq_true p196;replace q196:=eq_true q196
        go_wp2
        repeat (go_quiet (fail);try go_wp2)
        go_ret3
        exact ⟨by first | rfl | (simp [errW_none, errW_some] <;> rfl) | (simp [*, errW_none, errW_some] <;> rfl), by repeat (first | (with_reducible first | exact HB.out | apply b1_|apply b2_|apply b3_ | refine below_set ?_ GE194.out) | exact HB.out)⟩
       ·rw [if_neg c11] at H;have c11b0 : decide ((rd l1 x16_1) ≤ x7_1) = false:=decide_eq_false c11;clear c11
        by_cases c12 : (rd l1 x16_1) ≥ (l0_1.length : Int)
        ·rw [if_pos c12] at H;have c12b0 : decide ((l0_1.length : Int) ≤ (rd l1 x16_1)) = true:=decide_eq_true c12;clear c12;simp only [Option.some.injEq, Prod.mk.injEq] at H;obtain ⟨rfl, rfl, rfl⟩:=H;have p196 : 0 ≤ (x16_1 : Int):=of_decide_eq_true (by first | (with_reducible assumption) | assumption);have q196 : x16_1 < (l1.length : Int):=of_decide_eq_true (by first | (with_reducible assumption) | assumption);obtain ⟨ad196, e196, hx196_0⟩:=Kd.at_int HR1.out x16_1 p196 q196
         cases e196
         replace hx196_0:=(HB.out.cell (World.block_lt_of_cell? w _ hx196_0)).trans hx196_0;replace p196:=eq_true p196;replace q196:=eq_true q196;obtain ⟨hcz13_0, hcz13_1, hcz13_2, hcz13_3⟩:=c4_ BK194.out;obtain ⟨hfz13_0, hfz13_1, hfz13_2, hfz13_3⟩:=z4_ BK194.out
         go_wp2
         repeat (go_quiet (fail);try go_wp2)
         go_ret3
         exact ⟨by first | rfl | (simp [errW_none, errW_some] <;> rfl) | (simp [*, errW_none, errW_some] <;> rfl), by repeat (first | (with_reducible first | exact HB.out | apply b1_|apply b2_|apply b3_ | refine below_set ?_ GE194.out) | exact HB.out)⟩
        ·rw [if_neg c12] at H;have c12b0 : decide ((l0_1.length : Int) ≤ (rd l1 x16_1)) = false:=decide_eq_false c12;clear c12;have H':=am_ H;clear H;have p196 : 0 ≤ (x16_1 : Int):=of_decide_eq_true (by first | (with_reducible assumption) | assumption);have q196 : x16_1 < (l1.length : Int):=of_decide_eq_true (by first | (with_reducible assumption) | assumption);obtain ⟨ad196, e196, hx196_0⟩:=Kd.at_int HR1.out x16_1 p196 q196
         cases e196
         replace hx196_0:=(HB.out.cell (World.block_lt_of_cell? w _ hx196_0)).trans hx196_0;replace p196:=eq_true p196;replace q196:=eq_true q196;obtain ⟨hcz14_0, hcz14_1, hcz14_2, hcz14_3⟩:=c4_ BK194.out;obtain ⟨hfz14_0, hfz14_1, hfz14_2, hfz14_3⟩:=z4_ BK194.out
         go_wp2
         repeat (go_quiet (fail);try go_wp2)
         go_roundg k1
         case measure => have:=HK1.out;omega
         case rel => exact ⟨(rd l1 x16_1), (wrap64 (x16_1 + 1)), (by first | rfl | (simp;done) | (simp [*];done)), (by first | rfl | (simp;done) | (simp [*];done)), H', ⟨by have:=HK1.out;omega⟩, ⟨by (with_reducible repeat first|apply q1_|apply q2_|apply q3_);exact BK194.out⟩, ⟨by repeat (first | (with_reducible first | exact HB.out | apply b1_|apply b2_|apply b3_ | refine below_set ?_ GE194.out) | exact HB.out)⟩⟩
      ·rw [if_neg c10] at H;exact absurd H (by simp)
     ·rw [if_neg c9] at H;exact absurd H (by simp)
    ·rw [if_neg c8] at H;have c8b0 : decide (x16_1 < (l1.length : Int)) = false:=decide_eq_false c8;clear c8;replace H:=Option.bind_eq_some_iff.mp H;obtain ⟨⟨t197, t198, t199⟩, A150, H⟩:=H;replace H : (some (t198, t199, 0)) = some (r1, r2, r3):=H;have A15:=am_ A150;clear A150;simp only [Option.some.injEq, Prod.mk.injEq] at H;obtain ⟨rfl, rfl, rfl⟩:=H;obtain ⟨hcz16_0, hcz16_1, hcz16_2, hcz16_3⟩:=c4_ BK194.out;obtain ⟨hfz16_0, hfz16_1, hfz16_2, hfz16_3⟩:=z4_ BK194.out
     go_wp2_with (first | (go_at_call 40;(with_reducible refine (regis_weighed.calls k1 _ _ l0_0 _ _ l0_1 _ _ l0_2 a0_3 _ _ l1 t197 t198 t199 _ ?side1 ?side2 ?side3 ?side4 ?side5 ?side6 ?side7 ?side8 A15.out).mono ?_);(case side1 => exact cb_ HR0_0 HB);(case side2 => exact HC0_0.out);(case side3 => exact cb_ HR0_1 HB);(case side4 => exact HC0_1.out);(case side5 => exact cb_ HR0_2 HB);(case side6 => exact HC0_2.out);(case side7 => exact cb_ HR1 HB);(case side8 => exact HC1.out);rintro e w17 ⟨rfl, hb⟩;replace BK194:=bb_ BK194 hb;replace HB:=am_ (below_step (by repeat (first | (with_reducible first | exact HB.out | apply b1_|apply b2_|apply b3_ | refine below_set ?_ GE194.out) | exact HB.out)) hb);(try clear hb);(try clear hb2);(try clear hk);(try clear hi)) | ((with_reducible refine gate_dst (N:=10) rfl ?_);(try (refine gate_guard (by rfl) ?_;dsimp only));refine box_event ?hg (N:=10) ?hd (cs:=#[.slice none 0 0, .int .i64 0, .int .i64 0]) (t:=31) ?hr ?_;(case hd => rfl);(case hg => rfl);(case hr => first | (go_simp;done) | (go_simp;rfl));intro gb200 hg w18 hbox hb;have BK200:=am_ hbox;have GW200:=gz_ hg HB;have GE200:=gz_ hg HB;replace HB:=am_ (below_step (by repeat (first | (with_reducible first | exact HB.out | apply b1_|apply b2_|apply b3_ | refine below_set ?_ GE194.out) | exact HB.out)) hb);have NB194_200:=nl_ hg BK194;have NB200_194:=ng_ hg BK194;replace BK194:=bb_ BK194 hb;clear hb hbox hg;have hnb19:=NB200_194.out;have hnc19:=NB194_200.out;obtain ⟨hcz20_0, hcz20_1, hcz20_2⟩:=c3_ BK200.out;obtain ⟨hfz20_0, hfz20_1, hfz20_2⟩:=z3_ BK200.out))
     repeat (go_quiet (first | (go_at_call 40;(with_reducible refine (regis_weighed.calls k1 _ _ l0_0 _ _ l0_1 _ _ l0_2 a0_3 _ _ l1 t197 t198 t199 _ ?side1 ?side2 ?side3 ?side4 ?side5 ?side6 ?side7 ?side8 A15.out).mono ?_);(case side1 => exact cb_ HR0_0 HB);(case side2 => exact HC0_0.out);(case side3 => exact cb_ HR0_1 HB);(case side4 => exact HC0_1.out);(case side5 => exact cb_ HR0_2 HB);(case side6 => exact HC0_2.out);(case side7 => exact cb_ HR1 HB);(case side8 => exact HC1.out);rintro e w17 ⟨rfl, hb⟩;replace BK194:=bb_ BK194 hb;replace HB:=am_ (below_step (by repeat (first | (with_reducible first | exact HB.out | apply b1_|apply b2_|apply b3_ | refine below_set ?_ GE194.out) | exact HB.out)) hb);(try clear hb);(try clear hb2);(try clear hk);(try clear hi)) | ((with_reducible refine gate_dst (N:=10) rfl ?_);(try (refine gate_guard (by rfl) ?_;dsimp only));refine box_event ?hg (N:=10) ?hd (cs:=#[.slice none 0 0, .int .i64 0, .int .i64 0]) (t:=31) ?hr ?_;(case hd => rfl);(case hg => rfl);(case hr => first | (go_simp;done) | (go_simp;rfl));intro gb200 hg w18 hbox hb;have BK200:=am_ hbox;have GW200:=gz_ hg HB;have GE200:=gz_ hg HB;replace HB:=am_ (below_step (by repeat (first | (with_reducible first | exact HB.out | apply b1_|apply b2_|apply b3_ | refine below_set ?_ GE194.out) | exact HB.out)) hb);have NB194_200:=nl_ hg BK194;have NB200_194:=ng_ hg BK194;replace BK194:=bb_ BK194 hb;clear hb hbox hg;have hnb19:=NB200_194.out;have hnc19:=NB194_200.out;obtain ⟨hcz20_0, hcz20_1, hcz20_2⟩:=c3_ BK200.out;obtain ⟨hfz20_0, hfz20_1, hfz20_2⟩:=z3_ BK200.out));try go_wp2_with (first | (go_at_call 40;(with_reducible refine (regis_weighed.calls k1 _ _ l0_0 _ _ l0_1 _ _ l0_2 a0_3 _ _ l1 t197 t198 t199 _ ?side1 ?side2 ?side3 ?side4 ?side5 ?side6 ?side7 ?side8 A15.out).mono ?_);(case side1 => exact cb_ HR0_0 HB);(case side2 => exact HC0_0.out);(case side3 => exact cb_ HR0_1 HB);(case side4 => exact HC0_1.out);(case side5 => exact cb_ HR0_2 HB);(case side6 => exact HC0_2.out);(case side7 => exact cb_ HR1 HB);(case side8 => exact HC1.out);rintro e w17 ⟨rfl, hb⟩;replace BK194:=bb_ BK194 hb;replace HB:=am_ (below_step (by repeat (first | (with_reducible first | exact HB.out | apply b1_|apply b2_|apply b3_ | refine below_set ?_ GE194.out) | exact HB.out)) hb);(try clear hb);(try clear hb2);(try clear hk);(try clear hi)) | ((with_reducible refine gate_dst (N:=10) rfl ?_);(try (refine gate_guard (by rfl) ?_;dsimp only));refine box_event ?hg (N:=10) ?hd (cs:=#[.slice none 0 0, .int .i64 0, .int .i64 0]) (t:=31) ?hr ?_;(case hd => rfl);(case hg => rfl);(case hr => first | (go_simp;done) | (go_simp;rfl));intro gb200 hg w18 hbox hb;have BK200:=am_ hbox;have GW200:=gz_ hg HB;have GE200:=gz_ hg HB;replace HB:=am_ (below_step (by repeat (first | (with_reducible first | exact HB.out | apply b1_|apply b2_|apply b3_ | refine below_set ?_ GE194.out) | exact HB.out)) hb);have NB194_200:=nl_ hg BK194;have NB200_194:=ng_ hg BK194;replace BK194:=bb_ BK194 hb;clear hb hbox hg;have hnb19:=NB200_194.out;have hnc19:=NB194_200.out;obtain ⟨hcz20_0, hcz20_1, hcz20_2⟩:=c3_ BK200.out;obtain ⟨hfz20_0, hfz20_1, hfz20_2⟩:=z3_ BK200.out)))
     go_ret3
     exact ⟨by first | rfl | (simp [errW_none, errW_some] <;> rfl) | (simp [*, errW_none, errW_some] <;> rfl), by repeat (first | (with_reducible first | exact HB.out | apply b1_|apply b2_|apply b3_ | refine below_set ?_ GE194.out | refine below_set ?_ GE200.out) | exact HB.out)⟩
 ·rw [if_neg c4] at H;have c4b0 : (t195 == 0) = false:=beq_eq_false_iff_ne.mpr c4;have c4b1 : (t195 != 0) = true:=bne_iff_ne.mpr c4;simp only [Option.some.injEq, Prod.mk.injEq] at H;obtain ⟨rfl, rfl, rfl⟩:=H;go_enter Tryd.func18, Tryd.ntmps18
  go_wp2_with (first | ((with_reducible refine gate_dst (N:=2) rfl ?_);(try (refine gate_guard (by rfl) ?_;dsimp only));refine box_event ?hg (N:=2) ?hd (cs:=#[.slice A0_0 l0_0.length c0_0, .slice A0_1 l0_1.length c0_1, .slice A0_2 l0_2.length c0_2, .int .i64 a0_3]) (t:=28) ?hr ?_;(case hd => rfl);(case hg => rfl);(case hr => first | (go_simp;done) | (go_simp;rfl));intro gb194 hg w21 hbox hb;have BK194:=am_ hbox;have GW194:=gz_ hg HB;have GE194:=gz_ hg HB;replace HB:=bs_ HB hb;clear hb hbox hg;obtain ⟨hcz22_0, hcz22_1, hcz22_2, hcz22_3⟩:=c4_ BK194.out;obtain ⟨hfz22_0, hfz22_1, hfz22_2, hfz22_3⟩:=z4_ BK194.out) | (go_at_call 39;(with_reducible refine (regis_Check.calls k _ _ l0_0 _ _ l0_1 _ _ l0_2 a0_3 t195 _ ?side1 ?side2 ?side3 ?side4 ?side5 ?side6 A3.out).mono ?_);(case side1 => exact cb_ HR0_0 HB);(case side2 => exact HC0_0.out);(case side3 => exact cb_ HR0_1 HB);(case side4 => exact HC0_1.out);(case side5 => exact cb_ HR0_2 HB);(case side6 => exact HC0_2.out);rintro e w23 ⟨rfl, hb⟩;replace BK194:=bb_ BK194 hb;replace HB:=am_ (below_step (by repeat (first | (with_reducible first | exact HB.out | apply b1_|apply b2_|apply b3_ | refine below_set ?_ GE194.out) | exact HB.out)) hb);(try clear hb);(try clear hb2);(try clear hk);(try clear hi)))
  repeat (go_quiet (first | ((with_reducible refine gate_dst (N:=2) rfl ?_);(try (refine gate_guard (by rfl) ?_;dsimp only));refine box_event ?hg (N:=2) ?hd (cs:=#[.slice A0_0 l0_0.length c0_0, .slice A0_1 l0_1.length c0_1, .slice A0_2 l0_2.length c0_2, .int .i64 a0_3]) (t:=28) ?hr ?_;(case hd => rfl);(case hg => rfl);(case hr => first | (go_simp;done) | (go_simp;rfl));intro gb194 hg w21 hbox hb;have BK194:=am_ hbox;have GW194:=gz_ hg HB;have GE194:=gz_ hg HB;replace HB:=bs_ HB hb;clear hb hbox hg;obtain ⟨hcz22_0, hcz22_1, hcz22_2, hcz22_3⟩:=c4_ BK194.out;obtain ⟨hfz22_0, hfz22_1, hfz22_2, hfz22_3⟩:=z4_ BK194.out) | (go_at_call 39;(with_reducible refine (regis_Check.calls k _ _ l0_0 _ _ l0_1 _ _ l0_2 a0_3 t195 _ ?side1 ?side2 ?side3 ?side4 ?side5 ?side6 A3.out).mono ?_);(case side1 => exact cb_ HR0_0 HB);(case side2 => exact HC0_0.out);(case side3 => exact cb_ HR0_1 HB);(case side4 => exact HC0_1.out);(case side5 => exact cb_ HR0_2 HB);(case side6 => exact HC0_2.out);rintro e w23 ⟨rfl, hb⟩;replace BK194:=bb_ BK194 hb;replace HB:=am_ (below_step (by repeat (first | (with_reducible first | exact HB.out | apply b1_|apply b2_|apply b3_ | refine below_set ?_ GE194.out) | exact HB.out)) hb);(try clear hb);(try clear hb2);(try clear hk);(try clear hi)));try go_wp2_with (first | ((with_reducible refine gate_dst (N:=2) rfl ?_);(try (refine gate_guard (by rfl) ?_;dsimp only));refine box_event ?hg (N:=2) ?hd (cs:=#[.slice A0_0 l0_0.length c0_0, .slice A0_1 l0_1.length c0_1, .slice A0_2 l0_2.length c0_2, .int .i64 a0_3]) (t:=28) ?hr ?_;(case hd => rfl);(case hg => rfl);(case hr => first | (go_simp;done) | (go_simp;rfl));intro gb194 hg w21 hbox hb;have BK194:=am_ hbox;have GW194:=gz_ hg HB;have GE194:=gz_ hg HB;replace HB:=bs_ HB hb;clear hb hbox hg;obtain ⟨hcz22_0, hcz22_1, hcz22_2, hcz22_3⟩:=c4_ BK194.out;obtain ⟨hfz22_0, hfz22_1, hfz22_2, hfz22_3⟩:=z4_ BK194.out) | (go_at_call 39;(with_reducible refine (regis_Check.calls k _ _ l0_0 _ _ l0_1 _ _ l0_2 a0_3 t195 _ ?side1 ?side2 ?side3 ?side4 ?side5 ?side6 A3.out).mono ?_);(case side1 => exact cb_ HR0_0 HB);(case side2 => exact HC0_0.out);(case side3 => exact cb_ HR0_1 HB);(case side4 => exact HC0_1.out);(case side5 => exact cb_ HR0_2 HB);(case side6 => exact HC0_2.out);rintro e w23 ⟨rfl, hb⟩;replace BK194:=bb_ BK194 hb;replace HB:=am_ (below_step (by repeat (first | (with_reducible first | exact HB.out | apply b1_|apply b2_|apply b3_ | refine below_set ?_ GE194.out) | exact HB.out)) hb);(try clear hb);(try clear hb2);(try clear hk);(try clear hi))))
  go_ret3
  exact ⟨by first | rfl | (simp [errW_none, errW_some] <;> rfl) | (simp [*, errW_none, errW_some] <;> rfl), by repeat (first | (with_reducible first | exact HB.out | apply b1_|apply b2_|apply b3_ | refine below_set ?_ GE194.out) | exact HB.out)⟩

end Go.Proofs.YtfcidgnbocijdaaDoor.PCertLooks
