-- Written by a program of this session (the kit's print, turned: wip/px).
import Derived.Test.YtfcidgnbocijdaaDoorPCertMakesx0
import Derived.Test.YtfcidgnbocijdaaDoorPCertMakesx11
import Derived.Test.YtfcidgnbocijdaaDoorPCertMakesx14
import Derived.Test.YtfcidgnbocijdaaDoorSq2
namespace Go.Proofs.YtfcidgnbocijdaaDoor.PCertMakes
open Go.Proofs.YtfcidgnbocijdaaDoor.Sq
open Go.RowKit Go.Proofs.YtfcidgnbocijdaaDoorW.PrintWords Go.Proofs.YtfcidgnbocijdaaDoorW.PrintLast Go.Proofs.YtfcidgnbocijdaaDoorW.PrintMore
attribute [local go_sem] max2_int min2_int max_two min_two max_three min_three max_four min_four   -- for this text's walks alone
set_option linter.unusedVariables false
set_option linter.unusedSimpArgs false

/-! ### diapasonref27_Make: function 22 -/
def diapasonref27_Make.f (k : Nat) (l0_0 : List Int) (l0_1 : List (List Int)) (l0_2 : List Int) (a0_3 : Int) : Option (List Int × Int × Int × (List (S66)) × Int) := (diapasonref26_Best.f k l0_0 l0_1 l0_2 a0_3).bind fun bt262 => (if bt262.2.2.2 = 0 then ((diapasonref27_leaves.f k l0_0 l0_1 l0_2 a0_3 bt262.2.1 ([] : List Int)).bind fun t269 => (some (bt262.1, bt262.2.1, bt262.2.2.1, t269, 0))) else (some (([] : List Int), 0, 0, ([] : List (S66)), bt262.2.2.2)))
theorem diapasonref27_Make.mono : ∀ a0 a1 a2 a3 k, LeO (diapasonref27_Make.f k a0 a1 a2 a3) (diapasonref27_Make.f (k + 1) a0 a1 a2 a3) := by
 intro a0 a1 a2 a3 k
 unfold diapasonref27_Make.f
 repeat' first
   | (with_reducible exact diapasonref26_Best.mono _ _ _ _ _)
   | (with_reducible exact diapasonref27_leaves.mono _ _ _ _ _ _ _)
   | (with_reducible exact LeO.refl _)
   | (with_reducible exact LeO.none _)
   | (with_reducible refine LeO.ite ?_ ?_)
   | (with_reducible refine LeO.bind ?_ (fun _ => ?_))
   | exact diapasonref26_Best.mono _ _ _ _ _
   | exact diapasonref27_leaves.mono _ _ _ _ _ _ _
   | exact LeO.none _
   | refine LeO.ite ?_ ?_
   | refine LeO.bind ?_ (fun _ => ?_)
def diapasonref27_Make.T4 : Bool × List (List Nat × List Nat) := (true, [([], []), ([], []), ([], []), ([2], [2]), ([1, 3], [1, 3]), ([0, 4, 0], [0]), ([4, 5, 0, 1, 2, 3, 4, 5], [4]), ([6, 0, 1, 2, 3, 4, 5, 6], [])])
def diapasonref27_Make.B4 : List Nat := [0, 0, 0, 4, 14, 31, 63, 127]
theorem diapasonref27_Make.tab4 : rtab .any (opsOf Tryd.f22 4) = diapasonref27_Make.T4 := by kernel_rfl
theorem diapasonref27_Make.bits4 : waitsOk diapasonref27_Make.T4.2 diapasonref27_Make.B4 = true := by kernel_rfl
set_option maxHeartbeats 8000000 in
set_option maxRecDepth 100000 in
theorem diapasonref27_Make.calls (k : Nat) (A0_0 : Option Addr) (c0_0 : Nat) (l0_0 : List Int) (A0_1 : Option Addr) (c0_1 : Nat) (l0_1 : List (List Int)) (A0_2 : Option Addr) (c0_2 : Nat) (l0_2 : List Int) (a0_3 : Int) (r1 : List Int) (r2 : Int) (r3 : Int) (r4 : List (S66)) (r5 : Int) (w : World) (hr0_0 : Kd.C (Kd.int .i64) w A0_0 l0_0.length l0_0) (hc0_0 : l0_0.length ≤ c0_0) (hr0_1 : Kd.C (Kd.slice 3 (Kd.int .i64)) w A0_1 l0_1.length l0_1) (hc0_1 : l0_1.length ≤ c0_1) (hr0_2 : Kd.C (Kd.int .i64) w A0_2 l0_2.length l0_2) (hc0_2 : l0_2.length ≤ c0_2) (h : diapasonref27_Make.f k l0_0 l0_1 l0_2 a0_3 = some (r1, r2, r3, r4, r5)) :
  Calls Tryd.prog 22 #[.agg #[.slice A0_0 l0_0.length c0_0, .slice A0_1 l0_1.length c0_1, .slice A0_2 l0_2.length c0_2, .int .i64 a0_3]] w fun e w' => ∃ v0_ v3_ : Value, e = .returned (.tuple #[.agg #[v0_, .int .i64 r2, .int .i64 r3], v3_, .int .i64 r5]) ∧ Kd.R (Kd.int .i64) 3 w' w.heap.size (fun k_ => (w.heap.size ≤ k_)) v0_ r1 ∧ Kd.N k66 66 w' w.heap.size (fun k_ => (w.heap.size ≤ k_) ∧ some k_ ≠ (v0_ : Value).ownBlock) v3_ r4 ∧ Below w.heap.size w w':=by
 have hu28:=Tryd.underlying28;have hu31:=Tryd.underlying31;have HR0_0:=am_ hr0_0;have HC0_0:=am_ hc0_0;clear hr0_0 hc0_0;have HR0_1:=am_ hr0_1;have HC0_1:=am_ hc0_1;clear hr0_1 hc0_1;have HR0_2:=am_ hr0_2;have HC0_2:=am_ hc0_2;clear hr0_2 hc0_2;have HB:=am_ (Below.refl w.heap.size w);have H : ((diapasonref26_Best.f k l0_0 l0_1 l0_2 a0_3).bind fun bt262 => (if bt262.2.2.2 = 0 then ((diapasonref27_leaves.f k l0_0 l0_1 l0_2 a0_3 bt262.2.1 ([] : List Int)).bind fun t269 => (some (bt262.1, bt262.2.1, bt262.2.2.1, t269, 0))) else (some (([] : List Int), 0, 0, ([] : List (S66)), bt262.2.2.2)))) = some (r1, r2, r3, r4, r5):=h;clear h;replace H:=Option.bind_eq_some_iff.mp H;obtain ⟨⟨t262, t265, t266, t267⟩, A20, H⟩:=H;replace H : (if t267 = 0 then ((diapasonref27_leaves.f k l0_0 l0_1 l0_2 a0_3 t265 ([] : List Int)).bind fun t269 => (some (t262, t265, t266, t269, 0))) else (some (([] : List Int), 0, 0, ([] : List (S66)), t267))) = some (r1, r2, r3, r4, r5):=H;have A2:=am_ A20;clear A20
 by_cases c3 : t267 = 0
 ·rw [if_pos c3] at H;have c3b0 : (t267 == 0) = true:=beq_iff_eq.mpr c3;have c3b1 : (t267 != 0) = false:=bne_eq_false_iff_eq.mpr c3;clear c3;replace H:=Option.bind_eq_some_iff.mp H;obtain ⟨t269, A40, H⟩:=H;replace H : (some (t262, t265, t266, t269, 0)) = some (r1, r2, r3, r4, r5):=H;have A4:=am_ A40;clear A40;simp only [Option.some.injEq, Prod.mk.injEq] at H;obtain ⟨rfl, rfl, rfl, rfl, rfl⟩:=H;go_enter Tryd.func22, Tryd.ntmps22
  try go_wp2_with (first | ((with_reducible refine gate_dst (N:=1) rfl ?_);refine box_event ?hg (N:=1) ?hd (cs:=#[.slice A0_0 l0_0.length c0_0, .slice A0_1 l0_1.length c0_1, .slice A0_2 l0_2.length c0_2, .int .i64 a0_3]) (t:=28) ?hr ?_;(case hd => rfl);(case hg => rfl);(case hr => first | (go_simp;done) | (go_simp;rfl));intro gb260 hg w5 hbox hb;have BK260:=am_ hbox;have GW260:=gz_ hg HB;have GE260:=gz_ hg HB;replace HB:=bs_ HB hb;clear hb hbox hg) | ((with_reducible refine gate_dst (N:=2) rfl ?_);refine box_event ?hg (N:=2) ?hd (cs:=#[.slice none 0 0, .int .i64 0, .int .i64 0]) (t:=31) ?hr ?_;(case hd => rfl);(case hg => rfl);(case hr => first | (go_simp;done) | (go_simp;rfl));intro gb261 hg w6 hbox hb;have BK261:=am_ hbox;have GW261:=gz_ hg HB;have GE261:=gz_ hg HB;replace HB:=am_ (below_step (by repeat (first | (with_reducible first | exact HB.out | apply b1_|apply b2_|apply b3_ | refine below_set ?_ GE260.out) | exact HB.out)) hb);have NB260_261:=nl_ hg BK260;have NB261_260:=ng_ hg BK260;replace BK260:=bb_ BK260 hb;clear hb hbox hg;have hnb7:=NB260_261.out;have hnc7:=NB261_260.out;obtain ⟨hcz8_0, hcz8_1, hcz8_2, hcz8_3⟩:=c4_ BK260.out;obtain ⟨hfz8_0, hfz8_1, hfz8_2, hfz8_3⟩:=z4_ BK260.out) | ((with_reducible refine gate_callee (f:=52) rfl ?_);refine goesL_ (some 9) rfl rfl Tryd.func52 (by kernel_rfl) rfl #[.agg #[.slice A0_0 l0_0.length c0_0, .slice A0_1 l0_1.length c0_1, .slice A0_2 l0_2.length c0_2, .int .i64 a0_3]] rfl (by (try simp only [List.map_toArray, List.map_cons, List.map_nil]);first|done|rfl|(simp only [List.length_drop, List.length_take];rfl)) ?_;(with_reducible refine (diapasonref26_Best.calls k _ _ l0_0 _ _ l0_1 _ _ l0_2 a0_3 t262 t265 t266 t267 _ ?side1 ?side2 ?side3 ?side4 ?side5 ?side6 A2.out).mono ?_);(case side1 => exact cb_ HR0_0 HB);(case side2 => exact HC0_0.out);(case side3 => exact cb_ HR0_1 HB);(case side4 => exact HC0_1.out);(case side5 => exact cb_ HR0_2 HB);(case side6 => exact HC0_2.out);rintro e w9 ⟨v263, rfl, ho0, hb⟩;refine ⟨_, rfl, ?_⟩;have HO264:=am_ (Kd.R_lower (Kd.R_newM (M:=fun k_ => (w.heap.size ≤ k_)) ho0 (bz_ HB) (fun k_ h_ => h_)) (bz_ HB));replace BK260:=bb_ BK260 hb;replace BK261:=bb_ BK261 hb;replace HB:=am_ (below_step (by repeat (first | (with_reducible first | exact HB.out | apply b1_|apply b2_|apply b3_ | refine below_set ?_ GE260.out | refine below_set ?_ GE261.out) | exact HB.out)) hb);(try clear hb);(try clear hb2);(try clear hk);(try clear hi);(try clear ho0)) | ((with_reducible refine gate_dst (N:=5) rfl ?_);refine box_event ?hg (N:=5) ?hd (cs:=#[.slice none 0 0, .int .i64 0, .int .i64 0]) (t:=31) ?hr ?_;(case hd => rfl);(case hg => rfl);(case hr => first | (go_simp;done) | (go_simp;rfl));intro gb268 hg w10 hbox hb;replace HO264:=rb_ HO264 hb;have BK268:=am_ hbox;have GW268:=gz_ hg HB;have GE268:=gz_ hg HB;replace HB:=am_ (below_step (by repeat (first | (with_reducible first | exact HB.out | apply b1_|apply b2_|apply b3_ | refine below_set ?_ GE260.out | refine below_set ?_ GE261.out) | exact HB.out)) hb);have NB260_268:=nl_ hg BK260;have NB268_260:=ng_ hg BK260;replace BK260:=bb_ BK260 hb;have NB261_268:=nl_ hg BK261;have NB268_261:=ng_ hg BK261;replace BK261:=bb_ BK261 hb;clear hb hbox hg;obtain ⟨Ao11, co11, eo11⟩:=Kd.R_slice HO264.out;subst eo11;have hnb12:=NB268_260.out;have hnc12:=NB260_268.out;have hnb13:=NB268_261.out;have hnc13:=NB261_268.out;obtain ⟨hcz14_0, hcz14_1, hcz14_2⟩:=c3_ BK268.out;obtain ⟨hfz14_0, hfz14_1, hfz14_2⟩:=z3_ BK268.out))
  have n0_ : Aside0 (Kd.R (Kd.int .i64) 3 (((w10.setCell ⟨gb268, 0, none⟩ (.slice Ao11 t262.length co11)).setCell ⟨gb268, 1, none⟩ (.int .i64 t265)).setCell ⟨gb268, 2, none⟩ (.int .i64 t266)) w.heap.size (fun k_ => (w.heap.size ≤ k_)) (.slice Ao11 t262.length co11) t262):=⟨by (with_reducible repeat (first | apply Kd.R_alloc | apply Kd.R_drewN | apply Kd.R_drew));exact Kd.R_mono (Kd.R_far (p:=⟨gb268, 2, none⟩) (Kd.R_far (p:=⟨gb268, 1, none⟩) (Kd.R_far (p:=⟨gb268, 0, none⟩) (Kd.R_types HO264.out BK268.out (by decide)) (fun _ hk => hk.2) (.slice Ao11 t262.length co11)) (fun _ hk => hk.2) (.int .i64 t265)) (fun _ hk => hk.2) (.int .i64 t266)) (fun _ hk => hk.1.1)⟩
  have n1_ : Aside0 ((((w10.setCell ⟨gb268, 0, none⟩ (.slice Ao11 t262.length co11)).setCell ⟨gb268, 1, none⟩ (.int .i64 t265)).setCell ⟨gb268, 2, none⟩ (.int .i64 t266)).heap[gb260]? = some (.cells #[.slice A0_0 l0_0.length c0_0, .slice A0_1 l0_1.length c0_1, .slice A0_2 l0_2.length c0_2, .int .i64 a0_3] 28 (0, 0))):=⟨by (with_reducible repeat first|apply q1_|apply q2_|apply q3_);refine blk_far ?_ NB260_268.out _;(with_reducible repeat first|apply q1_|apply q2_|apply q3_);refine blk_far ?_ NB260_268.out _;(with_reducible repeat first|apply q1_|apply q2_|apply q3_);refine blk_far ?_ NB260_268.out _;(with_reducible repeat first|apply q1_|apply q2_|apply q3_);exact BK260.out⟩
  have n2_ : Aside0 ((((w10.setCell ⟨gb268, 0, none⟩ (.slice Ao11 t262.length co11)).setCell ⟨gb268, 1, none⟩ (.int .i64 t265)).setCell ⟨gb268, 2, none⟩ (.int .i64 t266)).heap[gb261]? = some (.cells #[.slice none 0 0, .int .i64 0, .int .i64 0] 31 (0, 0))):=⟨by (with_reducible repeat first|apply q1_|apply q2_|apply q3_);refine blk_far ?_ NB261_268.out _;(with_reducible repeat first|apply q1_|apply q2_|apply q3_);refine blk_far ?_ NB261_268.out _;(with_reducible repeat first|apply q1_|apply q2_|apply q3_);refine blk_far ?_ NB261_268.out _;(with_reducible repeat first|apply q1_|apply q2_|apply q3_);exact BK261.out⟩
  have n3_ : Aside0 ((((w10.setCell ⟨gb268, 0, none⟩ (.slice Ao11 t262.length co11)).setCell ⟨gb268, 1, none⟩ (.int .i64 t265)).setCell ⟨gb268, 2, none⟩ (.int .i64 t266)).heap[gb268]? = some (.cells #[.slice Ao11 t262.length co11, .int .i64 t265, .int .i64 t266] 31 (0, 0))):=⟨by (with_reducible repeat first|apply q1_|apply q2_|apply q3_);refine blk_put (cs:=#[.slice Ao11 t262.length co11, .int .i64 t265, .int .i64 0]) ?_ 2 _ rfl;(with_reducible repeat first|apply q1_|apply q2_|apply q3_);refine blk_put (cs:=#[.slice Ao11 t262.length co11, .int .i64 0, .int .i64 0]) ?_ 1 _ rfl;(with_reducible repeat first|apply q1_|apply q2_|apply q3_);refine blk_put (cs:=#[.slice none 0 0, .int .i64 0, .int .i64 0]) ?_ 0 _ rfl;(with_reducible repeat first|apply q1_|apply q2_|apply q3_);exact BK268.out⟩
  have n4_ : Aside0 (Below w.heap.size w (((w10.setCell ⟨gb268, 0, none⟩ (.slice Ao11 t262.length co11)).setCell ⟨gb268, 1, none⟩ (.int .i64 t265)).setCell ⟨gb268, 2, none⟩ (.int .i64 t266))):=⟨by repeat (first | (with_reducible first | exact HB.out | apply b1_|apply b2_|apply b3_ | refine below_set ?_ GE260.out | refine below_set ?_ GE261.out | refine below_set ?_ GE268.out) | exact HB.out)⟩
  (try clear HO264);(try clear BK260);(try clear BK261);(try clear BK268);(try clear HB);generalize (((w10.setCell ⟨gb268, 0, none⟩ (.slice Ao11 t262.length co11)).setCell ⟨gb268, 1, none⟩ (.int .i64 t265)).setCell ⟨gb268, 2, none⟩ (.int .i64 t266)) = w15 at n0_ n1_ n2_ n3_ n4_ ⊢;have HO264:=n0_;have BK260:=n1_;have BK261:=n2_;have BK268:=n3_;have HB:=n4_;clear n0_ n1_ n2_ n3_ n4_;replace HO264:=rd_ HO264;replace BK260:=bd_ BK260;replace BK261:=bd_ BK261;replace BK268:=bd_ BK268;replace HB:=wd_ HB;refine start_ (n:=8) (S:=fun w' => w'.cell? ⟨gb268, 0, none⟩ = some (.slice Ao11 t262.length co11) ∧ w'.cell? ⟨gb268, 1, none⟩ = some (.int .i64 t265) ∧ w'.cell? ⟨gb268, 2, none⟩ = some (.int .i64 t266) ∧ w'.cell? ⟨gb260, 0, none⟩ = some (.slice A0_0 l0_0.length c0_0) ∧ w'.cell? ⟨gb260, 1, none⟩ = some (.slice A0_1 l0_1.length c0_1) ∧ w'.cell? ⟨gb260, 2, none⟩ = some (.slice A0_2 l0_2.length c0_2) ∧ w'.cell? ⟨gb260, 3, none⟩ = some (.int .i64 a0_3)) (ds:=[]) #[false, false, false, false, false, false, false, false] (by kernel_rfl) rfl rfl ⟨(blk_cell BK268.out 0).trans rfl, (blk_cell BK268.out 1).trans rfl, (blk_cell BK268.out 2).trans rfl, (blk_cell BK260.out 0).trans rfl, (blk_cell BK260.out 1).trans rfl, (blk_cell BK260.out 2).trans rfl, (blk_cell BK260.out 3).trans rfl⟩ (fun hHeld => ?_);refine with_tabW diapasonref27_Make.tab4 diapasonref27_Make.bits4 (fun HT_ HW_ => ?_);generalize w15.drew = w16 at HO264 BK260 BK261 BK268 HB hHeld ⊢;refine pure_ (i:=2) (N:=some 18) (v:=?_) (a':=?_) #[false, false, true, false, false, false, false, false] rfl rfl (any_of HT_.out (by kernel_rfl)) (fun _ _ _ h => h) (Or.inl ⟨by rfl, ?_⟩) ?_ ?_;rotate_left
  ·intro w';go_simp;(with_reducible rfl)
  rotate_left
  ·simp only [Act.put, st_, s0_, s1_, i64_w, i32_w];rfl
  refine take_ (i:=0) (N:=some 16) (v:=?_) (a':=?_) #[true, false, true, false, false, false, false, false] rfl rfl (take_ofW HT_.out HW_.out (by kernel_rfl)) (fun _ _ _ h => h) (Or.inl ⟨by rfl, ?_⟩) hHeld ?_ ?_;rotate_left
  ·rintro w' ⟨s0, s1, s2, s3, s4, s5, s6⟩;go_simp;(with_reducible rfl)
  rotate_left
  ·simp only [Act.put, st_, s0_, s1_, i64_w, i32_w];rfl
  refine take_ (i:=1) (N:=some 17) (v:=?_) (a':=?_) #[true, true, true, false, false, false, false, false] rfl rfl (take_ofW HT_.out HW_.out (by kernel_rfl)) (fun _ _ _ h => h) (Or.inl ⟨by rfl, ?_⟩) hHeld ?_ ?_;rotate_left
  ·rintro w' ⟨s0, s1, s2, s3, s4, s5, s6⟩;go_simp;(with_reducible rfl)
  rotate_left
  ·simp only [Act.put, st_, s0_, s1_, i64_w, i32_w];rfl
  refine take_ (i:=3) (N:=some 19) (v:=?_) (a':=?_) #[true, true, true, true, false, false, false, false] rfl rfl (take_ofW HT_.out HW_.out (by kernel_rfl)) (fun _ _ _ h => h) (Or.inl ⟨by rfl, ?_⟩) hHeld ?_ ?_;rotate_left
  ·rintro w' ⟨s0, s1, s2, s3, s4, s5, s6⟩;go_simp;(with_reducible rfl)
  rotate_left
  ·simp only [Act.put, st_, s0_, s1_, i64_w, i32_w];rfl
  refine one_ (i:=4) (N:=some 20) #[true, true, true, true, true, false, false, false] rfl rfl (one_of HT_.out (by kernel_rfl)) (by decide) (fun K hK => ?_);refine goes_ Tryd.func53 (by kernel_rfl) rfl #[.agg #[.slice A0_0 l0_0.length c0_0, .slice A0_1 l0_1.length c0_1, .slice A0_2 l0_2.length c0_2, .int .i64 a0_3], .int .i64 t265, .slice none 0 0] (by rfl) rfl rfl (by (try simp only [List.map_toArray, List.map_cons, List.map_nil]);first|done|rfl|(simp only [List.length_drop, List.length_take];rfl)) ?_;refine (diapasonref27_leaves.calls k _ _ l0_0 _ _ l0_1 _ _ l0_2 a0_3 t265 (fun k_ => False) _ _ ([] : List Int) t269 _ ?side1 ?side2 ?side3 ?side4 ?side5 ?side6 ?side7 A4.out).mono ?_;(case side1 => exact cb_ HR0_0 HB);(case side2 => exact HC0_0.out);(case side3 => exact cb_ HR0_1 HB);(case side4 => exact HC0_1.out);(case side5 => exact cb_ HR0_2 HB);(case side6 => exact HC0_2.out);(case side7 => exact Kd.V_nil _ _ _ _ _);rintro e w17 ⟨v270, rfl, ho0, hb⟩;refine ⟨_, rfl, ?_⟩;have HO271:=am_ (Kd.N_lower (Kd.N_mono (ok':=fun k_ => (w.heap.size ≤ k_) ∧ some k_ ≠ (.slice Ao11 t262.length co11 : Value).ownBlock ∧ k_ ≠ gb260 ∧ k_ ≠ gb261 ∧ k_ ≠ gb268) ho0 (fun k_ hk_ => ⟨Or.elim hk_ (fun hs_ => (hs_).elim) (fun hn_ => (Nat.le_trans (bz_ HB) hn_)), Or.elim hk_ (fun hs_ => (hs_).elim) (fun hn_ => (Kd.fresh' (Kd.R_lt (ru_ HO264)) k_ hn_)), Or.elim hk_ (fun hs_ => (hs_).elim) (fun hn_ => (Kd.freshB (g:=gb260) (o:=.cells #[.slice A0_0 l0_0.length c0_0, .slice A0_1 l0_1.length c0_1, .slice A0_2 l0_2.length c0_2, .int .i64 a0_3] 28 (0, 0)) (bu_ BK260) k_ hn_)), Or.elim hk_ (fun hs_ => (hs_).elim) (fun hn_ => (Kd.freshB (g:=gb261) (o:=.cells #[.slice none 0 0, .int .i64 0, .int .i64 0] 31 (0, 0)) (bu_ BK261) k_ hn_)), Or.elim hk_ (fun hs_ => (hs_).elim) (fun hn_ => (Kd.freshB (g:=gb268) (o:=.cells #[.slice Ao11 t262.length co11, .int .i64 t265, .int .i64 t266] 31 (0, 0)) (bu_ BK268) k_ hn_))⟩)) (bz_ HB));replace HO264:=rb_ HO264 hb;replace BK260:=bb_ BK260 hb;replace BK261:=bb_ BK261 hb;replace BK268:=bb_ BK268 hb;replace HB:=am_ (below_step (by repeat (first | (with_reducible first | exact HB.out | apply b1_|apply b2_|apply b3_ | refine below_set ?_ GE260.out | refine below_set ?_ GE261.out | refine below_set ?_ GE268.out) | exact HB.out)) hb);(try clear hb);(try clear hb2);(try clear hk);(try clear hi);(try clear ho0);refine hK.out _ _ ⟨(blk_cell BK268.out 0).trans rfl, (blk_cell BK268.out 1).trans rfl, (blk_cell BK268.out 2).trans rfl, (blk_cell BK260.out 0).trans rfl, (blk_cell BK260.out 1).trans rfl, (blk_cell BK260.out 2).trans rfl, (blk_cell BK260.out 3).trans rfl⟩ (fun hHeld => ?_);clear hK K;refine norm_ (a':=?_) ?_ ?_;rotate_left
  ·show Act.put _ (some 20) _ = _;simp only [Act.put, st_, s0_, s1_, i64_w, i32_w];rfl
  refine one_ (i:=5) (N:=none) #[true, true, true, true, true, true, false, false] rfl rfl (one_of HT_.out (by kernel_rfl)) (by decide) (fun K hK => ?_);have hs18 : w17.cell? ⟨gb261, 0, none⟩ = some (.slice none 0 0):=(blk_cell BK261.out 0).trans rfl;have hfs18:=blk_frozen BK261.out 0;have hns18_0:=NB260_261.out;have hns18_2:=NB268_261.out;have hms18_0:=NB261_260.out;have hms18_2:=NB261_268.out;have hs19 : w17.cell? ⟨gb261, 1, none⟩ = some (.int .i64 0):=(blk_cell BK261.out 1).trans rfl;have hfs19:=blk_frozen BK261.out 1;have hns19_0:=NB260_261.out;have hns19_2:=NB268_261.out;have hms19_0:=NB261_260.out;have hms19_2:=NB261_268.out;have hs20 : w17.cell? ⟨gb261, 2, none⟩ = some (.int .i64 0):=(blk_cell BK261.out 2).trans rfl;have hfs20:=blk_frozen BK261.out 2;have hns20_0:=NB260_261.out;have hns20_2:=NB268_261.out;have hms20_0:=NB261_260.out;have hms20_2:=NB261_268.out;refine skip_ (w1:=?_) (by rfl) rfl ?_ ?_;rotate_left
  ·go_simp;rfl
  refine hK.out _ _ ⟨((cell_far (p:=⟨gb261, _, none⟩) NB268_261.out _).trans (((cell_far (p:=⟨gb261, _, none⟩) NB268_261.out _).trans (((cell_far (p:=⟨gb261, _, none⟩) NB268_261.out _).trans (hHeld.1)))))), ((cell_far (p:=⟨gb261, _, none⟩) NB268_261.out _).trans (((cell_far (p:=⟨gb261, _, none⟩) NB268_261.out _).trans (((cell_far (p:=⟨gb261, _, none⟩) NB268_261.out _).trans (hHeld.2.1)))))), ((cell_far (p:=⟨gb261, _, none⟩) NB268_261.out _).trans (((cell_far (p:=⟨gb261, _, none⟩) NB268_261.out _).trans (((cell_far (p:=⟨gb261, _, none⟩) NB268_261.out _).trans (hHeld.2.2.1)))))), ((cell_far (p:=⟨gb261, _, none⟩) NB260_261.out _).trans (((cell_far (p:=⟨gb261, _, none⟩) NB260_261.out _).trans (((cell_far (p:=⟨gb261, _, none⟩) NB260_261.out _).trans (hHeld.2.2.2.1)))))), ((cell_far (p:=⟨gb261, _, none⟩) NB260_261.out _).trans (((cell_far (p:=⟨gb261, _, none⟩) NB260_261.out _).trans (((cell_far (p:=⟨gb261, _, none⟩) NB260_261.out _).trans (hHeld.2.2.2.2.1)))))), ((cell_far (p:=⟨gb261, _, none⟩) NB260_261.out _).trans (((cell_far (p:=⟨gb261, _, none⟩) NB260_261.out _).trans (((cell_far (p:=⟨gb261, _, none⟩) NB260_261.out _).trans (hHeld.2.2.2.2.2.1)))))), ((cell_far (p:=⟨gb261, _, none⟩) NB260_261.out _).trans (((cell_far (p:=⟨gb261, _, none⟩) NB260_261.out _).trans (((cell_far (p:=⟨gb261, _, none⟩) NB260_261.out _).trans (hHeld.2.2.2.2.2.2))))))⟩ (fun hHeld => ?_);clear hK K;refine pure_ (i:=6) (N:=some 3) (v:=?_) (a':=?_) #[true, true, true, true, true, true, true, false] rfl rfl (any_of HT_.out (by kernel_rfl)) (fun _ _ _ h => h) (Or.inl ⟨by rfl, ?_⟩) ?_ ?_;rotate_left
  ·intro w';go_simp;(with_reducible rfl)
  rotate_left
  ·simp only [Act.put, st_, s0_, s1_, i64_w, i32_w];rfl
  refine pure_ (i:=7) (N:=some 4) (v:=?_) (a':=?_) #[true, true, true, true, true, true, true, true] rfl rfl (any_of HT_.out (by kernel_rfl)) (fun _ _ _ h => h) (Or.inl ⟨by rfl, ?_⟩) ?_ ?_;rotate_left
  ·intro w';go_simp;(with_reducible rfl)
  rotate_left
  ·simp only [Act.put, st_, s0_, s1_, i64_w, i32_w];rfl
  refine done_ (done_of HT_.out (by kernel_rfl)) ?_
  try go_wp2
  refine bodyPost_ret (results_ctt rfl _ _ gb261 31 #[.slice Ao11 t262.length co11, .int .i64 t265, .int .i64 t266] (0, 0) _ rfl (by (with_reducible repeat first|apply q1_|apply q2_|apply q3_);refine blk_put (cs:=#[.slice Ao11 t262.length co11, .int .i64 t265, .int .i64 0]) ?_ 2 _ rfl;(with_reducible repeat first|apply q1_|apply q2_|apply q3_);refine blk_put (cs:=#[.slice Ao11 t262.length co11, .int .i64 0, .int .i64 0]) ?_ 1 _ rfl;(with_reducible repeat first|apply q1_|apply q2_|apply q3_);refine blk_put (cs:=#[.slice none 0 0, .int .i64 0, .int .i64 0]) ?_ 0 _ rfl;(with_reducible repeat first|apply q1_|apply q2_|apply q3_);exact BK261.out) Tryd.underlying31 rfl (by kernel_rfl)) rfl ?_;exact ⟨_, _, by first | rfl | (simp [errW_none, errW_some] <;> rfl) | (simp [*, errW_none, errW_some] <;> rfl), by (with_reducible repeat (first | apply Kd.R_alloc | apply Kd.R_drewN | apply Kd.R_drew));exact Kd.R_mono (Kd.R_far (p:=⟨gb261, 2, none⟩) (Kd.R_far (p:=⟨gb261, 1, none⟩) (Kd.R_far (p:=⟨gb261, 0, none⟩) (Kd.R_types HO264.out BK261.out (by decide)) (fun _ hk => hk.2) (.slice Ao11 t262.length co11)) (fun _ hk => hk.2) (.int .i64 t265)) (fun _ hk => hk.2) (.int .i64 t266)) (fun _ hk => hk.1), by (with_reducible repeat (first | apply Kd.N_alloc | apply Kd.N_drewN | apply Kd.N_drew));exact Kd.N_mono (Kd.N_far (p:=⟨gb261, 2, none⟩) (Kd.N_far (p:=⟨gb261, 1, none⟩) (Kd.N_far (p:=⟨gb261, 0, none⟩) (Kd.N_mono HO271.out (fun k_ hk => (⟨hk, hk.2.2.2.1⟩ : _ ∧ k_ ≠ gb261))) (fun _ hk => hk.2) (.slice Ao11 t262.length co11)) (fun _ hk => hk.2) (.int .i64 t265)) (fun _ hk => hk.2) (.int .i64 t266)) (fun _ hk => ⟨hk.1.1, hk.1.2.1⟩), by repeat (first | (with_reducible first | exact HB.out | apply b1_|apply b2_|apply b3_ | refine below_set ?_ GE260.out | refine below_set ?_ GE261.out | refine below_set ?_ GE268.out) | exact HB.out)⟩
 ·rw [if_neg c3] at H;have c3b0 : (t267 == 0) = false:=beq_eq_false_iff_ne.mpr c3;have c3b1 : (t267 != 0) = true:=bne_iff_ne.mpr c3;simp only [Option.some.injEq, Prod.mk.injEq] at H;obtain ⟨rfl, rfl, rfl, rfl, rfl⟩:=H;go_enter Tryd.func22, Tryd.ntmps22
  go_wp2_with (first | ((with_reducible refine gate_dst (N:=1) rfl ?_);refine box_event ?hg (N:=1) ?hd (cs:=#[.slice A0_0 l0_0.length c0_0, .slice A0_1 l0_1.length c0_1, .slice A0_2 l0_2.length c0_2, .int .i64 a0_3]) (t:=28) ?hr ?_;(case hd => rfl);(case hg => rfl);(case hr => first | (go_simp;done) | (go_simp;rfl));intro gb260 hg w21 hbox hb;have BK260:=am_ hbox;have GW260:=gz_ hg HB;have GE260:=gz_ hg HB;replace HB:=bs_ HB hb;clear hb hbox hg) | ((with_reducible refine gate_dst (N:=2) rfl ?_);refine box_event ?hg (N:=2) ?hd (cs:=#[.slice none 0 0, .int .i64 0, .int .i64 0]) (t:=31) ?hr ?_;(case hd => rfl);(case hg => rfl);(case hr => first | (go_simp;done) | (go_simp;rfl));intro gb261 hg w22 hbox hb;have BK261:=am_ hbox;have GW261:=gz_ hg HB;have GE261:=gz_ hg HB;replace HB:=am_ (below_step (by repeat (first | (with_reducible first | exact HB.out | apply b1_|apply b2_|apply b3_ | refine below_set ?_ GE260.out) | exact HB.out)) hb);have NB260_261:=nl_ hg BK260;have NB261_260:=ng_ hg BK260;replace BK260:=bb_ BK260 hb;clear hb hbox hg;have hnb23:=NB260_261.out;have hnc23:=NB261_260.out;obtain ⟨hcz24_0, hcz24_1, hcz24_2, hcz24_3⟩:=c4_ BK260.out;obtain ⟨hfz24_0, hfz24_1, hfz24_2, hfz24_3⟩:=z4_ BK260.out) | ((with_reducible refine gate_callee (f:=52) rfl ?_);refine goesL_ (some 9) rfl rfl Tryd.func52 (by kernel_rfl) rfl #[.agg #[.slice A0_0 l0_0.length c0_0, .slice A0_1 l0_1.length c0_1, .slice A0_2 l0_2.length c0_2, .int .i64 a0_3]] rfl (by (try simp only [List.map_toArray, List.map_cons, List.map_nil]);first|done|rfl|(simp only [List.length_drop, List.length_take];rfl)) ?_;(with_reducible refine (diapasonref26_Best.calls k _ _ l0_0 _ _ l0_1 _ _ l0_2 a0_3 t262 t265 t266 t267 _ ?side1 ?side2 ?side3 ?side4 ?side5 ?side6 A2.out).mono ?_);(case side1 => exact cb_ HR0_0 HB);(case side2 => exact HC0_0.out);(case side3 => exact cb_ HR0_1 HB);(case side4 => exact HC0_1.out);(case side5 => exact cb_ HR0_2 HB);(case side6 => exact HC0_2.out);rintro e w25 ⟨v263, rfl, ho0, hb⟩;refine ⟨_, rfl, ?_⟩;have HO264:=am_ (Kd.R_lower (Kd.R_newM (M:=fun k_ => (w.heap.size ≤ k_)) ho0 (bz_ HB) (fun k_ h_ => h_)) (bz_ HB));replace BK260:=bb_ BK260 hb;replace BK261:=bb_ BK261 hb;replace HB:=am_ (below_step (by repeat (first | (with_reducible first | exact HB.out | apply b1_|apply b2_|apply b3_ | refine below_set ?_ GE260.out | refine below_set ?_ GE261.out) | exact HB.out)) hb);(try clear hb);(try clear hb2);(try clear hk);(try clear hi);(try clear ho0)) | ((with_reducible refine gate_dst (N:=5) rfl ?_);refine box_event ?hg (N:=5) ?hd (cs:=#[.slice none 0 0, .int .i64 0, .int .i64 0]) (t:=31) ?hr ?_;(case hd => rfl);(case hg => rfl);(case hr => first | (go_simp;done) | (go_simp;rfl));intro gb268 hg w26 hbox hb;replace HO264:=rb_ HO264 hb;have BK268:=am_ hbox;have GW268:=gz_ hg HB;have GE268:=gz_ hg HB;replace HB:=am_ (below_step (by repeat (first | (with_reducible first | exact HB.out | apply b1_|apply b2_|apply b3_ | refine below_set ?_ GE260.out | refine below_set ?_ GE261.out) | exact HB.out)) hb);have NB260_268:=nl_ hg BK260;have NB268_260:=ng_ hg BK260;replace BK260:=bb_ BK260 hb;have NB261_268:=nl_ hg BK261;have NB268_261:=ng_ hg BK261;replace BK261:=bb_ BK261 hb;clear hb hbox hg;obtain ⟨Ao27, co27, eo27⟩:=Kd.R_slice HO264.out;subst eo27;have hnb28:=NB268_260.out;have hnc28:=NB260_268.out;have hnb29:=NB268_261.out;have hnc29:=NB261_268.out;obtain ⟨hcz30_0, hcz30_1, hcz30_2⟩:=c3_ BK268.out;obtain ⟨hfz30_0, hfz30_1, hfz30_2⟩:=z3_ BK268.out;obtain ⟨hcz31_0, hcz31_1, hcz31_2⟩:=c3_ BK261.out;obtain ⟨hfz31_0, hfz31_1, hfz31_2⟩:=z3_ BK261.out))
  refine bodyPost_ret (results_ctt rfl _ _ gb261 31 #[.slice none 0 0, .int .i64 0, .int .i64 0] (0, 0) _ rfl (by (with_reducible repeat first|apply q1_|apply q2_|apply q3_);refine blk_put (cs:=#[.slice none 0 0, .int .i64 0, .int .i64 0]) ?_ 2 _ rfl;(with_reducible repeat first|apply q1_|apply q2_|apply q3_);refine blk_put (cs:=#[.slice none 0 0, .int .i64 0, .int .i64 0]) ?_ 1 _ rfl;(with_reducible repeat first|apply q1_|apply q2_|apply q3_);refine blk_put (cs:=#[.slice none 0 0, .int .i64 0, .int .i64 0]) ?_ 0 _ rfl;(with_reducible repeat first|apply q1_|apply q2_|apply q3_);refine blk_far ?_ NB261_268.out _;(with_reducible repeat first|apply q1_|apply q2_|apply q3_);refine blk_far ?_ NB261_268.out _;(with_reducible repeat first|apply q1_|apply q2_|apply q3_);refine blk_far ?_ NB261_268.out _;(with_reducible repeat first|apply q1_|apply q2_|apply q3_);exact BK261.out) Tryd.underlying31 rfl (by kernel_rfl)) rfl ?_;exact ⟨_, _, by first | rfl | (simp [errW_none, errW_some] <;> rfl) | (simp [*, errW_none, errW_some] <;> rfl), by first | exact Kd.R_nil _ _ _ _ _ | exact Kd.N_nil _ _ _ _ _ | exact Kd.V_nil _ _ _ _ _ | exact Kd.Q_nil _ _ _ _ _ | exact Kd.S_nil _ _ _ _ _, by first | exact Kd.S_nil _ _ _ _ _ | exact Kd.N_nil _ _ _ _ _ | exact Kd.V_nil _ _ _ _ _ | exact Kd.Q_nil _ _ _ _ _ | exact Kd.R_nil _ _ _ _ _, by repeat (first | (with_reducible first | exact HB.out | apply b1_|apply b2_|apply b3_ | refine below_set ?_ GE260.out | refine below_set ?_ GE261.out | refine below_set ?_ GE268.out) | exact HB.out)⟩

/-! ### diapasonref26_Same: function 23 -/
mutual
def diapasonref26_Same.j0 : Nat → Bool → List Int → Int → Int → List Int → Int → Int → Option (Bool)
 | 0, _, _, _, _, _, _, _ => none
 | k + 1, x26, x273000, x273001, x273002, x274000, x274001, x274002 => if x26 = true then (some false) else (diapasonref26_Same.l0 k 0 x273000 x273001 x273002 x274000 x274001 x274002)
def diapasonref26_Same.l0 : Nat → Int → List Int → Int → Int → List Int → Int → Int → Option (Bool)
 | 0, _, _, _, _, _, _, _ => none
 | k + 1, x5, x273000, x273001, x273002, x274000, x274001, x274002 => if x5 < (x273000.length : Int) then (if 0 ≤ x5 then (if x5 < (x274000.length : Int) then (if (rd x273000 x5) = (rd x274000 x5) then (diapasonref26_Same.l0 k (wrap64 (x5 + 1)) x273000 x273001 x273002 x274000 x274001 x274002) else (some false)) else (none)) else (none)) else (some true)
end
def diapasonref26_Same.f (k : Nat) (l0_0 : List Int) (a0_1 : Int) (a0_2 : Int) (l1_0 : List Int) (a1_1 : Int) (a1_2 : Int) : Option (Bool) := if a0_1 = a1_1 then (if a0_2 = a1_2 then (diapasonref26_Same.j0 k ((l0_0.length : Int) != (l1_0.length : Int)) l0_0 a0_1 a0_2 l1_0 a1_1 a1_2) else (diapasonref26_Same.j0 k true l0_0 a0_1 a0_2 l1_0 a1_1 a1_2)) else (diapasonref26_Same.j0 k true l0_0 a0_1 a0_2 l1_0 a1_1 a1_2)
theorem diapasonref26_Same.mono_l : ∀ k, (∀ y0 y1 y2 y3 y4 y5 y6, LeO (diapasonref26_Same.j0 k y0 y1 y2 y3 y4 y5 y6) (diapasonref26_Same.j0 (k + 1) y0 y1 y2 y3 y4 y5 y6)) ∧ (∀ y0 y1 y2 y3 y4 y5 y6, LeO (diapasonref26_Same.l0 k y0 y1 y2 y3 y4 y5 y6) (diapasonref26_Same.l0 (k + 1) y0 y1 y2 y3 y4 y5 y6))
 | 0 => ⟨fun _ _ _ _ _ _ _ r h => by simp [diapasonref26_Same.j0] at h, fun _ _ _ _ _ _ _ r h => by simp [diapasonref26_Same.l0] at h⟩
 | k + 1 => by
  obtain ⟨ih0, ih1⟩:=diapasonref26_Same.mono_l k;refine ⟨?_, ?_⟩
  ·intro y0 y1 y2 y3 y4 y5 y6
   unfold diapasonref26_Same.j0
   repeat' first
   | (with_reducible exact ih0 _ _ _ _ _ _ _)
   | (with_reducible exact ih1 _ _ _ _ _ _ _)
   | (with_reducible exact LeO.refl _)
   | (with_reducible exact LeO.none _)
   | (with_reducible refine LeO.ite ?_ ?_)
   | (with_reducible refine LeO.bind ?_ (fun _ => ?_))
   | exact ih0 _ _ _ _ _ _ _
   | exact ih1 _ _ _ _ _ _ _
   | exact LeO.none _
   | refine LeO.ite ?_ ?_
   | refine LeO.bind ?_ (fun _ => ?_)
  ·intro y0 y1 y2 y3 y4 y5 y6
   unfold diapasonref26_Same.l0
   repeat' first
   | (with_reducible exact ih0 _ _ _ _ _ _ _)
   | (with_reducible exact ih1 _ _ _ _ _ _ _)
   | (with_reducible exact LeO.refl _)
   | (with_reducible exact LeO.none _)
   | (with_reducible refine LeO.ite ?_ ?_)
   | (with_reducible refine LeO.bind ?_ (fun _ => ?_))
   | exact ih0 _ _ _ _ _ _ _
   | exact ih1 _ _ _ _ _ _ _
   | exact LeO.none _
   | refine LeO.ite ?_ ?_
   | refine LeO.bind ?_ (fun _ => ?_)
theorem diapasonref26_Same.mono : ∀ a0 a1 a2 a3 a4 a5 k, LeO (diapasonref26_Same.f k a0 a1 a2 a3 a4 a5) (diapasonref26_Same.f (k + 1) a0 a1 a2 a3 a4 a5) := by
 intro a0 a1 a2 a3 a4 a5 k;obtain ⟨ih0, ih1⟩:=diapasonref26_Same.mono_l k
 unfold diapasonref26_Same.f
 repeat' first
   | (with_reducible exact ih0 _ _ _ _ _ _ _)
   | (with_reducible exact ih1 _ _ _ _ _ _ _)
   | (with_reducible exact LeO.refl _)
   | (with_reducible exact LeO.none _)
   | (with_reducible refine LeO.ite ?_ ?_)
   | (with_reducible refine LeO.bind ?_ (fun _ => ?_))
   | exact ih0 _ _ _ _ _ _ _
   | exact ih1 _ _ _ _ _ _ _
   | exact LeO.none _
   | refine LeO.ite ?_ ?_
   | refine LeO.bind ?_ (fun _ => ?_)
set_option maxHeartbeats 8000000 in
set_option maxRecDepth 100000 in
theorem diapasonref26_Same.calls (k : Nat) (A0_0 : Option Addr) (c0_0 : Nat) (l0_0 : List Int) (a0_1 : Int) (a0_2 : Int) (A1_0 : Option Addr) (c1_0 : Nat) (l1_0 : List Int) (a1_1 : Int) (a1_2 : Int) (r : Bool) (w : World) (hr0_0 : Kd.C (Kd.int .i64) w A0_0 l0_0.length l0_0) (hc0_0 : l0_0.length ≤ c0_0) (hr1_0 : Kd.C (Kd.int .i64) w A1_0 l1_0.length l1_0) (hc1_0 : l1_0.length ≤ c1_0) (h : diapasonref26_Same.f k l0_0 a0_1 a0_2 l1_0 a1_1 a1_2 = some r) :
  Calls Tryd.prog 23 #[.agg #[.slice A0_0 l0_0.length c0_0, .int .i64 a0_1, .int .i64 a0_2], .agg #[.slice A1_0 l1_0.length c1_0, .int .i64 a1_1, .int .i64 a1_2]] w fun e w' => e = .returned (.bool r) ∧ Below w.heap.size w w':=by
 have hu31:=Tryd.underlying31;have HR0_0:=am_ hr0_0;have HC0_0:=am_ hc0_0;clear hr0_0 hc0_0;have HR1_0:=am_ hr1_0;have HC1_0:=am_ hc1_0;clear hr1_0 hc1_0;have HB:=am_ (Below.refl w.heap.size w);have H : (if a0_1 = a1_1 then (if a0_2 = a1_2 then (diapasonref26_Same.j0 k ((l0_0.length : Int) != (l1_0.length : Int)) l0_0 a0_1 a0_2 l1_0 a1_1 a1_2) else (diapasonref26_Same.j0 k true l0_0 a0_1 a0_2 l1_0 a1_1 a1_2)) else (diapasonref26_Same.j0 k true l0_0 a0_1 a0_2 l1_0 a1_1 a1_2)) = some r:=h;clear h;have HC3:=am_ H;clear H;go_enter Tryd.func23, Tryd.ntmps23
 go_upto_region 1 with (first | ((with_reducible refine gate_dst (N:=2) rfl ?_);(try (refine gate_guard (by rfl) ?_;dsimp only));refine box_event ?hg (N:=2) ?hd (cs:=#[.slice A0_0 l0_0.length c0_0, .int .i64 a0_1, .int .i64 a0_2]) (t:=31) ?hr ?_;(case hd => rfl);(case hg => rfl);(case hr => first | (go_simp;done) | (go_simp;rfl));intro gb272 hg w4 hbox hb;have BK272:=am_ hbox;have GW272:=gz_ hg HB;have GE272:=gz_ hg HB;replace HB:=bs_ HB hb;clear hb hbox hg) | ((with_reducible refine gate_dst (N:=3) rfl ?_);(try (refine gate_guard (by rfl) ?_;dsimp only));refine box_event ?hg (N:=3) ?hd (cs:=#[.slice A1_0 l1_0.length c1_0, .int .i64 a1_1, .int .i64 a1_2]) (t:=31) ?hr ?_;(case hd => rfl);(case hg => rfl);(case hr => first | (go_simp;done) | (go_simp;rfl));intro gb273 hg w5 hbox hb;have BK273:=am_ hbox;have GW273:=gz_ hg HB;have GE273:=gz_ hg HB;replace HB:=am_ (below_step (by repeat (first | (with_reducible first | exact HB.out | apply b1_|apply b2_|apply b3_ | refine below_set ?_ GE272.out) | exact HB.out)) hb);have NB272_273:=nl_ hg BK272;have NB273_272:=ng_ hg BK272;replace BK272:=bb_ BK272 hb;clear hb hbox hg))
 repeat (go_quiet (first | ((with_reducible refine gate_dst (N:=2) rfl ?_);(try (refine gate_guard (by rfl) ?_;dsimp only));refine box_event ?hg (N:=2) ?hd (cs:=#[.slice A0_0 l0_0.length c0_0, .int .i64 a0_1, .int .i64 a0_2]) (t:=31) ?hr ?_;(case hd => rfl);(case hg => rfl);(case hr => first | (go_simp;done) | (go_simp;rfl));intro gb272 hg w4 hbox hb;have BK272:=am_ hbox;have GW272:=gz_ hg HB;have GE272:=gz_ hg HB;replace HB:=bs_ HB hb;clear hb hbox hg) | ((with_reducible refine gate_dst (N:=3) rfl ?_);(try (refine gate_guard (by rfl) ?_;dsimp only));refine box_event ?hg (N:=3) ?hd (cs:=#[.slice A1_0 l1_0.length c1_0, .int .i64 a1_1, .int .i64 a1_2]) (t:=31) ?hr ?_;(case hd => rfl);(case hg => rfl);(case hr => first | (go_simp;done) | (go_simp;rfl));intro gb273 hg w5 hbox hb;have BK273:=am_ hbox;have GW273:=gz_ hg HB;have GE273:=gz_ hg HB;replace HB:=am_ (below_step (by repeat (first | (with_reducible first | exact HB.out | apply b1_|apply b2_|apply b3_ | refine below_set ?_ GE272.out) | exact HB.out)) hb);have NB272_273:=nl_ hg BK272;have NB273_272:=ng_ hg BK272;replace BK272:=bb_ BK272 hb;clear hb hbox hg));go_upto_region 1 with (first | ((with_reducible refine gate_dst (N:=2) rfl ?_);(try (refine gate_guard (by rfl) ?_;dsimp only));refine box_event ?hg (N:=2) ?hd (cs:=#[.slice A0_0 l0_0.length c0_0, .int .i64 a0_1, .int .i64 a0_2]) (t:=31) ?hr ?_;(case hd => rfl);(case hg => rfl);(case hr => first | (go_simp;done) | (go_simp;rfl));intro gb272 hg w4 hbox hb;have BK272:=am_ hbox;have GW272:=gz_ hg HB;have GE272:=gz_ hg HB;replace HB:=bs_ HB hb;clear hb hbox hg) | ((with_reducible refine gate_dst (N:=3) rfl ?_);(try (refine gate_guard (by rfl) ?_;dsimp only));refine box_event ?hg (N:=3) ?hd (cs:=#[.slice A1_0 l1_0.length c1_0, .int .i64 a1_1, .int .i64 a1_2]) (t:=31) ?hr ?_;(case hd => rfl);(case hg => rfl);(case hr => first | (go_simp;done) | (go_simp;rfl));intro gb273 hg w5 hbox hb;have BK273:=am_ hbox;have GW273:=gz_ hg HB;have GE273:=gz_ hg HB;replace HB:=am_ (below_step (by repeat (first | (with_reducible first | exact HB.out | apply b1_|apply b2_|apply b3_ | refine below_set ?_ GE272.out) | exact HB.out)) hb);have NB272_273:=nl_ hg BK272;have NB273_272:=ng_ hg BK272;replace BK272:=bb_ BK272 hb;clear hb hbox hg)))
 (try simp only [Act.put, st_, s0_, s1_])
 go_cut [26] (fun v26 wc => ∃ (kq : Nat) (x26_2 : Bool), v26 = .bool x26_2 ∧ Aside0 (diapasonref26_Same.j0 kq x26_2 l0_0 a0_1 a0_2 l1_0 a1_1 a1_2 = some r) ∧ Aside0 (kq ≤ k) ∧ Aside0 (wc.heap[gb272]? = some (.cells #[(.slice A0_0 l0_0.length c0_0), .int .i64 a0_1, .int .i64 a0_2] 31 (0, 0))) ∧ Aside0 (wc.heap[gb273]? = some (.cells #[(.slice A1_0 l1_0.length c1_0), .int .i64 a1_1, .int .i64 a1_2] 31 (0, 0))) ∧ Aside0 (Below w.heap.size w wc))
 case first =>
  have H:=HC3.out;clear HC3
  by_cases c6 : a0_1 = a1_1
  ·rw [if_pos c6] at H;have c6b0 : (a0_1 == a1_1) = true:=beq_iff_eq.mpr c6;have c6b1 : (a0_1 != a1_1) = false:=bne_eq_false_iff_eq.mpr c6;clear c6;(first | rw [c6b0] | (simp only [i64_w, i32_w];rw [c6b0]) | skip)
   by_cases c7 : a0_2 = a1_2
   ·rw [if_pos c7] at H;have c7b0 : (a0_2 == a1_2) = true:=beq_iff_eq.mpr c7;have c7b1 : (a0_2 != a1_2) = false:=bne_eq_false_iff_eq.mpr c7;clear c7;have H':=am_ H;clear H;have hnb8:=NB272_273.out;have hnc8:=NB273_272.out;obtain ⟨hcz9_0, hcz9_1, hcz9_2⟩:=c3_ BK272.out;obtain ⟨hfz9_0, hfz9_1, hfz9_2⟩:=z3_ BK272.out;obtain ⟨hcz10_0, hcz10_1, hcz10_2⟩:=c3_ BK273.out;obtain ⟨hfz10_0, hfz10_1, hfz10_2⟩:=z3_ BK273.out
    go_wp2
    repeat (go_quiet (fail);try go_wp2)
    go_meet
    case rel => exact ⟨_, (((l0_0.length : Int) != (l1_0.length : Int))), (by first | rfl | (simp;done) | (simp [*];done)), H', ⟨by first | omega | exact Nat.le_refl _⟩, ⟨by (with_reducible repeat first|apply q1_|apply q2_|apply q3_);exact BK272.out⟩, ⟨by (with_reducible repeat first|apply q1_|apply q2_|apply q3_);exact BK273.out⟩, ⟨by repeat (first | (with_reducible first | exact HB.out | apply b1_|apply b2_|apply b3_ | refine below_set ?_ GE272.out | refine below_set ?_ GE273.out) | exact HB.out)⟩⟩
   ·rw [if_neg c7] at H;have c7b0 : (a0_2 == a1_2) = false:=beq_eq_false_iff_ne.mpr c7;have c7b1 : (a0_2 != a1_2) = true:=bne_iff_ne.mpr c7;have H':=am_ H;clear H;have hnb11:=NB272_273.out;have hnc11:=NB273_272.out;obtain ⟨hcz12_0, hcz12_1, hcz12_2⟩:=c3_ BK272.out;obtain ⟨hfz12_0, hfz12_1, hfz12_2⟩:=z3_ BK272.out;obtain ⟨hcz13_0, hcz13_1, hcz13_2⟩:=c3_ BK273.out;obtain ⟨hfz13_0, hfz13_1, hfz13_2⟩:=z3_ BK273.out
    go_wp2
    repeat (go_quiet (fail);try go_wp2)
    go_meet
    case rel => exact ⟨_, (true), (by first | rfl | (simp;done) | (simp [*];done)), H', ⟨by first | omega | exact Nat.le_refl _⟩, ⟨by (with_reducible repeat first|apply q1_|apply q2_|apply q3_);exact BK272.out⟩, ⟨by (with_reducible repeat first|apply q1_|apply q2_|apply q3_);exact BK273.out⟩, ⟨by repeat (first | (with_reducible first | exact HB.out | apply b1_|apply b2_|apply b3_ | refine below_set ?_ GE272.out | refine below_set ?_ GE273.out) | exact HB.out)⟩⟩
  ·rw [if_neg c6] at H;have c6b0 : (a0_1 == a1_1) = false:=beq_eq_false_iff_ne.mpr c6;have c6b1 : (a0_1 != a1_1) = true:=bne_iff_ne.mpr c6;(first | rw [c6b0] | (simp only [i64_w, i32_w];rw [c6b0]) | skip);have H':=am_ H;clear H;have hnb14:=NB272_273.out;have hnc14:=NB273_272.out;obtain ⟨hcz15_0, hcz15_1, hcz15_2⟩:=c3_ BK272.out;obtain ⟨hfz15_0, hfz15_1, hfz15_2⟩:=z3_ BK272.out;obtain ⟨hcz16_0, hcz16_1, hcz16_2⟩:=c3_ BK273.out;obtain ⟨hfz16_0, hfz16_1, hfz16_2⟩:=z3_ BK273.out
   go_wp2
   repeat (go_quiet (fail);try go_wp2)
   go_meet
   case rel => exact ⟨_, (true), (by first | rfl | (simp;done) | (simp [*];done)), H', ⟨by first | omega | exact Nat.le_refl _⟩, ⟨by (with_reducible repeat first|apply q1_|apply q2_|apply q3_);exact BK272.out⟩, ⟨by (with_reducible repeat first|apply q1_|apply q2_|apply q3_);exact BK273.out⟩, ⟨by repeat (first | (with_reducible first | exact HB.out | apply b1_|apply b2_|apply b3_ | refine below_set ?_ GE272.out | refine below_set ?_ GE273.out) | exact HB.out)⟩⟩
 case rest =>
  clear HC3;(try clear c1);(try clear c2);(try clear p2);(try clear c6);(try clear c6b0);(try clear c6b1);(try clear c7);(try clear c7b0);(try clear c7b1);(try clear c8);(try clear c11);(try clear c14);(try clear hcz10_0);(try clear hcz10_1);(try clear hcz10_2);(try clear hcz12_0);(try clear hcz12_1);(try clear hcz12_2);(try clear hcz13_0);(try clear hcz13_1);(try clear hcz13_2);(try clear hcz15_0);(try clear hcz15_1);(try clear hcz15_2);(try clear hcz16_0);(try clear hcz16_1);(try clear hcz16_2);(try clear hcz9_0);(try clear hcz9_1);(try clear hcz9_2);(try clear hfz10_0);(try clear hfz10_1);(try clear hfz10_2);(try clear hfz12_0);(try clear hfz12_1);(try clear hfz12_2);(try clear hfz13_0);(try clear hfz13_1);(try clear hfz13_2);(try clear hfz15_0);(try clear hfz15_1);(try clear hfz15_2);(try clear hfz16_0);(try clear hfz16_1);(try clear hfz16_2);(try clear hfz9_0);(try clear hfz9_1);(try clear hfz9_2);obtain ⟨kq, x26_2, rfl, HA, HJ2, BK272, BK273, HB⟩:=hcut
  cases kq with
  | zero => exact absurd HA.out (by simp [diapasonref26_Same.j0])
  | succ kj2 =>
   have H:=HA.out;clear HA;simp only [diapasonref26_Same.j0] at H
   by_cases c17 : x26_2 = true
   ·subst c17;have H1 : (some false) = some r:=by rw [if_pos rfl] at H;exact H
    clear H;have H:=H1;clear H1;obtain rfl:=Option.some.inj H
    go_wp2
    repeat (go_quiet (fail);try go_wp2)
    go_ret
    exact ⟨by first | rfl | (simp [errW_none, errW_some] <;> rfl) | (simp [*, errW_none, errW_some] <;> rfl), by repeat (first | (with_reducible first | exact HB.out | apply b1_|apply b2_|apply b3_ | refine below_set ?_ GE272.out | refine below_set ?_ GE273.out) | exact HB.out)⟩
   ·replace c17:=Bool.eq_false_iff.mpr c17;subst c17;have H1 : (diapasonref26_Same.l0 kj2 0 l0_0 a0_1 a0_2 l1_0 a1_1 a1_2) = some r:=by rw [if_neg (show ¬ (false = true) by decide)] at H;exact H
    clear H;have H:=H1;clear H1;have H':=am_ H;clear H
    go_wp2
    repeat (go_quiet (fail);try go_wp2)
    go_loopg [5] kj2 (fun kq v5 w' => ∃ (x5_2 : Int), v5 = .int .i64 x5_2 ∧ Aside0 (diapasonref26_Same.l0 kq x5_2 l0_0 a0_1 a0_2 l1_0 a1_1 a1_2 = some r) ∧ Aside0 (kq ≤ kj2) ∧ Aside0 (w'.heap[gb272]? = some (.cells #[(.slice A0_0 l0_0.length c0_0), .int .i64 a0_1, .int .i64 a0_2] 31 (0, 0))) ∧ Aside0 (w'.heap[gb273]? = some (.cells #[(.slice A1_0 l1_0.length c1_0), .int .i64 a1_1, .int .i64 a1_2] 31 (0, 0))) ∧ Aside0 (Below w.heap.size w w'))
    case atStart => exact ⟨(0), (by first | rfl | (simp;done) | (simp [*];done)), H', ⟨Nat.le_refl _⟩, ⟨by (with_reducible repeat first|apply q1_|apply q2_|apply q3_);exact BK272.out⟩, ⟨by (with_reducible repeat first|apply q1_|apply q2_|apply q3_);exact BK273.out⟩, ⟨by repeat (first | (with_reducible first | exact HB.out | apply b1_|apply b2_|apply b3_ | refine below_set ?_ GE272.out | refine below_set ?_ GE273.out) | exact HB.out)⟩⟩
    case round =>
     clear H';(try clear c1);(try clear c2);(try clear p2);(try clear c6);(try clear c6b0);(try clear c6b1);(try clear c7);(try clear c7b0);(try clear c7b1);(try clear c8);(try clear c11);(try clear c14);(try clear c17);(try clear hcz10_0);(try clear hcz10_1);(try clear hcz10_2);(try clear hcz12_0);(try clear hcz12_1);(try clear hcz12_2);(try clear hcz13_0);(try clear hcz13_1);(try clear hcz13_2);(try clear hcz15_0);(try clear hcz15_1);(try clear hcz15_2);(try clear hcz16_0);(try clear hcz16_1);(try clear hcz16_2);(try clear hcz9_0);(try clear hcz9_1);(try clear hcz9_2);(try clear hfz10_0);(try clear hfz10_1);(try clear hfz10_2);(try clear hfz12_0);(try clear hfz12_1);(try clear hfz12_2);(try clear hfz13_0);(try clear hfz13_1);(try clear hfz13_2);(try clear hfz15_0);(try clear hfz15_1);(try clear hfz15_2);(try clear hfz16_0);(try clear hfz16_1);(try clear hfz16_2);(try clear hfz9_0);(try clear hfz9_1);(try clear hfz9_2);(try clear p2);obtain ⟨x5_2, rfl, HA, HK2, BK272, BK273, HB⟩:=hrel
     cases gk with
     | zero => exact absurd HA.out (by simp [diapasonref26_Same.l0])
     | succ k2 =>
      have H:=HA.out;clear HA;simp only [diapasonref26_Same.l0] at H
      by_cases c18 : x5_2 < (l0_0.length : Int)
      ·rw [if_pos c18] at H;have c18b0 : decide (x5_2 < (l0_0.length : Int)) = true:=decide_eq_true c18;clear c18
       by_cases c19 : 0 ≤ x5_2
       ·rw [if_pos c19] at H;have c19b0 : decide (0 ≤ x5_2) = true:=decide_eq_true c19;clear c19
        by_cases c20 : x5_2 < (l1_0.length : Int)
        ·rw [if_pos c20] at H;have c20b0 : decide (x5_2 < (l1_0.length : Int)) = true:=decide_eq_true c20;clear c20
         by_cases c21 : (rd l0_0 x5_2) = (rd l1_0 x5_2)
         ·rw [if_pos c21] at H;have c21b0 : ((rd l0_0 x5_2) == (rd l1_0 x5_2)) = true:=beq_iff_eq.mpr c21;have c21b1 : ((rd l0_0 x5_2) != (rd l1_0 x5_2)) = false:=bne_eq_false_iff_eq.mpr c21;clear c21;have H':=am_ H;clear H;have hnb22:=NB272_273.out;have hnc22:=NB273_272.out;obtain ⟨hcz23_0, hcz23_1, hcz23_2⟩:=c3_ BK272.out;obtain ⟨hfz23_0, hfz23_1, hfz23_2⟩:=z3_ BK272.out;have p274 : 0 ≤ (x5_2 : Int):=of_decide_eq_true (by first | (with_reducible assumption) | assumption);have q274 : x5_2 < (l0_0.length : Int):=of_decide_eq_true (by first | (with_reducible assumption) | assumption);obtain ⟨ad274, e274, hx274_0⟩:=Kd.at_int HR0_0.out x5_2 p274 q274
          cases e274
          replace hx274_0:=(HB.out.cell (World.block_lt_of_cell? w _ hx274_0)).trans hx274_0;replace p274:=eq_true p274;replace q274:=eq_true q274;obtain ⟨hcz24_0, hcz24_1, hcz24_2⟩:=c3_ BK273.out;obtain ⟨hfz24_0, hfz24_1, hfz24_2⟩:=z3_ BK273.out;have p275 : 0 ≤ (x5_2 : Int):=of_decide_eq_true (by first | (with_reducible assumption) | assumption);have q275 : x5_2 < (l1_0.length : Int):=of_decide_eq_true (by first | (with_reducible assumption) | assumption);obtain ⟨ad275, e275, hx275_0⟩:=Kd.at_int HR1_0.out x5_2 p275 q275
          cases e275
          replace hx275_0:=(HB.out.cell (World.block_lt_of_cell? w _ hx275_0)).trans hx275_0;replace p275:=eq_true p275;replace q275:=eq_true q275
          go_wp2
          repeat (go_quiet (fail);try go_wp2)
          go_roundg k2
          case measure => have:=HJ2.out;have:=HK2.out;omega
          case rel => exact ⟨(wrap64 (x5_2 + 1)), (by first | rfl | (simp;done) | (simp [*];done)), H', ⟨by have:=HJ2.out;have:=HK2.out;omega⟩, ⟨by (with_reducible repeat first|apply q1_|apply q2_|apply q3_);exact BK272.out⟩, ⟨by (with_reducible repeat first|apply q1_|apply q2_|apply q3_);exact BK273.out⟩, ⟨by repeat (first | (with_reducible first | exact HB.out | apply b1_|apply b2_|apply b3_ | refine below_set ?_ GE272.out | refine below_set ?_ GE273.out) | exact HB.out)⟩⟩
         ·rw [if_neg c21] at H;have c21b0 : ((rd l0_0 x5_2) == (rd l1_0 x5_2)) = false:=beq_eq_false_iff_ne.mpr c21;have c21b1 : ((rd l0_0 x5_2) != (rd l1_0 x5_2)) = true:=bne_iff_ne.mpr c21;obtain rfl:=Option.some.inj H;have hnb25:=NB272_273.out;have hnc25:=NB273_272.out;obtain ⟨hcz26_0, hcz26_1, hcz26_2⟩:=c3_ BK272.out;obtain ⟨hfz26_0, hfz26_1, hfz26_2⟩:=z3_ BK272.out;have p274 : 0 ≤ (x5_2 : Int):=of_decide_eq_true (by first | (with_reducible assumption) | assumption);have q274 : x5_2 < (l0_0.length : Int):=of_decide_eq_true (by first | (with_reducible assumption) | assumption);obtain ⟨ad274, e274, hx274_0⟩:=Kd.at_int HR0_0.out x5_2 p274 q274
          cases e274
          replace hx274_0:=(HB.out.cell (World.block_lt_of_cell? w _ hx274_0)).trans hx274_0;replace p274:=eq_true p274;replace q274:=eq_true q274;obtain ⟨hcz27_0, hcz27_1, hcz27_2⟩:=c3_ BK273.out;obtain ⟨hfz27_0, hfz27_1, hfz27_2⟩:=z3_ BK273.out;have p275 : 0 ≤ (x5_2 : Int):=of_decide_eq_true (by first | (with_reducible assumption) | assumption);have q275 : x5_2 < (l1_0.length : Int):=of_decide_eq_true (by first | (with_reducible assumption) | assumption);obtain ⟨ad275, e275, hx275_0⟩:=Kd.at_int HR1_0.out x5_2 p275 q275
          cases e275
          replace hx275_0:=(HB.out.cell (World.block_lt_of_cell? w _ hx275_0)).trans hx275_0;replace p275:=eq_true p275;replace q275:=eq_true q275
          go_wp2
          repeat (go_quiet (fail);try go_wp2)
          go_ret
          exact ⟨by first | rfl | (simp [errW_none, errW_some] <;> rfl) | (simp [*, errW_none, errW_some] <;> rfl), by repeat (first | (with_reducible first | exact HB.out | apply b1_|apply b2_|apply b3_ | refine below_set ?_ GE272.out | refine below_set ?_ GE273.out) | exact HB.out)⟩
        ·rw [if_neg c20] at H;exact absurd H (by simp)
       ·rw [if_neg c19] at H;exact absurd H (by simp)
      ·rw [if_neg c18] at H;have c18b0 : decide (x5_2 < (l0_0.length : Int)) = false:=decide_eq_false c18;clear c18;obtain rfl:=Option.some.inj H;have hnb28:=NB272_273.out;have hnc28:=NB273_272.out;obtain ⟨hcz29_0, hcz29_1, hcz29_2⟩:=c3_ BK272.out;obtain ⟨hfz29_0, hfz29_1, hfz29_2⟩:=z3_ BK272.out
       go_wp2
       repeat (go_quiet (fail);try go_wp2)
       go_ret
       exact ⟨by first | rfl | (simp [errW_none, errW_some] <;> rfl) | (simp [*, errW_none, errW_some] <;> rfl), by repeat (first | (with_reducible first | exact HB.out | apply b1_|apply b2_|apply b3_ | refine below_set ?_ GE272.out | refine below_set ?_ GE273.out) | exact HB.out)⟩

/-! ### diapasonref27_Same: function 24 -/
def diapasonref27_Same.l0 : Nat → List (S66) → List (S66) → Int → Option (Bool)
 | 0, _, _, _ => none
 | k + 1, x0, x1, x5 => if x5 < (x0.length : Int) then (if 0 ≤ x5 then (if x5 < (x1.length : Int) then (if ((rd_T66 x0 x5).f1) = ((rd_T66 x1 x5).f1) then (if (strOfNums ((rd_T66 x0 x5).f0)).toList = (strOfNums ((rd_T66 x1 x5).f0)).toList then (diapasonref27_Same.l0 k x0 x1 (wrap64 (x5 + 1))) else (some false)) else (some false)) else (none)) else (none)) else (some true)
def diapasonref27_Same.f (k : Nat) (l0 : List (S66)) (l1 : List (S66)) : Option (Bool) := if (l0.length : Int) = (l1.length : Int) then (diapasonref27_Same.l0 k l0 l1 0) else (some false)
theorem diapasonref27_Same.mono_l : ∀ k, (∀ y0 y1 y2, LeO (diapasonref27_Same.l0 k y0 y1 y2) (diapasonref27_Same.l0 (k + 1) y0 y1 y2))
 | 0 => fun _ _ _ r h => by simp [diapasonref27_Same.l0] at h
 | k + 1 => by
  have ih0:=diapasonref27_Same.mono_l k
  ·intro y0 y1 y2
   unfold diapasonref27_Same.l0
   repeat' first
   | (with_reducible exact ih0 _ _ _)
   | (with_reducible exact LeO.refl _)
   | (with_reducible exact LeO.none _)
   | (with_reducible refine LeO.ite ?_ ?_)
   | (with_reducible refine LeO.bind ?_ (fun _ => ?_))
   | exact ih0 _ _ _
   | exact LeO.none _
   | refine LeO.ite ?_ ?_
   | refine LeO.bind ?_ (fun _ => ?_)
theorem diapasonref27_Same.mono : ∀ a0 a1 k, LeO (diapasonref27_Same.f k a0 a1) (diapasonref27_Same.f (k + 1) a0 a1) := by
 intro a0 a1 k;have ih0:=diapasonref27_Same.mono_l k
 unfold diapasonref27_Same.f
 repeat' first
   | (with_reducible exact ih0 _ _ _)
   | (with_reducible exact LeO.refl _)
   | (with_reducible exact LeO.none _)
   | (with_reducible refine LeO.ite ?_ ?_)
   | (with_reducible refine LeO.bind ?_ (fun _ => ?_))
   | exact ih0 _ _ _
   | exact LeO.none _
   | refine LeO.ite ?_ ?_
   | refine LeO.bind ?_ (fun _ => ?_)
set_option maxHeartbeats 8000000 in
set_option maxRecDepth 100000 in
theorem diapasonref27_Same.calls (k : Nat) (A0 : Option Addr) (c0 : Nat) (l0 : List (S66)) (A1 : Option Addr) (c1 : Nat) (l1 : List (S66)) (r : Bool) (w : World) (hr0 : Kd.C k66 w A0 l0.length l0) (hc0 : l0.length ≤ c0) (hr1 : Kd.C k66 w A1 l1.length l1) (hc1 : l1.length ≤ c1) (h : diapasonref27_Same.f k l0 l1 = some r) :
  Calls Tryd.prog 24 #[.slice A0 l0.length c0, .slice A1 l1.length c1] w fun e w' => e = .returned (.bool r) ∧ Drawn0 w w':=by
 have HR0:=am_ hr0;have HC0:=am_ hc0;clear hr0 hc0;have HR1:=am_ hr1;have HC1:=am_ hc1;clear hr1 hc1;have H : (if (l0.length : Int) = (l1.length : Int) then (diapasonref27_Same.l0 k l0 l1 0) else (some false)) = some r:=h;clear h
 by_cases c3 : (l0.length : Int) = (l1.length : Int)
 ·rw [if_pos c3] at H;have c3b0 : ((l0.length : Int) == (l1.length : Int)) = true:=beq_iff_eq.mpr c3;have c3b1 : ((l0.length : Int) != (l1.length : Int)) = false:=bne_eq_false_iff_eq.mpr c3;have c3b2 : (l0.length == l1.length) = true:=by first | simpa using c3 | (simp at c3 ⊢;omega)
  clear c3;have H':=am_ H;clear H;go_enter Tryd.func24, Tryd.ntmps24
  go_wp2
  repeat (go_quiet (fail);try go_wp2)
  go_loopg [5] k (fun kq v5 w' => ∃ (x5_1 : Int), v5 = .int .i64 x5_1 ∧ Aside0 (diapasonref27_Same.l0 kq l0 l1 x5_1 = some r) ∧ Aside0 (kq ≤ k) ∧ Drawn0 w w')
  case atStart => exact ⟨(0), (by first | rfl | (simp;done) | (simp [*];done)), H', ⟨Nat.le_refl _⟩, by repeat (first | exact Drawn0.refl _ | apply Drawn0.step)⟩
  case round =>
   clear H';(try clear c1);(try clear c2);(try clear p2);(try clear c3);(try clear c3b0);(try clear c3b1);(try clear c3b2);obtain ⟨x5_1, rfl, HA, HK1, ⟨m1, rfl⟩⟩:=hrel
   cases gk with
   | zero => exact absurd HA.out (by simp [diapasonref27_Same.l0])
   | succ k1 =>
    have H:=HA.out;clear HA;simp only [diapasonref27_Same.l0] at H
    by_cases c4 : x5_1 < (l0.length : Int)
    ·rw [if_pos c4] at H;have c4b0 : decide (x5_1 < (l0.length : Int)) = true:=decide_eq_true c4;clear c4
     by_cases c5 : 0 ≤ x5_1
     ·rw [if_pos c5] at H;have c5b0 : decide (0 ≤ x5_1) = true:=decide_eq_true c5;clear c5
      by_cases c6 : x5_1 < (l1.length : Int)
      ·rw [if_pos c6] at H;have c6b0 : decide (x5_1 < (l1.length : Int)) = true:=decide_eq_true c6;clear c6
       by_cases c7 : ((rd_T66 l0 x5_1).f1) = ((rd_T66 l1 x5_1).f1)
       ·rw [if_pos c7] at H;have c7b0 : (((rd_T66 l0 x5_1).f1) == ((rd_T66 l1 x5_1).f1)) = true:=beq_iff_eq.mpr c7;have c7b1 : (((rd_T66 l0 x5_1).f1) != ((rd_T66 l1 x5_1).f1)) = false:=bne_eq_false_iff_eq.mpr c7;clear c7
        by_cases c8 : (strOfNums ((rd_T66 l0 x5_1).f0)).toList = (strOfNums ((rd_T66 l1 x5_1).f0)).toList
        ·rw [if_pos c8] at H;have c8b0 : ((strOfNums ((rd_T66 l0 x5_1).f0)).toList == (strOfNums ((rd_T66 l1 x5_1).f0)).toList) = true:=beq_iff_eq.mpr c8;have c8b1 : ((strOfNums ((rd_T66 l0 x5_1).f0)).toList != (strOfNums ((rd_T66 l1 x5_1).f0)).toList) = false:=bne_eq_false_iff_eq.mpr c8;clear c8;have H':=am_ H;clear H;have p276 : 0 ≤ (x5_1 : Int):=of_decide_eq_true (by first | (with_reducible assumption) | assumption);have q276 : x5_1 < (l0.length : Int):=of_decide_eq_true (by first | (with_reducible assumption) | assumption);obtain ⟨ad276, A276_0, c276_0, e276, hx276_0, hx276_1, hl276_0, hi276_0⟩:=at_T66 HR0.out x5_1 p276 q276
         cases e276
         have HR276_0:=am_ hi276_0;have HC276_0:=am_ hl276_0;clear hi276_0 hl276_0;replace p276:=eq_true p276;replace q276:=eq_true q276;have p277 : 0 ≤ (x5_1 : Int):=of_decide_eq_true (by first | (with_reducible assumption) | assumption);have q277 : x5_1 < (l1.length : Int):=of_decide_eq_true (by first | (with_reducible assumption) | assumption);obtain ⟨ad277, A277_0, c277_0, e277, hx277_0, hx277_1, hl277_0, hi277_0⟩:=at_T66 HR1.out x5_1 p277 q277
         cases e277
         have HR277_0:=am_ hi277_0;have HC277_0:=am_ hl277_0;clear hi277_0 hl277_0;replace p277:=eq_true p277;replace q277:=eq_true q277;have p278 : 0 ≤ (x5_1 : Int):=of_decide_eq_true (by first | (with_reducible assumption) | assumption);have q278 : x5_1 < (l0.length : Int):=of_decide_eq_true (by first | (with_reducible assumption) | assumption);obtain ⟨ad278, A278_0, c278_0, e278, hx278_0, hx278_1, hl278_0, hi278_0⟩:=at_T66 HR0.out x5_1 p278 q278;obtain rfl : ad276 = ad278:=(by injection e278)
         have HR278_0:=am_ hi278_0;have HC278_0:=am_ hl278_0;clear hi278_0 hl278_0;replace p278:=eq_true p278;replace q278:=eq_true q278;have ea_:=Option.some.inj (hx276_0.symm.trans hx278_0);injection ea_ with ea_ en_ ec_;subst ea_;subst ec_;clear en_;have hcv9:=Kd.C_string (P:=Tryd.prog) (A:=A276_0) (c:=c276_0) Tryd.underlying64 Tryd.underlying5 Tryd.underlying9 HR278_0.out;have hcv9n:=fun m_ : Nat => Kd.C_string (P:=Tryd.prog) (A:=A276_0) (c:=c276_0) Tryd.underlying64 Tryd.underlying5 Tryd.underlying9 (Kd.C_drewN HR278_0.out m_)
         have p279 : 0 ≤ (x5_1 : Int):=of_decide_eq_true (by first | (with_reducible assumption) | assumption);have q279 : x5_1 < (l1.length : Int):=of_decide_eq_true (by first | (with_reducible assumption) | assumption);obtain ⟨ad279, A279_0, c279_0, e279, hx279_0, hx279_1, hl279_0, hi279_0⟩:=at_T66 HR1.out x5_1 p279 q279;obtain rfl : ad277 = ad279:=(by injection e279)
         have HR279_0:=am_ hi279_0;have HC279_0:=am_ hl279_0;clear hi279_0 hl279_0;replace p279:=eq_true p279;replace q279:=eq_true q279;have ea_:=Option.some.inj (hx277_0.symm.trans hx279_0);injection ea_ with ea_ en_ ec_;subst ea_;subst ec_;clear en_;have hcv10:=Kd.C_string (P:=Tryd.prog) (A:=A277_0) (c:=c277_0) Tryd.underlying64 Tryd.underlying5 Tryd.underlying9 HR279_0.out;have hcv10n:=fun m_ : Nat => Kd.C_string (P:=Tryd.prog) (A:=A277_0) (c:=c277_0) Tryd.underlying64 Tryd.underlying5 Tryd.underlying9 (Kd.C_drewN HR279_0.out m_)
         go_wp2
         repeat (go_quiet (fail);try go_wp2)
         go_roundg k1
         case measure => have:=HK1.out;omega
         case rel => exact ⟨(wrap64 (x5_1 + 1)), (by first | rfl | (simp;done) | (simp [*];done)), H', ⟨by have:=HK1.out;omega⟩, by repeat (first | exact Drawn0.refl _ | apply Drawn0.step)⟩
        ·rw [if_neg c8] at H;have c8b0 : ((strOfNums ((rd_T66 l0 x5_1).f0)).toList == (strOfNums ((rd_T66 l1 x5_1).f0)).toList) = false:=beq_eq_false_iff_ne.mpr c8;have c8b1 : ((strOfNums ((rd_T66 l0 x5_1).f0)).toList != (strOfNums ((rd_T66 l1 x5_1).f0)).toList) = true:=bne_iff_ne.mpr c8;obtain rfl:=Option.some.inj H;have p276 : 0 ≤ (x5_1 : Int):=of_decide_eq_true (by first | (with_reducible assumption) | assumption);have q276 : x5_1 < (l0.length : Int):=of_decide_eq_true (by first | (with_reducible assumption) | assumption);obtain ⟨ad276, A276_0, c276_0, e276, hx276_0, hx276_1, hl276_0, hi276_0⟩:=at_T66 HR0.out x5_1 p276 q276
         cases e276
         have HR276_0:=am_ hi276_0;have HC276_0:=am_ hl276_0;clear hi276_0 hl276_0;replace p276:=eq_true p276;replace q276:=eq_true q276;have p277 : 0 ≤ (x5_1 : Int):=of_decide_eq_true (by first | (with_reducible assumption) | assumption);have q277 : x5_1 < (l1.length : Int):=of_decide_eq_true (by first | (with_reducible assumption) | assumption);obtain ⟨ad277, A277_0, c277_0, e277, hx277_0, hx277_1, hl277_0, hi277_0⟩:=at_T66 HR1.out x5_1 p277 q277
         cases e277
         have HR277_0:=am_ hi277_0;have HC277_0:=am_ hl277_0;clear hi277_0 hl277_0;replace p277:=eq_true p277;replace q277:=eq_true q277;have p278 : 0 ≤ (x5_1 : Int):=of_decide_eq_true (by first | (with_reducible assumption) | assumption);have q278 : x5_1 < (l0.length : Int):=of_decide_eq_true (by first | (with_reducible assumption) | assumption);obtain ⟨ad278, A278_0, c278_0, e278, hx278_0, hx278_1, hl278_0, hi278_0⟩:=at_T66 HR0.out x5_1 p278 q278;obtain rfl : ad276 = ad278:=(by injection e278)
         have HR278_0:=am_ hi278_0;have HC278_0:=am_ hl278_0;clear hi278_0 hl278_0;replace p278:=eq_true p278;replace q278:=eq_true q278;have ea_:=Option.some.inj (hx276_0.symm.trans hx278_0);injection ea_ with ea_ en_ ec_;subst ea_;subst ec_;clear en_;have hcv11:=Kd.C_string (P:=Tryd.prog) (A:=A276_0) (c:=c276_0) Tryd.underlying64 Tryd.underlying5 Tryd.underlying9 HR278_0.out;have hcv11n:=fun m_ : Nat => Kd.C_string (P:=Tryd.prog) (A:=A276_0) (c:=c276_0) Tryd.underlying64 Tryd.underlying5 Tryd.underlying9 (Kd.C_drewN HR278_0.out m_)
         have p279 : 0 ≤ (x5_1 : Int):=of_decide_eq_true (by first | (with_reducible assumption) | assumption);have q279 : x5_1 < (l1.length : Int):=of_decide_eq_true (by first | (with_reducible assumption) | assumption);obtain ⟨ad279, A279_0, c279_0, e279, hx279_0, hx279_1, hl279_0, hi279_0⟩:=at_T66 HR1.out x5_1 p279 q279;obtain rfl : ad277 = ad279:=(by injection e279)
         have HR279_0:=am_ hi279_0;have HC279_0:=am_ hl279_0;clear hi279_0 hl279_0;replace p279:=eq_true p279;replace q279:=eq_true q279;have ea_:=Option.some.inj (hx277_0.symm.trans hx279_0);injection ea_ with ea_ en_ ec_;subst ea_;subst ec_;clear en_;have hcv12:=Kd.C_string (P:=Tryd.prog) (A:=A277_0) (c:=c277_0) Tryd.underlying64 Tryd.underlying5 Tryd.underlying9 HR279_0.out;have hcv12n:=fun m_ : Nat => Kd.C_string (P:=Tryd.prog) (A:=A277_0) (c:=c277_0) Tryd.underlying64 Tryd.underlying5 Tryd.underlying9 (Kd.C_drewN HR279_0.out m_)
         go_wp2
         repeat (go_quiet (fail);try go_wp2)
         go_ret
         exact ⟨by first | rfl | (simp;done) | (simp [*];done), by repeat (first | exact Drawn0.refl _ | apply Drawn0.step)⟩
       ·rw [if_neg c7] at H;have c7b0 : (((rd_T66 l0 x5_1).f1) == ((rd_T66 l1 x5_1).f1)) = false:=beq_eq_false_iff_ne.mpr c7;have c7b1 : (((rd_T66 l0 x5_1).f1) != ((rd_T66 l1 x5_1).f1)) = true:=bne_iff_ne.mpr c7;obtain rfl:=Option.some.inj H;have p276 : 0 ≤ (x5_1 : Int):=of_decide_eq_true (by first | (with_reducible assumption) | assumption);have q276 : x5_1 < (l0.length : Int):=of_decide_eq_true (by first | (with_reducible assumption) | assumption);obtain ⟨ad276, A276_0, c276_0, e276, hx276_0, hx276_1, hl276_0, hi276_0⟩:=at_T66 HR0.out x5_1 p276 q276
        cases e276
        have HR276_0:=am_ hi276_0;have HC276_0:=am_ hl276_0;clear hi276_0 hl276_0;replace p276:=eq_true p276;replace q276:=eq_true q276;have p277 : 0 ≤ (x5_1 : Int):=of_decide_eq_true (by first | (with_reducible assumption) | assumption);have q277 : x5_1 < (l1.length : Int):=of_decide_eq_true (by first | (with_reducible assumption) | assumption);obtain ⟨ad277, A277_0, c277_0, e277, hx277_0, hx277_1, hl277_0, hi277_0⟩:=at_T66 HR1.out x5_1 p277 q277
        cases e277
        have HR277_0:=am_ hi277_0;have HC277_0:=am_ hl277_0;clear hi277_0 hl277_0;replace p277:=eq_true p277;replace q277:=eq_true q277
        go_wp2
        repeat (go_quiet (fail);try go_wp2)
        go_ret
        exact ⟨by first | rfl | (simp;done) | (simp [*];done), by repeat (first | exact Drawn0.refl _ | apply Drawn0.step)⟩
      ·rw [if_neg c6] at H;exact absurd H (by simp)
     ·rw [if_neg c5] at H;exact absurd H (by simp)
    ·rw [if_neg c4] at H;have c4b0 : decide (x5_1 < (l0.length : Int)) = false:=decide_eq_false c4;clear c4;obtain rfl:=Option.some.inj H
     go_wp2
     repeat (go_quiet (fail);try go_wp2)
     go_ret
     exact ⟨by first | rfl | (simp;done) | (simp [*];done), by repeat (first | exact Drawn0.refl _ | apply Drawn0.step)⟩
 ·rw [if_neg c3] at H;have c3b0 : ((l0.length : Int) == (l1.length : Int)) = false:=beq_eq_false_iff_ne.mpr c3;have c3b1 : ((l0.length : Int) != (l1.length : Int)) = true:=bne_iff_ne.mpr c3;have c3b2 : (l0.length == l1.length) = false:=by first | simpa using c3 | (simp at c3 ⊢;omega)
  obtain rfl:=Option.some.inj H;go_enter Tryd.func24, Tryd.ntmps24
  go_wp2
  repeat (go_quiet (fail);try go_wp2)
  go_ret
  exact ⟨by first | rfl | (simp;done) | (simp [*];done), by repeat (first | exact Drawn0.refl _ | apply Drawn0.step)⟩

end Go.Proofs.YtfcidgnbocijdaaDoor.PCertMakes
