/- Of any want, any choice, any nodes (as the statement cuts them) the program's check and the document's answer the same; the nodes stay. Without a condition. -/
import Derived.Test.YtfcidgnbocijdaaDoorCtKCertLooks
import Derived.Test.YtfcidgnbocijdaaDoorCtSCertLooks
set_option linter.unusedVariables false
set_option linter.unusedSimpArgs false
namespace Go.Proofs.YtfcidgnbocijdaaDoor.Pure
open Go.RowKit Go.Proofs.YtfcidgnbocijdaaDoorW.PrintWords Go.Proofs.YtfcidgnbocijdaaDoor.Pl Go.Proofs.YtfcidgnbocijdaaDoor.Rg Go.Proofs.YtfcidgnbocijdaaDoor.Ct Go.Proofs.YtfcidgnbocijdaaDoor.CtL Go.Proofs.YtfcidgnbocijdaaDoor.RgWCertLooks Go.Proofs.YtfcidgnbocijdaaDoor.CtMCertLooks Go.Proofs.YtfcidgnbocijdaaDoor.CtKCertLooks Go.Proofs.YtfcidgnbocijdaaDoor.CtSCertLooks Go.Proofs.YtfcidgnbocijdaaDoor.PCertMakes Go.Proofs.YtfcidgnbocijdaaDoor.PCertLooks
theorem at66 (l : List S66) (i : Nat) (hi : i < l.length) : rd_T66 l (i : Int) ∈ l := by
  unfold rd_T66
  rw [Int.toNat_natCast, List.getD_eq_getElem?_getD, List.getElem?_eq_getElem hi]
  exact List.getElem_mem hi
section
variable {L : List Int} {Bs : List (List Int)} {Tk : List Int} {W : Int}
def St (l : List S66) (i : Nat) (T : List Int) (b : Bool) : Prop := (i = 0 ∧ T = [] ∧ b = true) ∨ (∃ j r, i = j + 1 ∧ Last (rd_T66 l (j : Int)).f0 r ∧ T = after (rd_T66 l (j : Int)).f0 r ∧ b = decide (0 ≤ r))
theorem follows_at {l : List S66} {i : Nat} {T : List Int} {b : Bool} (hl : l.length ≤ 65536) (hle : ∀ x ∈ l, x.f0.length < 140737488355328) (hi : i < l.length) (hs : St l i T b) : Ev (fun k => diapasonref27_follows.f k l (i : Int)) (b && beg (rd_T66 l (i : Int)).f0 T) := by
  have h1 := hle _ (at66 l i hi)
  rcases hs with ⟨rfl, rfl, rfl⟩ | ⟨j, r, rfl, hr, rfl, rfl⟩
  · exact fol_first l (by omega) (by have : ((0 : Nat) : Int) = 0 := rfl; rw [this] at h1; omega)
  · have h2 := hle _ (at66 l j (by omega))
    exact fol_next l j hi (by omega) h2 (by omega) hr
theorem chk_loop (h : May L Bs Tk W) (m : Int) (l : List S66) (hl : l.length ≤ 65536) (hle : ∀ x ∈ l, x.f0.length < 140737488355328) (c0 : List Int) (c2 : Int) : ∀ (d i : Nat) (T : List Int) (b : Bool), l.length - i = d → i ≤ l.length → St l i T b → T.all ok12 = true →
    ∃ res, Ev (fun k => cert_Check.l0 k l m T b l (l.length : Int) (i : Int) L Bs Tk W) res ∧ Ev (fun k => diapasonref27_Check.l0 k l (i : Int) L Bs Tk W c0 m c2) res := by
  intro d
  induction d with
  | zero =>
    intro i T b hd hi hs hT
    have he : i = l.length := by omega
    subst he
    rcases hs with ⟨h0, rfl, rfl⟩ | ⟨j, r, h1, hr, rfl, rfl⟩
    · refine ⟨((l.length : Int), 270), succ ?_, succ ?_⟩
      · simp only [cert_Check.l0]
        exact neg (by omega) (pos (by trivial) (ret rfl))
      · simp only [diapasonref27_Check.l0]
        exact neg (by omega) (pos (by omega) (ret rfl))
    · have h2 := hle _ (at66 l j (by omega))
      obtain ⟨r', hr', he⟩ := last_ref (rd_T66 l (j : Int)).f0 (by omega)
      obtain rfl := hr'.uniq hr
      have hw : wrap64 ((l.length : Int) - 1) = (j : Int) := by rw [wrapI (by omega) (by omega)]; omega
      by_cases hc : 0 ≤ r'
      · refine ⟨((l.length : Int), 270), succ ?_, succ ?_⟩
        · simp only [cert_Check.l0]
          exact neg (by omega) (pos (decide_eq_true hc) (ret rfl))
        · simp only [diapasonref27_Check.l0]
          rw [hw]
          exact neg (by omega) (neg (by omega) (pos (by omega) (pos (by omega) (bnd he (pos hc (ret rfl))))))
      · refine ⟨(0, 0), succ ?_, succ ?_⟩
        · simp only [cert_Check.l0]
          exact neg (by omega) (neg (by rw [decide_eq_false hc]; decide) (ret rfl))
        · simp only [diapasonref27_Check.l0]
          rw [hw]
          exact neg (by omega) (neg (by omega) (pos (by omega) (pos (by omega) (bnd he (neg hc (ret rfl))))))
  | succ d ih =>
    intro i T b hd hi hs hT
    have hx := hle _ (at66 l i (by omega))
    have hf := follows_at hl hle (by omega) hs
    have hrs := ref_shut h m (rd_T66 l (i : Int)).f0 (rd_T66 l (i : Int)).f1 (by omega)
    have hps := prog_shut h m (rd_T66 l (i : Int)).f0 (rd_T66 l (i : Int)).f1 (by omega)
    have hn := next_at (rd_T66 l (i : Int)).f0 hx
    have ref_no : isShut L Bs Tk W m (rd_T66 l (i : Int)).f0 (rd_T66 l (i : Int)).f1 = false ∨ (b && beg (rd_T66 l (i : Int)).f0 T) = false → Ev (fun k => diapasonref27_Check.l0 k l (i : Int) L Bs Tk W c0 m c2) ((i : Int), 270) := by
      intro hno
      refine succ ?_
      simp only [diapasonref27_Check.l0]
      refine pos (by omega) (pos (by omega) (bnd hrs (alt (fun hc => ?_) (fun _ => ret rfl))))
      refine bnd hf (neg ?_ (ret rfl))
      rcases hno with hno | hno
      · rw [hno] at hc; cases hc
      · rw [hno]; decide
    cases b with
    | false =>
      refine ⟨((i : Int), 270), succ ?_, ref_no (.inr rfl)⟩
      simp only [cert_Check.l0]
      exact pos (by omega) (pos (by omega) (pos (by omega) (neg (by decide) (ret rfl))))
    | true =>
      cases hsh : isShut L Bs Tk W m (rd_T66 l (i : Int)).f0 (rd_T66 l (i : Int)).f1 with
      | false =>
        rw [hsh] at hps
        refine ⟨((i : Int), 270), succ ?_, ref_no (.inl hsh)⟩
        simp only [cert_Check.l0]
        exact pos (by omega) (pos (by omega) (pos (by omega) (pos (by trivial) (bnd hps (neg (by decide) (ret rfl))))))
      | true =>
        rw [hsh] at hps hrs
        have ha : (rd_T66 l (i : Int)).f0.all ok12 = true := by
          unfold isShut at hsh
          simp only [Bool.and_eq_true] at hsh
          exact hsh.2.1
        have hb := beg_prog ha hT
        cases hbg : beg (rd_T66 l (i : Int)).f0 T with
        | false =>
          refine ⟨((i : Int), 270), succ ?_, ref_no (.inr (by rw [hbg]; rfl))⟩
          simp only [cert_Check.l0, hb, hbg]
          exact pos (by omega) (pos (by omega) (pos (by omega) (pos (by trivial) (bnd hps (pos (by trivial) (some_bnd (neg (by decide) (ret rfl))))))))
        | true =>
          obtain ⟨r, hr, he⟩ := hn
          obtain ⟨res, h1, h2⟩ := ih (i + 1) (after (rd_T66 l (i : Int)).f0 r) (decide (0 ≤ r)) (by omega) (by omega) (.inr ⟨i, r, rfl, hr, rfl, rfl⟩) (after_ok ha r)
          refine ⟨res, succ ?_, succ ?_⟩
          · simp only [cert_Check.l0, hb, hbg]
            rw [wrapS (by omega)]
            exact pos (by omega) (pos (by omega) (pos (by omega) (pos (by trivial) (bnd hps (pos (by trivial) (some_bnd (pos (by trivial) (bnd he h1))))))))
          · simp only [diapasonref27_Check.l0]
            rw [wrapS (by omega)]
            rw [hbg] at hf
            exact pos (by omega) (pos (by omega) (bnd hrs (pos (by trivial) (bnd hf (pos (by trivial) h2)))))
theorem check_both (hL : L.length < 9223372036854775807) (hTk : Tk.length < 9223372036854775807) (hB : Bs.length < 9223372036854775807) (hr : ∀ r ∈ Bs, r.length < 9223372036854775807) (c0 : List Int) (hc0 : c0.length < 9223372036854775807) (m c2 : Int) (l : List S66) (hle : ∀ x ∈ l, x.f0.length < 140737488355328) (hll : l.length < 9223372036854775807) :
    ∃ res, Ev (fun k => cert_Check.f k L Bs Tk W c0 m c2 l) res ∧ Ev (fun k => diapasonref27_Check.f k L Bs Tk W c0 m c2 l) res := by
  unfold cert_Check.f diapasonref27_Check.f
  have hck := check L Bs Tk W hL hTk hB hr
  have hmay := ref_may L Bs Tk W hL hB hr
  by_cases h : may L Bs Tk W = true
  · have hM := may_iff.1 h
    rw [if_pos h] at hck
    have hms := misses L Bs Tk W c0 hL hTk hB hr hc0
    have hri := ref_rises L Bs Tk W c0 hc0
    have pj : ∀ (m' : Int), Ev (fun k => cert_Check.j0 k l m' true L Bs Tk W) (-1, 270) := fun m' => by
      refine succ ?_
      simp only [cert_Check.j0]
      exact pos (by trivial) (ret rfl)
    have rj : Ev (fun k => diapasonref27_Check.j0 k l true L Bs Tk W c0 m c2) (-1, 270) := by
      refine succ ?_
      simp only [diapasonref27_Check.j0]
      exact pos (by trivial) (ret rfl)
    by_cases hR : rises Bs.length c0 = true
    · have hch := ref_choice hM (l := c0) (by have := rises_len hR; have := hM.b16; omega) (rises_mem hR)
      rw [told, if_pos ⟨h, hR⟩] at hms
      by_cases e1 : miss L Bs c0 = m
      · by_cases e2 : wnd Tk c0 = c2
        · by_cases e3 : c2 > W
          · refine ⟨(-1, 270), bnd hck (pos (by trivial) (bnd hms (pos (by trivial) (pos e1 (pos e2 ?_))))), bnd hmay (pos h (bnd hri (pos hR (bnd hch (pos e1 (pos e2 ?_))))))⟩
            · rw [e2, decide_eq_true e3]; exact pj _
            · rw [decide_eq_true e3]; exact rj
          · by_cases e4 : (l.length : Int) > 65536
            · refine ⟨(-1, 3), bnd hck (pos (by trivial) (bnd hms (pos (by trivial) (pos e1 (pos e2 ?_))))), bnd hmay (pos h (bnd hri (pos hR (bnd hch (pos e1 (pos e2 ?_))))))⟩
              · rw [e2, decide_eq_false e3]
                refine succ ?_
                simp only [cert_Check.j0]
                exact neg (by decide) (pos e4 (ret rfl))
              · rw [decide_eq_false e3]
                refine succ ?_
                simp only [diapasonref27_Check.j0]
                exact neg (by decide) (pos e4 (ret rfl))
            · obtain ⟨res, h1, h2⟩ := chk_loop hM m l (by omega) hle c0 c2 _ 0 [] true rfl (by omega) (.inl ⟨rfl, rfl, rfl⟩) rfl
              refine ⟨res, bnd hck (pos (by trivial) (bnd hms (pos (by trivial) (pos e1 (pos e2 ?_))))), bnd hmay (pos h (bnd hri (pos hR (bnd hch (pos e1 (pos e2 ?_))))))⟩
              · rw [e2, e1, decide_eq_false e3]
                refine succ ?_
                simp only [cert_Check.j0]
                exact neg (by decide) (neg e4 h1)
              · rw [decide_eq_false e3]
                refine succ ?_
                simp only [diapasonref27_Check.j0]
                exact neg (by decide) (neg e4 h2)
        · exact ⟨(-1, 270), bnd hck (pos (by trivial) (bnd hms (pos (by trivial) (pos e1 (neg e2 (pj _)))))), bnd hmay (pos h (bnd hri (pos hR (bnd hch (pos e1 (neg e2 rj))))))⟩
      · exact ⟨(-1, 270), bnd hck (pos (by trivial) (bnd hms (pos (by trivial) (neg e1 (pj _))))), bnd hmay (pos h (bnd hri (pos hR (bnd hch (neg e1 rj)))))⟩
    · rw [told, if_neg (fun hc => hR hc.2)] at hms
      exact ⟨(-1, 270), bnd hck (pos (by trivial) (bnd hms (neg (by decide) (pj _)))), bnd hmay (pos h (bnd hri (neg hR (ret rfl))))⟩
  · rw [if_neg h] at hck
    exact ⟨(-1, 2), bnd hck (neg (by decide) (ret rfl)), bnd hmay (neg h (ret rfl))⟩
end
def cutN (x : S66) : S66 := ⟨x.f0.take 20, x.f1⟩
theorem nodes_loop (l : List S66) (hl : l.length < 9223372036854775807) (hle : ∀ x ∈ l, x.f0.length < 9223372036854775807) : ∀ (d i : Nat) (out : List S66), min l.length 600 - i = d → i ≤ min l.length 600 → out.length = i →
    Ev (fun k => diapasonlaw27_nodes.l0 k l out (i : Int)) (out ++ ((l.take 600).drop i).map cutN) := by
  intro d
  induction d with
  | zero =>
    intro i out hd hi ho
    refine succ ?_
    simp only [diapasonlaw27_nodes.l0]
    rw [List.drop_of_length_le (by rw [List.length_take]; omega)]
    refine alt (fun h => neg (by omega) (ret (by simp))) (fun h => ret (by simp))
  | succ d ih =>
    intro i out hd hi ho
    have hlt : i < l.length := by omega
    have e : (l.take 600).drop i = rd_T66 l (i : Int) :: (l.take 600).drop (i + 1) := by
      rw [List.drop_eq_getElem_cons (by rw [List.length_take]; omega), List.getElem_take]
      unfold rd_T66
      rw [Int.toNat_natCast, List.getD_eq_getElem?_getD, List.getElem?_eq_getElem hlt]; rfl
    have hx := hle _ (at66 l i hlt)
    have hm : mn ((rd_T66 l (i : Int)).f0.length : Int) 20 = ((min (rd_T66 l (i : Int)).f0.length 20 : Nat) : Int) := by unfold mn; split <;> omega
    have hn := ih (i + 1) (out ++ [cutN (rd_T66 l (i : Int))]) (by omega) (by omega) (by simp; omega)
    refine succ ?_
    simp only [diapasonlaw27_nodes.l0]
    rw [hm, wrapS (by omega), Int.toNat_natCast, show (rd_T66 l (i : Int)).f0.take (min (rd_T66 l (i : Int)).f0.length 20) = (rd_T66 l (i : Int)).f0.take 20 by rw [List.take_eq_take_iff]; omega]
    have ht : ((rd_T66 l (i : Int)).f0.take 20).length ≤ 20 := by rw [List.length_take]; omega
    refine pos (by omega) (pos (by omega) (pos (by omega) (pos (by omega) (pos (by omega) (pos (by simp only [List.length_nil]; omega) (pos (by omega) (cast_eq hn ?_)))))))
    rw [e, List.map_cons, List.append_assoc]; rfl
theorem nodes (l : List S66) (hl : l.length < 9223372036854775807) (hle : ∀ x ∈ l, x.f0.length < 9223372036854775807) : Ev (fun k => diapasonlaw27_nodes.f k l) ((l.take 600).map cutN) := by
  unfold diapasonlaw27_nodes.f
  have := nodes_loop l hl hle _ 0 [] rfl (by omega) rfl
  simpa using this
theorem nodes_le {l : List S66} : ∀ x ∈ (l.take 600).map cutN, x.f0.length ≤ 20 := by
  intro x hx
  obtain ⟨y, _, rfl⟩ := List.mem_map.1 hx
  show (y.f0.take 20).length ≤ 20
  rw [List.length_take]; omega
theorem CertLooks : diapasonlaw27_CertLooks.Pure := by
  intro L Bs0 Tk0 W c0 m c2 l h1 h2 h3 h4 h5 h6 h7 h8 h9 h10 h11 h12 h13 h14 h15 h16 h17 h18
  refine Ev.rounds (r := true) ?_
  unfold diapasonlaw27_CertLooks.f
  have htl : (Tk0.take (diapasonlaw27_cut.n Bs0.length)).length ≤ Tk0.length := by rw [List.length_take]; omega
  have hbl : (Bs0.take (diapasonlaw27_cut.n Bs0.length)).length ≤ Bs0.length := by rw [List.length_take]; omega
  have hrs : ∀ r ∈ Bs0.take (diapasonlaw27_cut.n Bs0.length), r.length < 9223372036854775807 := fun r hr => by
    have := (h6 r (List.mem_of_mem_take hr)).2.1; omega
  have hle := nodes_le (l := l)
  have hlen : ((l.take 600).map cutN).length ≤ 600 := by rw [List.length_map, List.length_take]; omega
  refine bnd (nodes l (by omega) (fun x hx => by have := (h18 x hx).2.1; omega)) ?_
  generalize (l.take 600).map cutN = p at *
  obtain ⟨res, e1, e2⟩ := check_both (L := L) (Bs := Bs0.take (diapasonlaw27_cut.n Bs0.length)) (Tk := Tk0.take (diapasonlaw27_cut.n Bs0.length)) (W := W) (by omega) (by omega) (by omega) hrs c0 (by omega) m c2 p (fun x hx => by have := hle x hx; omega) (by omega)
  exact bnd e1 (bnd e2 (bnd (same27 p (by omega)) (pos ⟨rfl, rfl⟩ (ret rfl))))
end Go.Proofs.YtfcidgnbocijdaaDoor.Pure
