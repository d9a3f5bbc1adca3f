/- Records come back from their bytes; parted between events the bytes are parted; cut by one byte they are none; moved up and down they are what they were. For all touches that the statement makes into a record. -/
import Derived.Test.YtfcomoledfdojaaRecBRecordBack
import Derived.Test.YtfcomoledfdojaaRecTRecordBack
set_option linter.unusedVariables false
set_option linter.unusedSimpArgs false
namespace Go.Proofs.Ytfcomoledfdojaa.Pure
open Go.RowKit Go.Proofs.YtfcomoledfdojaaW.PrintWords Go.Proofs.YtfcomoledfdojaaW.PrintMore Go.Proofs.Ytfcomoledfdojaa.Pl Go.Proofs.Ytfcomoledfdojaa.RecRecordBack Go.Proofs.Ytfcomoledfdojaa.PRecordBack
theorem works : Ev (fun k => diapasonlaw29_works.f k) true := Ev.of diapasonlaw29_works.mono (k := 100) (by decide +kernel)
theorem wfi8 {x : Int} (h : (Lit.int .i8 x).wf = true) : -128 ≤ x ∧ x ≤ 127 := by
  have hmin : IntKind.i8.min = -128 := rfl
  have hmax : IntKind.i8.max = 127 := rfl
  simp only [Lit.wf, Bool.and_eq_true, decide_eq_true_eq] at h
  omega
theorem extract_str (xs : List Int) (n : Nat) : (strOfNums xs).extract 0 n = strOfNums (xs.take n) := by
  apply ByteArray.ext
  apply Array.ext'
  rw [ByteArray.data_extract, strOfNums_data, List.map_take, ← strOfNums_data, Array.toList_extract]
  simp
theorem j3_ok (r : List E) (by_ : Int) (hb : -128 ≤ by_ ∧ by_ ≤ 127) (hl : r.length ≤ 300) (hg : RecOk r 0 []) : Ev (fun k => diapasonlaw29_RecordBack.j3 k by_ r (moved by_ r) ((r.length : Int) - ((moved by_ r).length : Int)) false) true := by
  have hm := moved_len by_ r
  refine succ ?_
  simp only [diapasonlaw29_RecordBack.j3]
  refine neg (by simp) (alt (fun h => bnd works (ret rfl)) (fun h => ?_))
  have hall := moved_all (by_ := by_) (l := r) (by omega)
  have hk := good_at hg
  have e := moved_map hall
  have hg2 := good_mv hg hall
  rw [e]
  have h2 : RecOk (r.map (mv by_)) 0 [] := hg2
  have ht := trans (l := r.map (mv by_)) (by_ := -by_) (by omega) (by rw [List.length_map]; omega) h2
  rw [moved_back hk hall] at ht
  rw [wrapI (x := by_) (by omega) (by omega), wrapI (x := -by_) (by omega) (by omega)]
  rw [ht]
  refine some_bnd (pos rfl (pos (by simp only; rw [List.length_map]; omega) (bnd (same r (by omega)) (pos rfl (bnd works (ret rfl))))))
theorem j2_ok (r : List E) (by_ : Int) (hb : -128 ≤ by_ ∧ by_ ≤ 127) (hl : r.length ≤ 300) (hg : RecOk r 0 []) : Ev (fun k => diapasonlaw29_RecordBack.j2 k by_ r) true := by
  have hm := moved_len by_ r
  refine succ ?_
  simp only [diapasonlaw29_RecordBack.j2]
  rw [wrapI (x := by_) (by omega) (by omega)]
  rw [trans (by omega) (by omega) hg]
  refine some_bnd (pos rfl ?_)
  have : (wrap64 ((r.length : Int) - ((moved by_ r).length : Int) + ((moved by_ r).length : Int)) != (r.length : Int)) = false := by
    rw [wrapI (by omega) (by omega), bne_eq_false_iff_eq]; omega
  rw [this]
  exact j3_ok r by_ hb hl hg
theorem j1_ok (r : List E) (by_ : Int) (hb : -128 ≤ by_ ∧ by_ ≤ 127) (hl : r.length ≤ 300) (hg : RecOk r 0 []) : Ev (fun k => diapasonlaw29_RecordBack.j1 k by_ r (strOfNums (enc r 0)) false) true := by
  have hn := enc_len_all r 0 [] (by omega) hg
  have hs := strOfNums_size (enc r 0)
  refine succ ?_
  simp only [diapasonlaw29_RecordBack.j1]
  refine neg (by simp) (alt (fun h => ?_) (fun h => j2_ok r by_ hb hl hg))
  rw [hs] at h ⊢
  rw [wrapI (by omega) (by omega)]
  refine pos (by omega) (pos (by omega) ?_)
  have hr : r ≠ [] := by rintro rfl; simp [enc] at h
  obtain ⟨l, e, rfl⟩ : ∃ l e, r = l ++ [e] := ⟨r.dropLast, r.getLast hr, (List.dropLast_concat_getLast hr).symm⟩
  have hcut := read_cut (l := l) (e := e) (by omega) hg
  have he : enc (l ++ [e]) 0 = (enc l 0 ++ encN (val e (lastNow l 0))) ++ [keyB e] := by rw [enc_app]; simp [enc]
  rw [extract_str]
  have ht : (enc (l ++ [e]) 0).take (((enc (l ++ [e]) 0).length : Int) - 1).toNat = enc l 0 ++ encN (val e (lastNow l 0)) := by
    rw [he, List.length_append, List.length_singleton]
    rw [show ((((enc l 0 ++ encN (val e (lastNow l 0))).length + 1 : Nat) : Int) - 1).toNat = (enc l 0 ++ encN (val e (lastNow l 0))).length by omega]
    exact List.take_left ..
  rw [ht]
  exact bnd hcut (pos rfl (j2_ok _ by_ hb hl hg))
theorem RecordBack : diapasonlaw29_RecordBack.Pure := by
  intro l by_ h1 h2 h3 h4
  have hb := wfi8 h4
  obtain ⟨r, hp, hg, hl, _⟩ := played l h3 0 4 (by omega)
  refine Ev.rounds (r := true) ?_
  unfold diapasonlaw29_RecordBack.f
  have hn := enc_len_all r 0 [] (by omega) hg
  refine bnd hp (bnd (write (by omega) hg) (bnd (read (by omega) hg) (pos rfl (pos rfl (bnd (same r (by omega)) ?_)))))
  refine succ ?_
  simp only [diapasonlaw29_RecordBack.j0]
  have hw : wrap64 ((r.length : Int) / 2) = ((r.length / 2 : Nat) : Int) := by rw [wrapI (by omega) (by omega)]; omega
  rw [hw, Int.toNat_natCast]
  refine neg (by simp) (pos (by omega) (pos (by omega) ?_))
  have hgt : RecOk (r.take (r.length / 2)) 0 [] := by
    have := hg
    rw [← List.take_append_drop (r.length / 2) r, good_app] at this
    exact this.1
  have he : enc r 0 = enc (r.take (r.length / 2)) 0 ++ enc (r.drop (r.length / 2)) (lastNow (r.take (r.length / 2)) 0) := by
    rw [← enc_app, List.take_append_drop]
  refine bnd (write (by rw [List.length_take]; omega) hgt) (pos rfl ?_)
  simp only [strOfNums_size]
  refine neg (by rw [he, List.length_append]; omega) (pos (by omega) (pos (by rw [he, List.length_append]; omega) ?_))
  rw [extract_str]
  have ht : (enc r 0).take (((enc (r.take (r.length / 2)) 0).length : Int)).toNat = enc (r.take (r.length / 2)) 0 := by
    rw [Int.toNat_natCast]
    conv => lhs; rw [he]
    exact List.take_left ..
  rw [ht, bne_self_eq_false]
  exact j1_ok r by_ hb hl hg
end Go.Proofs.Ytfcomoledfdojaa.Pure
