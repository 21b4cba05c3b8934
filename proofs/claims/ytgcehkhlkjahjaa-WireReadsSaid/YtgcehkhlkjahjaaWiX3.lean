/- The document's reader: Text, Fail, End. -/
import Derived.Test.YtgcehkhlkjahjaaWiX2
set_option linter.unusedVariables false
set_option linter.unusedSimpArgs false
namespace Go.Proofs.Ytgcehkhlkjahjaa.Wi
open Go Go.RowKit Go.Proofs.YtgcehkhlkjahjaaW.PrintWords
section
variable {w W W' : World} {gx : Nat} {A : Option Addr} {c : Nat} {bs : List Int} {r : RS}
set_option maxHeartbeats 1600000 in
set_option maxRecDepth 100000 in
theorem xTex_calls (most : Int) (h : XR w gx A c bs r) : Calls Try.prog 54 #[.pointer (some ⟨gx, 0, none⟩), .int .i64 most] w (XPost gx A c bs (.string (strOfNums (rTex bs r most).1)) (rTex bs r most).2 w) := by
  have H := Aside0.mk h
  have hl := h.len
  have ha := h.le
  by_cases hz : most < 0
  · have HT : Aside0 (rTex bs r most = ([], r.badX 1)) := ⟨take_errX (by unfold gText; rw [if_pos hz])⟩
    have HC : Aside0 ((r.badX 1).code ≠ 0) := ⟨badX_off (by decide)⟩
    clear h
    go_enter Try.func54, Try.ntmps54
    go_wp2_with (first | (go_at_call 86; refine (xBad_calls 1 H.out).mono ?_; rintro e w1 ⟨rfl, X1, f1⟩) | (go_at_call 87; refine (xSome_off 2 HC.out X1).mono ?_; rintro e w2 ⟨rfl, X2, f2⟩))
    go_ret
    rw [HT.out]
    exact ⟨by first | rfl | (simp; done), X2, (f1).trans f2 (fun _ _ h => h)⟩
  by_cases hc : r.code = 0
  case neg =>
    have HC := Aside0.mk hc
    have HT : Aside0 (rTex bs r most = ([], r)) := ⟨take_bad hc _ _⟩
    clear h hc
    go_enter Try.func54, Try.ntmps54
    go_wp2_with (first | (go_at_call 87; refine (xSome_off 2 HC.out H.out).mono ?_; rintro e w1 ⟨rfl, X1, f1⟩))
    go_ret
    rw [HT.out]
    exact ⟨by first | rfl | (simp; done), X1, f1⟩
  by_cases hn : (2 : Int) ≤ (bs.length : Int) - r.at_
  case neg =>
    have HC := Aside0.mk hc
    have HN := Aside0.mk hn
    have HT : Aside0 (rTex bs r most = ([], r.badX 10)) := ⟨take_err hc (by unfold gText; rw [if_neg hz, if_pos (by rw [List.length_drop]; omega)])⟩
    clear h hc hn
    go_enter Try.func54, Try.ntmps54
    go_wp2_with (first | (go_at_call 87; refine (xSome_no 2 HC.out HN.out H.out).mono ?_; rintro e w1 ⟨rfl, X1, f1⟩))
    go_ret
    rw [HT.out]
    exact ⟨by first | rfl | (simp; done), X1, f1⟩
  have HC := Aside0.mk hc
  have HN := Aside0.mk hn
  have HLE : Aside0 (r.at_ + 0 + 2 ≤ bs.length) := ⟨by omega⟩
  have hlz : ((bs.drop r.at_).length : Int) = (bs.length : Int) - r.at_ := by rw [List.length_drop]; omega
  by_cases hv : most < (val ((bs.drop r.at_).take 2) : Int)
  · have HT : Aside0 (rTex bs r most = ([], r.badX 12)) := ⟨take_err hc (by unfold gText; rw [if_neg hz, if_neg (by rw [List.length_drop]; omega), if_pos hv])⟩
    have CN0 := fun (W : World) (h : XR W gx A c bs r) => xNumber0_calls 0 2 (by omega) (by omega) HLE.out h
    simp only [Nat.add_zero] at CN0
    have CN := Aside0.mk CN0
    clear CN0
    have HVL := Aside0.mk (val_take_lt (bs.drop r.at_) 2 (h.byt.drop _) (by rw [List.length_drop]; omega))
    generalize val ((bs.drop r.at_).take 2) = v at *
    have hvb := HVL.out
    have hvw : wrap64 (v : Int) = (v : Int) := by unfold wrap64; omega
    clear h hc hn hvb hlz
    go_enter Try.func54, Try.ntmps54
    go_wp2_with (first | (go_at_call 87; refine (xSome_yes 2 HC.out HN.out H.out).mono ?_; rintro e w1 ⟨rfl, X1, f1⟩) | (go_at_call 88; refine (CN.out _ X1).mono ?_; rintro e w2 ⟨rfl, X2, f2⟩) | (go_at_call 86; refine (xBad_calls 12 X2).mono ?_; rintro e w3 ⟨rfl, X3, f3⟩))
    go_ret
    rw [HT.out]
    exact ⟨by first | rfl | (simp; done), X3, ((f1).trans f2 (fun _ _ h => h)).trans f3 (fun _ _ h => h)⟩
  · by_cases hm : (bs.drop r.at_).length - 2 < val ((bs.drop r.at_).take 2)
    · have HT : Aside0 (rTex bs r most = ([], r.badX 10)) := ⟨take_err hc (by unfold gText; rw [if_neg hz, if_neg (by rw [List.length_drop]; omega), if_neg hv, if_pos hm])⟩
      have CN0 := fun (W : World) (h : XR W gx A c bs r) => xNumber0_calls 0 2 (by omega) (by omega) HLE.out h
      simp only [Nat.add_zero] at CN0
      have CN := Aside0.mk CN0
      clear CN0
      have HVL := Aside0.mk (val_take_lt (bs.drop r.at_) 2 (h.byt.drop _) (by rw [List.length_drop]; omega))
      generalize val ((bs.drop r.at_).take 2) = v at *
      have hvb := HVL.out
      have hvw : wrap64 (v : Int) = (v : Int) := by unfold wrap64; omega
      have CH0 := fun (W : World) (h : XR W gx A c bs r) => xHas_calls 2 (v : Int) (by omega) h
      rw [show decide ((v : Int) ≤ (bs.length : Int) - r.at_ - (2 : Nat)) = false from decide_eq_false (by omega)] at CH0
      have CHS := Aside0.mk CH0
      clear CH0
      clear h hc hn hvb hlz hm
      go_enter Try.func54, Try.ntmps54
      go_wp2_with (first | (go_at_call 87; refine (xSome_yes 2 HC.out HN.out H.out).mono ?_; rintro e w1 ⟨rfl, X1, f1⟩) | (go_at_call 88; refine (CN.out _ X1).mono ?_; rintro e w2 ⟨rfl, X2, f2⟩) | (go_at_call 90; refine (CHS.out _ X2).mono ?_; rintro e w3 ⟨rfl, X3, f3⟩) | (go_at_call 86; refine (xBad_calls 10 X3).mono ?_; rintro e w4 ⟨rfl, X4, f4⟩))
      go_ret
      rw [HT.out]
      exact ⟨by first | rfl | (simp; done), X4, (((f1).trans f2 (fun _ _ h => h)).trans f3 (fun _ _ h => h)).trans f4 (fun _ _ h => h)⟩
    · have HT : Aside0 (rTex bs r most = (((bs.drop r.at_).drop 2).take (val ((bs.drop r.at_).take 2)), ⟨r.at_ + (2 + val ((bs.drop r.at_).take 2)), r.at_, 0, r.fat⟩)) := ⟨take_ok hc (by unfold gText; rw [if_neg hz, if_neg (by rw [List.length_drop]; omega), if_neg hv, if_neg hm])⟩
      have HTK : Aside0 (r.at_ + (2 + val ((bs.drop r.at_).take 2)) ≤ bs.length) := ⟨by omega⟩
      rw [List.drop_drop] at HT
      have CN0 := fun (W : World) (h : XR W gx A c bs r) => xNumber0_calls 0 2 (by omega) (by omega) HLE.out h
      simp only [Nat.add_zero] at CN0
      have CN := Aside0.mk CN0
      clear CN0
      have HVL := Aside0.mk (val_take_lt (bs.drop r.at_) 2 (h.byt.drop _) (by rw [List.length_drop]; omega))
      generalize val ((bs.drop r.at_).take 2) = v at *
      have hvb := HVL.out
      have hvw : wrap64 (v : Int) = (v : Int) := by unfold wrap64; omega
      have CH0 := fun (W : World) (h : XR W gx A c bs r) => xHas_calls 2 (v : Int) (by omega) h
      rw [show decide ((v : Int) ≤ (bs.length : Int) - r.at_ - (2 : Nat)) = true from decide_eq_true (by omega)] at CH0
      have CHS := Aside0.mk CH0
      clear CH0
      obtain ⟨A', c', hsl, hcv⟩ := cut_str h (r.at_ + 2) v (by omega)
      rw [show ((r.at_ + 2 : Nat) : Int) = (r.at_ : Int) + 2 by omega] at hsl
      have HSL := Aside0.mk hsl
      have HCV := Aside0.mk hcv
      have HS1 := Aside0.mk (show IntKind.i64.wrap ((r.at_ : Int) + 2) = (r.at_ : Int) + 2 from IntWalk.i64_in _ (by omega))
      have HS2 := Aside0.mk (show IntKind.i64.wrap ((r.at_ : Int) + 2 + v) = (r.at_ : Int) + 2 + v from IntWalk.i64_in _ (by omega))
      have hv2 : (2 : Int) + v ≤ 100000 := by omega
      clear h hc hn hvb hlz hm hz hsl hcv
      go_enter Try.func54, Try.ntmps54
      go_wp2_with (first | (go_at_call 87; refine (xSome_yes 2 HC.out HN.out H.out).mono ?_; rintro e w1 ⟨rfl, X1, f1⟩) | (go_at_call 88; refine (CN.out _ X1).mono ?_; rintro e w2 ⟨rfl, X2, f2⟩) | (go_at_call 90; refine (CHS.out _ X2).mono ?_; rintro e w3 ⟨rfl, X3, f3⟩))
      have hs1 := HS1.out
      have hs2 := HS2.out
      have hsl := HSL.out
      have kcv := HCV.out _ X3
      have d0 : _ = Option.some (Value.slice A bs.length c) := blk_cell X3.blk 0
      have d1 : _ = Option.some (Value.int .i64 (r.at_ : Int)) := blk_cell X3.blk 1
      go_quiet (fail)
      have X4 := X3.drew nq
      clear hs1 hs2 hsl kcv d0 d1
      go_wp2_with (go_at_call 89; refine (xTook_calls (2 + v) HTK.out X4).mono ?_; rintro e w5 ⟨rfl, X5, f5⟩)
      go_ret
      rw [HT.out]
      have hX := X5
      rw [HC.out] at hX
      exact ⟨by first | rfl | (simp; done), hX, (((f1.trans f2 (fun _ _ h => h)).trans f3 (fun _ _ h => h)).trans (Fr.of_below (below_drewN (Below.refl _ _) _)) (fun _ _ h => h)).trans f5 (fun _ _ h => h)⟩
set_option maxHeartbeats 1600000 in
theorem xFail_calls (e : Int) (h : XR w gx A c bs r) : Calls Try.prog 57 #[.pointer (some ⟨gx, 0, none⟩), .int .i64 e] w (XPost gx A c bs (.tuple #[]) (r.fail e) w) := by
  have H := Aside0.mk h
  have d2 : _ = some (Value.int .i64 r.last) := blk_cell h.blk 2
  have d3 : _ = some (Value.int .i64 r.code) := blk_cell h.blk 3
  have d4 : _ = some (Value.int .i64 r.fat) := blk_cell h.blk 4
  have f3 := blk_frozen h.blk 3
  have f4 := blk_frozen h.blk 4
  by_cases hc : r.code = 0
  · by_cases he : e = 0
    · have HB : Aside0 (r.fail e = r) := ⟨by simp [RS.fail, he]⟩
      have u : (r.code == 0) = true := by simp [hc]
      have u2 : (e != 0) = false := by simp [he]
      clear h hc he
      go_enter Try.func57, Try.ntmps57
      go_wp2
      go_end0
      rw [HB.out]
      exact ⟨rfl, H.out, Fr.refl _ _⟩
    · have HB : Aside0 (r.fail e = ⟨r.at_, r.last, e, r.last⟩) := ⟨by simp [RS.fail, hc, he]⟩
      have u : (r.code == 0) = true := by simp [hc]
      have u2 : (e != 0) = true := bne_iff_ne.2 he
      clear h hc he
      go_enter Try.func57, Try.ntmps57
      go_wp2
      go_end0
      rw [HB.out]
      exact ⟨rfl, H.out.of_keep (((KeepBut.refl w gx none).set_ 3 _).set_ 4 _) (blk_put (H.out.set_ 3 _ rfl) 4 _ rfl) H.out.le, ((Fr.refl (fun i => i = gx) w).set_ (.inl rfl) _).set_ (.inl rfl) _⟩
  · have HB : Aside0 (r.fail e = r) := ⟨by simp [RS.fail, hc]⟩
    have u : (r.code == 0) = false := by simp [hc]
    clear h hc
    go_enter Try.func57, Try.ntmps57
    go_wp2
    go_end0
    rw [HB.out]
    exact ⟨rfl, H.out, Fr.refl _ _⟩
set_option maxHeartbeats 1600000 in
theorem xEnd_calls (h : XR w gx A c bs r) : Calls Try.prog 58 #[.pointer (some ⟨gx, 0, none⟩)] w (XPost gx A c bs (.agg #[.int .i64 (r.end_ bs.length).code, .int .i64 (r.end_ bs.length).fat]) (r.end_ bs.length) w) := by
  have H := Aside0.mk (h.below (below1 (.cells #[.int .i64 0, .int .i64 0] 47)))
  have HN := Aside0.mk (heap_alloc_new w (.cells #[.int .i64 0, .int .i64 0] 47))
  have HF := Aside0.mk (Fr.of_below (S := fun i => i = gx) (below1 (w := w) (.cells #[.int .i64 0, .int .i64 0] 47)))
  have d0 : _ = some (Value.slice A bs.length c) := blk_cell H.out.blk 0
  have d1 : _ = some (Value.int .i64 (r.at_ : Int)) := blk_cell H.out.blk 1
  have hne : w.heap.size ≠ gx := by have := h.lt; omega
  have HNE := Aside0.mk hne
  by_cases hm : r.at_ < bs.length
  · have HB : Aside0 (r.end_ bs.length = r.badX 13) := ⟨by by_cases hc : r.code = 0 <;> simp [RS.end_, RS.badX, hm, hc]⟩
    have hmz : (r.at_ : Int) < (bs.length : Int) := by omega
    have HM := Aside0.mk (fun (W : World) (h : XR W gx A c bs r) => xBad_calls 13 h)
    rw [HB.out]
    have HH := Aside0.mk h
    clear h hm hne HB
    go_enter Try.func58, Try.ntmps58
    go_wp2
    go_quiet (fail)
    have X0 := H.out.drew nq
    have F0 := HF.out.trans (Fr.of_below (S := fun i => i = gx) (below_drewN (Below.refl _ _) nq)) (fun _ _ h => h)
    have Q0 : ((w.alloc (.cells #[.int .i64 0, .int .i64 0] 47)).drewN nq).heap[w.heap.size]? = some (.cells #[.int .i64 0, .int .i64 0] 47 (0, 0)) := HN.out
    clear d0 d1 hmz H HN HF
    generalize (w.alloc (.cells #[.int .i64 0, .int .i64 0] 47)).drewN nq = W0 at *
    obtain ⟨gr, hgr⟩ : ∃ gr, w.heap.size = gr := ⟨_, rfl⟩
    rw [hgr] at Q0 HNE ⊢
    have HGE : Aside0 (w.heap.size ≤ gr) := ⟨by omega⟩
    clear hgr
    generalize r.badX 13 = r' at *
    go_wp2_with (go_at_call 86; refine (HM.out _ X0).mono ?_; rintro e w1 ⟨rfl, X1, f1⟩; have q1 := f1.blk Q0 HNE.out; have b3 : _ = some (Value.int .i64 r'.code) := blk_cell X1.blk 3; have b4 : _ = some (Value.int .i64 r'.fat) := blk_cell X1.blk 4; have e0 : _ = some (Value.int .i64 0) := blk_cell q1 0; have e1 : _ = some (Value.int .i64 0) := blk_cell q1 1; have z0 := blk_frozen q1 0; have z1 := blk_frozen q1 1)
    have hfr := ((F0.trans f1 (fun _ _ h => h)).set_ (p := ⟨gr, 0, none⟩) (.inr HGE.out) (.int .i64 r'.code)).set_ (p := ⟨gr, 1, none⟩) (.inr HGE.out) (.int .i64 r'.fat)
    have hb2 := blk_far (blk_far X1.blk (p := ⟨gr, 0, none⟩) (Ne.symm HNE.out) (.int .i64 r'.code)) (p := ⟨gr, 1, none⟩) (Ne.symm HNE.out) (.int .i64 r'.fat)
    have hq2 := blk_set (blk_set q1 0 (.int .i64 r'.code)) 1 (.int .i64 r'.fat)
    generalize (w1.setCell ⟨gr, 0, none⟩ (.int .i64 r'.code)).setCell ⟨gr, 1, none⟩ (.int .i64 r'.fat) = W2 at hfr hb2 hq2
    have k0 : W2.cell? ⟨gr, 0, none⟩ = some (.int .i64 r'.code) := (blk_cell hq2 0).trans (by simp)
    have k1 : W2.cell? ⟨gr, 1, none⟩ = some (.int .i64 r'.fat) := (blk_cell hq2 1).trans (by simp)
    refine bodyPost_ret (v := .agg #[.int .i64 r'.code, .int .i64 r'.fat]) (by simp [results, Try.results58, go_sem, k0, k1]) rfl ?_
    exact ⟨rfl, HH.out.of_keep ⟨hfr.size, fun i hi hne _ => hfr.block i hi hne⟩ hb2 X1.le, hfr⟩
  · have HB : Aside0 (r.end_ bs.length = r) := ⟨by simp [RS.end_, hm]⟩
    have hmz : decide (r.at_ < bs.length) = false := decide_eq_false (by omega)
    rw [HB.out]
    have HH := Aside0.mk h
    clear h hm hne HB
    go_enter Try.func58, Try.ntmps58
    go_wp2
    go_quiet (fail)
    have X0 := H.out.drew nq
    have F0 := HF.out.trans (Fr.of_below (S := fun i => i = gx) (below_drewN (Below.refl _ _) nq)) (fun _ _ h => h)
    have Q0 : ((w.alloc (.cells #[.int .i64 0, .int .i64 0] 47)).drewN nq).heap[w.heap.size]? = some (.cells #[.int .i64 0, .int .i64 0] 47 (0, 0)) := HN.out
    clear d0 d1 H HN HF
    generalize (w.alloc (.cells #[.int .i64 0, .int .i64 0] 47)).drewN nq = W0 at *
    obtain ⟨gr, hgr⟩ : ∃ gr, w.heap.size = gr := ⟨_, rfl⟩
    rw [hgr] at Q0 HNE ⊢
    have HGE : Aside0 (w.heap.size ≤ gr) := ⟨by omega⟩
    clear hgr
    have b3 : _ = some (Value.int .i64 r.code) := blk_cell X0.blk 3
    have b4 : _ = some (Value.int .i64 r.fat) := blk_cell X0.blk 4
    have e0 : _ = some (Value.int .i64 0) := blk_cell Q0 0
    have e1 : _ = some (Value.int .i64 0) := blk_cell Q0 1
    have z0 := blk_frozen Q0 0
    have z1 := blk_frozen Q0 1
    go_wp2
    have hfr := ((F0).set_ (p := ⟨gr, 0, none⟩) (.inr HGE.out) (.int .i64 r.code)).set_ (p := ⟨gr, 1, none⟩) (.inr HGE.out) (.int .i64 r.fat)
    have hb2 := blk_far (blk_far X0.blk (p := ⟨gr, 0, none⟩) (Ne.symm HNE.out) (.int .i64 r.code)) (p := ⟨gr, 1, none⟩) (Ne.symm HNE.out) (.int .i64 r.fat)
    have hq2 := blk_set (blk_set Q0 0 (.int .i64 r.code)) 1 (.int .i64 r.fat)
    generalize (W0.setCell ⟨gr, 0, none⟩ (.int .i64 r.code)).setCell ⟨gr, 1, none⟩ (.int .i64 r.fat) = W2 at hfr hb2 hq2
    have k0 : W2.cell? ⟨gr, 0, none⟩ = some (.int .i64 r.code) := (blk_cell hq2 0).trans (by simp)
    have k1 : W2.cell? ⟨gr, 1, none⟩ = some (.int .i64 r.fat) := (blk_cell hq2 1).trans (by simp)
    refine bodyPost_ret (v := .agg #[.int .i64 r.code, .int .i64 r.fat]) (by simp [results, Try.results58, go_sem, k0, k1]) rfl ?_
    exact ⟨rfl, HH.out.of_keep ⟨hfr.size, fun i hi hne _ => hfr.block i hi hne⟩ hb2 X0.le, hfr⟩
end
end Go.Proofs.Ytgcehkhlkjahjaa.Wi
