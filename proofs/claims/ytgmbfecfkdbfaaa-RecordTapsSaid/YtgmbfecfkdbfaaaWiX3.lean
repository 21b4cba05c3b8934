/- The document's reader: Text, Fail, End. -/
import Derived.Test.YtgmbfecfkdbfaaaWiX2
set_option linter.unusedVariables false
set_option linter.unusedSimpArgs false
namespace Go.Proofs.Ytgmbfecfkdbfaaa.Wi
open Go Go.RowKit Go.Proofs.YtgmbfecfkdbfaaaW.PrintWords
section
variable {w W W' : World} {gx : Nat} {A : Option Addr} {c : Nat} {bs : List Int} {r : RS}
set_option maxHeartbeats 1600000 in
theorem xEnd_calls (h : XR w gx A c bs r) : Calls Try.prog 106 #[.pointer (some ⟨gx, 0, none⟩)] w (XPost gx A c bs (.agg #[.int .i64 (r.end_ bs.length).code, .int .i64 (r.end_ bs.length).fat]) (r.end_ bs.length) w) := by
  have H := Aside0.mk (h.below (below1 (.cells #[.int .i64 0, .int .i64 0] 31)))
  have HN := Aside0.mk (heap_alloc_new w (.cells #[.int .i64 0, .int .i64 0] 31))
  have HF := Aside0.mk (Fr.of_below (S := fun i => i = gx) (below1 (w := w) (.cells #[.int .i64 0, .int .i64 0] 31)))
  have d0 : _ = some (Value.slice A bs.length c) := blk_cell H.out.blk 0
  have d1 : _ = some (Value.int .i64 (r.at_ : Int)) := blk_cell H.out.blk 1
  have hne : w.heap.size ≠ gx := by have := h.lt; omega
  have HNE := Aside0.mk hne
  by_cases hm : r.at_ < bs.length
  · have HB : Aside0 (r.end_ bs.length = r.badX 13) := ⟨by by_cases hc : r.code = 0 <;> simp [RS.end_, RS.badX, hm, hc]⟩
    have hmz : (r.at_ : Int) < (bs.length : Int) := by omega
    have HM := Aside0.mk (fun (W : World) (h : XR W gx A c bs r) => xBad_calls 13 h)
    rw [HB.out]
    have HH := Aside0.mk h
    clear h hm hne HB
    go_enter Try.func106, Try.ntmps106
    go_wp2
    go_quiet (fail)
    have X0 := H.out.drew nq
    have F0 := HF.out.trans (Fr.of_below (S := fun i => i = gx) (below_drewN (Below.refl _ _) nq)) (fun _ _ h => h)
    have Q0 : ((w.alloc (.cells #[.int .i64 0, .int .i64 0] 31)).drewN nq).heap[w.heap.size]? = some (.cells #[.int .i64 0, .int .i64 0] 31 (0, 0)) := HN.out
    clear d0 d1 hmz H HN HF
    generalize (w.alloc (.cells #[.int .i64 0, .int .i64 0] 31)).drewN nq = W0 at *
    obtain ⟨gr, hgr⟩ : ∃ gr, w.heap.size = gr := ⟨_, rfl⟩
    rw [hgr] at Q0 HNE ⊢
    have HGE : Aside0 (w.heap.size ≤ gr) := ⟨by omega⟩
    clear hgr
    generalize r.badX 13 = r' at *
    go_wp2_with (go_at_call 102; refine (HM.out _ X0).mono ?_; rintro e w1 ⟨rfl, X1, f1⟩; have q1 := f1.blk Q0 HNE.out; have b3 : _ = some (Value.int .i64 r'.code) := blk_cell X1.blk 3; have b4 : _ = some (Value.int .i64 r'.fat) := blk_cell X1.blk 4; have e0 : _ = some (Value.int .i64 0) := blk_cell q1 0; have e1 : _ = some (Value.int .i64 0) := blk_cell q1 1; have z0 := blk_frozen q1 0; have z1 := blk_frozen q1 1)
    have hfr := ((F0.trans f1 (fun _ _ h => h)).set_ (p := ⟨gr, 0, none⟩) (.inr HGE.out) (.int .i64 r'.code)).set_ (p := ⟨gr, 1, none⟩) (.inr HGE.out) (.int .i64 r'.fat)
    have hb2 := blk_far (blk_far X1.blk (p := ⟨gr, 0, none⟩) (Ne.symm HNE.out) (.int .i64 r'.code)) (p := ⟨gr, 1, none⟩) (Ne.symm HNE.out) (.int .i64 r'.fat)
    have hq2 := blk_set (blk_set q1 0 (.int .i64 r'.code)) 1 (.int .i64 r'.fat)
    generalize (w1.setCell ⟨gr, 0, none⟩ (.int .i64 r'.code)).setCell ⟨gr, 1, none⟩ (.int .i64 r'.fat) = W2 at hfr hb2 hq2
    have k0 : W2.cell? ⟨gr, 0, none⟩ = some (.int .i64 r'.code) := (blk_cell hq2 0).trans (by simp)
    have k1 : W2.cell? ⟨gr, 1, none⟩ = some (.int .i64 r'.fat) := (blk_cell hq2 1).trans (by simp)
    refine bodyPost_ret (v := .agg #[.int .i64 r'.code, .int .i64 r'.fat]) (by simp [results, Try.results106, go_sem, k0, k1]) rfl ?_
    exact ⟨rfl, HH.out.of_keep ⟨hfr.size, fun i hi hne _ => hfr.block i hi hne⟩ hb2 X1.le, hfr⟩
  · have HB : Aside0 (r.end_ bs.length = r) := ⟨by simp [RS.end_, hm]⟩
    have hmz : decide (r.at_ < bs.length) = false := decide_eq_false (by omega)
    rw [HB.out]
    have HH := Aside0.mk h
    clear h hm hne HB
    go_enter Try.func106, Try.ntmps106
    go_wp2
    go_quiet (fail)
    have X0 := H.out.drew nq
    have F0 := HF.out.trans (Fr.of_below (S := fun i => i = gx) (below_drewN (Below.refl _ _) nq)) (fun _ _ h => h)
    have Q0 : ((w.alloc (.cells #[.int .i64 0, .int .i64 0] 31)).drewN nq).heap[w.heap.size]? = some (.cells #[.int .i64 0, .int .i64 0] 31 (0, 0)) := HN.out
    clear d0 d1 H HN HF
    generalize (w.alloc (.cells #[.int .i64 0, .int .i64 0] 31)).drewN nq = W0 at *
    obtain ⟨gr, hgr⟩ : ∃ gr, w.heap.size = gr := ⟨_, rfl⟩
    rw [hgr] at Q0 HNE ⊢
    have HGE : Aside0 (w.heap.size ≤ gr) := ⟨by omega⟩
    clear hgr
    have b3 : _ = some (Value.int .i64 r.code) := blk_cell X0.blk 3
    have b4 : _ = some (Value.int .i64 r.fat) := blk_cell X0.blk 4
    have e0 : _ = some (Value.int .i64 0) := blk_cell Q0 0
    have e1 : _ = some (Value.int .i64 0) := blk_cell Q0 1
    have z0 := blk_frozen Q0 0
    have z1 := blk_frozen Q0 1
    go_wp2
    have hfr := ((F0).set_ (p := ⟨gr, 0, none⟩) (.inr HGE.out) (.int .i64 r.code)).set_ (p := ⟨gr, 1, none⟩) (.inr HGE.out) (.int .i64 r.fat)
    have hb2 := blk_far (blk_far X0.blk (p := ⟨gr, 0, none⟩) (Ne.symm HNE.out) (.int .i64 r.code)) (p := ⟨gr, 1, none⟩) (Ne.symm HNE.out) (.int .i64 r.fat)
    have hq2 := blk_set (blk_set Q0 0 (.int .i64 r.code)) 1 (.int .i64 r.fat)
    generalize (W0.setCell ⟨gr, 0, none⟩ (.int .i64 r.code)).setCell ⟨gr, 1, none⟩ (.int .i64 r.fat) = W2 at hfr hb2 hq2
    have k0 : W2.cell? ⟨gr, 0, none⟩ = some (.int .i64 r.code) := (blk_cell hq2 0).trans (by simp)
    have k1 : W2.cell? ⟨gr, 1, none⟩ = some (.int .i64 r.fat) := (blk_cell hq2 1).trans (by simp)
    refine bodyPost_ret (v := .agg #[.int .i64 r.code, .int .i64 r.fat]) (by simp [results, Try.results106, go_sem, k0, k1]) rfl ?_
    exact ⟨rfl, HH.out.of_keep ⟨hfr.size, fun i hi hne _ => hfr.block i hi hne⟩ hb2 X0.le, hfr⟩
end
end Go.Proofs.Ytgmbfecfkdbfaaa.Wi
