/- The document's end of a record. -/
import Derived.Test.YtgmbfecfkdbfaaaRcK
set_option linter.unusedVariables false
set_option linter.unusedSimpArgs false
namespace Go.Proofs.Ytgmbfecfkdbfaaa.Wi
open Go Go.RowKit Go.Proofs.YtgmbfecfkdbfaaaW.PrintWords
def endC (r : RS) (n : Nat) (ok : Bool) : Int × Int := if (r.end_ n).code = 0 ∧ ok = false then (80, -1) else ((r.end_ n).code, (r.end_ n).fat)
section
variable {w : World} {gx : Nat} {A : Option Addr} {c : Nat} {bs : List Int} {r : RS}
set_option maxHeartbeats 3200000 in
set_option maxRecDepth 100000 in
theorem ended_calls (ok : Bool) (h : XR w gx A c bs r) : Calls Try.prog 50 #[.pointer (some ⟨gx, 0, none⟩), .bool ok] w (XPost gx A c bs (.agg #[.int .i64 (endC r bs.length ok).1, .int .i64 (endC r bs.length ok).2]) (r.end_ bs.length) w) := by
  have hgx := h.lt
  have HH := Aside0.mk h
  have hb1 := below1 (w := w) (.cells #[.int .i64 0, .int .i64 0] 31)
  have HX1 := Aside0.mk (h.below hb1)
  have HQ1 := Aside0.mk (heap_alloc_new w (.cells #[.int .i64 0, .int .i64 0] 31))
  have HF1 := Aside0.mk (Fr.of_below (S := fun i => i = gx) hb1)
  have C := Aside0.mk (xEnd_calls HX1.out)
  obtain ⟨u, hu⟩ : ∃ u, endC r bs.length ok = u := ⟨_, rfl⟩
  have HU0 := Aside0.mk hu
  rw [hu]
  unfold endC at HU0
  have HNE : Aside0 (w.heap.size ≠ gx) := ⟨by omega⟩
  have HGE : Aside0 (w.heap.size ≤ w.heap.size) := ⟨Nat.le_refl _⟩
  clear h hu hb1 hgx
  generalize r.end_ bs.length = r2 at *
  have two : ∀ (W1 : World), W1 = w.alloc (.cells #[.int .i64 0, .int .i64 0] 31) → True := fun _ _ => trivial
  go_enter Try.func50, Try.ntmps50
  clear two
  go_upto_region 2 with (go_at_call 106; refine C.out.mono ?_; rintro e w2 ⟨rfl, X2, f2⟩; have HX3 := Aside0.mk (X2.below (below1 (.cells #[.int .i64 r2.code, .int .i64 r2.fat] 31))); have HQ3 := Aside0.mk (blk_b (f2.blk HQ1.out HNE.out) (below1 (.cells #[.int .i64 r2.code, .int .i64 r2.fat] 31))); have HF3 := Aside0.mk ((HF1.out.trans f2 (fun _ _ h => h)).then_below (below1 (.cells #[.int .i64 r2.code, .int .i64 r2.fat] 31))); have HV3 := Aside0.mk (heap_alloc_new w2 (.cells #[.int .i64 r2.code, .int .i64 r2.fat] 31)); have HVN := Aside0.mk (show w.heap.size < w2.heap.size from blk_lt (f2.blk HQ1.out HNE.out)); clear X2 f2)
  generalize w2.alloc (.cells #[.int .i64 r2.code, .int .i64 r2.fat] 31) = w3 at *
  generalize w2.heap.size = gv at *
  have f0 : _ = some (Value.int .i64 r2.code) := blk_cell HV3.out 0
  have f1 : _ = some (Value.int .i64 r2.fat) := blk_cell HV3.out 1
  have p0 : _ = some (Value.int .i64 0) := blk_cell HQ3.out 0
  have p1 : _ = some (Value.int .i64 0) := blk_cell HQ3.out 1
  have z0 := blk_frozen HQ3.out 0
  have z1 := blk_frozen HQ3.out 1
  obtain ⟨gr, hgr⟩ : ∃ gr, w.heap.size = gr := ⟨_, rfl⟩
  rw [hgr] at p0 p1 z0 z1 HQ3 HNE
  rw [show (some (⟨w.heap.size, 0, none⟩ : Addr)) = some ⟨gr, 0, none⟩ by rw [hgr]]
  have HGE : Aside0 (w.heap.size ≤ gr) := ⟨by omega⟩
  clear hgr HQ1 HF1 C HX1 HVN
  by_cases hc : r2.code = 0
  · have hcb : (r2.code == 0) = true := beq_iff_eq.2 hc
    cases ok with
    | false =>
      have HU : Aside0 (u = (80, -1)) := ⟨by have := HU0.out; rw [if_pos ⟨hc, rfl⟩] at this; exact this.symm⟩
      clear HU0
      go_wp2
      have hfr := (HF3.out.set_ (p := ⟨gr, 0, none⟩) (.inr HGE.out) (.int .i64 80)).set_ (p := ⟨gr, 1, none⟩) (.inr HGE.out) (.int .i64 (-1))
      have hb2 := blk_far (blk_far HX3.out.blk (p := ⟨gr, 0, none⟩) (Ne.symm HNE.out) (.int .i64 80)) (p := ⟨gr, 1, none⟩) (Ne.symm HNE.out) (.int .i64 (-1))
      have hq2 := blk_set (blk_set HQ3.out 0 (.int .i64 80)) 1 (.int .i64 (-1))
      generalize (w3.setCell ⟨gr, 0, none⟩ (.int .i64 80)).setCell ⟨gr, 1, none⟩ (.int .i64 (-1)) = W2 at hfr hb2 hq2 ⊢
      have k0 : W2.cell? ⟨gr, 0, none⟩ = some (.int .i64 80) := (blk_cell hq2 0).trans (by simp)
      have k1 : W2.cell? ⟨gr, 1, none⟩ = some (.int .i64 (-1)) := (blk_cell hq2 1).trans (by simp)
      refine bodyPost_ret (v := .agg #[.int .i64 80, .int .i64 (-1)]) (by simp [results, Try.results50, go_sem, k0, k1]) rfl ?_
      rw [HU.out]
      exact ⟨rfl, HH.out.of_keep ⟨hfr.size, fun i hi hne _ => hfr.block i hi hne⟩ hb2 HX3.out.le, hfr⟩
    | true =>
      have HU : Aside0 (u = (r2.code, r2.fat)) := ⟨by have := HU0.out; rw [if_neg (by simp)] at this; exact this.symm⟩
      clear HU0
      clear hc
      go_wp2
      have hfr := (HF3.out.set_ (p := ⟨gr, 0, none⟩) (.inr HGE.out) (.int .i64 r2.code)).set_ (p := ⟨gr, 1, none⟩) (.inr HGE.out) (.int .i64 r2.fat)
      have hb2 := blk_far (blk_far HX3.out.blk (p := ⟨gr, 0, none⟩) (Ne.symm HNE.out) (.int .i64 r2.code)) (p := ⟨gr, 1, none⟩) (Ne.symm HNE.out) (.int .i64 r2.fat)
      have hq2 := blk_set (blk_set HQ3.out 0 (.int .i64 r2.code)) 1 (.int .i64 r2.fat)
      generalize (w3.setCell ⟨gr, 0, none⟩ (.int .i64 r2.code)).setCell ⟨gr, 1, none⟩ (.int .i64 r2.fat) = W2 at hfr hb2 hq2 ⊢
      have k0 : W2.cell? ⟨gr, 0, none⟩ = some (.int .i64 r2.code) := (blk_cell hq2 0).trans (by simp)
      have k1 : W2.cell? ⟨gr, 1, none⟩ = some (.int .i64 r2.fat) := (blk_cell hq2 1).trans (by simp)
      refine bodyPost_ret (v := .agg #[.int .i64 r2.code, .int .i64 r2.fat]) (by simp [results, Try.results50, go_sem, k0, k1]) rfl ?_
      rw [HU.out]
      exact ⟨rfl, HH.out.of_keep ⟨hfr.size, fun i hi hne _ => hfr.block i hi hne⟩ hb2 HX3.out.le, hfr⟩
  · have hcb : (r2.code == 0) = false := beq_eq_false_iff_ne.2 hc
    have HU : Aside0 (u = (r2.code, r2.fat)) := ⟨by have := HU0.out; rw [if_neg (fun h => hc h.1)] at this; exact this.symm⟩
    clear HU0
    go_wp2
    have hfr := (HF3.out.set_ (p := ⟨gr, 0, none⟩) (.inr HGE.out) (.int .i64 r2.code)).set_ (p := ⟨gr, 1, none⟩) (.inr HGE.out) (.int .i64 r2.fat)
    have hb2 := blk_far (blk_far HX3.out.blk (p := ⟨gr, 0, none⟩) (Ne.symm HNE.out) (.int .i64 r2.code)) (p := ⟨gr, 1, none⟩) (Ne.symm HNE.out) (.int .i64 r2.fat)
    have hq2 := blk_set (blk_set HQ3.out 0 (.int .i64 r2.code)) 1 (.int .i64 r2.fat)
    generalize (w3.setCell ⟨gr, 0, none⟩ (.int .i64 r2.code)).setCell ⟨gr, 1, none⟩ (.int .i64 r2.fat) = W2 at hfr hb2 hq2 ⊢
    have k0 : W2.cell? ⟨gr, 0, none⟩ = some (.int .i64 r2.code) := (blk_cell hq2 0).trans (by simp)
    have k1 : W2.cell? ⟨gr, 1, none⟩ = some (.int .i64 r2.fat) := (blk_cell hq2 1).trans (by simp)
    refine bodyPost_ret (v := .agg #[.int .i64 r2.code, .int .i64 r2.fat]) (by simp [results, Try.results50, go_sem, k0, k1]) rfl ?_
    rw [HU.out]
    exact ⟨rfl, HH.out.of_keep ⟨hfr.size, fun i hi hne _ => hfr.block i hi hne⟩ hb2 HX3.out.le, hfr⟩
end
end Go.Proofs.Ytgmbfecfkdbfaaa.Wi
