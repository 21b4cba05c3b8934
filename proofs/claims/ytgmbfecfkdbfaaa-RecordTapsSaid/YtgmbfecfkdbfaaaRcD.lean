/- A tap's pieces in their order, put. -/
import Derived.Test.YtgmbfecfkdbfaaaRcC
set_option linter.unusedVariables false
set_option linter.unusedSimpArgs false
namespace Go.Proofs.Ytgmbfecfkdbfaaa.Wi
open Go Go.RowKit Go.Proofs.YtgmbfecfkdbfaaaW.PrintWords
/-- what a tap is put as -/
def tapW (s : WS) (n0 n1 : Int) (y : ByteArray) (n3 n4 n5 : Int) : WS := (((((s.put (pNumber n0 2)).put (pNumber n1 4)).put (pFixed y 8)).put (pNumber n3 1)).put (pNumber n4 2)).put (pNumber n5 4)
theorem putNum_len (s : WS) (n size : Int) : (s.put (pNumber n size)).xs.length ≤ s.xs.length + 65537 := put_len s _ (fun ys h => Nat.le_trans (pNumber_len h) (by omega))
theorem putFix_len (s : WS) (y : ByteArray) : (s.put (pFixed y 8)).xs.length ≤ s.xs.length + 65537 := put_len s _ (fun ys h => by
  unfold pFixed at h
  split at h
  · rename_i hc
    obtain rfl := Option.some.inj h
    rw [strBytes_length]
    unfold fixedB at hc
    simp only [Bool.and_eq_true, decide_eq_true_eq, beq_iff_eq] at hc
    omega
  · cases h)
set_option maxHeartbeats 8000000 in
set_option maxRecDepth 100000 in
theorem overTap_w {w : World} {B g : Nat} {ro : Option Nat} {s : WS} {bt : Nat} (n0 n1 : Int) (y : ByteArray) (n3 n4 n5 : Int) (hq : w.heap[bt]? = some (.cells #[.int .i64 n0, .int .i64 n1, .string y, .int .i64 n3, .int .i64 n4, .int .i64 n5] 23 (0, 0)))
    (h0 : n0 ≤ 9223372036854775807) (h1 : n1 ≤ 9223372036854775807) (hy : y.size ≤ 9223372036854775807) (h3 : n3 ≤ 9223372036854775807) (h4 : n4 ≤ 9223372036854775807) (h5 : n5 ≤ 9223372036854775807)
    (hg : bt ≠ g) (hr : ro ≠ some bt) (hw : Wr w B g ro s) (hB : B ≤ w.heap.size) (hl : s.xs.length ≤ 90000000000) :
    Calls Try.prog 41 #[.agg #[.pointer (some ⟨g, 0, none⟩), .pointer none], .pointer (some ⟨bt, 0, none⟩)] w (WPost B g ro (tapW s n0 n1 y n3 n4 n5) w) := by
  have HB1 := Aside0.mk (below1 (w := w) (.cells #[.pointer (some ⟨g, 0, none⟩), .pointer none] 97))
  have hbx := heap_alloc_new w (.cells #[.pointer (some ⟨g, 0, none⟩), .pointer none] 97)
  have hq1 := (Fr.of_below (S := fun _ => False) HB1.out).blk hq (fun h => h)
  have H0 := Aside0.mk (show OW (w.alloc (.cells #[.pointer (some ⟨g, 0, none⟩), .pointer none] 97)) (w.alloc (.cells #[.pointer (some ⟨g, 0, none⟩), .pointer none] 97)) B g ro s from ⟨Nat.le_trans hB HB1.out.size, ro, hw.below HB1.out, .inl rfl, Fr.refl _ _⟩)
  have hgl := hw.lt
  have hrl := hw.ro_lt
  have c0 : (w.alloc (.cells #[.pointer (some ⟨g, 0, none⟩), .pointer none] 97)).cell? ⟨bt, 0, none⟩ = some (Value.int .i64 n0) := blk_cell hq1 0
  have c1 : (w.alloc (.cells #[.pointer (some ⟨g, 0, none⟩), .pointer none] 97)).cell? ⟨bt, 1, none⟩ = some (Value.int .i64 n1) := blk_cell hq1 1
  have c2 : (w.alloc (.cells #[.pointer (some ⟨g, 0, none⟩), .pointer none] 97)).cell? ⟨bt, 2, none⟩ = some (Value.string y) := blk_cell hq1 2
  have c3 : (w.alloc (.cells #[.pointer (some ⟨g, 0, none⟩), .pointer none] 97)).cell? ⟨bt, 3, none⟩ = some (Value.int .i64 n3) := blk_cell hq1 3
  have c4 : (w.alloc (.cells #[.pointer (some ⟨g, 0, none⟩), .pointer none] 97)).cell? ⟨bt, 4, none⟩ = some (Value.int .i64 n4) := blk_cell hq1 4
  have c5 : (w.alloc (.cells #[.pointer (some ⟨g, 0, none⟩), .pointer none] 97)).cell? ⟨bt, 5, none⟩ = some (Value.int .i64 n5) := blk_cell hq1 5
  have HC := Aside0.mk (And.intro c0 (And.intro c1 (And.intro c2 (And.intro c3 (And.intro c4 c5)))))
  have HK : Aside0 (∀ W, Fr (WrS g ro) (w.alloc (.cells #[.pointer (some ⟨g, 0, none⟩), .pointer none] 97)) W → W.cell? ⟨w.heap.size, 0, none⟩ = some (.pointer (some ⟨g, 0, none⟩)) ∧ W.cell? ⟨w.heap.size, 1, none⟩ = some (.pointer none)) := ⟨fun W hf => by
    have hx := hf.blk hbx (by
      rintro (e | e)
      · omega
      · have := (hrl _ e).2
        omega)
    exact ⟨(blk_cell hx 0).trans rfl, (blk_cell hx 1).trans rfl⟩⟩
  have L0 := putNum_len s n0 2
  have L1 := putNum_len (s.put (pNumber n0 2)) n1 4
  have L2 := putFix_len ((s.put (pNumber n0 2)).put (pNumber n1 4)) y
  have L3 := putNum_len (((s.put (pNumber n0 2)).put (pNumber n1 4)).put (pFixed y 8)) n3 1
  have L4 := putNum_len ((((s.put (pNumber n0 2)).put (pNumber n1 4)).put (pFixed y 8)).put (pNumber n3 1)) n4 2
  have HL := Aside0.mk (And.intro hl (And.intro L0 (And.intro L1 (And.intro L2 (And.intro L3 L4)))))
  unfold tapW
  clear hq hw hB hbx hq1 hgl hrl c0 c1 c2 c3 c4 c5 L0 L1 L2 L3 L4 hl
  go_enter Try.func41, Try.ntmps41
  go_wp2
  generalize hW1 : w.alloc (.cells #[.pointer (some ⟨g, 0, none⟩), .pointer none] 97) = W1 at *
  generalize hgb : w.heap.size = gb at HK ⊢
  clear hgb
  have HS0 := Aside0.mk (HK.out _ H0.out.fr)
  have HS0 := Aside0.mk (show (W1).drew.cell? ⟨gb, 0, none⟩ = _ ∧ (W1).drew.cell? ⟨gb, 1, none⟩ = _ from HS0.out)
  refine YtgmbfecfkdbfaaaG.wp_region_door 99 YtgmbfecfkdbfaaaG.keepT (fun _ _ => False) (fun W => W.cell? ⟨gb, 0, none⟩ = some (.pointer (some ⟨g, 0, none⟩)) ∧ W.cell? ⟨gb, 1, none⟩ = some (.pointer none)) (by kernel_rfl) trivial (fun _ _ _ _ h => h.elim) ?_
  refine YtgmbfecfkdbfaaaG.wpAnyG_take 0 (v := .agg #[.pointer (some ⟨g, 0, none⟩), .pointer none]) rfl (by kernel_rfl) (by kernel_rfl) (by kernel_rfl) (by kernel_rfl) (by decide) (fun a u => YtgmbfecfkdbfaaaG.keepT_put a u) HS0.out trivial (by rfl) (by rintro W ⟨h0, h1⟩; go_simp; done) ?_
  try simp only [Act.put, List.getElem_toArray, List.getElem_cons_zero, List.getElem_cons_succ, List.setIfInBounds_toArray, List.set_cons_zero, List.set_cons_succ]
  refine YtgmbfecfkdbfaaaG.wpAnyG_take 1 (v := .pointer (some ⟨bt, 0, none⟩)) rfl (by kernel_rfl) (by kernel_rfl) (by kernel_rfl) (by kernel_rfl) (by decide) (fun a u => YtgmbfecfkdbfaaaG.keepT_put a u) HS0.out trivial (by rfl) (by rintro W ⟨h0, h1⟩; go_simp; done) ?_
  try simp only [Act.put, List.getElem_toArray, List.getElem_cons_zero, List.getElem_cons_succ, List.setIfInBounds_toArray, List.set_cons_zero, List.set_cons_succ]
  refine YtgmbfecfkdbfaaaG.wpAnyG_take 2 (v := .pointer (some ⟨bt, 0, none⟩)) rfl (by kernel_rfl) (by kernel_rfl) (by kernel_rfl) (by kernel_rfl) (by decide) (fun a u => YtgmbfecfkdbfaaaG.keepT_put a u) HS0.out trivial (by rfl) (by rintro W ⟨h0, h1⟩; go_simp; done) ?_
  try simp only [Act.put, List.getElem_toArray, List.getElem_cons_zero, List.getElem_cons_succ, List.setIfInBounds_toArray, List.set_cons_zero, List.set_cons_succ]
  refine YtgmbfecfkdbfaaaG.wpAnyG_take 3 (v := .pointer (some ⟨bt, 0, none⟩)) rfl (by kernel_rfl) (by kernel_rfl) (by kernel_rfl) (by kernel_rfl) (by decide) (fun a u => YtgmbfecfkdbfaaaG.keepT_put a u) HS0.out trivial (by rfl) (by rintro W ⟨h0, h1⟩; go_simp; done) ?_
  try simp only [Act.put, List.getElem_toArray, List.getElem_cons_zero, List.getElem_cons_succ, List.setIfInBounds_toArray, List.set_cons_zero, List.set_cons_succ]
  have HD0 := Aside0.mk (H0.out.then_ (Below.refl _ _).drew)
  refine YtgmbfecfkdbfaaaG.wpAnyG_one 4 rfl (by kernel_rfl) (by rfl) (fun K hK => ?_)
  go_simp
  refine hK _ _ (HK.out _ (HD0.out.then_ (below1 _)).fr) trivial ?_
  try simp only [Act.put, List.getElem_toArray, List.getElem_cons_zero, List.getElem_cons_succ, List.setIfInBounds_toArray, List.set_cons_zero, List.set_cons_succ]
  clear hK K
  refine YtgmbfecfkdbfaaaG.wpAnyG_one 5 rfl (by kernel_rfl) (by rfl) (fun K hK => ?_)
  go_simp
  refine (OW.number HD0.out 0 n0 2 HC.out.1 h0 hg hr (by have := HL.out; omega)).mono ?_
  rintro e w1 ⟨rfl, H1'⟩
  have H1 := Aside0.mk H1'
  clear H1'
  refine hK _ _ (HK.out _ H1.out.fr) trivial ?_
  try simp only [Act.put, List.getElem_toArray, List.getElem_cons_zero, List.getElem_cons_succ, List.setIfInBounds_toArray, List.set_cons_zero, List.set_cons_succ]
  clear hK K HS0
  refine YtgmbfecfkdbfaaaG.wpAnyG_done (by kernel_rfl) ?_ _
  go_wp2
  have HS0 := Aside0.mk (HK.out _ H1.out.fr)
  have HS0 := Aside0.mk (show (w1).drew.cell? ⟨gb, 0, none⟩ = _ ∧ (w1).drew.cell? ⟨gb, 1, none⟩ = _ from HS0.out)
  refine YtgmbfecfkdbfaaaG.wp_region_door 99 YtgmbfecfkdbfaaaG.keepT (fun _ _ => False) (fun W => W.cell? ⟨gb, 0, none⟩ = some (.pointer (some ⟨g, 0, none⟩)) ∧ W.cell? ⟨gb, 1, none⟩ = some (.pointer none)) (by kernel_rfl) trivial (fun _ _ _ _ h => h.elim) ?_
  refine YtgmbfecfkdbfaaaG.wpAnyG_take 0 (v := .agg #[.pointer (some ⟨g, 0, none⟩), .pointer none]) rfl (by kernel_rfl) (by kernel_rfl) (by kernel_rfl) (by kernel_rfl) (by decide) (fun a u => YtgmbfecfkdbfaaaG.keepT_put a u) HS0.out trivial (by rfl) (by rintro W ⟨h0, h1⟩; go_simp; done) ?_
  try simp only [Act.put, List.getElem_toArray, List.getElem_cons_zero, List.getElem_cons_succ, List.setIfInBounds_toArray, List.set_cons_zero, List.set_cons_succ]
  refine YtgmbfecfkdbfaaaG.wpAnyG_take 1 (v := .pointer (some ⟨bt, 0, none⟩)) rfl (by kernel_rfl) (by kernel_rfl) (by kernel_rfl) (by kernel_rfl) (by decide) (fun a u => YtgmbfecfkdbfaaaG.keepT_put a u) HS0.out trivial (by rfl) (by rintro W ⟨h0, h1⟩; go_simp; done) ?_
  try simp only [Act.put, List.getElem_toArray, List.getElem_cons_zero, List.getElem_cons_succ, List.setIfInBounds_toArray, List.set_cons_zero, List.set_cons_succ]
  refine YtgmbfecfkdbfaaaG.wpAnyG_take 2 (v := .pointer (some ⟨bt, 0, none⟩)) rfl (by kernel_rfl) (by kernel_rfl) (by kernel_rfl) (by kernel_rfl) (by decide) (fun a u => YtgmbfecfkdbfaaaG.keepT_put a u) HS0.out trivial (by rfl) (by rintro W ⟨h0, h1⟩; go_simp; done) ?_
  try simp only [Act.put, List.getElem_toArray, List.getElem_cons_zero, List.getElem_cons_succ, List.setIfInBounds_toArray, List.set_cons_zero, List.set_cons_succ]
  refine YtgmbfecfkdbfaaaG.wpAnyG_take 3 (v := .pointer (some ⟨bt, 1, none⟩)) rfl (by kernel_rfl) (by kernel_rfl) (by kernel_rfl) (by kernel_rfl) (by decide) (fun a u => YtgmbfecfkdbfaaaG.keepT_put a u) HS0.out trivial (by rfl) (by rintro W ⟨h0, h1⟩; go_simp; done) ?_
  try simp only [Act.put, List.getElem_toArray, List.getElem_cons_zero, List.getElem_cons_succ, List.setIfInBounds_toArray, List.set_cons_zero, List.set_cons_succ]
  have HD1 := Aside0.mk (H1.out.then_ (Below.refl _ _).drew)
  refine YtgmbfecfkdbfaaaG.wpAnyG_one 4 rfl (by kernel_rfl) (by rfl) (fun K hK => ?_)
  go_simp
  refine hK _ _ (HK.out _ (HD1.out.then_ (below1 _)).fr) trivial ?_
  try simp only [Act.put, List.getElem_toArray, List.getElem_cons_zero, List.getElem_cons_succ, List.setIfInBounds_toArray, List.set_cons_zero, List.set_cons_succ]
  clear hK K
  refine YtgmbfecfkdbfaaaG.wpAnyG_one 5 rfl (by kernel_rfl) (by rfl) (fun K hK => ?_)
  go_simp
  refine (OW.number HD1.out 1 n1 4 HC.out.2.1 h1 hg hr (by have := HL.out; omega)).mono ?_
  rintro e w2 ⟨rfl, H2'⟩
  have H2 := Aside0.mk H2'
  clear H2'
  refine hK _ _ (HK.out _ H2.out.fr) trivial ?_
  try simp only [Act.put, List.getElem_toArray, List.getElem_cons_zero, List.getElem_cons_succ, List.setIfInBounds_toArray, List.set_cons_zero, List.set_cons_succ]
  clear hK K HS0
  refine YtgmbfecfkdbfaaaG.wpAnyG_done (by kernel_rfl) ?_ _
  go_wp2
  have HS0 := Aside0.mk (HK.out _ H2.out.fr)
  have HS0 := Aside0.mk (show (w2).drew.cell? ⟨gb, 0, none⟩ = _ ∧ (w2).drew.cell? ⟨gb, 1, none⟩ = _ from HS0.out)
  refine YtgmbfecfkdbfaaaG.wp_region_door 99 YtgmbfecfkdbfaaaG.keepT (fun _ _ => False) (fun W => W.cell? ⟨gb, 0, none⟩ = some (.pointer (some ⟨g, 0, none⟩)) ∧ W.cell? ⟨gb, 1, none⟩ = some (.pointer none)) (by kernel_rfl) trivial (fun _ _ _ _ h => h.elim) ?_
  refine YtgmbfecfkdbfaaaG.wpAnyG_take 0 (v := .agg #[.pointer (some ⟨g, 0, none⟩), .pointer none]) rfl (by kernel_rfl) (by kernel_rfl) (by kernel_rfl) (by kernel_rfl) (by decide) (fun a u => YtgmbfecfkdbfaaaG.keepT_put a u) HS0.out trivial (by rfl) (by rintro W ⟨h0, h1⟩; go_simp; done) ?_
  try simp only [Act.put, List.getElem_toArray, List.getElem_cons_zero, List.getElem_cons_succ, List.setIfInBounds_toArray, List.set_cons_zero, List.set_cons_succ]
  refine YtgmbfecfkdbfaaaG.wpAnyG_take 1 (v := .pointer (some ⟨bt, 0, none⟩)) rfl (by kernel_rfl) (by kernel_rfl) (by kernel_rfl) (by kernel_rfl) (by decide) (fun a u => YtgmbfecfkdbfaaaG.keepT_put a u) HS0.out trivial (by rfl) (by rintro W ⟨h0, h1⟩; go_simp; done) ?_
  try simp only [Act.put, List.getElem_toArray, List.getElem_cons_zero, List.getElem_cons_succ, List.setIfInBounds_toArray, List.set_cons_zero, List.set_cons_succ]
  refine YtgmbfecfkdbfaaaG.wpAnyG_take 2 (v := .pointer (some ⟨bt, 0, none⟩)) rfl (by kernel_rfl) (by kernel_rfl) (by kernel_rfl) (by kernel_rfl) (by decide) (fun a u => YtgmbfecfkdbfaaaG.keepT_put a u) HS0.out trivial (by rfl) (by rintro W ⟨h0, h1⟩; go_simp; done) ?_
  try simp only [Act.put, List.getElem_toArray, List.getElem_cons_zero, List.getElem_cons_succ, List.setIfInBounds_toArray, List.set_cons_zero, List.set_cons_succ]
  refine YtgmbfecfkdbfaaaG.wpAnyG_take 3 (v := .pointer (some ⟨bt, 2, none⟩)) rfl (by kernel_rfl) (by kernel_rfl) (by kernel_rfl) (by kernel_rfl) (by decide) (fun a u => YtgmbfecfkdbfaaaG.keepT_put a u) HS0.out trivial (by rfl) (by rintro W ⟨h0, h1⟩; go_simp; done) ?_
  try simp only [Act.put, List.getElem_toArray, List.getElem_cons_zero, List.getElem_cons_succ, List.setIfInBounds_toArray, List.set_cons_zero, List.set_cons_succ]
  have HD2 := Aside0.mk (H2.out.then_ (Below.refl _ _).drew)
  refine YtgmbfecfkdbfaaaG.wpAnyG_one 4 rfl (by kernel_rfl) (by rfl) (fun K hK => ?_)
  go_simp
  refine (OW.token HD2.out 2 y HC.out.2.2.1 hy hg hr (by have := HL.out; omega)).mono ?_
  rintro e w3 ⟨rfl, H3'⟩
  have H3 := Aside0.mk H3'
  clear H3'
  refine hK _ _ (HK.out _ H3.out.fr) trivial ?_
  try simp only [Act.put, List.getElem_toArray, List.getElem_cons_zero, List.getElem_cons_succ, List.setIfInBounds_toArray, List.set_cons_zero, List.set_cons_succ]
  clear hK K HS0
  refine YtgmbfecfkdbfaaaG.wpAnyG_done (by kernel_rfl) ?_ _
  go_wp2
  have HS0 := Aside0.mk (HK.out _ H3.out.fr)
  have HS0 := Aside0.mk (show (w3).drew.cell? ⟨gb, 0, none⟩ = _ ∧ (w3).drew.cell? ⟨gb, 1, none⟩ = _ from HS0.out)
  refine YtgmbfecfkdbfaaaG.wp_region_door 99 YtgmbfecfkdbfaaaG.keepT (fun _ _ => False) (fun W => W.cell? ⟨gb, 0, none⟩ = some (.pointer (some ⟨g, 0, none⟩)) ∧ W.cell? ⟨gb, 1, none⟩ = some (.pointer none)) (by kernel_rfl) trivial (fun _ _ _ _ h => h.elim) ?_
  refine YtgmbfecfkdbfaaaG.wpAnyG_take 0 (v := .agg #[.pointer (some ⟨g, 0, none⟩), .pointer none]) rfl (by kernel_rfl) (by kernel_rfl) (by kernel_rfl) (by kernel_rfl) (by decide) (fun a u => YtgmbfecfkdbfaaaG.keepT_put a u) HS0.out trivial (by rfl) (by rintro W ⟨h0, h1⟩; go_simp; done) ?_
  try simp only [Act.put, List.getElem_toArray, List.getElem_cons_zero, List.getElem_cons_succ, List.setIfInBounds_toArray, List.set_cons_zero, List.set_cons_succ]
  refine YtgmbfecfkdbfaaaG.wpAnyG_take 1 (v := .pointer (some ⟨bt, 0, none⟩)) rfl (by kernel_rfl) (by kernel_rfl) (by kernel_rfl) (by kernel_rfl) (by decide) (fun a u => YtgmbfecfkdbfaaaG.keepT_put a u) HS0.out trivial (by rfl) (by rintro W ⟨h0, h1⟩; go_simp; done) ?_
  try simp only [Act.put, List.getElem_toArray, List.getElem_cons_zero, List.getElem_cons_succ, List.setIfInBounds_toArray, List.set_cons_zero, List.set_cons_succ]
  refine YtgmbfecfkdbfaaaG.wpAnyG_take 2 (v := .pointer (some ⟨bt, 0, none⟩)) rfl (by kernel_rfl) (by kernel_rfl) (by kernel_rfl) (by kernel_rfl) (by decide) (fun a u => YtgmbfecfkdbfaaaG.keepT_put a u) HS0.out trivial (by rfl) (by rintro W ⟨h0, h1⟩; go_simp; done) ?_
  try simp only [Act.put, List.getElem_toArray, List.getElem_cons_zero, List.getElem_cons_succ, List.setIfInBounds_toArray, List.set_cons_zero, List.set_cons_succ]
  refine YtgmbfecfkdbfaaaG.wpAnyG_take 3 (v := .pointer (some ⟨bt, 3, none⟩)) rfl (by kernel_rfl) (by kernel_rfl) (by kernel_rfl) (by kernel_rfl) (by decide) (fun a u => YtgmbfecfkdbfaaaG.keepT_put a u) HS0.out trivial (by rfl) (by rintro W ⟨h0, h1⟩; go_simp; done) ?_
  try simp only [Act.put, List.getElem_toArray, List.getElem_cons_zero, List.getElem_cons_succ, List.setIfInBounds_toArray, List.set_cons_zero, List.set_cons_succ]
  have HD3 := Aside0.mk (H3.out.then_ (Below.refl _ _).drew)
  refine YtgmbfecfkdbfaaaG.wpAnyG_one 4 rfl (by kernel_rfl) (by rfl) (fun K hK => ?_)
  go_simp
  refine hK _ _ (HK.out _ (HD3.out.then_ (below1 _)).fr) trivial ?_
  try simp only [Act.put, List.getElem_toArray, List.getElem_cons_zero, List.getElem_cons_succ, List.setIfInBounds_toArray, List.set_cons_zero, List.set_cons_succ]
  clear hK K
  refine YtgmbfecfkdbfaaaG.wpAnyG_one 5 rfl (by kernel_rfl) (by rfl) (fun K hK => ?_)
  go_simp
  refine (OW.number HD3.out 3 n3 1 HC.out.2.2.2.1 h3 hg hr (by have := HL.out; omega)).mono ?_
  rintro e w4 ⟨rfl, H4'⟩
  have H4 := Aside0.mk H4'
  clear H4'
  refine hK _ _ (HK.out _ H4.out.fr) trivial ?_
  try simp only [Act.put, List.getElem_toArray, List.getElem_cons_zero, List.getElem_cons_succ, List.setIfInBounds_toArray, List.set_cons_zero, List.set_cons_succ]
  clear hK K HS0
  refine YtgmbfecfkdbfaaaG.wpAnyG_done (by kernel_rfl) ?_ _
  go_wp2
  have HS0 := Aside0.mk (HK.out _ H4.out.fr)
  have HS0 := Aside0.mk (show (w4).drew.cell? ⟨gb, 0, none⟩ = _ ∧ (w4).drew.cell? ⟨gb, 1, none⟩ = _ from HS0.out)
  refine YtgmbfecfkdbfaaaG.wp_region_door 99 YtgmbfecfkdbfaaaG.keepT (fun _ _ => False) (fun W => W.cell? ⟨gb, 0, none⟩ = some (.pointer (some ⟨g, 0, none⟩)) ∧ W.cell? ⟨gb, 1, none⟩ = some (.pointer none)) (by kernel_rfl) trivial (fun _ _ _ _ h => h.elim) ?_
  refine YtgmbfecfkdbfaaaG.wpAnyG_take 0 (v := .agg #[.pointer (some ⟨g, 0, none⟩), .pointer none]) rfl (by kernel_rfl) (by kernel_rfl) (by kernel_rfl) (by kernel_rfl) (by decide) (fun a u => YtgmbfecfkdbfaaaG.keepT_put a u) HS0.out trivial (by rfl) (by rintro W ⟨h0, h1⟩; go_simp; done) ?_
  try simp only [Act.put, List.getElem_toArray, List.getElem_cons_zero, List.getElem_cons_succ, List.setIfInBounds_toArray, List.set_cons_zero, List.set_cons_succ]
  refine YtgmbfecfkdbfaaaG.wpAnyG_take 1 (v := .pointer (some ⟨bt, 0, none⟩)) rfl (by kernel_rfl) (by kernel_rfl) (by kernel_rfl) (by kernel_rfl) (by decide) (fun a u => YtgmbfecfkdbfaaaG.keepT_put a u) HS0.out trivial (by rfl) (by rintro W ⟨h0, h1⟩; go_simp; done) ?_
  try simp only [Act.put, List.getElem_toArray, List.getElem_cons_zero, List.getElem_cons_succ, List.setIfInBounds_toArray, List.set_cons_zero, List.set_cons_succ]
  refine YtgmbfecfkdbfaaaG.wpAnyG_take 2 (v := .pointer (some ⟨bt, 0, none⟩)) rfl (by kernel_rfl) (by kernel_rfl) (by kernel_rfl) (by kernel_rfl) (by decide) (fun a u => YtgmbfecfkdbfaaaG.keepT_put a u) HS0.out trivial (by rfl) (by rintro W ⟨h0, h1⟩; go_simp; done) ?_
  try simp only [Act.put, List.getElem_toArray, List.getElem_cons_zero, List.getElem_cons_succ, List.setIfInBounds_toArray, List.set_cons_zero, List.set_cons_succ]
  refine YtgmbfecfkdbfaaaG.wpAnyG_take 3 (v := .pointer (some ⟨bt, 4, none⟩)) rfl (by kernel_rfl) (by kernel_rfl) (by kernel_rfl) (by kernel_rfl) (by decide) (fun a u => YtgmbfecfkdbfaaaG.keepT_put a u) HS0.out trivial (by rfl) (by rintro W ⟨h0, h1⟩; go_simp; done) ?_
  try simp only [Act.put, List.getElem_toArray, List.getElem_cons_zero, List.getElem_cons_succ, List.setIfInBounds_toArray, List.set_cons_zero, List.set_cons_succ]
  have HD4 := Aside0.mk (H4.out.then_ (Below.refl _ _).drew)
  refine YtgmbfecfkdbfaaaG.wpAnyG_one 4 rfl (by kernel_rfl) (by rfl) (fun K hK => ?_)
  go_simp
  refine hK _ _ (HK.out _ (HD4.out.then_ (below1 _)).fr) trivial ?_
  try simp only [Act.put, List.getElem_toArray, List.getElem_cons_zero, List.getElem_cons_succ, List.setIfInBounds_toArray, List.set_cons_zero, List.set_cons_succ]
  clear hK K
  refine YtgmbfecfkdbfaaaG.wpAnyG_one 5 rfl (by kernel_rfl) (by rfl) (fun K hK => ?_)
  go_simp
  refine (OW.number HD4.out 4 n4 2 HC.out.2.2.2.2.1 h4 hg hr (by have := HL.out; omega)).mono ?_
  rintro e w5 ⟨rfl, H5'⟩
  have H5 := Aside0.mk H5'
  clear H5'
  refine hK _ _ (HK.out _ H5.out.fr) trivial ?_
  try simp only [Act.put, List.getElem_toArray, List.getElem_cons_zero, List.getElem_cons_succ, List.setIfInBounds_toArray, List.set_cons_zero, List.set_cons_succ]
  clear hK K HS0
  refine YtgmbfecfkdbfaaaG.wpAnyG_done (by kernel_rfl) ?_ _
  go_wp2
  have HS0 := Aside0.mk (HK.out _ H5.out.fr)
  have HS0 := Aside0.mk (show (w5).drew.cell? ⟨gb, 0, none⟩ = _ ∧ (w5).drew.cell? ⟨gb, 1, none⟩ = _ from HS0.out)
  refine YtgmbfecfkdbfaaaG.wp_region_door 99 YtgmbfecfkdbfaaaG.keepT (fun _ _ => False) (fun W => W.cell? ⟨gb, 0, none⟩ = some (.pointer (some ⟨g, 0, none⟩)) ∧ W.cell? ⟨gb, 1, none⟩ = some (.pointer none)) (by kernel_rfl) trivial (fun _ _ _ _ h => h.elim) ?_
  refine YtgmbfecfkdbfaaaG.wpAnyG_take 0 (v := .agg #[.pointer (some ⟨g, 0, none⟩), .pointer none]) rfl (by kernel_rfl) (by kernel_rfl) (by kernel_rfl) (by kernel_rfl) (by decide) (fun a u => YtgmbfecfkdbfaaaG.keepT_put a u) HS0.out trivial (by rfl) (by rintro W ⟨h0, h1⟩; go_simp; done) ?_
  try simp only [Act.put, List.getElem_toArray, List.getElem_cons_zero, List.getElem_cons_succ, List.setIfInBounds_toArray, List.set_cons_zero, List.set_cons_succ]
  refine YtgmbfecfkdbfaaaG.wpAnyG_take 1 (v := .pointer (some ⟨bt, 0, none⟩)) rfl (by kernel_rfl) (by kernel_rfl) (by kernel_rfl) (by kernel_rfl) (by decide) (fun a u => YtgmbfecfkdbfaaaG.keepT_put a u) HS0.out trivial (by rfl) (by rintro W ⟨h0, h1⟩; go_simp; done) ?_
  try simp only [Act.put, List.getElem_toArray, List.getElem_cons_zero, List.getElem_cons_succ, List.setIfInBounds_toArray, List.set_cons_zero, List.set_cons_succ]
  refine YtgmbfecfkdbfaaaG.wpAnyG_take 2 (v := .pointer (some ⟨bt, 0, none⟩)) rfl (by kernel_rfl) (by kernel_rfl) (by kernel_rfl) (by kernel_rfl) (by decide) (fun a u => YtgmbfecfkdbfaaaG.keepT_put a u) HS0.out trivial (by rfl) (by rintro W ⟨h0, h1⟩; go_simp; done) ?_
  try simp only [Act.put, List.getElem_toArray, List.getElem_cons_zero, List.getElem_cons_succ, List.setIfInBounds_toArray, List.set_cons_zero, List.set_cons_succ]
  refine YtgmbfecfkdbfaaaG.wpAnyG_take 3 (v := .pointer (some ⟨bt, 5, none⟩)) rfl (by kernel_rfl) (by kernel_rfl) (by kernel_rfl) (by kernel_rfl) (by decide) (fun a u => YtgmbfecfkdbfaaaG.keepT_put a u) HS0.out trivial (by rfl) (by rintro W ⟨h0, h1⟩; go_simp; done) ?_
  try simp only [Act.put, List.getElem_toArray, List.getElem_cons_zero, List.getElem_cons_succ, List.setIfInBounds_toArray, List.set_cons_zero, List.set_cons_succ]
  have HD5 := Aside0.mk (H5.out.then_ (Below.refl _ _).drew)
  refine YtgmbfecfkdbfaaaG.wpAnyG_one 4 rfl (by kernel_rfl) (by rfl) (fun K hK => ?_)
  go_simp
  refine hK _ _ (HK.out _ (HD5.out.then_ (below1 _)).fr) trivial ?_
  try simp only [Act.put, List.getElem_toArray, List.getElem_cons_zero, List.getElem_cons_succ, List.setIfInBounds_toArray, List.set_cons_zero, List.set_cons_succ]
  clear hK K
  refine YtgmbfecfkdbfaaaG.wpAnyG_one 5 rfl (by kernel_rfl) (by rfl) (fun K hK => ?_)
  go_simp
  refine (OW.number HD5.out 5 n5 4 HC.out.2.2.2.2.2 h5 hg hr (by have := HL.out; omega)).mono ?_
  rintro e w6 ⟨rfl, H6'⟩
  have H6 := Aside0.mk H6'
  clear H6'
  refine hK _ _ (HK.out _ H6.out.fr) trivial ?_
  try simp only [Act.put, List.getElem_toArray, List.getElem_cons_zero, List.getElem_cons_succ, List.setIfInBounds_toArray, List.set_cons_zero, List.set_cons_succ]
  clear hK K HS0
  refine YtgmbfecfkdbfaaaG.wpAnyG_done (by kernel_rfl) ?_ _
  go_wp2
  go_end0
  obtain ⟨_, ro', hw', hr', hf'⟩ := H6.out
  exact WPost.from (w1 := W1) ⟨rfl, ro', hw', hr', hf'⟩ HB1.out
end Go.Proofs.Ytgmbfecfkdbfaaa.Wi
