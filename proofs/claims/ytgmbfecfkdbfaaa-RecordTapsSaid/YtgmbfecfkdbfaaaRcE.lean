/- A tap's pieces in their order, laid down. -/
import Derived.Test.YtgmbfecfkdbfaaaRcD
set_option linter.unusedVariables false
set_option linter.unusedSimpArgs false
namespace Go.Proofs.Ytgmbfecfkdbfaaa.Wi
open Go Go.RowKit Go.Proofs.YtgmbfecfkdbfaaaW.PrintWords
/-- what is laid down of a tap, and where the reader is then -/
structure TapV where
  n0 : Int
  n1 : Int
  y : List Int
  n3 : Int
  n4 : Int
  n5 : Int
def tapR (bs : List Int) (r : RS) : TapV × RS :=
  let p0 := rNum bs r 2
  let p1 := rNum bs p0.2 4
  let p2 := rFix bs p1.2 8
  let p3 := rNum bs p2.2 1
  let p4 := rNum bs p3.2 2
  let p5 := rNum bs p4.2 4
  (⟨p0.1, p1.1, p2.1, p3.1, p4.1, p5.1⟩, p5.2)
def TapV.cells (t : TapV) : Array Value := #[.int .i64 t.n0, .int .i64 t.n1, .string (strOfNums t.y), .int .i64 t.n3, .int .i64 t.n4, .int .i64 t.n5]
set_option maxHeartbeats 8000000 in
set_option maxRecDepth 100000 in
theorem overTap_r {w : World} {B g : Nat} {ro : Option Nat} {bs : List Int} {r : RS} {bt : Nat} (n0 n1 : Int) (y : ByteArray) (n3 n4 n5 : Int) (hq : w.heap[bt]? = some (.cells #[.int .i64 n0, .int .i64 n1, .string y, .int .i64 n3, .int .i64 n4, .int .i64 n5] 23 (0, 0)))
    (hr : Rd w B g ro bs r) (hB : B ≤ w.heap.size) :
    Calls Try.prog 41 #[.agg #[.pointer none, .pointer (some ⟨g, 0, none⟩)], .pointer (some ⟨bt, 0, none⟩)] w (SPost B g ro bs bt 23 (tapR bs r).1.cells (tapR bs r).2 w) := by
  have HB1 := Aside0.mk (below1 (w := w) (.cells #[.pointer none, .pointer (some ⟨g, 0, none⟩)] 97))
  have hbx := heap_alloc_new w (.cells #[.pointer none, .pointer (some ⟨g, 0, none⟩)] 97)
  have hq1 := (Fr.of_below (S := fun _ => False) HB1.out).blk hq (fun h => h)
  have H0 := Aside0.mk (show OR_ (w.alloc (.cells #[.pointer none, .pointer (some ⟨g, 0, none⟩)] 97)) (w.alloc (.cells #[.pointer none, .pointer (some ⟨g, 0, none⟩)] 97)) B g ro bs bt 23 _ r from ⟨Nat.le_trans hB HB1.out.size, hr.below HB1.out, hq1, Fr.refl _ _⟩)
  have hgl := hr.lt
  have hbl := blk_lt hq
  have HK : Aside0 (∀ W, Fr (fun i => i = g ∨ i = bt) (w.alloc (.cells #[.pointer none, .pointer (some ⟨g, 0, none⟩)] 97)) W → W.cell? ⟨w.heap.size, 0, none⟩ = some (.pointer none) ∧ W.cell? ⟨w.heap.size, 1, none⟩ = some (.pointer (some ⟨g, 0, none⟩))) := ⟨fun W hf => by
    have hx := hf.blk hbx (by rintro (e | e) <;> omega)
    exact ⟨(blk_cell hx 0).trans rfl, (blk_cell hx 1).trans rfl⟩⟩
  clear hq hr hB hbx hq1 hgl hbl
  go_enter Try.func41, Try.ntmps41
  go_wp2
  generalize hW1 : w.alloc (.cells #[.pointer none, .pointer (some ⟨g, 0, none⟩)] 97) = W1 at *
  generalize hgb : w.heap.size = gb at HK ⊢
  clear hgb
  have HS0 := Aside0.mk (HK.out _ H0.out.fr)
  have HS0 := Aside0.mk (show (W1).drew.cell? ⟨gb, 0, none⟩ = _ ∧ (W1).drew.cell? ⟨gb, 1, none⟩ = _ from HS0.out)
  refine YtgmbfecfkdbfaaaG.wp_region_door 99 YtgmbfecfkdbfaaaG.keepT (fun _ _ => False) (fun W => W.cell? ⟨gb, 0, none⟩ = some (.pointer none) ∧ W.cell? ⟨gb, 1, none⟩ = some (.pointer (some ⟨g, 0, none⟩))) (by kernel_rfl) trivial (fun _ _ _ _ h => h.elim) ?_
  refine YtgmbfecfkdbfaaaG.wpAnyG_take 0 (v := .agg #[.pointer none, .pointer (some ⟨g, 0, none⟩)]) rfl (by kernel_rfl) (by kernel_rfl) (by kernel_rfl) (by kernel_rfl) (by decide) (fun a u => YtgmbfecfkdbfaaaG.keepT_put a u) HS0.out trivial (by rfl) (by rintro W ⟨h0, h1⟩; go_simp; done) ?_
  try simp only [Act.put, List.getElem_toArray, List.getElem_cons_zero, List.getElem_cons_succ, List.setIfInBounds_toArray, List.set_cons_zero, List.set_cons_succ]
  refine YtgmbfecfkdbfaaaG.wpAnyG_take 1 (v := .pointer (some ⟨bt, 0, none⟩)) rfl (by kernel_rfl) (by kernel_rfl) (by kernel_rfl) (by kernel_rfl) (by decide) (fun a u => YtgmbfecfkdbfaaaG.keepT_put a u) HS0.out trivial (by rfl) (by rintro W ⟨h0, h1⟩; go_simp; done) ?_
  try simp only [Act.put, List.getElem_toArray, List.getElem_cons_zero, List.getElem_cons_succ, List.setIfInBounds_toArray, List.set_cons_zero, List.set_cons_succ]
  refine YtgmbfecfkdbfaaaG.wpAnyG_take 2 (v := .pointer (some ⟨bt, 0, none⟩)) rfl (by kernel_rfl) (by kernel_rfl) (by kernel_rfl) (by kernel_rfl) (by decide) (fun a u => YtgmbfecfkdbfaaaG.keepT_put a u) HS0.out trivial (by rfl) (by rintro W ⟨h0, h1⟩; go_simp; done) ?_
  try simp only [Act.put, List.getElem_toArray, List.getElem_cons_zero, List.getElem_cons_succ, List.setIfInBounds_toArray, List.set_cons_zero, List.set_cons_succ]
  refine YtgmbfecfkdbfaaaG.wpAnyG_take 3 (v := .pointer (some ⟨bt, 0, none⟩)) rfl (by kernel_rfl) (by kernel_rfl) (by kernel_rfl) (by kernel_rfl) (by decide) (fun a u => YtgmbfecfkdbfaaaG.keepT_put a u) HS0.out trivial (by rfl) (by rintro W ⟨h0, h1⟩; go_simp; done) ?_
  try simp only [Act.put, List.getElem_toArray, List.getElem_cons_zero, List.getElem_cons_succ, List.setIfInBounds_toArray, List.set_cons_zero, List.set_cons_succ]
  have HD0 := Aside0.mk (H0.out.then_ (Below.refl _ _).drew)
  refine YtgmbfecfkdbfaaaG.wpAnyG_one 4 rfl (by kernel_rfl) (by rfl) (fun K hK => ?_)
  go_simp
  refine hK _ _ (HK.out _ (HD0.out.then_ (below1 _)).fr) trivial ?_
  try simp only [Act.put, List.getElem_toArray, List.getElem_cons_zero, List.getElem_cons_succ, List.setIfInBounds_toArray, List.set_cons_zero, List.set_cons_succ]
  clear hK K
  refine YtgmbfecfkdbfaaaG.wpAnyG_one 5 rfl (by kernel_rfl) (by rfl) (fun K hK => ?_)
  go_simp
  refine (OR_.number HD0.out 0 2 (by simp) (by decide) (by decide)).mono ?_
  rintro e w1 ⟨rfl, H1'⟩
  have H1 := Aside0.mk H1'
  clear H1'
  refine hK _ _ (HK.out _ H1.out.fr) trivial ?_
  try simp only [Act.put, List.getElem_toArray, List.getElem_cons_zero, List.getElem_cons_succ, List.setIfInBounds_toArray, List.set_cons_zero, List.set_cons_succ]
  clear hK K HS0
  refine YtgmbfecfkdbfaaaG.wpAnyG_done (by kernel_rfl) ?_ _
  go_wp2
  have HS0 := Aside0.mk (HK.out _ H1.out.fr)
  have HS0 := Aside0.mk (show (w1).drew.cell? ⟨gb, 0, none⟩ = _ ∧ (w1).drew.cell? ⟨gb, 1, none⟩ = _ from HS0.out)
  refine YtgmbfecfkdbfaaaG.wp_region_door 99 YtgmbfecfkdbfaaaG.keepT (fun _ _ => False) (fun W => W.cell? ⟨gb, 0, none⟩ = some (.pointer none) ∧ W.cell? ⟨gb, 1, none⟩ = some (.pointer (some ⟨g, 0, none⟩))) (by kernel_rfl) trivial (fun _ _ _ _ h => h.elim) ?_
  refine YtgmbfecfkdbfaaaG.wpAnyG_take 0 (v := .agg #[.pointer none, .pointer (some ⟨g, 0, none⟩)]) rfl (by kernel_rfl) (by kernel_rfl) (by kernel_rfl) (by kernel_rfl) (by decide) (fun a u => YtgmbfecfkdbfaaaG.keepT_put a u) HS0.out trivial (by rfl) (by rintro W ⟨h0, h1⟩; go_simp; done) ?_
  try simp only [Act.put, List.getElem_toArray, List.getElem_cons_zero, List.getElem_cons_succ, List.setIfInBounds_toArray, List.set_cons_zero, List.set_cons_succ]
  refine YtgmbfecfkdbfaaaG.wpAnyG_take 1 (v := .pointer (some ⟨bt, 0, none⟩)) rfl (by kernel_rfl) (by kernel_rfl) (by kernel_rfl) (by kernel_rfl) (by decide) (fun a u => YtgmbfecfkdbfaaaG.keepT_put a u) HS0.out trivial (by rfl) (by rintro W ⟨h0, h1⟩; go_simp; done) ?_
  try simp only [Act.put, List.getElem_toArray, List.getElem_cons_zero, List.getElem_cons_succ, List.setIfInBounds_toArray, List.set_cons_zero, List.set_cons_succ]
  refine YtgmbfecfkdbfaaaG.wpAnyG_take 2 (v := .pointer (some ⟨bt, 0, none⟩)) rfl (by kernel_rfl) (by kernel_rfl) (by kernel_rfl) (by kernel_rfl) (by decide) (fun a u => YtgmbfecfkdbfaaaG.keepT_put a u) HS0.out trivial (by rfl) (by rintro W ⟨h0, h1⟩; go_simp; done) ?_
  try simp only [Act.put, List.getElem_toArray, List.getElem_cons_zero, List.getElem_cons_succ, List.setIfInBounds_toArray, List.set_cons_zero, List.set_cons_succ]
  refine YtgmbfecfkdbfaaaG.wpAnyG_take 3 (v := .pointer (some ⟨bt, 1, none⟩)) rfl (by kernel_rfl) (by kernel_rfl) (by kernel_rfl) (by kernel_rfl) (by decide) (fun a u => YtgmbfecfkdbfaaaG.keepT_put a u) HS0.out trivial (by rfl) (by rintro W ⟨h0, h1⟩; go_simp; done) ?_
  try simp only [Act.put, List.getElem_toArray, List.getElem_cons_zero, List.getElem_cons_succ, List.setIfInBounds_toArray, List.set_cons_zero, List.set_cons_succ]
  have HD1 := Aside0.mk (H1.out.then_ (Below.refl _ _).drew)
  refine YtgmbfecfkdbfaaaG.wpAnyG_one 4 rfl (by kernel_rfl) (by rfl) (fun K hK => ?_)
  go_simp
  refine hK _ _ (HK.out _ (HD1.out.then_ (below1 _)).fr) trivial ?_
  try simp only [Act.put, List.getElem_toArray, List.getElem_cons_zero, List.getElem_cons_succ, List.setIfInBounds_toArray, List.set_cons_zero, List.set_cons_succ]
  clear hK K
  refine YtgmbfecfkdbfaaaG.wpAnyG_one 5 rfl (by kernel_rfl) (by rfl) (fun K hK => ?_)
  go_simp
  refine (OR_.number HD1.out 1 4 (by simp) (by decide) (by decide)).mono ?_
  rintro e w2 ⟨rfl, H2'⟩
  have H2 := Aside0.mk H2'
  clear H2'
  refine hK _ _ (HK.out _ H2.out.fr) trivial ?_
  try simp only [Act.put, List.getElem_toArray, List.getElem_cons_zero, List.getElem_cons_succ, List.setIfInBounds_toArray, List.set_cons_zero, List.set_cons_succ]
  clear hK K HS0
  refine YtgmbfecfkdbfaaaG.wpAnyG_done (by kernel_rfl) ?_ _
  go_wp2
  have HS0 := Aside0.mk (HK.out _ H2.out.fr)
  have HS0 := Aside0.mk (show (w2).drew.cell? ⟨gb, 0, none⟩ = _ ∧ (w2).drew.cell? ⟨gb, 1, none⟩ = _ from HS0.out)
  refine YtgmbfecfkdbfaaaG.wp_region_door 99 YtgmbfecfkdbfaaaG.keepT (fun _ _ => False) (fun W => W.cell? ⟨gb, 0, none⟩ = some (.pointer none) ∧ W.cell? ⟨gb, 1, none⟩ = some (.pointer (some ⟨g, 0, none⟩))) (by kernel_rfl) trivial (fun _ _ _ _ h => h.elim) ?_
  refine YtgmbfecfkdbfaaaG.wpAnyG_take 0 (v := .agg #[.pointer none, .pointer (some ⟨g, 0, none⟩)]) rfl (by kernel_rfl) (by kernel_rfl) (by kernel_rfl) (by kernel_rfl) (by decide) (fun a u => YtgmbfecfkdbfaaaG.keepT_put a u) HS0.out trivial (by rfl) (by rintro W ⟨h0, h1⟩; go_simp; done) ?_
  try simp only [Act.put, List.getElem_toArray, List.getElem_cons_zero, List.getElem_cons_succ, List.setIfInBounds_toArray, List.set_cons_zero, List.set_cons_succ]
  refine YtgmbfecfkdbfaaaG.wpAnyG_take 1 (v := .pointer (some ⟨bt, 0, none⟩)) rfl (by kernel_rfl) (by kernel_rfl) (by kernel_rfl) (by kernel_rfl) (by decide) (fun a u => YtgmbfecfkdbfaaaG.keepT_put a u) HS0.out trivial (by rfl) (by rintro W ⟨h0, h1⟩; go_simp; done) ?_
  try simp only [Act.put, List.getElem_toArray, List.getElem_cons_zero, List.getElem_cons_succ, List.setIfInBounds_toArray, List.set_cons_zero, List.set_cons_succ]
  refine YtgmbfecfkdbfaaaG.wpAnyG_take 2 (v := .pointer (some ⟨bt, 0, none⟩)) rfl (by kernel_rfl) (by kernel_rfl) (by kernel_rfl) (by kernel_rfl) (by decide) (fun a u => YtgmbfecfkdbfaaaG.keepT_put a u) HS0.out trivial (by rfl) (by rintro W ⟨h0, h1⟩; go_simp; done) ?_
  try simp only [Act.put, List.getElem_toArray, List.getElem_cons_zero, List.getElem_cons_succ, List.setIfInBounds_toArray, List.set_cons_zero, List.set_cons_succ]
  refine YtgmbfecfkdbfaaaG.wpAnyG_take 3 (v := .pointer (some ⟨bt, 2, none⟩)) rfl (by kernel_rfl) (by kernel_rfl) (by kernel_rfl) (by kernel_rfl) (by decide) (fun a u => YtgmbfecfkdbfaaaG.keepT_put a u) HS0.out trivial (by rfl) (by rintro W ⟨h0, h1⟩; go_simp; done) ?_
  try simp only [Act.put, List.getElem_toArray, List.getElem_cons_zero, List.getElem_cons_succ, List.setIfInBounds_toArray, List.set_cons_zero, List.set_cons_succ]
  have HD2 := Aside0.mk (H2.out.then_ (Below.refl _ _).drew)
  refine YtgmbfecfkdbfaaaG.wpAnyG_one 4 rfl (by kernel_rfl) (by rfl) (fun K hK => ?_)
  go_simp
  refine (OR_.token HD2.out 2 (by simp) (by decide) (by decide)).mono ?_
  rintro e w3 ⟨rfl, H3'⟩
  have H3 := Aside0.mk H3'
  clear H3'
  refine hK _ _ (HK.out _ H3.out.fr) trivial ?_
  try simp only [Act.put, List.getElem_toArray, List.getElem_cons_zero, List.getElem_cons_succ, List.setIfInBounds_toArray, List.set_cons_zero, List.set_cons_succ]
  clear hK K HS0
  refine YtgmbfecfkdbfaaaG.wpAnyG_done (by kernel_rfl) ?_ _
  go_wp2
  have HS0 := Aside0.mk (HK.out _ H3.out.fr)
  have HS0 := Aside0.mk (show (w3).drew.cell? ⟨gb, 0, none⟩ = _ ∧ (w3).drew.cell? ⟨gb, 1, none⟩ = _ from HS0.out)
  refine YtgmbfecfkdbfaaaG.wp_region_door 99 YtgmbfecfkdbfaaaG.keepT (fun _ _ => False) (fun W => W.cell? ⟨gb, 0, none⟩ = some (.pointer none) ∧ W.cell? ⟨gb, 1, none⟩ = some (.pointer (some ⟨g, 0, none⟩))) (by kernel_rfl) trivial (fun _ _ _ _ h => h.elim) ?_
  refine YtgmbfecfkdbfaaaG.wpAnyG_take 0 (v := .agg #[.pointer none, .pointer (some ⟨g, 0, none⟩)]) rfl (by kernel_rfl) (by kernel_rfl) (by kernel_rfl) (by kernel_rfl) (by decide) (fun a u => YtgmbfecfkdbfaaaG.keepT_put a u) HS0.out trivial (by rfl) (by rintro W ⟨h0, h1⟩; go_simp; done) ?_
  try simp only [Act.put, List.getElem_toArray, List.getElem_cons_zero, List.getElem_cons_succ, List.setIfInBounds_toArray, List.set_cons_zero, List.set_cons_succ]
  refine YtgmbfecfkdbfaaaG.wpAnyG_take 1 (v := .pointer (some ⟨bt, 0, none⟩)) rfl (by kernel_rfl) (by kernel_rfl) (by kernel_rfl) (by kernel_rfl) (by decide) (fun a u => YtgmbfecfkdbfaaaG.keepT_put a u) HS0.out trivial (by rfl) (by rintro W ⟨h0, h1⟩; go_simp; done) ?_
  try simp only [Act.put, List.getElem_toArray, List.getElem_cons_zero, List.getElem_cons_succ, List.setIfInBounds_toArray, List.set_cons_zero, List.set_cons_succ]
  refine YtgmbfecfkdbfaaaG.wpAnyG_take 2 (v := .pointer (some ⟨bt, 0, none⟩)) rfl (by kernel_rfl) (by kernel_rfl) (by kernel_rfl) (by kernel_rfl) (by decide) (fun a u => YtgmbfecfkdbfaaaG.keepT_put a u) HS0.out trivial (by rfl) (by rintro W ⟨h0, h1⟩; go_simp; done) ?_
  try simp only [Act.put, List.getElem_toArray, List.getElem_cons_zero, List.getElem_cons_succ, List.setIfInBounds_toArray, List.set_cons_zero, List.set_cons_succ]
  refine YtgmbfecfkdbfaaaG.wpAnyG_take 3 (v := .pointer (some ⟨bt, 3, none⟩)) rfl (by kernel_rfl) (by kernel_rfl) (by kernel_rfl) (by kernel_rfl) (by decide) (fun a u => YtgmbfecfkdbfaaaG.keepT_put a u) HS0.out trivial (by rfl) (by rintro W ⟨h0, h1⟩; go_simp; done) ?_
  try simp only [Act.put, List.getElem_toArray, List.getElem_cons_zero, List.getElem_cons_succ, List.setIfInBounds_toArray, List.set_cons_zero, List.set_cons_succ]
  have HD3 := Aside0.mk (H3.out.then_ (Below.refl _ _).drew)
  refine YtgmbfecfkdbfaaaG.wpAnyG_one 4 rfl (by kernel_rfl) (by rfl) (fun K hK => ?_)
  go_simp
  refine hK _ _ (HK.out _ (HD3.out.then_ (below1 _)).fr) trivial ?_
  try simp only [Act.put, List.getElem_toArray, List.getElem_cons_zero, List.getElem_cons_succ, List.setIfInBounds_toArray, List.set_cons_zero, List.set_cons_succ]
  clear hK K
  refine YtgmbfecfkdbfaaaG.wpAnyG_one 5 rfl (by kernel_rfl) (by rfl) (fun K hK => ?_)
  go_simp
  refine (OR_.number HD3.out 3 1 (by simp) (by decide) (by decide)).mono ?_
  rintro e w4 ⟨rfl, H4'⟩
  have H4 := Aside0.mk H4'
  clear H4'
  refine hK _ _ (HK.out _ H4.out.fr) trivial ?_
  try simp only [Act.put, List.getElem_toArray, List.getElem_cons_zero, List.getElem_cons_succ, List.setIfInBounds_toArray, List.set_cons_zero, List.set_cons_succ]
  clear hK K HS0
  refine YtgmbfecfkdbfaaaG.wpAnyG_done (by kernel_rfl) ?_ _
  go_wp2
  have HS0 := Aside0.mk (HK.out _ H4.out.fr)
  have HS0 := Aside0.mk (show (w4).drew.cell? ⟨gb, 0, none⟩ = _ ∧ (w4).drew.cell? ⟨gb, 1, none⟩ = _ from HS0.out)
  refine YtgmbfecfkdbfaaaG.wp_region_door 99 YtgmbfecfkdbfaaaG.keepT (fun _ _ => False) (fun W => W.cell? ⟨gb, 0, none⟩ = some (.pointer none) ∧ W.cell? ⟨gb, 1, none⟩ = some (.pointer (some ⟨g, 0, none⟩))) (by kernel_rfl) trivial (fun _ _ _ _ h => h.elim) ?_
  refine YtgmbfecfkdbfaaaG.wpAnyG_take 0 (v := .agg #[.pointer none, .pointer (some ⟨g, 0, none⟩)]) rfl (by kernel_rfl) (by kernel_rfl) (by kernel_rfl) (by kernel_rfl) (by decide) (fun a u => YtgmbfecfkdbfaaaG.keepT_put a u) HS0.out trivial (by rfl) (by rintro W ⟨h0, h1⟩; go_simp; done) ?_
  try simp only [Act.put, List.getElem_toArray, List.getElem_cons_zero, List.getElem_cons_succ, List.setIfInBounds_toArray, List.set_cons_zero, List.set_cons_succ]
  refine YtgmbfecfkdbfaaaG.wpAnyG_take 1 (v := .pointer (some ⟨bt, 0, none⟩)) rfl (by kernel_rfl) (by kernel_rfl) (by kernel_rfl) (by kernel_rfl) (by decide) (fun a u => YtgmbfecfkdbfaaaG.keepT_put a u) HS0.out trivial (by rfl) (by rintro W ⟨h0, h1⟩; go_simp; done) ?_
  try simp only [Act.put, List.getElem_toArray, List.getElem_cons_zero, List.getElem_cons_succ, List.setIfInBounds_toArray, List.set_cons_zero, List.set_cons_succ]
  refine YtgmbfecfkdbfaaaG.wpAnyG_take 2 (v := .pointer (some ⟨bt, 0, none⟩)) rfl (by kernel_rfl) (by kernel_rfl) (by kernel_rfl) (by kernel_rfl) (by decide) (fun a u => YtgmbfecfkdbfaaaG.keepT_put a u) HS0.out trivial (by rfl) (by rintro W ⟨h0, h1⟩; go_simp; done) ?_
  try simp only [Act.put, List.getElem_toArray, List.getElem_cons_zero, List.getElem_cons_succ, List.setIfInBounds_toArray, List.set_cons_zero, List.set_cons_succ]
  refine YtgmbfecfkdbfaaaG.wpAnyG_take 3 (v := .pointer (some ⟨bt, 4, none⟩)) rfl (by kernel_rfl) (by kernel_rfl) (by kernel_rfl) (by kernel_rfl) (by decide) (fun a u => YtgmbfecfkdbfaaaG.keepT_put a u) HS0.out trivial (by rfl) (by rintro W ⟨h0, h1⟩; go_simp; done) ?_
  try simp only [Act.put, List.getElem_toArray, List.getElem_cons_zero, List.getElem_cons_succ, List.setIfInBounds_toArray, List.set_cons_zero, List.set_cons_succ]
  have HD4 := Aside0.mk (H4.out.then_ (Below.refl _ _).drew)
  refine YtgmbfecfkdbfaaaG.wpAnyG_one 4 rfl (by kernel_rfl) (by rfl) (fun K hK => ?_)
  go_simp
  refine hK _ _ (HK.out _ (HD4.out.then_ (below1 _)).fr) trivial ?_
  try simp only [Act.put, List.getElem_toArray, List.getElem_cons_zero, List.getElem_cons_succ, List.setIfInBounds_toArray, List.set_cons_zero, List.set_cons_succ]
  clear hK K
  refine YtgmbfecfkdbfaaaG.wpAnyG_one 5 rfl (by kernel_rfl) (by rfl) (fun K hK => ?_)
  go_simp
  refine (OR_.number HD4.out 4 2 (by simp) (by decide) (by decide)).mono ?_
  rintro e w5 ⟨rfl, H5'⟩
  have H5 := Aside0.mk H5'
  clear H5'
  refine hK _ _ (HK.out _ H5.out.fr) trivial ?_
  try simp only [Act.put, List.getElem_toArray, List.getElem_cons_zero, List.getElem_cons_succ, List.setIfInBounds_toArray, List.set_cons_zero, List.set_cons_succ]
  clear hK K HS0
  refine YtgmbfecfkdbfaaaG.wpAnyG_done (by kernel_rfl) ?_ _
  go_wp2
  have HS0 := Aside0.mk (HK.out _ H5.out.fr)
  have HS0 := Aside0.mk (show (w5).drew.cell? ⟨gb, 0, none⟩ = _ ∧ (w5).drew.cell? ⟨gb, 1, none⟩ = _ from HS0.out)
  refine YtgmbfecfkdbfaaaG.wp_region_door 99 YtgmbfecfkdbfaaaG.keepT (fun _ _ => False) (fun W => W.cell? ⟨gb, 0, none⟩ = some (.pointer none) ∧ W.cell? ⟨gb, 1, none⟩ = some (.pointer (some ⟨g, 0, none⟩))) (by kernel_rfl) trivial (fun _ _ _ _ h => h.elim) ?_
  refine YtgmbfecfkdbfaaaG.wpAnyG_take 0 (v := .agg #[.pointer none, .pointer (some ⟨g, 0, none⟩)]) rfl (by kernel_rfl) (by kernel_rfl) (by kernel_rfl) (by kernel_rfl) (by decide) (fun a u => YtgmbfecfkdbfaaaG.keepT_put a u) HS0.out trivial (by rfl) (by rintro W ⟨h0, h1⟩; go_simp; done) ?_
  try simp only [Act.put, List.getElem_toArray, List.getElem_cons_zero, List.getElem_cons_succ, List.setIfInBounds_toArray, List.set_cons_zero, List.set_cons_succ]
  refine YtgmbfecfkdbfaaaG.wpAnyG_take 1 (v := .pointer (some ⟨bt, 0, none⟩)) rfl (by kernel_rfl) (by kernel_rfl) (by kernel_rfl) (by kernel_rfl) (by decide) (fun a u => YtgmbfecfkdbfaaaG.keepT_put a u) HS0.out trivial (by rfl) (by rintro W ⟨h0, h1⟩; go_simp; done) ?_
  try simp only [Act.put, List.getElem_toArray, List.getElem_cons_zero, List.getElem_cons_succ, List.setIfInBounds_toArray, List.set_cons_zero, List.set_cons_succ]
  refine YtgmbfecfkdbfaaaG.wpAnyG_take 2 (v := .pointer (some ⟨bt, 0, none⟩)) rfl (by kernel_rfl) (by kernel_rfl) (by kernel_rfl) (by kernel_rfl) (by decide) (fun a u => YtgmbfecfkdbfaaaG.keepT_put a u) HS0.out trivial (by rfl) (by rintro W ⟨h0, h1⟩; go_simp; done) ?_
  try simp only [Act.put, List.getElem_toArray, List.getElem_cons_zero, List.getElem_cons_succ, List.setIfInBounds_toArray, List.set_cons_zero, List.set_cons_succ]
  refine YtgmbfecfkdbfaaaG.wpAnyG_take 3 (v := .pointer (some ⟨bt, 5, none⟩)) rfl (by kernel_rfl) (by kernel_rfl) (by kernel_rfl) (by kernel_rfl) (by decide) (fun a u => YtgmbfecfkdbfaaaG.keepT_put a u) HS0.out trivial (by rfl) (by rintro W ⟨h0, h1⟩; go_simp; done) ?_
  try simp only [Act.put, List.getElem_toArray, List.getElem_cons_zero, List.getElem_cons_succ, List.setIfInBounds_toArray, List.set_cons_zero, List.set_cons_succ]
  have HD5 := Aside0.mk (H5.out.then_ (Below.refl _ _).drew)
  refine YtgmbfecfkdbfaaaG.wpAnyG_one 4 rfl (by kernel_rfl) (by rfl) (fun K hK => ?_)
  go_simp
  refine hK _ _ (HK.out _ (HD5.out.then_ (below1 _)).fr) trivial ?_
  try simp only [Act.put, List.getElem_toArray, List.getElem_cons_zero, List.getElem_cons_succ, List.setIfInBounds_toArray, List.set_cons_zero, List.set_cons_succ]
  clear hK K
  refine YtgmbfecfkdbfaaaG.wpAnyG_one 5 rfl (by kernel_rfl) (by rfl) (fun K hK => ?_)
  go_simp
  refine (OR_.number HD5.out 5 4 (by simp) (by decide) (by decide)).mono ?_
  rintro e w6 ⟨rfl, H6'⟩
  have H6 := Aside0.mk H6'
  clear H6'
  refine hK _ _ (HK.out _ H6.out.fr) trivial ?_
  try simp only [Act.put, List.getElem_toArray, List.getElem_cons_zero, List.getElem_cons_succ, List.setIfInBounds_toArray, List.set_cons_zero, List.set_cons_succ]
  clear hK K HS0
  refine YtgmbfecfkdbfaaaG.wpAnyG_done (by kernel_rfl) ?_ _
  go_wp2
  go_end0
  have hb := H6.out.blk
  simp at hb
  exact ⟨rfl, H6.out.rd_, hb, (Fr.of_below HB1.out).trans H6.out.fr (fun _ _ h => h)⟩
end Go.Proofs.Ytgmbfecfkdbfaaa.Wi
