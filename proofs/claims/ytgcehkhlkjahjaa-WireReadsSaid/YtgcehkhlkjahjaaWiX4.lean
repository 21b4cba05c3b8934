/- The laws' takes: a piece on both sides gives the same answer. -/
import Derived.Test.YtgcehkhlkjahjaaWiX3
set_option linter.unusedVariables false
set_option linter.unusedSimpArgs false
namespace Go.Proofs.Ytgcehkhlkjahjaa.Wi
open Go Go.RowKit Go.Proofs.YtgcehkhlkjahjaaW.PrintWords
section
variable {w W W' : World} {g gx : Nat} {A : Option Addr} {c : Nat} {bs : List Int} {r r' q q' : RS}
/-- the program's reader and the document's, side by side -/
structure PX (w W : World) (g gx : Nat) (A : Option Addr) (c : Nat) (bs : List Int) (r q : RS) : Prop where
  below : Below w.heap.size w W
  rd_ : ∃ ro, Rd W w.heap.size g ro bs r
  xr : XR W gx A c bs q
  hgx : w.heap.size ≤ gx
  far : ∀ ad, A = some ad → 0 < bs.length → ad.block < w.heap.size
theorem PX.ne (H : PX w W g gx A c bs r q) : g ≠ gx := by
  obtain ⟨_, ⟨ro, hr⟩, hx, _, _⟩ := H
  obtain ⟨v, h1, _⟩ := hr.at_
  exact blk_ne h1 hx.blk (by decide)
theorem PX.reader (H : PX w W g gx A c bs r q) : RAt w W g bs r := ⟨H.below, H.rd_⟩
theorem PX.then_ (H : PX w W g gx A c bs r q) (hb : Below W.heap.size W W') : PX w W' g gx A c bs r q := by
  obtain ⟨h, ⟨ro, hr⟩, hx, hg, hf⟩ := H
  exact ⟨below_then h h.size hb, ⟨ro, hr.below hb⟩, hx.below hb, hg, hf⟩
theorem PX.read (H : PX w W g gx A c bs r q) {u : Value} {F : Nat} {args : Array Value} (hC : ∀ ro, Rd W w.heap.size g ro bs r → w.heap.size ≤ W.heap.size → Calls Try.prog F args W (RPost w.heap.size g ro bs u r' W)) :
    Calls Try.prog F args W fun e W' => e = .returned u ∧ PX w W' g gx A c bs r' q ∧ Fr (fun i => i = g) W W' := by
  have hne := H.ne
  obtain ⟨hb, ⟨ro, hr⟩, hx, hg, hfar⟩ := H
  refine (hC ro hr hb.size).mono fun e W' hP => ?_
  obtain ⟨he, hr', hf⟩ := hP
  have hbase := hr.base
  refine ⟨he, ⟨hb.trans (hf.below hb.size (fun i hi => by subst hi; exact hbase)), ⟨ro, hr'⟩, ⟨hf.blk hx.blk (fun e => hne e.symm), hx.rd_.keep ⟨hf.size, fun i hi hn _ => hf.block i hi hn⟩ (fun ad ea hn e => ?_), hx.far, hx.le, hx.len, hx.byt, hx.cap⟩, hg, hfar⟩, hf⟩
  have := hfar ad ea hn
  omega
theorem PX.doc (H : PX w W g gx A c bs r q) {u : Value} {F : Nat} {args : Array Value} (hC : XR W gx A c bs q → Calls Try.prog F args W (XPost gx A c bs u q' W)) :
    Calls Try.prog F args W fun e W' => e = .returned u ∧ PX w W' g gx A c bs r q' ∧ Fr (fun i => i = gx) W W' := by
  have hne := H.ne
  obtain ⟨hb, ⟨ro, hr⟩, hx, hg, hfar⟩ := H
  refine (hC hx).mono fun e W' hP => ?_
  obtain ⟨he, hx', hf⟩ := hP
  obtain ⟨v, hv, ho, hro⟩ := hr.at_
  refine ⟨he, ⟨hb.trans (hf.below hb.size (fun i hi => by subst hi; exact hg)), ⟨ro, hr.keep hf hne (fun k hk e => ?_)⟩, hx', hg, hfar⟩, hf⟩
  subst e
  exact own_ne ho hx.blk (by decide) (by rw [hro, hk])
end
def takesS (bs : List Int) (r : RS) (p : Pc) : RS := if p.kind = 7 then r.fail p.n else if p.kind = 8 then r.end_ bs.length else nothingS bs r p
set_option maxHeartbeats 32000000 in
set_option maxRecDepth 100000 in
theorem takes_calls {w W : World} {g gx : Nat} {A : Option Addr} {c : Nat} {bs : List Int} {r : RS} (p : Pc) (hp : p.Ok) (H : PX w W g gx A c bs r r) :
    Calls Try.prog 23 #[.pointer (some ⟨g, 0, none⟩), .pointer (some ⟨gx, 0, none⟩), p.val] W fun e W' => e = .returned (.bool true) ∧ PX w W' g gx A c bs (takesS bs r p) (takesS bs r p) := by
  obtain ⟨kind, n, size, x, is, y⟩ := p
  unfold Pc.val
  clear hp
  have hg := H.reader.lt
  have hgx := H.xr.lt
  have HP := Aside0.mk (H.then_ (below1 (.cells #[.int .i64 kind, .int .i64 n, .int .i64 size, .float .f64 x, .bool is, .string y] 34)))
  have hfb : ∀ (a : Nat) (w : World), (callFunc 48 #[.float .f64 a]).run Try.prog w = .ok (.value (.int .u64 a)) w := fun a w => by kernel_rfl
  clear H
  simp only
  by_cases k0 : kind = 0
  · subst k0
    have HN : Aside0 (takesS bs r ⟨0, n, size, x, is, y⟩ = (rNum bs r size).2) := ⟨rfl⟩
    have C := Aside0.mk (PX.read HP.out (fun ro hr hB => rNumber_calls size hr hB))
    have D := Aside0.mk (fun (r2 : RS) (W : World) (h : PX w W g gx A c bs r2 r) => PX.doc h (fun hx => xNum_calls size hx))
    unfold rNum at HN D
    generalize hq : r.take bs _ _ = q at C HN D
    obtain ⟨v, r2⟩ := q
    simp only [encS] at C HN D
    rw [HN.out]
    clear hq HP HN
    go_enter Try.func23, Try.ntmps23
    go_wp2_with (first | (go_at_call 25; refine C.out.mono ?_; rintro e w1 ⟨rfl, P1, f1⟩; have hb1 := f1.blk (heap_alloc_new W (.cells #[.int .i64 0, .int .i64 n, .int .i64 size, .float .f64 x, .bool is, .string y] 34)) (by omega); have e2 : _ = some (Value.int .i64 size) := blk_cell hb1 2) | (go_at_call 49; refine (D.out _ _ P1).mono ?_; rintro e w2 ⟨rfl, P2, f2⟩))
    go_ret
    exact ⟨by first | rfl | (simp; done), P2⟩
  by_cases k1 : kind = 1
  · subst k1
    have HN : Aside0 (takesS bs r ⟨1, n, size, x, is, y⟩ = (rInt bs r).2) := ⟨rfl⟩
    have C := Aside0.mk (PX.read HP.out (fun ro hr hB => rInt_calls hr hB))
    have D := Aside0.mk (fun (r2 : RS) (W : World) (h : PX w W g gx A c bs r2 r) => PX.doc h (fun hx => xInt_calls hx))
    unfold rInt at HN D
    generalize hq : r.take bs _ _ = q at C HN D
    obtain ⟨v, r2⟩ := q
    simp only [encS] at C HN D
    rw [HN.out]
    clear hq HP HN
    go_enter Try.func23, Try.ntmps23
    go_wp2_with (first | (go_at_call 26; refine C.out.mono ?_; rintro e w1 ⟨rfl, P1, f1⟩; have hb1 := f1.blk (heap_alloc_new W (.cells #[.int .i64 1, .int .i64 n, .int .i64 size, .float .f64 x, .bool is, .string y] 34)) (by omega); have e2 : _ = some (Value.int .i64 size) := blk_cell hb1 2) | (go_at_call 50; refine (D.out _ _ P1).mono ?_; rintro e w2 ⟨rfl, P2, f2⟩))
    go_ret
    exact ⟨by first | rfl | (simp; done), P2⟩
  by_cases k2 : kind = 2
  · subst k2
    have HN : Aside0 (takesS bs r ⟨2, n, size, x, is, y⟩ = (rFlo bs r).2) := ⟨rfl⟩
    have C := Aside0.mk (PX.read HP.out (fun ro hr hB => rFloat_calls hr hB))
    have D := Aside0.mk (fun (r2 : RS) (W : World) (h : PX w W g gx A c bs r2 r) => PX.doc h (fun hx => xFlo_calls hx))
    unfold rFlo at HN D
    generalize hq : r.take bs _ _ = q at C HN D
    obtain ⟨v, r2⟩ := q
    simp only [encS] at C HN D
    rw [HN.out]
    clear hq HP HN
    go_enter Try.func23, Try.ntmps23
    go_wp2_with (first | (go_at_call 27; refine C.out.mono ?_; rintro e w1 ⟨rfl, P1, f1⟩; have hb1 := f1.blk (heap_alloc_new W (.cells #[.int .i64 2, .int .i64 n, .int .i64 size, .float .f64 x, .bool is, .string y] 34)) (by omega); have e2 : _ = some (Value.int .i64 size) := blk_cell hb1 2) | (go_at_call 51; refine (D.out _ _ P1).mono ?_; rintro e w2 ⟨rfl, P2, f2⟩))
    go_ret
    exact ⟨by first | rfl | (simp; done), P2⟩
  by_cases k3 : kind = 3
  · subst k3
    have HN : Aside0 (takesS bs r ⟨3, n, size, x, is, y⟩ = (rBoo bs r).2) := ⟨rfl⟩
    have C := Aside0.mk (PX.read HP.out (fun ro hr hB => rBool_calls hr hB))
    have D := Aside0.mk (fun (r2 : RS) (W : World) (h : PX w W g gx A c bs r2 r) => PX.doc h (fun hx => xBoo_calls hx))
    unfold rBoo at HN D
    generalize hq : r.take bs _ _ = q at C HN D
    obtain ⟨v, r2⟩ := q
    simp only [encS] at C HN D
    rw [HN.out]
    clear hq HP HN
    go_enter Try.func23, Try.ntmps23
    go_wp2_with (first | (go_at_call 28; refine C.out.mono ?_; rintro e w1 ⟨rfl, P1, f1⟩; have hb1 := f1.blk (heap_alloc_new W (.cells #[.int .i64 3, .int .i64 n, .int .i64 size, .float .f64 x, .bool is, .string y] 34)) (by omega); have e2 : _ = some (Value.int .i64 size) := blk_cell hb1 2) | (go_at_call 53; refine (D.out _ _ P1).mono ?_; rintro e w2 ⟨rfl, P2, f2⟩))
    go_ret
    exact ⟨by first | rfl | (simp; done), P2⟩
  by_cases k4 : kind = 4
  · subst k4
    have HN : Aside0 (takesS bs r ⟨4, n, size, x, is, y⟩ = (rTex bs r size).2) := ⟨rfl⟩
    have C := Aside0.mk (PX.read HP.out (fun ro hr hB => rText_calls size hr hB))
    have D := Aside0.mk (fun (r2 : RS) (W : World) (h : PX w W g gx A c bs r2 r) => PX.doc h (fun hx => xTex_calls size hx))
    unfold rTex at HN D
    generalize hq : r.take bs _ _ = q at C HN D
    obtain ⟨v, r2⟩ := q
    simp only [encS] at C HN D
    rw [HN.out]
    clear hq HP HN
    go_enter Try.func23, Try.ntmps23
    go_wp2_with (first | (go_at_call 29; refine C.out.mono ?_; rintro e w1 ⟨rfl, P1, f1⟩; have hb1 := f1.blk (heap_alloc_new W (.cells #[.int .i64 4, .int .i64 n, .int .i64 size, .float .f64 x, .bool is, .string y] 34)) (by omega); have e2 : _ = some (Value.int .i64 size) := blk_cell hb1 2) | (go_at_call 54; refine (D.out _ _ P1).mono ?_; rintro e w2 ⟨rfl, P2, f2⟩))
    go_ret
    exact ⟨by first | rfl | (simp; done), P2⟩
  by_cases k5 : kind = 5
  · subst k5
    have HN : Aside0 (takesS bs r ⟨5, n, size, x, is, y⟩ = (rFix bs r size).2) := ⟨rfl⟩
    have C := Aside0.mk (PX.read HP.out (fun ro hr hB => rFixed_calls size hr hB))
    have D := Aside0.mk (fun (r2 : RS) (W : World) (h : PX w W g gx A c bs r2 r) => PX.doc h (fun hx => xFix_calls size hx))
    unfold rFix at HN D
    generalize hq : r.take bs _ _ = q at C HN D
    obtain ⟨v, r2⟩ := q
    simp only [encS] at C HN D
    rw [HN.out]
    clear hq HP HN
    go_enter Try.func23, Try.ntmps23
    go_wp2_with (first | (go_at_call 30; refine C.out.mono ?_; rintro e w1 ⟨rfl, P1, f1⟩; have hb1 := f1.blk (heap_alloc_new W (.cells #[.int .i64 5, .int .i64 n, .int .i64 size, .float .f64 x, .bool is, .string y] 34)) (by omega); have e2 : _ = some (Value.int .i64 size) := blk_cell hb1 2) | (go_at_call 55; refine (D.out _ _ P1).mono ?_; rintro e w2 ⟨rfl, P2, f2⟩))
    go_ret
    exact ⟨by first | rfl | (simp; done), P2⟩
  by_cases k6 : kind = 6
  · subst k6
    have HN : Aside0 (takesS bs r ⟨6, n, size, x, is, y⟩ = (rCou bs r size).2) := ⟨rfl⟩
    have C := Aside0.mk (PX.read HP.out (fun ro hr hB => rCount_calls size hr hB))
    have D := Aside0.mk (fun (r2 : RS) (W : World) (h : PX w W g gx A c bs r2 r) => PX.doc h (fun hx => xCou_calls size hx))
    unfold rCou at HN D
    generalize hq : r.take bs _ _ = q at C HN D
    obtain ⟨v, r2⟩ := q
    simp only [encS] at C HN D
    rw [HN.out]
    clear hq HP HN
    go_enter Try.func23, Try.ntmps23
    go_wp2_with (first | (go_at_call 31; refine C.out.mono ?_; rintro e w1 ⟨rfl, P1, f1⟩; have hb1 := f1.blk (heap_alloc_new W (.cells #[.int .i64 6, .int .i64 n, .int .i64 size, .float .f64 x, .bool is, .string y] 34)) (by omega); have e2 : _ = some (Value.int .i64 size) := blk_cell hb1 2) | (go_at_call 56; refine (D.out _ _ P1).mono ?_; rintro e w2 ⟨rfl, P2, f2⟩))
    go_ret
    exact ⟨by first | rfl | (simp; done), P2⟩
  by_cases k7 : kind = 7
  · subst k7
    have HN : Aside0 (takesS bs r ⟨7, n, size, x, is, y⟩ = r.fail n) := ⟨rfl⟩
    have C := Aside0.mk (PX.read HP.out (fun ro hr hB => rFail_calls n hr))
    have D := Aside0.mk (fun (r2 : RS) (W : World) (h : PX w W g gx A c bs r2 r) => PX.doc h (fun hx => xFail_calls n hx))
    rw [HN.out]
    clear HP HN
    go_enter Try.func23, Try.ntmps23
    go_wp2_with (first | (go_at_call 20; refine C.out.mono ?_; rintro e w1 ⟨rfl, P1, f1⟩; have hb1 := f1.blk (heap_alloc_new W (.cells #[.int .i64 7, .int .i64 n, .int .i64 size, .float .f64 x, .bool is, .string y] 34)) (by omega); have e1 : _ = some (Value.int .i64 n) := blk_cell hb1 1) | (go_at_call 57; refine (D.out _ _ P1).mono ?_; rintro e w2 ⟨rfl, P2, f2⟩))
    go_ret
    exact ⟨by first | rfl | (simp; done), P2⟩
  by_cases k8 : kind = 8
  · subst k8
    have HN : Aside0 (takesS bs r ⟨8, n, size, x, is, y⟩ = r.end_ bs.length) := ⟨rfl⟩
    have C := Aside0.mk (PX.read HP.out (fun ro hr hB => rEnd_calls hr))
    have D := Aside0.mk (fun (r2 : RS) (W : World) (h : PX w W g gx A c bs r2 r) => PX.doc h (fun hx => xEnd_calls hx))
    rw [HN.out]
    generalize r.end_ bs.length = r2 at *
    clear HP HN
    go_enter Try.func23, Try.ntmps23
    go_wp2_with (go_at_call 33; refine C.out.mono ?_; rintro e w1 ⟨rfl, P1, f1⟩)
    have HB1 := Aside0.mk (heap_alloc_new w1 (.cells #[.int .i64 r2.code, .int .i64 r2.fat] 47))
    have HS0 := Aside0.mk (show ((w1.alloc (.cells #[.int .i64 r2.code, .int .i64 r2.fat] 47)).drew.cell? ⟨w1.heap.size, 0, none⟩ = some (.int .i64 r2.code) ∧ (w1.alloc (.cells #[.int .i64 r2.code, .int .i64 r2.fat] 47)).drew.cell? ⟨w1.heap.size, 1, none⟩ = some (.int .i64 r2.fat)) from ⟨(blk_cell HB1.out 0).trans rfl, (blk_cell HB1.out 1).trans rfl⟩)
    have HP1 := Aside0.mk ((P1.then_ (below1 (.cells #[.int .i64 r2.code, .int .i64 r2.fat] 47))).then_ (Below.refl _ _).drew)
    have HNE := Aside0.mk (show gx < w1.heap.size from P1.xr.lt)
    clear P1 f1
    generalize w1.heap.size = gf at *
    refine YtgcehkhlkjahjaaG.wp_region_door 99 YtgcehkhlkjahjaaG.keepT (fun _ _ => False) (fun W => W.cell? ⟨gf, 0, none⟩ = some (.int .i64 r2.code) ∧ W.cell? ⟨gf, 1, none⟩ = some (.int .i64 r2.fat)) (by kernel_rfl) trivial (fun _ _ _ _ h => h.elim) ?_
    refine YtgcehkhlkjahjaaG.wpAnyG_take 0 (v := .agg #[.int .i64 r2.code, .int .i64 r2.fat]) rfl (by kernel_rfl) (by kernel_rfl) (by kernel_rfl) (by kernel_rfl) (by decide) (fun a u => YtgcehkhlkjahjaaG.keepT_put a u) HS0.out trivial (by rfl) (by rintro W ⟨h0, h1⟩; go_simp; done) ?_
    try simp only [Act.put, List.getElem_toArray, List.getElem_cons_zero, List.getElem_cons_succ, List.setIfInBounds_toArray, List.set_cons_zero, List.set_cons_succ]
    refine YtgcehkhlkjahjaaG.wpAnyG_take 1 (v := .pointer (some ⟨gx, 0, none⟩)) rfl (by kernel_rfl) (by kernel_rfl) (by kernel_rfl) (by kernel_rfl) (by decide) (fun a u => YtgcehkhlkjahjaaG.keepT_put a u) HS0.out trivial (by rfl) (by rintro W ⟨h0, h1⟩; go_simp; done) ?_
    try simp only [Act.put, List.getElem_toArray, List.getElem_cons_zero, List.getElem_cons_succ, List.setIfInBounds_toArray, List.set_cons_zero, List.set_cons_succ]
    refine YtgcehkhlkjahjaaG.wpAnyG_one 2 rfl (by kernel_rfl) (by rfl) (fun K hK => ?_)
    go_simp
    refine (D.out _ _ HP1.out).mono ?_
    rintro e w2 ⟨rfl, P2, f2⟩
    have q2 := f2.blk HB1.out (by have := HNE.out; omega)
    have HS1 := Aside0.mk (And.intro ((blk_cell q2 0).trans rfl) ((blk_cell q2 1).trans rfl))
    have HP2 := Aside0.mk P2
    clear q2 P2 f2
    refine hK _ _ HS1.out trivial ?_
    try simp only [Act.put, List.getElem_toArray, List.getElem_cons_zero, List.getElem_cons_succ, List.setIfInBounds_toArray, List.set_cons_zero, List.set_cons_succ]
    clear hK K
    refine YtgcehkhlkjahjaaG.wpAnyG_take 3 (v := .bool true) rfl (by kernel_rfl) (by kernel_rfl) (by kernel_rfl) (by kernel_rfl) (by decide) (fun a u => YtgcehkhlkjahjaaG.keepT_put a u) HS1.out trivial (by rfl) (by rintro W ⟨h0, h1⟩; go_simp; done) ?_
    try simp only [Act.put, List.getElem_toArray, List.getElem_cons_zero, List.getElem_cons_succ, List.setIfInBounds_toArray, List.set_cons_zero, List.set_cons_succ]
    refine YtgcehkhlkjahjaaG.wpAnyG_take 4 (v := .bool true) rfl (by kernel_rfl) (by kernel_rfl) (by kernel_rfl) (by kernel_rfl) (by decide) (fun a u => YtgcehkhlkjahjaaG.keepT_put a u) HS1.out trivial (by rfl) (by rintro W ⟨h0, h1⟩; go_simp; done) ?_
    try simp only [Act.put, List.getElem_toArray, List.getElem_cons_zero, List.getElem_cons_succ, List.setIfInBounds_toArray, List.set_cons_zero, List.set_cons_succ]
    refine YtgcehkhlkjahjaaG.wpAnyG_done (by kernel_rfl) ?_ _
    go_wp2
    go_ret
    exact ⟨rfl, HP2.out⟩
  have HN : Aside0 (takesS bs r ⟨kind, n, size, x, is, y⟩ = r) := ⟨by simp [takesS, nothingS, k0, k1, k2, k3, k4, k5, k6, k7, k8]⟩
  have t0 : (kind == 0) = false := beq_eq_false_iff_ne.2 k0
  have t1 : (kind == 1) = false := beq_eq_false_iff_ne.2 k1
  have t2 : (kind == 2) = false := beq_eq_false_iff_ne.2 k2
  have t3 : (kind == 3) = false := beq_eq_false_iff_ne.2 k3
  have t4 : (kind == 4) = false := beq_eq_false_iff_ne.2 k4
  have t5 : (kind == 5) = false := beq_eq_false_iff_ne.2 k5
  have t6 : (kind == 6) = false := beq_eq_false_iff_ne.2 k6
  have t7 : (kind == 7) = false := beq_eq_false_iff_ne.2 k7
  have t8 : (kind == 8) = false := beq_eq_false_iff_ne.2 k8
  clear k0 k1 k2 k3 k4 k5 k6 k7 k8
  go_enter Try.func23, Try.ntmps23
  go_wp2
  go_ret
  rw [HN.out]
  exact ⟨rfl, HP.out⟩
end Go.Proofs.Ytgcehkhlkjahjaa.Wi
