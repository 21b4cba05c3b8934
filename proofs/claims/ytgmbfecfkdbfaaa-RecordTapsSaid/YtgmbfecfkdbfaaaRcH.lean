/- record.Tap, and the way back. -/
import Derived.Test.YtgmbfecfkdbfaaaRcG
set_option linter.unusedVariables false
set_option linter.unusedSimpArgs false
namespace Go.Proofs.Ytgmbfecfkdbfaaa.Wi
open Go Go.RowKit Go.Proofs.YtgmbfecfkdbfaaaW.PrintWords
theorem RTPost.from {t : Tp} {w w1 w' : World} {e : Ending} (h : RTPost t w1 e w') (hb : Below w.heap.size w w1) : RTPost t w e w' := by
  obtain ⟨v, he, ho, hb'⟩ := h
  exact ⟨v, he, own_upto ho (fun k hk => Nat.le_trans hb.size (own_base ho k hk)), below_then hb hb.size hb'⟩
set_option maxHeartbeats 1600000 in
set_option maxRecDepth 100000 in
theorem recTap_calls (t : Tp) (ht : t.Ok) (w : World) : Calls Try.prog 10 #[t.val] w (RTPost t w) := by
  have HW := Aside0.mk (fun W => written_calls t ht W)
  unfold Tp.val at HW ⊢
  go_enter Try.func10, Try.ntmps10
  go_wp2_with (go_at_call 40; refine (HW.out _).mono ?_; rintro e w1 ⟨v, rfl, ho, hb⟩)
  go_ret2
  exact RTPost.from (w1 := w.alloc (.cells #[.int .i64 t.n0, .int .i64 t.n1, .string t.y, .int .i64 t.n3, .int .i64 t.n4, .int .i64 t.n5] 23)) ⟨v, rfl, ho, hb⟩ (below1 _)
def Tp.ofV (v : TapV) : Tp := ⟨v.n0, v.n1, strOfNums v.y, v.n3, v.n4, v.n5⟩
def Tp.zero : Tp := ⟨0, 0, ⟨#[]⟩, 0, 0, 0⟩
/-- a tap out of bytes; the fault's code and place -/
def readTap (bs : List Int) : Tp × Int × Int :=
  let p := tapR bs ⟨0, 0, 0, 0⟩
  let r := p.2.end_ bs.length
  if r.code = 0 then (if (Tp.ofV p.1).right = true then (Tp.ofV p.1, 0, r.fat) else (Tp.zero, 80, -1)) else (Tp.zero, r.code, r.fat)
def TKPost (bs : List Int) (w : World) (e : Ending) (w' : World) : Prop := e = .returned (.tuple #[(readTap bs).1.val, .agg #[.int .i64 (readTap bs).2.1, .int .i64 (readTap bs).2.2]]) ∧ Below w.heap.size w w'
/-- what is left when a tap and a fault are laid down as results -/
theorem fin8 {w W5 : World} {b : Nat} (h1 : W5.heap[b]? = some (.cells #[.int .i64 0, .int .i64 0, .string ⟨#[]⟩, .int .i64 0, .int .i64 0, .int .i64 0] 23 (0, 0))) (h2 : W5.heap[b + 1]? = some (.cells #[.int .i64 0, .int .i64 0] 31 (0, 0))) (hw : Below w.heap.size w W5) (hb : w.heap.size ≤ b) (a0 a1 : Int) (a2 : ByteArray) (a3 a4 a5 c0 c1 : Int) {W' : World}
    (e : W' = ((((((((W5.setCell ⟨b, 0, none⟩ (.int .i64 a0)).setCell ⟨b, 1, none⟩ (.int .i64 a1)).setCell ⟨b, 2, none⟩ (.string a2)).setCell ⟨b, 3, none⟩ (.int .i64 a3)).setCell ⟨b, 4, none⟩ (.int .i64 a4)).setCell ⟨b, 5, none⟩ (.int .i64 a5)).setCell ⟨b + 1, 0, none⟩ (.int .i64 c0)).setCell ⟨b + 1, 1, none⟩ (.int .i64 c1)).drew) :
    W'.cell? ⟨b, 0, none⟩ = some (.int .i64 a0) ∧ W'.cell? ⟨b, 1, none⟩ = some (.int .i64 a1) ∧ W'.cell? ⟨b, 2, none⟩ = some (.string a2) ∧ W'.cell? ⟨b, 3, none⟩ = some (.int .i64 a3) ∧ W'.cell? ⟨b, 4, none⟩ = some (.int .i64 a4) ∧ W'.cell? ⟨b, 5, none⟩ = some (.int .i64 a5) ∧ W'.cell? ⟨b + 1, 0, none⟩ = some (.int .i64 c0) ∧ W'.cell? ⟨b + 1, 1, none⟩ = some (.int .i64 c1) ∧ Below w.heap.size w W' := by
  have hne : b ≠ b + 1 := by omega
  have q := blk_far (blk_far (blk_set (blk_set (blk_set (blk_set (blk_set (blk_set h1 0 (.int .i64 a0)) 1 (.int .i64 a1)) 2 (.string a2)) 3 (.int .i64 a3)) 4 (.int .i64 a4)) 5 (.int .i64 a5)) (p := ⟨b + 1, 0, none⟩) hne (.int .i64 c0)) (p := ⟨b + 1, 1, none⟩) hne (.int .i64 c1)
  have q1 := blk_set (blk_set (blk_far (blk_far (blk_far (blk_far (blk_far (blk_far h2 (p := ⟨b, 0, none⟩) hne.symm (.int .i64 a0)) (p := ⟨b, 1, none⟩) hne.symm (.int .i64 a1)) (p := ⟨b, 2, none⟩) hne.symm (.string a2)) (p := ⟨b, 3, none⟩) hne.symm (.int .i64 a3)) (p := ⟨b, 4, none⟩) hne.symm (.int .i64 a4)) (p := ⟨b, 5, none⟩) hne.symm (.int .i64 a5)) 0 (.int .i64 c0)) 1 (.int .i64 c1)
  have hw2 : Below w.heap.size w W' := by
    rw [e]
    exact ((((((((hw.setCell hb _).setCell hb _).setCell hb _).setCell hb _).setCell hb _).setCell hb _).setCell (by show w.heap.size ≤ b + 1; omega) _).setCell (by show w.heap.size ≤ b + 1; omega) _).drew
  generalize hW : ((((((((W5.setCell ⟨b, 0, none⟩ (.int .i64 a0)).setCell ⟨b, 1, none⟩ (.int .i64 a1)).setCell ⟨b, 2, none⟩ (.string a2)).setCell ⟨b, 3, none⟩ (.int .i64 a3)).setCell ⟨b, 4, none⟩ (.int .i64 a4)).setCell ⟨b, 5, none⟩ (.int .i64 a5)).setCell ⟨b + 1, 0, none⟩ (.int .i64 c0)).setCell ⟨b + 1, 1, none⟩ (.int .i64 c1)) = W6 at *
  subst e
  have q' : W6.drew.heap[b]? = some (.cells _ 23 (0, 0)) := q
  have q1' : W6.drew.heap[b + 1]? = some (.cells _ 31 (0, 0)) := q1
  exact ⟨(blk_cell q' 0).trans (by simp), (blk_cell q' 1).trans (by simp), (blk_cell q' 2).trans (by simp), (blk_cell q' 3).trans (by simp), (blk_cell q' 4).trans (by simp), (blk_cell q' 5).trans (by simp), (blk_cell q1' 0).trans (by simp), (blk_cell q1' 1).trans (by simp), hw2⟩
set_option maxHeartbeats 8000000 in
set_option maxRecDepth 100000 in
theorem taken_tap_calls (A : Option Addr) (c : Nat) (bs : List Int) (w : World) (hr : ReadsInt w .u8 A bs.length bs) (hby : Bytes bs) (hl : bs.length ≤ 140737488355328) :
    Calls Try.prog 47 #[.slice A bs.length c, .func (.func 41) #[] #[], .func (.func 42) #[] #[]] w (TKPost bs w) := by
  have HR := Aside0.mk hr
  have HBY := Aside0.mk hby
  clear hr hby
  go_enter Try.func47, Try.ntmps47
  go_upto_region 2 with (fail)
  have hb4 : Below w.heap.size w ((((w.alloc (.cells #[.int .i64 0, .int .i64 0, .string ⟨#[]⟩, .int .i64 0, .int .i64 0, .int .i64 0] 23)).alloc (.cells #[.int .i64 0, .int .i64 0] 31)).alloc (.cells #[.int .i64 0, .int .i64 0, .string ⟨#[]⟩, .int .i64 0, .int .i64 0, .int .i64 0] 23)).alloc (.cells #[.int .i64 0, .int .i64 0, .string ⟨#[]⟩, .int .i64 0, .int .i64 0, .int .i64 0] 23)) := below_alloc (below_alloc (below_alloc (below_alloc (Below.refl _ _) _) _) _) _
  have s1 : (w.alloc (.cells #[.int .i64 0, .int .i64 0, .string ⟨#[]⟩, .int .i64 0, .int .i64 0, .int .i64 0] 23)).heap.size = w.heap.size + 1 := by simp
  have s2 : ((w.alloc (.cells #[.int .i64 0, .int .i64 0, .string ⟨#[]⟩, .int .i64 0, .int .i64 0, .int .i64 0] 23)).alloc (.cells #[.int .i64 0, .int .i64 0] 31)).heap.size = w.heap.size + 1 + 1 := by simp
  have s3 : (((w.alloc (.cells #[.int .i64 0, .int .i64 0, .string ⟨#[]⟩, .int .i64 0, .int .i64 0, .int .i64 0] 23)).alloc (.cells #[.int .i64 0, .int .i64 0] 31)).alloc (.cells #[.int .i64 0, .int .i64 0, .string ⟨#[]⟩, .int .i64 0, .int .i64 0, .int .i64 0] 23)).heap.size = w.heap.size + 1 + 1 + 1 := by simp
  have q6 : ((((w.alloc (.cells #[.int .i64 0, .int .i64 0, .string ⟨#[]⟩, .int .i64 0, .int .i64 0, .int .i64 0] 23)).alloc (.cells #[.int .i64 0, .int .i64 0] 31)).alloc (.cells #[.int .i64 0, .int .i64 0, .string ⟨#[]⟩, .int .i64 0, .int .i64 0, .int .i64 0] 23)).alloc (.cells #[.int .i64 0, .int .i64 0, .string ⟨#[]⟩, .int .i64 0, .int .i64 0, .int .i64 0] 23)).heap[w.heap.size]? = some _ := blk_b (blk_b (blk_b (heap_alloc_new w (.cells #[.int .i64 0, .int .i64 0, .string ⟨#[]⟩, .int .i64 0, .int .i64 0, .int .i64 0] 23)) (below1 (.cells #[.int .i64 0, .int .i64 0] 31))) (below1 (.cells #[.int .i64 0, .int .i64 0, .string ⟨#[]⟩, .int .i64 0, .int .i64 0, .int .i64 0] 23))) (below1 (.cells #[.int .i64 0, .int .i64 0, .string ⟨#[]⟩, .int .i64 0, .int .i64 0, .int .i64 0] 23))
  have q7 : ((((w.alloc (.cells #[.int .i64 0, .int .i64 0, .string ⟨#[]⟩, .int .i64 0, .int .i64 0, .int .i64 0] 23)).alloc (.cells #[.int .i64 0, .int .i64 0] 31)).alloc (.cells #[.int .i64 0, .int .i64 0, .string ⟨#[]⟩, .int .i64 0, .int .i64 0, .int .i64 0] 23)).alloc (.cells #[.int .i64 0, .int .i64 0, .string ⟨#[]⟩, .int .i64 0, .int .i64 0, .int .i64 0] 23)).heap[w.heap.size + 1]? = some _ := s1 ▸ blk_b (blk_b (heap_alloc_new (w.alloc (.cells #[.int .i64 0, .int .i64 0, .string ⟨#[]⟩, .int .i64 0, .int .i64 0, .int .i64 0] 23)) (.cells #[.int .i64 0, .int .i64 0] 31)) (below1 (.cells #[.int .i64 0, .int .i64 0, .string ⟨#[]⟩, .int .i64 0, .int .i64 0, .int .i64 0] 23))) (below1 (.cells #[.int .i64 0, .int .i64 0, .string ⟨#[]⟩, .int .i64 0, .int .i64 0, .int .i64 0] 23))
  have q8 : ((((w.alloc (.cells #[.int .i64 0, .int .i64 0, .string ⟨#[]⟩, .int .i64 0, .int .i64 0, .int .i64 0] 23)).alloc (.cells #[.int .i64 0, .int .i64 0] 31)).alloc (.cells #[.int .i64 0, .int .i64 0, .string ⟨#[]⟩, .int .i64 0, .int .i64 0, .int .i64 0] 23)).alloc (.cells #[.int .i64 0, .int .i64 0, .string ⟨#[]⟩, .int .i64 0, .int .i64 0, .int .i64 0] 23)).heap[w.heap.size + 1 + 1]? = some _ := s2 ▸ blk_b (heap_alloc_new ((w.alloc (.cells #[.int .i64 0, .int .i64 0, .string ⟨#[]⟩, .int .i64 0, .int .i64 0, .int .i64 0] 23)).alloc (.cells #[.int .i64 0, .int .i64 0] 31)) (.cells #[.int .i64 0, .int .i64 0, .string ⟨#[]⟩, .int .i64 0, .int .i64 0, .int .i64 0] 23)) (below1 (.cells #[.int .i64 0, .int .i64 0, .string ⟨#[]⟩, .int .i64 0, .int .i64 0, .int .i64 0] 23))
  have q9 : ((((w.alloc (.cells #[.int .i64 0, .int .i64 0, .string ⟨#[]⟩, .int .i64 0, .int .i64 0, .int .i64 0] 23)).alloc (.cells #[.int .i64 0, .int .i64 0] 31)).alloc (.cells #[.int .i64 0, .int .i64 0, .string ⟨#[]⟩, .int .i64 0, .int .i64 0, .int .i64 0] 23)).alloc (.cells #[.int .i64 0, .int .i64 0, .string ⟨#[]⟩, .int .i64 0, .int .i64 0, .int .i64 0] 23)).heap[w.heap.size + 1 + 1 + 1]? = some _ := s3 ▸ heap_alloc_new (((w.alloc (.cells #[.int .i64 0, .int .i64 0, .string ⟨#[]⟩, .int .i64 0, .int .i64 0, .int .i64 0] 23)).alloc (.cells #[.int .i64 0, .int .i64 0] 31)).alloc (.cells #[.int .i64 0, .int .i64 0, .string ⟨#[]⟩, .int .i64 0, .int .i64 0, .int .i64 0] 23)) (.cells #[.int .i64 0, .int .i64 0, .string ⟨#[]⟩, .int .i64 0, .int .i64 0, .int .i64 0] 23)
  have HB4 := Aside0.mk hb4
  have HQ6 := Aside0.mk q6
  have HQ7 := Aside0.mk q7
  have HQ8 := Aside0.mk q8
  have HQ9 := Aside0.mk q9
  clear hb4 s1 s2 s3 q6 q7 q8 q9
  generalize ((((w.alloc (.cells #[.int .i64 0, .int .i64 0, .string ⟨#[]⟩, .int .i64 0, .int .i64 0, .int .i64 0] 23)).alloc (.cells #[.int .i64 0, .int .i64 0] 31)).alloc (.cells #[.int .i64 0, .int .i64 0, .string ⟨#[]⟩, .int .i64 0, .int .i64 0, .int .i64 0] 23)).alloc (.cells #[.int .i64 0, .int .i64 0, .string ⟨#[]⟩, .int .i64 0, .int .i64 0, .int .i64 0] 23)) = W4 at *
  obtain ⟨b, hb⟩ : ∃ b, w.heap.size = b := ⟨_, rfl⟩
  rw [hb] at HQ6 HQ7 HQ8 HQ9
  rw [show (some (⟨w.heap.size, 0, none⟩ : Addr)) = some ⟨b, 0, none⟩ by rw [hb], show (some (⟨w.heap.size + 1, 0, none⟩ : Addr)) = some ⟨b + 1, 0, none⟩ by rw [hb], show (some (⟨w.heap.size + 1 + 1, 0, none⟩ : Addr)) = some ⟨b + 1 + 1, 0, none⟩ by rw [hb], show (some (⟨w.heap.size + 1 + 1 + 1, 0, none⟩ : Addr)) = some ⟨b + 1 + 1 + 1, 0, none⟩ by rw [hb]]
  have HBE := Aside0.mk hb
  clear hb
  have hlb : b + 1 + 1 + 1 < W4.heap.size := blk_lt HQ9.out
  have HLB := Aside0.mk hlb
  clear hlb
  go_upto_region 5 with (first
    | (go_at_call 100; refine (newReader_calls A c bs _ (HR.out.below HB4.out) HBY.out hl).mono ?_; rintro e w2 ⟨g, ro, rfl, R2, hb2⟩; have HR2 := Aside0.mk (R2.below (below1 (.cells #[.pointer none, .pointer (some ⟨g, 0, none⟩)] 97))); have HG2 := Aside0.mk (And.intro R2.lt R2.base); have HBX := Aside0.mk (heap_alloc_new w2 (.cells #[.pointer none, .pointer (some ⟨g, 0, none⟩)] 97)); have HB2 := Aside0.mk (show Below W4.heap.size W4 (w2.alloc (.cells #[.pointer none, .pointer (some ⟨g, 0, none⟩)] 97)) from below_then hb2 hb2.size (below1 _)); clear R2 hb2)
    | (go_at_call 41; refine (overTap_r 0 0 ⟨#[]⟩ 0 0 0 (blk_b HQ8.out HB2.out) HR2.out HB2.out.size).mono ?_; rintro e w3 ⟨rfl, R3, hq3, f3⟩; have HR3 := Aside0.mk R3; have HQ3 := Aside0.mk hq3; have HF3 := Aside0.mk f3; have hx3 := f3.blk HBX.out (by have := HG2.out; have := HLB.out; omega); have c1 : _ = some (Value.pointer (some ⟨g, 0, none⟩)) := blk_cell hx3 1; clear R3 hq3 f3 hx3)
    | (go_at_call 101; refine (rEnd_calls HR3.out).mono ?_; rintro e w4 ⟨rfl, R4, f4⟩; have HF4 := Aside0.mk f4; clear R4 f4))
  have hrt : readTap bs = (let p := tapR bs ⟨0, 0, 0, 0⟩; let r := p.2.end_ bs.length; if r.code = 0 then (if (Tp.ofV p.1).right = true then (Tp.ofV p.1, 0, r.fat) else (Tp.zero, 80, -1)) else (Tp.zero, r.code, r.fat)) := rfl
  simp only at hrt
  have HRT := Aside0.mk hrt
  clear hrt c1 HBX
  have HWB := Aside0.mk (show Below w.heap.size w w4 from by
    have h1 := HB4.out.size
    have h2 := HB2.out.size
    have h3 := HF3.out.size
    have h5 := HG2.out.2
    exact ((below_then HB4.out h1 HB2.out).trans (HF3.out.below (by omega) (fun i hi => by rcases hi with e | e <;> (have := HBE.out; omega)))).trans (HF4.out.below (by omega) (fun i hi => by subst hi; omega)))
  have hsz4 : b + 1 + 1 + 1 < w4.heap.size := by have := HLB.out; have := HB2.out.size; have := HF3.out.size; have := HF4.out.size; omega
  have hng : ∀ k, k ≤ b + 1 + 1 + 1 → k ≠ g := fun k hk e => by have := HLB.out; have := HG2.out.2; omega
  have hq8 := HF4.out.blk HQ3.out (hng _ (by omega))
  have old : ∀ k o, k ≤ b + 1 + 1 + 1 → k ≠ b + 1 + 1 → W4.heap[k]? = some o → w4.heap[k]? = some o := fun k o h1 h2 h3 => HF4.out.blk (HF3.out.blk (blk_b h3 HB2.out) (fun h => h.elim (hng k h1) h2)) (hng k h1)
  have hq6 := old b _ (by omega) (by omega) HQ6.out
  have hq7 := old (b + 1) _ (by omega) (by omega) HQ7.out
  have hq9 := old (b + 1 + 1 + 1) _ (by omega) (by omega) HQ9.out
  clear old hng HF3 HF4 HR3 HQ3 HQ6 HQ7 HQ8 HQ9 HR2 HB2 HG2 HB4 HLB HR HBY
  generalize tapR bs ⟨0, 0, 0, 0⟩ = p at *
  obtain ⟨v, r1⟩ := p
  simp only at HRT hq8 ⊢
  generalize r1.end_ bs.length = r2 at *
  obtain ⟨at_, last, code, fat⟩ := r2
  simp only at HRT ⊢
  unfold TapV.cells at hq8
  obtain ⟨m0, m1, my, m3, m4, m5⟩ := v
  simp only [Tp.ofV] at HRT hq8
  have h5 := below1 (w := w4) (.cells #[.int .i64 code, .int .i64 fat] 31)
  have HW5 := Aside0.mk (below_then HWB.out HWB.out.size h5)
  have g6 := blk_b hq6 h5
  have g7 := blk_b hq7 h5
  have g8 := blk_b hq8 h5
  have g9 := blk_b hq9 h5
  have gf := heap_alloc_new w4 (.cells #[.int .i64 code, .int .i64 fat] 31)
  clear hq6 hq7 hq8 hq9 h5 HWB
  generalize w4.alloc (.cells #[.int .i64 code, .int .i64 fat] 31) = W5 at *
  generalize w4.heap.size = f at *
  have HG := Aside0.mk (And.intro g6 (And.intro g7 (And.intro g8 (And.intro g9 gf))))
  clear g6 g7 g8 g9 gf
  have f0 : _ = some (Value.int .i64 code) := blk_cell HG.out.2.2.2.2 0
  have f1 : _ = some (Value.int .i64 fat) := blk_cell HG.out.2.2.2.2 1
  by_cases hc : code = 0
  case neg =>
    have hcb : (code == 0) = false := beq_eq_false_iff_ne.2 hc
    have hcn : (code != 0) = true := bne_iff_ne.2 hc
    have n0 : _ = some (Value.int .i64 0) := blk_cell HG.out.2.2.2.1 0
    have n1 : _ = some (Value.int .i64 0) := blk_cell HG.out.2.2.2.1 1
    have n2 : _ = some (Value.string ⟨#[]⟩) := blk_cell HG.out.2.2.2.1 2
    have n3 : _ = some (Value.int .i64 0) := blk_cell HG.out.2.2.2.1 3
    have n4 : _ = some (Value.int .i64 0) := blk_cell HG.out.2.2.2.1 4
    have n5 : _ = some (Value.int .i64 0) := blk_cell HG.out.2.2.2.1 5
    go_wp2
    have p0 : _ = some (Value.int .i64 0) := blk_cell HG.out.1 0
    have z0 := blk_frozen HG.out.1 0
    have p1 : _ = some (Value.int .i64 0) := blk_cell HG.out.1 1
    have z1 := blk_frozen HG.out.1 1
    have p2 : _ = some (Value.string ⟨#[]⟩) := blk_cell HG.out.1 2
    have z2 := blk_frozen HG.out.1 2
    have p3 : _ = some (Value.int .i64 0) := blk_cell HG.out.1 3
    have z3 := blk_frozen HG.out.1 3
    have p4 : _ = some (Value.int .i64 0) := blk_cell HG.out.1 4
    have z4 := blk_frozen HG.out.1 4
    have p5 : _ = some (Value.int .i64 0) := blk_cell HG.out.1 5
    have z5 := blk_frozen HG.out.1 5
    have t0 : _ = some (Value.int .i64 0) := blk_cell HG.out.2.1 0
    have y0 := blk_frozen HG.out.2.1 0
    have t1 : _ = some (Value.int .i64 0) := blk_cell HG.out.2.1 1
    have y1 := blk_frozen HG.out.2.1 1
    go_region
    generalize hWE : World.drew _ = WE
    obtain ⟨k0, k1, k2, k3, k4, k5, l0, l1, hbl⟩ := fin8 HG.out.1 HG.out.2.1 HW5.out (by have := HBE.out; omega) 0 0 ⟨#[]⟩ 0 0 0 code fat hWE.symm
    clear hWE
    go_wp2
    refine bodyPost_ret (v := .tuple #[.agg #[.int .i64 0, .int .i64 0, .string ⟨#[]⟩, .int .i64 0, .int .i64 0, .int .i64 0], .agg #[.int .i64 code, .int .i64 fat]]) (by simp [results, Try.results47, go_sem, k0, k1, k2, k3, k4, k5, l0, l1]) rfl ?_
    unfold TKPost
    rw [HRT.out, if_neg hc]
    exact ⟨rfl, hbl⟩
  case pos =>
    subst hc
    rw [if_pos rfl] at HRT
    have v0 : _ = some (Value.int .i64 m0) := blk_cell HG.out.2.2.1 0
    have v1 : _ = some (Value.int .i64 m1) := blk_cell HG.out.2.2.1 1
    have v2 : _ = some (Value.string (strOfNums my)) := blk_cell HG.out.2.2.1 2
    have v3 : _ = some (Value.int .i64 m3) := blk_cell HG.out.2.2.1 3
    have v4 : _ = some (Value.int .i64 m4) := blk_cell HG.out.2.2.1 4
    have v5 : _ = some (Value.int .i64 m5) := blk_cell HG.out.2.2.1 5
    have HT := Aside0.mk (fun W => rightTap_calls ⟨m0, m1, strOfNums my, m3, m4, m5⟩ W)
    unfold Tp.val at HT
    obtain ⟨rr, hrr⟩ : ∃ rr, (Tp.right ⟨m0, m1, strOfNums my, m3, m4, m5⟩) = rr := ⟨_, rfl⟩
    cases rr with
    | true =>
      simp only [hrr, ↓reduceIte] at HT HRT
      clear hrr
      go_upto_region 7 with (go_at_call 42; refine (HT.out _).mono ?_; rintro e w6 ⟨rfl, hb6⟩)
      have HG6 := Aside0.mk (And.intro (blk_b HG.out.1 hb6) (And.intro (blk_b HG.out.2.1 hb6) (And.intro (blk_b HG.out.2.2.1 hb6) (And.intro (blk_b HG.out.2.2.2.1 hb6) (blk_b HG.out.2.2.2.2 hb6)))))
      have HW6 := Aside0.mk (below_then HW5.out HW5.out.size hb6)
      clear HG HW5 hb6 f0 f1 v0 v1 v2 v3 v4 v5
      have f0 : _ = some (Value.int .i64 0) := blk_cell HG6.out.2.2.2.2 0
      have f1 : _ = some (Value.int .i64 fat) := blk_cell HG6.out.2.2.2.2 1
      have v0 : _ = some (Value.int .i64 m0) := blk_cell HG6.out.2.2.1 0
      have v1 : _ = some (Value.int .i64 m1) := blk_cell HG6.out.2.2.1 1
      have v2 : _ = some (Value.string (strOfNums my)) := blk_cell HG6.out.2.2.1 2
      have v3 : _ = some (Value.int .i64 m3) := blk_cell HG6.out.2.2.1 3
      have v4 : _ = some (Value.int .i64 m4) := blk_cell HG6.out.2.2.1 4
      have v5 : _ = some (Value.int .i64 m5) := blk_cell HG6.out.2.2.1 5
      go_wp2
      have p0 : _ = some (Value.int .i64 0) := blk_cell HG6.out.1 0
      have z0 := blk_frozen HG6.out.1 0
      have p1 : _ = some (Value.int .i64 0) := blk_cell HG6.out.1 1
      have z1 := blk_frozen HG6.out.1 1
      have p2 : _ = some (Value.string ⟨#[]⟩) := blk_cell HG6.out.1 2
      have z2 := blk_frozen HG6.out.1 2
      have p3 : _ = some (Value.int .i64 0) := blk_cell HG6.out.1 3
      have z3 := blk_frozen HG6.out.1 3
      have p4 : _ = some (Value.int .i64 0) := blk_cell HG6.out.1 4
      have z4 := blk_frozen HG6.out.1 4
      have p5 : _ = some (Value.int .i64 0) := blk_cell HG6.out.1 5
      have z5 := blk_frozen HG6.out.1 5
      have t0 : _ = some (Value.int .i64 0) := blk_cell HG6.out.2.1 0
      have y0 := blk_frozen HG6.out.2.1 0
      have t1 : _ = some (Value.int .i64 0) := blk_cell HG6.out.2.1 1
      have y1 := blk_frozen HG6.out.2.1 1
      go_region
      generalize hWE : World.drew _ = WE
      obtain ⟨k0, k1, k2, k3, k4, k5, l0, l1, hbl⟩ := fin8 HG6.out.1 HG6.out.2.1 HW6.out (by have := HBE.out; omega) m0 m1 (strOfNums my) m3 m4 m5 0 fat hWE.symm
      clear hWE
      go_wp2
      refine bodyPost_ret (v := .tuple #[.agg #[.int .i64 m0, .int .i64 m1, .string (strOfNums my), .int .i64 m3, .int .i64 m4, .int .i64 m5], .agg #[.int .i64 0, .int .i64 fat]]) (by simp [results, Try.results47, go_sem, k0, k1, k2, k3, k4, k5, l0, l1]) rfl ?_
      unfold TKPost
      rw [HRT.out]
      exact ⟨rfl, hbl⟩
    | false =>
      simp only [hrr, ↓reduceIte, Bool.false_eq_true] at HT HRT
      clear hrr
      go_upto_region 7 with (go_at_call 42; refine (HT.out _).mono ?_; rintro e w6 ⟨rfl, hb6⟩)
      have HG6 := Aside0.mk (And.intro (blk_b HG.out.1 hb6) (And.intro (blk_b HG.out.2.1 hb6) (And.intro (blk_b HG.out.2.2.1 hb6) (And.intro (blk_b HG.out.2.2.2.1 hb6) (blk_b HG.out.2.2.2.2 hb6)))))
      have HW6 := Aside0.mk (below_then HW5.out HW5.out.size hb6)
      clear HG HW5 hb6 f0 f1 v0 v1 v2 v3 v4 v5
      have f0 : _ = some (Value.int .i64 0) := blk_cell HG6.out.2.2.2.2 0
      have f1 : _ = some (Value.int .i64 fat) := blk_cell HG6.out.2.2.2.2 1
      have f2 := blk_frozen HG6.out.2.2.2.2 0
      have f3 := blk_frozen HG6.out.2.2.2.2 1
      go_upto_region 9 with (fail)
      have far : ∀ k (cs : Array Value) (T : TypeId), k ≤ b + 1 + 1 + 1 → w6.heap[k]? = some (.cells cs T (0, 0)) → ((w6.setCell ⟨f, 0, none⟩ (.int .i64 80)).setCell ⟨f, 1, none⟩ (.int .i64 (-1))).heap[k]? = some (.cells cs T (0, 0)) := fun k cs T hk h => blk_far (blk_far h (p := ⟨f, 0, none⟩) (by show k ≠ f; omega) _) (p := ⟨f, 1, none⟩) (by show k ≠ f; omega) _
      have HG7 := Aside0.mk (And.intro (far _ _ _ (by omega) HG6.out.1) (And.intro (far _ _ _ (by omega) HG6.out.2.1) (And.intro (far _ _ _ (by omega) HG6.out.2.2.2.1) (blk_set (blk_set HG6.out.2.2.2.2 0 (.int .i64 80)) 1 (.int .i64 (-1))))))
      have HW7 := Aside0.mk (show Below w.heap.size w ((w6.setCell ⟨f, 0, none⟩ (.int .i64 80)).setCell ⟨f, 1, none⟩ (.int .i64 (-1))) from (HW6.out.setCell (by have := HBE.out; show w.heap.size ≤ f; omega) _).setCell (by have := HBE.out; show w.heap.size ≤ f; omega) _)
      clear far HG6 HW6 f0 f1 f2 f3
      generalize (w6.setCell ⟨f, 0, none⟩ (.int .i64 80)).setCell ⟨f, 1, none⟩ (.int .i64 (-1)) = w7 at *
      have f0 : w7.cell? ⟨f, 0, none⟩ = some (Value.int .i64 80) := (blk_cell HG7.out.2.2.2 0).trans (by simp)
      have f1 : w7.cell? ⟨f, 1, none⟩ = some (Value.int .i64 (-1)) := (blk_cell HG7.out.2.2.2 1).trans (by simp)
      have n0 : _ = some (Value.int .i64 0) := blk_cell HG7.out.2.2.1 0
      have n1 : _ = some (Value.int .i64 0) := blk_cell HG7.out.2.2.1 1
      have n2 : _ = some (Value.string ⟨#[]⟩) := blk_cell HG7.out.2.2.1 2
      have n3 : _ = some (Value.int .i64 0) := blk_cell HG7.out.2.2.1 3
      have n4 : _ = some (Value.int .i64 0) := blk_cell HG7.out.2.2.1 4
      have n5 : _ = some (Value.int .i64 0) := blk_cell HG7.out.2.2.1 5
      go_wp2
      have p0 : _ = some (Value.int .i64 0) := blk_cell HG7.out.1 0
      have z0 := blk_frozen HG7.out.1 0
      have p1 : _ = some (Value.int .i64 0) := blk_cell HG7.out.1 1
      have z1 := blk_frozen HG7.out.1 1
      have p2 : _ = some (Value.string ⟨#[]⟩) := blk_cell HG7.out.1 2
      have z2 := blk_frozen HG7.out.1 2
      have p3 : _ = some (Value.int .i64 0) := blk_cell HG7.out.1 3
      have z3 := blk_frozen HG7.out.1 3
      have p4 : _ = some (Value.int .i64 0) := blk_cell HG7.out.1 4
      have z4 := blk_frozen HG7.out.1 4
      have p5 : _ = some (Value.int .i64 0) := blk_cell HG7.out.1 5
      have z5 := blk_frozen HG7.out.1 5
      have t0 : _ = some (Value.int .i64 0) := blk_cell HG7.out.2.1 0
      have y0 := blk_frozen HG7.out.2.1 0
      have t1 : _ = some (Value.int .i64 0) := blk_cell HG7.out.2.1 1
      have y1 := blk_frozen HG7.out.2.1 1
      go_region
      generalize hWE : World.drew _ = WE
      obtain ⟨k0, k1, k2, k3, k4, k5, l0, l1, hbl⟩ := fin8 HG7.out.1 HG7.out.2.1 HW7.out (by have := HBE.out; omega) 0 0 ⟨#[]⟩ 0 0 0 80 (-1) hWE.symm
      clear hWE
      go_wp2
      refine bodyPost_ret (v := .tuple #[.agg #[.int .i64 0, .int .i64 0, .string ⟨#[]⟩, .int .i64 0, .int .i64 0, .int .i64 0], .agg #[.int .i64 80, .int .i64 (-1)]]) (by simp [results, Try.results47, go_sem, k0, k1, k2, k3, k4, k5, l0, l1]) rfl ?_
      unfold TKPost
      rw [HRT.out]
      exact ⟨rfl, hbl⟩
end Go.Proofs.Ytgmbfecfkdbfaaa.Wi
