/- record.Tap: a tap as bytes. -/
import Derived.Test.YtgmbfecfkdbfaaaRcF
set_option linter.unusedVariables false
set_option linter.unusedSimpArgs false
namespace Go.Proofs.Ytgmbfecfkdbfaaa.Wi
open Go Go.RowKit Go.Proofs.YtgmbfecfkdbfaaaW.PrintWords
set_option maxHeartbeats 3200000 in
set_option maxRecDepth 100000 in
theorem written_calls (t : Tp) (ht : t.Ok) (w : World) : Calls Try.prog 40 #[t.val, .func (.func 41) #[] #[], .func (.func 42) #[] #[]] w (RTPost t w) := by
  have HT := Aside0.mk (fun W => rightTap_calls t W)
  have HOK := Aside0.mk ht
  have HSL := Aside0.mk (tput_len t)
  obtain ⟨hn0, hn1, hy, hn3, hn4, hn5⟩ := ht
  have HP : Aside0 (t.put = tapW ⟨[], false⟩ t.n0 t.n1 t.y t.n3 t.n4 t.n5) := ⟨rfl⟩
  have HQ := Aside0.mk (show (w.alloc (.cells #[.int .i64 t.n0, .int .i64 t.n1, .string t.y, .int .i64 t.n3, .int .i64 t.n4, .int .i64 t.n5] 23)).heap[w.heap.size]? = _ from heap_alloc_new w _)
  have HB0 := Aside0.mk (below1 (w := w) (.cells #[.int .i64 t.n0, .int .i64 t.n1, .string t.y, .int .i64 t.n3, .int .i64 t.n4, .int .i64 t.n5] 23))
  cases hr : t.right with
  | false =>
    have HO : Aside0 (t.out = [] ∧ t.err = 80) := ⟨by simp [Tp.out, Tp.err, hr]⟩
    rw [hr] at HT
    simp only [Bool.false_eq_true, ↓reduceIte] at HT
    have HTT := HT
    unfold Tp.val at HTT ⊢
    clear HT HP HQ hr hn0 hn1 hy hn3 hn4 hn5
    unfold RTPost
    rw [HO.out.1, HO.out.2]
    go_enter Try.func40, Try.ntmps40
    go_wp2_with (go_at_call 42; refine (HTT.out _).mono ?_; rintro e w1 ⟨rfl, hb1⟩)
    go_ret2
    exact ⟨_, rfl, own_nil _ _ _ _, below_then HB0.out HB0.out.size hb1⟩
  | true =>
    have HO : Aside0 (t.out = t.put.out ∧ t.err = t.put.err) := ⟨by simp [Tp.out, Tp.err, hr]⟩
    rw [hr] at HT
    simp only [↓reduceIte] at HT
    have HTT := HT
    unfold Tp.val at HTT ⊢
    unfold RTPost
    rw [HO.out.1, HO.out.2]
    rw [HP.out]
    have HSL2 : Aside0 ((tapW ⟨[], false⟩ t.n0 t.n1 t.y t.n3 t.n4 t.n5).xs.length ≤ 140737488355328) := ⟨by have := HSL.out; rw [HP.out] at this; omega⟩
    have HO5 := Aside0.mk (fun (W : World) (g : Nat) (hq : W.heap[w.heap.size]? = _) (hg : w.heap.size ≠ g) (hw : Wr W g g none ⟨[], false⟩) (hB : g ≤ W.heap.size) => overTap_w t.n0 t.n1 t.y t.n3 t.n4 t.n5 hq hn0.2 hn1.2 hy hn3.2 hn4.2 hn5.2 hg (by simp) hw hB (by simp))
    clear HT HP hr hn0 hn1 hy hn3 hn4 hn5 HOK HO HSL
    generalize tapW ⟨[], false⟩ t.n0 t.n1 t.y t.n3 t.n4 t.n5 = s' at *
    go_enter Try.func40, Try.ntmps40
    go_wp2_with (first
      | (go_at_call 42; refine (HTT.out _).mono ?_; rintro e w1 ⟨rfl, hb1⟩; have HB1 := Aside0.mk (below_then HB0.out HB0.out.size hb1); have HQ1 := Aside0.mk ((Fr.of_below (S := fun _ => False) hb1).blk HQ.out (fun h => h)); clear hb1)
      | (go_at_call 51; refine (newWriter_calls _).mono ?_; rintro e w2 ⟨rfl, S0, hb2⟩; have HS0 := Aside0.mk S0; have HB2 := Aside0.mk hb2; have HB2' := Aside0.mk (below1 (w := w2) (.cells #[.pointer (some ⟨w1.heap.size, 0, none⟩), .pointer none] 97)); have HBX := Aside0.mk (heap_alloc_new w2 (.cells #[.pointer (some ⟨w1.heap.size, 0, none⟩), .pointer none] 97)); clear S0 hb2)
      | (go_at_call 41; refine (HO5.out _ w1.heap.size ((Fr.of_below (S := fun _ => False) HB2'.out).blk ((Fr.of_below (S := fun _ => False) HB2.out).blk HQ1.out (fun h => h)) (fun h => h)) (by have := blk_lt HQ1.out; omega) (HS0.out.below HB2'.out) (Nat.le_trans HB2.out.size HB2'.out.size)).mono ?_; rintro e w3 ⟨rfl, ro3, hw3, _, hf3⟩; have HW3 := Aside0.mk hw3; have HF3 := Aside0.mk hf3; have hx3 := hf3.blk HBX.out (fun h => h.elim (fun e => by have := HS0.out.lt; omega) (fun e => nomatch e)); have c0 : _ = some (Value.pointer (some ⟨w1.heap.size, 0, none⟩)) := blk_cell hx3 0; clear hw3 hf3 hx3)
      | (go_at_call 55; refine (wBytes_calls HW3.out HSL2.out).mono ?_; rintro e w4 ⟨v4, rfl, hv4, hb4⟩; have HV4 := Aside0.mk hv4; have HB4 := Aside0.mk hb4; clear hv4 hb4))
    go_ret2
    have hbw : Below w.heap.size w w3 := (below_then (below_then HB1.out HB1.out.size HB2.out) (Nat.le_trans HB1.out.size HB2.out.size) HB2'.out).trans (HF3.out.below (Nat.le_trans (Nat.le_trans HB1.out.size HB2.out.size) HB2'.out.size) (fun i hi => by
      rcases hi with rfl | e
      · exact HB1.out.size
      · cases e))
    exact ⟨_, rfl, own_upto HV4.out (fun k hk => Nat.le_trans hbw.size (own_base HV4.out k hk)), below_then hbw hbw.size HB4.out⟩
end Go.Proofs.Ytgmbfecfkdbfaaa.Wi
