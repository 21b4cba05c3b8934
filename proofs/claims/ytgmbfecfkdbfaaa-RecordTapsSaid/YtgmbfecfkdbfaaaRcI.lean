/- record.ReadTap, and the laws' small functions. -/
import Derived.Test.YtgmbfecfkdbfaaaRcH
set_option linter.unusedVariables false
set_option linter.unusedSimpArgs false
namespace Go.Proofs.Ytgmbfecfkdbfaaa.Wi
open Go Go.RowKit Go.Proofs.YtgmbfecfkdbfaaaW.PrintWords
theorem fin8' {w W5 : World} {b : Nat} (h1 : W5.heap[b]? = some (.cells #[.int .i64 0, .int .i64 0, .string ⟨#[]⟩, .int .i64 0, .int .i64 0, .int .i64 0] 23 (0, 0))) (h2 : W5.heap[b + 1]? = some (.cells #[.int .i64 0, .int .i64 0] 31 (0, 0))) (hw : Below w.heap.size w W5) (hb : w.heap.size ≤ b) (a0 a1 : Int) (a2 : ByteArray) (a3 a4 a5 c0 c1 : Int) {W' : World}
    (e : W' = ((((((((W5.setCell ⟨b, 0, none⟩ (.int .i64 a0)).setCell ⟨b, 1, none⟩ (.int .i64 a1)).setCell ⟨b, 2, none⟩ (.string a2)).setCell ⟨b, 3, none⟩ (.int .i64 a3)).setCell ⟨b, 4, none⟩ (.int .i64 a4)).setCell ⟨b, 5, none⟩ (.int .i64 a5)).setCell ⟨b + 1, 0, none⟩ (.int .i64 c0)).setCell ⟨b + 1, 1, none⟩ (.int .i64 c1))) :
    W'.cell? ⟨b, 0, none⟩ = some (.int .i64 a0) ∧ W'.cell? ⟨b, 1, none⟩ = some (.int .i64 a1) ∧ W'.cell? ⟨b, 2, none⟩ = some (.string a2) ∧ W'.cell? ⟨b, 3, none⟩ = some (.int .i64 a3) ∧ W'.cell? ⟨b, 4, none⟩ = some (.int .i64 a4) ∧ W'.cell? ⟨b, 5, none⟩ = some (.int .i64 a5) ∧ W'.cell? ⟨b + 1, 0, none⟩ = some (.int .i64 c0) ∧ W'.cell? ⟨b + 1, 1, none⟩ = some (.int .i64 c1) ∧ Below w.heap.size w W' := by
  obtain ⟨k0, k1, k2, k3, k4, k5, l0, l1, hbl⟩ := fin8 h1 h2 hw hb a0 a1 a2 a3 a4 a5 c0 c1 rfl
  rw [← e] at k0 k1 k2 k3 k4 k5 l0 l1 hbl
  exact ⟨k0, k1, k2, k3, k4, k5, l0, l1, ⟨hbl.os, hbl.tape, hbl.output, hbl.size, hbl.block⟩⟩
set_option maxHeartbeats 8000000 in
set_option maxRecDepth 100000 in
theorem recReadTap_calls (A : Option Addr) (c : Nat) (bs : List Int) (w : World) (hr : ReadsInt w .u8 A bs.length bs) (hby : Bytes bs) (hl : bs.length ≤ 140737488355328) :
    Calls Try.prog 13 #[.slice A bs.length c] w (TKPost bs w) := by
  have hb2 : Below w.heap.size w ((w.alloc (.cells #[.int .i64 0, .int .i64 0, .string ⟨#[]⟩, .int .i64 0, .int .i64 0, .int .i64 0] 23)).alloc (.cells #[.int .i64 0, .int .i64 0] 31)) := below2 _ _
  have HC := Aside0.mk (taken_tap_calls A c bs _ (hr.below hb2) hby hl)
  have HQ6 := Aside0.mk (two_0 w (.cells #[.int .i64 0, .int .i64 0, .string ⟨#[]⟩, .int .i64 0, .int .i64 0, .int .i64 0] 23) (.cells #[.int .i64 0, .int .i64 0] 31))
  have HQ7 := Aside0.mk (two_1 w (.cells #[.int .i64 0, .int .i64 0, .string ⟨#[]⟩, .int .i64 0, .int .i64 0, .int .i64 0] 23) (.cells #[.int .i64 0, .int .i64 0] 31))
  have HB2 := Aside0.mk hb2
  have HRT : Aside0 (∀ e w', TKPost bs ((w.alloc (.cells #[.int .i64 0, .int .i64 0, .string ⟨#[]⟩, .int .i64 0, .int .i64 0, .int .i64 0] 23)).alloc (.cells #[.int .i64 0, .int .i64 0] 31)) e w' → ∃ m0 m1 my m3 m4 m5 c0 c1, e = .returned (.tuple #[.agg #[.int .i64 m0, .int .i64 m1, .string my, .int .i64 m3, .int .i64 m4, .int .i64 m5], .agg #[.int .i64 c0, .int .i64 c1]]) ∧ Below w.heap.size w w' ∧ Below ((w.alloc (.cells #[.int .i64 0, .int .i64 0, .string ⟨#[]⟩, .int .i64 0, .int .i64 0, .int .i64 0] 23)).alloc (.cells #[.int .i64 0, .int .i64 0] 31)).heap.size ((w.alloc (.cells #[.int .i64 0, .int .i64 0, .string ⟨#[]⟩, .int .i64 0, .int .i64 0, .int .i64 0] 23)).alloc (.cells #[.int .i64 0, .int .i64 0] 31)) w' ∧ ∀ W, Below w.heap.size w W → TKPost bs w (.returned (.tuple #[.agg #[.int .i64 m0, .int .i64 m1, .string my, .int .i64 m3, .int .i64 m4, .int .i64 m5], .agg #[.int .i64 c0, .int .i64 c1]])) W) := ⟨fun e w' h => by
    unfold TKPost at *
    exact ⟨_, _, _, _, _, _, _, _, h.1, below_then hb2 hb2.size h.2, h.2, fun W hW => ⟨rfl, hW⟩⟩⟩
  clear hb2 hr hby
  go_enter Try.func13, Try.ntmps13
  go_wp2_with (go_at_call 47; refine HC.out.mono ?_; intro e w1 hP; obtain ⟨m0, m1, my, m3, m4, m5, c0, c1, rfl, hbw, hb1, hfin⟩ := HRT.out e w1 hP; have HW1 := Aside0.mk hbw; have HFN := Aside0.mk hfin; have g6 := blk_b HQ6.out hb1; have g7 := blk_b HQ7.out hb1; have HG6 := Aside0.mk g6; have HG7 := Aside0.mk g7; have p0 : _ = some (Value.int .i64 0) := blk_cell g6 0; have z0 := blk_frozen g6 0; have p1 : _ = some (Value.int .i64 0) := blk_cell g6 1; have z1 := blk_frozen g6 1; have p2 : _ = some (Value.string ⟨#[]⟩) := blk_cell g6 2; have z2 := blk_frozen g6 2; have p3 : _ = some (Value.int .i64 0) := blk_cell g6 3; have z3 := blk_frozen g6 3; have p4 : _ = some (Value.int .i64 0) := blk_cell g6 4; have z4 := blk_frozen g6 4; have p5 : _ = some (Value.int .i64 0) := blk_cell g6 5; have z5 := blk_frozen g6 5; have t0 : _ = some (Value.int .i64 0) := blk_cell g7 0; have y0 := blk_frozen g7 0; have t1 : _ = some (Value.int .i64 0) := blk_cell g7 1; have y1 := blk_frozen g7 1; clear hP hbw hfin hb1 g6 g7)
  clear p0 p1 p2 p3 p4 p5 z0 z1 z2 z3 z4 z5 t0 t1 y0 y1
  obtain ⟨k0, k1, k2, k3, k4, k5, l0, l1, hbl⟩ := fin8' HG6.out HG7.out HW1.out (Nat.le_refl _) m0 m1 my m3 m4 m5 c0 c1 rfl
  generalize ((((((((w1.setCell ⟨w.heap.size, 0, none⟩ (.int .i64 m0)).setCell ⟨w.heap.size, 1, none⟩ (.int .i64 m1)).setCell ⟨w.heap.size, 2, none⟩ (.string my)).setCell ⟨w.heap.size, 3, none⟩ (.int .i64 m3)).setCell ⟨w.heap.size, 4, none⟩ (.int .i64 m4)).setCell ⟨w.heap.size, 5, none⟩ (.int .i64 m5)).setCell ⟨w.heap.size + 1, 0, none⟩ (.int .i64 c0)).setCell ⟨w.heap.size + 1, 1, none⟩ (.int .i64 c1)) = WE at *
  refine bodyPost_ret (v := .tuple #[.agg #[.int .i64 m0, .int .i64 m1, .string my, .int .i64 m3, .int .i64 m4, .int .i64 m5], .agg #[.int .i64 c0, .int .i64 c1]]) (by simp [results, Try.results13, go_sem, k0, k1, k2, k3, k4, k5, l0, l1]) rfl ?_
  exact HFN.out _ hbl
end Go.Proofs.Ytgmbfecfkdbfaaa.Wi
