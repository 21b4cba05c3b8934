/- The record laws' awake. -/
import Derived.Test.YtgmbfecfkdbfaaaRcQ
set_option linter.unusedVariables false
set_option linter.unusedSimpArgs false
namespace Go.Proofs.Ytgmbfecfkdbfaaa.Wi
open Go Go.RowKit Go.Proofs.YtgmbfecfkdbfaaaW.PrintWords
def tx : Tp := ⟨1, 2, ⟨#[97, 98, 99, 100, 101, 102, 103, 104]⟩, 1, 258, 5⟩
def tx4 : Tp := ⟨1, 2, ⟨#[97, 98, 99, 100, 101, 102, 103, 104]⟩, 4, 258, 5⟩
def bx : List Int := [0, 1, 0, 0, 0, 2, 97, 98, 99, 100, 101, 102, 103, 104, 1, 1, 2, 0, 0, 0, 5]
theorem tx_out : tx.out = bx := rfl
theorem tx_err : tx.err = 0 := rfl
theorem tx4_out : tx4.out = [] := rfl
theorem tx4_err : tx4.err = 80 := rfl
theorem bx_tap : readTap bx = (tx, 0, 0) := rfl
theorem tx_ok : tx.Ok := ⟨by constructor <;> decide, by constructor <;> decide, by decide, by constructor <;> decide, by constructor <;> decide, by constructor <;> decide⟩
theorem tx4_ok : tx4.Ok := ⟨by constructor <;> decide, by constructor <;> decide, by decide, by constructor <;> decide, by constructor <;> decide, by constructor <;> decide⟩
theorem bx_bytes : Bytes bx := by unfold bx Bytes; decide
set_option maxHeartbeats 8000000 in
set_option maxRecDepth 100000 in
theorem awake8_calls (w : World) : Calls Try.prog 9 #[] w fun e w' => e = .returned (.bool true) ∧ Below w.heap.size w w' := by
  have CT := Aside0.mk (fun W => recTap_calls tx tx_ok W)
  have CT4 := Aside0.mk (fun W => recTap_calls tx4 tx4_ok W)
  have CR := Aside0.mk (fun (A : Option Addr) (c : Nat) (W : World) (h : ReadsInt W .u8 A bx.length bx) => recReadTap_calls A c bx W h bx_bytes (by decide))
  unfold RTPost at CT CT4
  unfold TKPost at CR
  simp only [tx_out, tx_err] at CT
  simp only [tx4_out, tx4_err] at CT4
  simp only [bx_tap] at CR
  unfold tx Tp.val at CT
  unfold tx4 Tp.val at CT4
  unfold tx Tp.val at CR
  simp only at CT CT4 CR
  have hbl : bx.length = 21 := rfl
  simp only [hbl] at CT CR
  have HX1 : Aside0 (rd bx 1 = 1 ∧ rd bx 16 = 2) := ⟨⟨rfl, rfl⟩⟩
  generalize bx = bb at *
  clear hbl
  go_enter Try.func9, Try.ntmps9
  go_upto_region 3 with (go_at_call 10; refine (CT.out _).mono ?_; rintro e w1 ⟨v, rfl, ho, hb1⟩; obtain ⟨A, c, m, hv, _, hr⟩ := own_reads'' ho; subst hv; have HR := Aside0.mk hr; have HB1 := Aside0.mk hb1; clear ho hr hb1)
  have HQ1 := Aside0.mk (blk_b (heap_alloc_new w (.cells #[.int .i64 1, .int .i64 2, .string ⟨#[97, 98, 99, 100, 101, 102, 103, 104]⟩, .int .i64 1, .int .i64 258, .int .i64 5] 23)) HB1.out)
  have HW1 := Aside0.mk (show Below w.heap.size w w1 from below_then (below1 (.cells #[.int .i64 1, .int .i64 2, .string ⟨#[97, 98, 99, 100, 101, 102, 103, 104]⟩, .int .i64 1, .int .i64 258, .int .i64 5] 23)) (below1 (.cells #[.int .i64 1, .int .i64 2, .string ⟨#[97, 98, 99, 100, 101, 102, 103, 104]⟩, .int .i64 1, .int .i64 258, .int .i64 5] 23)).size HB1.out)
  clear HB1
  go_upto_region 4 with (go_at_call 13; refine (CR.out A c _ HR.out).mono ?_; rintro e w2 ⟨rfl, hb2⟩; have HB2 := Aside0.mk hb2; clear hb2)
  have hb3 := below2 (w := w2) (.cells #[.int .i64 1, .int .i64 2, .string ⟨#[97, 98, 99, 100, 101, 102, 103, 104]⟩, .int .i64 1, .int .i64 258, .int .i64 5] 23) (.cells #[.int .i64 0, .int .i64 0] 31)
  have HQ3 := Aside0.mk (blk_b (blk_b HQ1.out HB2.out) hb3)
  have HW3 := Aside0.mk (below_then (below_then HW1.out HW1.out.size HB2.out) (Nat.le_trans HW1.out.size HB2.out.size) hb3)
  have HR3 := Aside0.mk ((HR.out.below HB2.out).below hb3)
  have HU3 := Aside0.mk (two_0 w2 (.cells #[.int .i64 1, .int .i64 2, .string ⟨#[97, 98, 99, 100, 101, 102, 103, 104]⟩, .int .i64 1, .int .i64 258, .int .i64 5] 23) (.cells #[.int .i64 0, .int .i64 0] 31))
  have HF3 := Aside0.mk (two_1 w2 (.cells #[.int .i64 1, .int .i64 2, .string ⟨#[97, 98, 99, 100, 101, 102, 103, 104]⟩, .int .i64 1, .int .i64 258, .int .i64 5] 23) (.cells #[.int .i64 0, .int .i64 0] 31))
  have hlt : w.heap.size < w2.heap.size := blk_lt (blk_b HQ1.out HB2.out)
  clear hb3 HQ1 HW1 HB2 HR CT CR
  generalize (w2.alloc (.cells #[.int .i64 1, .int .i64 2, .string ⟨#[97, 98, 99, 100, 101, 102, 103, 104]⟩, .int .i64 1, .int .i64 258, .int .i64 5] 23)).alloc (.cells #[.int .i64 0, .int .i64 0] 31) = w3 at *
  obtain ⟨gu, hgu⟩ : ∃ gu, w2.heap.size = gu := ⟨_, rfl⟩
  rw [hgu] at HU3 HF3 hlt
  rw [show (some (⟨w2.heap.size, 0, none⟩ : Addr)) = some ⟨gu, 0, none⟩ by rw [hgu], show (some (⟨w2.heap.size + 1, 0, none⟩ : Addr)) = some ⟨gu + 1, 0, none⟩ by rw [hgu]]
  clear hgu
  have t0 : _ = some (Value.int .i64 1) := blk_cell HQ3.out 0
  have t1 : _ = some (Value.int .i64 2) := blk_cell HQ3.out 1
  have t2 : _ = some (Value.string ⟨#[97, 98, 99, 100, 101, 102, 103, 104]⟩) := blk_cell HQ3.out 2
  have t3 : _ = some (Value.int .i64 1) := blk_cell HQ3.out 3
  have t4 : _ = some (Value.int .i64 258) := blk_cell HQ3.out 4
  have t5 : _ = some (Value.int .i64 5) := blk_cell HQ3.out 5
  have z3 := blk_frozen HQ3.out 3
  have HW4 := Aside0.mk (HW3.out.setCell (p := ⟨w.heap.size, 3, none⟩) (Nat.le_refl _) (.int .i64 4))
  have HU4 := Aside0.mk (blk_far HU3.out (p := ⟨w.heap.size, 3, none⟩) (by show gu ≠ w.heap.size; omega) (.int .i64 4))
  have HF4 := Aside0.mk (blk_far HF3.out (p := ⟨w.heap.size, 3, none⟩) (by show gu + 1 ≠ w.heap.size; omega) (.int .i64 4))
  have HR4 := Aside0.mk (show ReadsInt (w3.setCell ⟨w.heap.size, 3, none⟩ (.int .i64 4)) .u8 A 21 bb from HR3.out.keep ((KeepBut.refl w3 w.heap.size none).set_ 3 _) (fun ad ea hn e => by
    obtain ⟨ad', e', hc⟩ := HR3.out.2.2 hn
    rw [ea] at e'
    obtain rfl := Option.some.inj e'
    have h := hc 0 hn
    have hbk : (ad.add 0).block = w.heap.size := by rw [add_block]; exact e
    unfold World.cell? at h
    rw [hbk, HQ3.out] at h
    simp only at h
    split at h
    · cases h
    generalize (ad.add 0).off = o at h
    match o, h with
    | 0, h => cases h
    | 1, h => cases h
    | 2, h => cases h
    | 3, h => cases h
    | 4, h => cases h
    | 5, h => cases h
    | n + 6, h => simp at h))
  go_upto_region 6 with (go_at_call 10; refine (CT4.out _).mono ?_; rintro e w5 ⟨v5, rfl, ho5, hb5⟩; have HB5 := Aside0.mk hb5; clear ho5 hb5)
  have u4 : _ = some (Value.int .i64 258) := blk_cell (blk_b HU4.out HB5.out) 4
  have f0 : _ = some (Value.int .i64 0) := blk_cell (blk_b HF4.out HB5.out) 0
  have f1 : _ = some (Value.int .i64 0) := blk_cell (blk_b HF4.out HB5.out) 1
  obtain ⟨ad, rfl, c1⟩ := (HR4.out.below HB5.out).at_ 1 (by omega) (by omega)
  obtain ⟨ad', e', c16⟩ := (HR4.out.below HB5.out).at_ 16 (by omega) (by omega)
  obtain rfl := Option.some.inj e'
  rw [HX1.out.1] at c1
  rw [HX1.out.2] at c16
  have c1' : w5.cell? ⟨ad.block, ad.off + 1, none⟩ = some (Value.int .u8 1) := by simpa [Addr.add] using c1
  have c16' : w5.cell? ⟨ad.block, ad.off + 16, none⟩ = some (Value.int .u8 2) := by simpa [Addr.add] using c16
  clear c1 c16
  have HW5 := Aside0.mk (below_then HW4.out HW4.out.size HB5.out)
  clear t0 t1 t2 t3 t4 t5 z3 HW4 HU4 HF4 HR4 HR3 HB5 HQ3 HW3 HU3 HF3 CT4 HX1 e'
  go_wp2
  go_ret
  exact ⟨by first | rfl | (simp; done), HW5.out⟩
end Go.Proofs.Ytgmbfecfkdbfaaa.Wi
