/- fareboxref08.ReadTap. -/
import Derived.Test.YtgmbfecfkdbfaaaMRecordMoney3
set_option linter.unusedVariables false
set_option linter.unusedSimpArgs false
namespace Go.Proofs.Ytgmbfecfkdbfaaa.Wi
open Go Go.RowKit Go.Proofs.YtgmbfecfkdbfaaaW.PrintWords
/-- the document's reader and what it has laid down -/
structure OX (W1 W : World) (gx bt : Nat) (A : Option Addr) (c : Nat) (bs : List Int) (cs : Array Value) (r : RS) : Prop where
  xr : XR W gx A c bs r
  blk : W.heap[bt]? = some (.cells cs 23 (0, 0))
  fr : Fr (fun i => i = gx ∨ i = bt) W1 W
theorem XR.far_ {W : World} {gx bt : Nat} {A : Option Addr} {c : Nat} {bs : List Int} {r : RS} (h : XR W gx A c bs r) (hne : bt ≠ gx) (hf : ∀ ad, A = some ad → 0 < bs.length → ad.block ≠ bt) (k : Nat) (u : Value) : XR (W.setCell ⟨bt, k, none⟩ u) gx A c bs r :=
  ⟨blk_far h.blk (p := ⟨bt, k, none⟩) (Ne.symm hne) u, h.rd_.keep ((KeepBut.refl W bt none).set_ k u) hf, h.far, h.le, h.len, h.byt, h.cap⟩
theorem OX.step {W1 W W' : World} {gx bt : Nat} {A : Option Addr} {c : Nat} {bs : List Int} {cs cs' : Array Value} {r r' : RS} (h : OX W1 W gx bt A c bs cs r) (hx : XR W' gx A c bs r') (hf : Fr (fun i => i = gx) W W') (k : Nat) (u : Value) (hfb : bt ≠ gx ∧ ∀ ad, A = some ad → 0 < bs.length → ad.block ≠ bt) (e : cs.setIfInBounds k u = cs') : OX W1 (W'.setCell ⟨bt, k, none⟩ u) gx bt A c bs cs' r' := by
  have hq := hf.blk h.blk hfb.1
  exact ⟨hx.far_ hfb.1 hfb.2 k u, blk_put hq k u e, ((h.fr.trans (hf.mono (S' := fun i => i = gx ∨ i = bt) (fun i _ h => .inl h)) (fun _ _ h => h))).set_ (p := ⟨bt, k, none⟩) (.inl (.inr rfl)) u⟩
set_option maxHeartbeats 8000000 in
set_option maxRecDepth 100000 in
theorem refReadTap_calls (A : Option Addr) (c : Nat) (bs : List Int) (w : World) (hr : ReadsInt w .u8 A bs.length bs) (hc : bs.length ≤ c) (hby : Bytes bs) (hl : bs.length ≤ 140737488355328) :
    Calls Try.prog 15 #[.slice A bs.length c] w (TKPost bs w) := by
  have hb4 : Below w.heap.size w ((((w.alloc (.cells #[.int .i64 0, .int .i64 0, .string ⟨#[]⟩, .int .i64 0, .int .i64 0, .int .i64 0] 23)).alloc (.cells #[.int .i64 0, .int .i64 0] 31)).alloc (.cells #[.slice A bs.length c, .int .i64 0, .int .i64 0, .int .i64 0, .int .i64 0] 89)).alloc (.cells #[.int .i64 0, .int .i64 0, .string ⟨#[]⟩, .int .i64 0, .int .i64 0, .int .i64 0] 23)) := below_alloc (below_alloc (below_alloc (below_alloc (Below.refl _ _) _) _) _) _
  have s1 : (w.alloc (.cells #[.int .i64 0, .int .i64 0, .string ⟨#[]⟩, .int .i64 0, .int .i64 0, .int .i64 0] 23)).heap.size = w.heap.size + 1 := by simp
  have s2 : ((w.alloc (.cells #[.int .i64 0, .int .i64 0, .string ⟨#[]⟩, .int .i64 0, .int .i64 0, .int .i64 0] 23)).alloc (.cells #[.int .i64 0, .int .i64 0] 31)).heap.size = w.heap.size + 1 + 1 := by simp
  have s3 : (((w.alloc (.cells #[.int .i64 0, .int .i64 0, .string ⟨#[]⟩, .int .i64 0, .int .i64 0, .int .i64 0] 23)).alloc (.cells #[.int .i64 0, .int .i64 0] 31)).alloc (.cells #[.slice A bs.length c, .int .i64 0, .int .i64 0, .int .i64 0, .int .i64 0] 89)).heap.size = w.heap.size + 1 + 1 + 1 := by simp
  have q6 : ((((w.alloc (.cells #[.int .i64 0, .int .i64 0, .string ⟨#[]⟩, .int .i64 0, .int .i64 0, .int .i64 0] 23)).alloc (.cells #[.int .i64 0, .int .i64 0] 31)).alloc (.cells #[.slice A bs.length c, .int .i64 0, .int .i64 0, .int .i64 0, .int .i64 0] 89)).alloc (.cells #[.int .i64 0, .int .i64 0, .string ⟨#[]⟩, .int .i64 0, .int .i64 0, .int .i64 0] 23)).heap[w.heap.size]? = some _ := blk_b (blk_b (blk_b (heap_alloc_new w (.cells #[.int .i64 0, .int .i64 0, .string ⟨#[]⟩, .int .i64 0, .int .i64 0, .int .i64 0] 23)) (below1 (.cells #[.int .i64 0, .int .i64 0] 31))) (below1 (.cells #[.slice A bs.length c, .int .i64 0, .int .i64 0, .int .i64 0, .int .i64 0] 89))) (below1 (.cells #[.int .i64 0, .int .i64 0, .string ⟨#[]⟩, .int .i64 0, .int .i64 0, .int .i64 0] 23))
  have q7 : ((((w.alloc (.cells #[.int .i64 0, .int .i64 0, .string ⟨#[]⟩, .int .i64 0, .int .i64 0, .int .i64 0] 23)).alloc (.cells #[.int .i64 0, .int .i64 0] 31)).alloc (.cells #[.slice A bs.length c, .int .i64 0, .int .i64 0, .int .i64 0, .int .i64 0] 89)).alloc (.cells #[.int .i64 0, .int .i64 0, .string ⟨#[]⟩, .int .i64 0, .int .i64 0, .int .i64 0] 23)).heap[w.heap.size + 1]? = some _ := s1 ▸ blk_b (blk_b (heap_alloc_new (w.alloc (.cells #[.int .i64 0, .int .i64 0, .string ⟨#[]⟩, .int .i64 0, .int .i64 0, .int .i64 0] 23)) (.cells #[.int .i64 0, .int .i64 0] 31)) (below1 (.cells #[.slice A bs.length c, .int .i64 0, .int .i64 0, .int .i64 0, .int .i64 0] 89))) (below1 (.cells #[.int .i64 0, .int .i64 0, .string ⟨#[]⟩, .int .i64 0, .int .i64 0, .int .i64 0] 23))
  have q8 : ((((w.alloc (.cells #[.int .i64 0, .int .i64 0, .string ⟨#[]⟩, .int .i64 0, .int .i64 0, .int .i64 0] 23)).alloc (.cells #[.int .i64 0, .int .i64 0] 31)).alloc (.cells #[.slice A bs.length c, .int .i64 0, .int .i64 0, .int .i64 0, .int .i64 0] 89)).alloc (.cells #[.int .i64 0, .int .i64 0, .string ⟨#[]⟩, .int .i64 0, .int .i64 0, .int .i64 0] 23)).heap[w.heap.size + 1 + 1]? = some _ := s2 ▸ blk_b (heap_alloc_new ((w.alloc (.cells #[.int .i64 0, .int .i64 0, .string ⟨#[]⟩, .int .i64 0, .int .i64 0, .int .i64 0] 23)).alloc (.cells #[.int .i64 0, .int .i64 0] 31)) (.cells #[.slice A bs.length c, .int .i64 0, .int .i64 0, .int .i64 0, .int .i64 0] 89)) (below1 (.cells #[.int .i64 0, .int .i64 0, .string ⟨#[]⟩, .int .i64 0, .int .i64 0, .int .i64 0] 23))
  have q9 : ((((w.alloc (.cells #[.int .i64 0, .int .i64 0, .string ⟨#[]⟩, .int .i64 0, .int .i64 0, .int .i64 0] 23)).alloc (.cells #[.int .i64 0, .int .i64 0] 31)).alloc (.cells #[.slice A bs.length c, .int .i64 0, .int .i64 0, .int .i64 0, .int .i64 0] 89)).alloc (.cells #[.int .i64 0, .int .i64 0, .string ⟨#[]⟩, .int .i64 0, .int .i64 0, .int .i64 0] 23)).heap[w.heap.size + 1 + 1 + 1]? = some _ := s3 ▸ heap_alloc_new (((w.alloc (.cells #[.int .i64 0, .int .i64 0, .string ⟨#[]⟩, .int .i64 0, .int .i64 0, .int .i64 0] 23)).alloc (.cells #[.int .i64 0, .int .i64 0] 31)).alloc (.cells #[.slice A bs.length c, .int .i64 0, .int .i64 0, .int .i64 0, .int .i64 0] 89)) (.cells #[.int .i64 0, .int .i64 0, .string ⟨#[]⟩, .int .i64 0, .int .i64 0, .int .i64 0] 23)
  have hfar : ∀ ad, A = some ad → 0 < bs.length → ad.block < w.heap.size := fun ad ea hn => by
    obtain ⟨ad', e', hcell⟩ := hr.2.2 hn
    rw [ea] at e'
    obtain rfl := Option.some.inj e'
    have := World.block_lt_of_cell? w _ (hcell 0 hn)
    rwa [add_block] at this
  obtain ⟨⟨n0, r1⟩, e0⟩ : ∃ p, rNum bs ⟨0, 0, 0, 0⟩ 2 = p := ⟨_, rfl⟩
  obtain ⟨⟨n1, r2⟩, e1⟩ : ∃ p, rNum bs r1 4 = p := ⟨_, rfl⟩
  obtain ⟨⟨my, r3⟩, e2⟩ : ∃ p, rFix bs r2 8 = p := ⟨_, rfl⟩
  obtain ⟨⟨n3, r4⟩, e3⟩ : ∃ p, rNum bs r3 1 = p := ⟨_, rfl⟩
  obtain ⟨⟨n4, r5⟩, e4⟩ : ∃ p, rNum bs r4 2 = p := ⟨_, rfl⟩
  obtain ⟨⟨n5, r6⟩, e5⟩ : ∃ p, rNum bs r5 4 = p := ⟨_, rfl⟩
  have HTP : Aside0 (tapR bs ⟨0, 0, 0, 0⟩ = (⟨n0, n1, my, n3, n4, n5⟩, r6)) := ⟨by simp [tapR, e0, e1, e2, e3, e4, e5]⟩
  have C0 := Aside0.mk (fun (W : World) (h : XR W (w.heap.size + 1 + 1) A c bs ⟨0, 0, 0, 0⟩) => xNum_calls 2 h)
  have C1 := Aside0.mk (fun (W : World) (h : XR W (w.heap.size + 1 + 1) A c bs r1) => xNum_calls 4 h)
  have C2 := Aside0.mk (fun (W : World) (h : XR W (w.heap.size + 1 + 1) A c bs r2) => xFix_calls 8 h)
  have C3 := Aside0.mk (fun (W : World) (h : XR W (w.heap.size + 1 + 1) A c bs r3) => xNum_calls 1 h)
  have C4 := Aside0.mk (fun (W : World) (h : XR W (w.heap.size + 1 + 1) A c bs r4) => xNum_calls 2 h)
  have C5 := Aside0.mk (fun (W : World) (h : XR W (w.heap.size + 1 + 1) A c bs r5) => xNum_calls 4 h)
  rw [e0] at C0
  rw [e1] at C1
  rw [e2] at C2
  rw [e3] at C3
  rw [e4] at C4
  rw [e5] at C5
  simp only at C0 C1 C2 C3 C4 C5
  have H0 := Aside0.mk (show OX ((((w.alloc (.cells #[.int .i64 0, .int .i64 0, .string ⟨#[]⟩, .int .i64 0, .int .i64 0, .int .i64 0] 23)).alloc (.cells #[.int .i64 0, .int .i64 0] 31)).alloc (.cells #[.slice A bs.length c, .int .i64 0, .int .i64 0, .int .i64 0, .int .i64 0] 89)).alloc (.cells #[.int .i64 0, .int .i64 0, .string ⟨#[]⟩, .int .i64 0, .int .i64 0, .int .i64 0] 23)) ((((w.alloc (.cells #[.int .i64 0, .int .i64 0, .string ⟨#[]⟩, .int .i64 0, .int .i64 0, .int .i64 0] 23)).alloc (.cells #[.int .i64 0, .int .i64 0] 31)).alloc (.cells #[.slice A bs.length c, .int .i64 0, .int .i64 0, .int .i64 0, .int .i64 0] 89)).alloc (.cells #[.int .i64 0, .int .i64 0, .string ⟨#[]⟩, .int .i64 0, .int .i64 0, .int .i64 0] 23)) (w.heap.size + 1 + 1) (w.heap.size + 1 + 1 + 1) A c bs #[.int .i64 0, .int .i64 0, .string ⟨#[]⟩, .int .i64 0, .int .i64 0, .int .i64 0] ⟨0, 0, 0, 0⟩ from ⟨⟨q8, hr.below hb4, fun ad ea hn => by have := hfar ad ea hn; omega, Nat.zero_le _, hl, hby, hc⟩, q9, Fr.refl _ _⟩)
  have HFB : Aside0 (w.heap.size + 1 + 1 + 1 ≠ w.heap.size + 1 + 1 ∧ ∀ ad, A = some ad → 0 < bs.length → ad.block ≠ w.heap.size + 1 + 1 + 1) := ⟨⟨by omega, fun ad ea hn => by have := hfar ad ea hn; omega⟩⟩
  have HNE : Aside0 (w.heap.size + 1 + 1 + 1 ≠ w.heap.size + 1 + 1) := ⟨by omega⟩
  have HQ6 := Aside0.mk q6
  have HQ7 := Aside0.mk q7
  have HB4 := Aside0.mk hb4
  clear hb4 s1 s2 s3 q6 q7 q8 q9 hfar e0 e1 e2 e3 e4 e5 hr hby
  go_enter Try.func15, Try.ntmps15
  go_upto_region 3 with (fail)
  generalize ((((w.alloc (.cells #[.int .i64 0, .int .i64 0, .string ⟨#[]⟩, .int .i64 0, .int .i64 0, .int .i64 0] 23)).alloc (.cells #[.int .i64 0, .int .i64 0] 31)).alloc (.cells #[.slice A bs.length c, .int .i64 0, .int .i64 0, .int .i64 0, .int .i64 0] 89)).alloc (.cells #[.int .i64 0, .int .i64 0, .string ⟨#[]⟩, .int .i64 0, .int .i64 0, .int .i64 0] 23)) = W4 at *
  go_upto_region 9 with (first | (go_at_call 48; (with_reducible refine (C0.out _ H0.out.xr).mono ?_); rintro e w1 ⟨rfl, x1, f1⟩; have H1 := Aside0.mk (show OX W4 (w1.setCell ⟨w.heap.size + 1 + 1 + 1, 0, none⟩ (.int .i64 n0)) (w.heap.size + 1 + 1) (w.heap.size + 1 + 1 + 1) A c bs #[.int .i64 n0, .int .i64 0, .string ⟨#[]⟩, .int .i64 0, .int .i64 0, .int .i64 0] r1 from OX.step H0.out x1 f1 0 (.int .i64 n0) HFB.out rfl); have q1 := f1.blk H0.out.blk HNE.out; have cc1 := (blk_cell q1 0).trans rfl; have zz1 := blk_frozen q1 0; clear x1 f1 q1) | (go_at_call 48; (with_reducible refine (C1.out _ H1.out.xr).mono ?_); rintro e w2 ⟨rfl, x2, f2⟩; have H2 := Aside0.mk (show OX W4 (w2.setCell ⟨w.heap.size + 1 + 1 + 1, 1, none⟩ (.int .i64 n1)) (w.heap.size + 1 + 1) (w.heap.size + 1 + 1 + 1) A c bs #[.int .i64 n0, .int .i64 n1, .string ⟨#[]⟩, .int .i64 0, .int .i64 0, .int .i64 0] r2 from OX.step H1.out x2 f2 1 (.int .i64 n1) HFB.out rfl); have q2 := f2.blk H1.out.blk HNE.out; have cc2 := (blk_cell q2 1).trans rfl; have zz2 := blk_frozen q2 1; clear x2 f2 q2) | (go_at_call 49; (with_reducible refine (C2.out _ H2.out.xr).mono ?_); rintro e w3 ⟨rfl, x3, f3⟩; have H3 := Aside0.mk (show OX W4 (w3.setCell ⟨w.heap.size + 1 + 1 + 1, 2, none⟩ (.string (strOfNums my))) (w.heap.size + 1 + 1) (w.heap.size + 1 + 1 + 1) A c bs #[.int .i64 n0, .int .i64 n1, .string (strOfNums my), .int .i64 0, .int .i64 0, .int .i64 0] r3 from OX.step H2.out x3 f3 2 (.string (strOfNums my)) HFB.out rfl); have q3 := f3.blk H2.out.blk HNE.out; have cc3 := (blk_cell q3 2).trans rfl; have zz3 := blk_frozen q3 2; clear x3 f3 q3) | (go_at_call 48; (with_reducible refine (C3.out _ H3.out.xr).mono ?_); rintro e w4 ⟨rfl, x4, f4⟩; have H4 := Aside0.mk (show OX W4 (w4.setCell ⟨w.heap.size + 1 + 1 + 1, 3, none⟩ (.int .i64 n3)) (w.heap.size + 1 + 1) (w.heap.size + 1 + 1 + 1) A c bs #[.int .i64 n0, .int .i64 n1, .string (strOfNums my), .int .i64 n3, .int .i64 0, .int .i64 0] r4 from OX.step H3.out x4 f4 3 (.int .i64 n3) HFB.out rfl); have q4 := f4.blk H3.out.blk HNE.out; have cc4 := (blk_cell q4 3).trans rfl; have zz4 := blk_frozen q4 3; clear x4 f4 q4) | (go_at_call 48; (with_reducible refine (C4.out _ H4.out.xr).mono ?_); rintro e w5 ⟨rfl, x5, f5⟩; have H5 := Aside0.mk (show OX W4 (w5.setCell ⟨w.heap.size + 1 + 1 + 1, 4, none⟩ (.int .i64 n4)) (w.heap.size + 1 + 1) (w.heap.size + 1 + 1 + 1) A c bs #[.int .i64 n0, .int .i64 n1, .string (strOfNums my), .int .i64 n3, .int .i64 n4, .int .i64 0] r5 from OX.step H4.out x5 f5 4 (.int .i64 n4) HFB.out rfl); have q5 := f5.blk H4.out.blk HNE.out; have cc5 := (blk_cell q5 4).trans rfl; have zz5 := blk_frozen q5 4; clear x5 f5 q5) | (go_at_call 48; (with_reducible refine (C5.out _ H5.out.xr).mono ?_); rintro e w6 ⟨rfl, x6, f6⟩; have H6 := Aside0.mk (show OX W4 (w6.setCell ⟨w.heap.size + 1 + 1 + 1, 5, none⟩ (.int .i64 n5)) (w.heap.size + 1 + 1) (w.heap.size + 1 + 1 + 1) A c bs #[.int .i64 n0, .int .i64 n1, .string (strOfNums my), .int .i64 n3, .int .i64 n4, .int .i64 n5] r6 from OX.step H5.out x6 f6 5 (.int .i64 n5) HFB.out rfl); have q6 := f6.blk H5.out.blk HNE.out; have cc6 := (blk_cell q6 5).trans rfl; have zz6 := blk_frozen q6 5; clear x6 f6 q6))
  generalize w6.setCell ⟨w.heap.size + 1 + 1 + 1, 5, none⟩ (.int .i64 n5) = W6 at H6 ⊢
  have v0 : _ = some (Value.int .i64 n0) := blk_cell H6.out.blk 0
  have v1 : _ = some (Value.int .i64 n1) := blk_cell H6.out.blk 1
  have v2 : _ = some (Value.string (strOfNums my)) := blk_cell H6.out.blk 2
  have v3 : _ = some (Value.int .i64 n3) := blk_cell H6.out.blk 3
  have v4 : _ = some (Value.int .i64 n4) := blk_cell H6.out.blk 4
  have v5 : _ = some (Value.int .i64 n5) := blk_cell H6.out.blk 5
  have HT := Aside0.mk (fun W => rTapRight_calls ⟨n0, n1, strOfNums my, n3, n4, n5⟩ W)
  have hrt : readTap bs = (if (r6.end_ bs.length).code = 0 then (if (Tp.right ⟨n0, n1, strOfNums my, n3, n4, n5⟩) = true then (⟨n0, n1, strOfNums my, n3, n4, n5⟩, 0, (r6.end_ bs.length).fat) else (Tp.zero, 80, -1)) else (Tp.zero, (r6.end_ bs.length).code, (r6.end_ bs.length).fat)) := by
    unfold readTap
    rw [HTP.out]
    rfl
  obtain ⟨rr, hrr⟩ : ∃ rr, (Tp.right ⟨n0, n1, strOfNums my, n3, n4, n5⟩) = rr := ⟨_, rfl⟩
  obtain ⟨⟨code, fat⟩, hec⟩ : ∃ p, endC r6 bs.length rr = p := ⟨_, rfl⟩
  have HRT0 : Aside0 (readTap bs = if code = 0 then (⟨n0, n1, strOfNums my, n3, n4, n5⟩, code, fat) else (Tp.zero, code, fat)) := ⟨by
    rw [hrt, hrr]
    unfold endC at hec
    cases rr with
    | true =>
      rw [if_neg (by simp)] at hec
      injection hec with e1 e2
      by_cases h0 : code = 0
      · rw [if_pos h0, if_pos (by rw [e1, h0]), if_pos rfl, e2, h0]
      · rw [if_neg h0, if_neg (by rw [e1]; exact h0), e1, e2]
    | false =>
      by_cases h1 : (r6.end_ bs.length).code = 0
      · rw [if_pos ⟨h1, rfl⟩] at hec
        injection hec with e1 e2
        subst e1 e2
        rw [if_pos h1]
        simp
      · rw [if_neg (fun h => h1 h.1)] at hec
        injection hec with e1 e2
        rw [if_neg h1, if_neg (by rw [← e1]; exact h1), e1, e2]⟩
  have HEC := Aside0.mk (fun (W : World) (h : XR W (w.heap.size + 1 + 1) A c bs r6) => ended_calls rr h)
  rw [hec] at HEC
  rw [hrr] at HT
  unfold Tp.val at HT
  simp only at HT HEC
  clear hrt hrr hec HTP C0 C1 C2 C3 C4 C5
  go_upto_region 10 with (first
    | (go_at_call 46; refine (HT.out _).mono ?_; rintro e w7 ⟨rfl, hb7⟩; have HB7 := Aside0.mk hb7; clear hb7)
    | (go_at_call 50; refine (HEC.out _ (H6.out.xr.below HB7.out)).mono ?_; rintro e w8 ⟨rfl, x8, f8⟩; have HF8 := Aside0.mk f8; clear x8 f8))
  have hz : w.heap.size + 1 < W4.heap.size := blk_lt HQ7.out
  have hb9 := below1 (w := w8) (.cells #[.int .i64 code, .int .i64 fat] 31)
  have old : ∀ k (cs : Array Value) (T : TypeId), k ≠ w.heap.size + 1 + 1 → k ≠ w.heap.size + 1 + 1 + 1 → W4.heap[k]? = some (.cells cs T (0, 0)) → (w8.alloc (.cells #[.int .i64 code, .int .i64 fat] 31)).heap[k]? = some (.cells cs T (0, 0)) := fun k cs T h1 h2 h3 => blk_b (HF8.out.blk (blk_b (H6.out.fr.blk h3 (fun h => h.elim h1 h2)) HB7.out) h1) hb9
  have HG := Aside0.mk (And.intro (old _ _ _ (by omega) (by omega) HQ6.out) (And.intro (old _ _ _ (by omega) (by omega) HQ7.out) (And.intro (blk_b (HF8.out.blk (blk_b H6.out.blk HB7.out) HNE.out) hb9) (heap_alloc_new w8 (.cells #[.int .i64 code, .int .i64 fat] 31)))))
  have HW9 := Aside0.mk (show Below w.heap.size w (w8.alloc (.cells #[.int .i64 code, .int .i64 fat] 31)) from by
    have h1 := HB4.out.size
    have h2 := H6.out.fr.size
    have h3 := HB7.out.size
    have h4 := HF8.out.size
    exact below_alloc (((HB4.out.trans (H6.out.fr.below h1 (fun i hi => by rcases hi with e | e <;> omega))).trans ⟨HB7.out.os, HB7.out.tape, HB7.out.output, HB7.out.size, fun i hi => HB7.out.block i (by omega)⟩).trans (HF8.out.below (by omega) (fun i hi => by omega))) _)
  have hgf : w.heap.size + 1 + 1 + 1 < w8.heap.size := by
    have h1 := blk_lt H0.out.blk
    have h2 := H6.out.fr.size
    have h3 := HB7.out.size
    have h4 := HF8.out.size
    omega
  clear old hb9 hz v0 v1 v2 v3 v4 v5 H0 H1 H2 H3 H4 H5 H6 HF8 HB7 HQ6 HQ7 HB4
  generalize w8.alloc (.cells #[.int .i64 code, .int .i64 fat] 31) = w9 at *
  generalize w8.heap.size = gf at *
  have f0 : _ = some (Value.int .i64 code) := blk_cell HG.out.2.2.2 0
  have f1 : _ = some (Value.int .i64 fat) := blk_cell HG.out.2.2.2 1
  by_cases hc0 : code = 0
  case neg =>
    have hcn : (code != 0) = true := bne_iff_ne.2 hc0
    have HRT : Aside0 (readTap bs = (Tp.zero, code, fat)) := ⟨by rw [HRT0.out, if_neg hc0]⟩
    clear HRT0 hc0
    go_wp2
    have p0 : _ = some (Value.int .i64 0) := blk_cell HG.out.1 0
    have z0 := blk_frozen HG.out.1 0
    have p1 : _ = some (Value.int .i64 0) := blk_cell HG.out.1 1
    have z1 := blk_frozen HG.out.1 1
    have p2 : _ = some (Value.string ⟨#[]⟩) := blk_cell HG.out.1 2
    have z2 := blk_frozen HG.out.1 2
    have p3 : _ = some (Value.int .i64 0) := blk_cell HG.out.1 3
    have z3 := blk_frozen HG.out.1 3
    have p4 : _ = some (Value.int .i64 0) := blk_cell HG.out.1 4
    have z4 := blk_frozen HG.out.1 4
    have p5 : _ = some (Value.int .i64 0) := blk_cell HG.out.1 5
    have z5 := blk_frozen HG.out.1 5
    have t0 : _ = some (Value.int .i64 0) := blk_cell HG.out.2.1 0
    have y0 := blk_frozen HG.out.2.1 0
    have t1 : _ = some (Value.int .i64 0) := blk_cell HG.out.2.1 1
    have y1 := blk_frozen HG.out.2.1 1
    go_region
    generalize hWE : World.drew _ = WE
    obtain ⟨k0, k1, k2, k3, k4, k5, l0, l1, hbl⟩ := fin8 HG.out.1 HG.out.2.1 HW9.out (Nat.le_refl _) 0 0 ⟨#[]⟩ 0 0 0 code fat hWE.symm
    clear hWE
    go_wp2
    refine bodyPost_ret (v := .tuple #[.agg #[.int .i64 0, .int .i64 0, .string ⟨#[]⟩, .int .i64 0, .int .i64 0, .int .i64 0], .agg #[.int .i64 code, .int .i64 fat]]) (by simp [results, Try.results15, go_sem, k0, k1, k2, k3, k4, k5, l0, l1]) rfl ?_
    unfold TKPost
    rw [HRT.out]
    exact ⟨rfl, hbl⟩
  case pos =>
    subst hc0
    have HRT : Aside0 (readTap bs = (⟨n0, n1, strOfNums my, n3, n4, n5⟩, 0, fat)) := ⟨by rw [HRT0.out, if_pos rfl]⟩
    clear HRT0
    have v0 : _ = some (Value.int .i64 n0) := blk_cell HG.out.2.2.1 0
    have v1 : _ = some (Value.int .i64 n1) := blk_cell HG.out.2.2.1 1
    have v2 : _ = some (Value.string (strOfNums my)) := blk_cell HG.out.2.2.1 2
    have v3 : _ = some (Value.int .i64 n3) := blk_cell HG.out.2.2.1 3
    have v4 : _ = some (Value.int .i64 n4) := blk_cell HG.out.2.2.1 4
    have v5 : _ = some (Value.int .i64 n5) := blk_cell HG.out.2.2.1 5
    go_wp2
    have p0 : _ = some (Value.int .i64 0) := blk_cell HG.out.1 0
    have z0 := blk_frozen HG.out.1 0
    have p1 : _ = some (Value.int .i64 0) := blk_cell HG.out.1 1
    have z1 := blk_frozen HG.out.1 1
    have p2 : _ = some (Value.string ⟨#[]⟩) := blk_cell HG.out.1 2
    have z2 := blk_frozen HG.out.1 2
    have p3 : _ = some (Value.int .i64 0) := blk_cell HG.out.1 3
    have z3 := blk_frozen HG.out.1 3
    have p4 : _ = some (Value.int .i64 0) := blk_cell HG.out.1 4
    have z4 := blk_frozen HG.out.1 4
    have p5 : _ = some (Value.int .i64 0) := blk_cell HG.out.1 5
    have z5 := blk_frozen HG.out.1 5
    have t0 : _ = some (Value.int .i64 0) := blk_cell HG.out.2.1 0
    have y0 := blk_frozen HG.out.2.1 0
    have t1 : _ = some (Value.int .i64 0) := blk_cell HG.out.2.1 1
    have y1 := blk_frozen HG.out.2.1 1
    go_region
    generalize hWE : World.drew _ = WE
    obtain ⟨k0, k1, k2, k3, k4, k5, l0, l1, hbl⟩ := fin8 HG.out.1 HG.out.2.1 HW9.out (Nat.le_refl _) n0 n1 (strOfNums my) n3 n4 n5 0 fat hWE.symm
    clear hWE
    go_wp2
    refine bodyPost_ret (v := .tuple #[.agg #[.int .i64 n0, .int .i64 n1, .string (strOfNums my), .int .i64 n3, .int .i64 n4, .int .i64 n5], .agg #[.int .i64 0, .int .i64 fat]]) (by simp [results, Try.results15, go_sem, k0, k1, k2, k3, k4, k5, l0, l1]) rfl ?_
    unfold TKPost
    rw [HRT.out]
    exact ⟨rfl, hbl⟩
end Go.Proofs.Ytgmbfecfkdbfaaa.Wi
/- The record laws' small functions: same, lent. -/
set_option linter.unusedVariables false
set_option linter.unusedSimpArgs false
namespace Go.Proofs.Ytgmbfecfkdbfaaa.Wi
open Go Go.RowKit Go.Proofs.YtgmbfecfkdbfaaaW.PrintWords
set_option maxHeartbeats 1600000 in
set_option maxRecDepth 100000 in
theorem same_eq (A A' : Option Addr) (c c' : Nat) (xs : List Int) (w : World) (h : ReadsInt w .u8 A xs.length xs) (h' : ReadsInt w .u8 A' xs.length xs) : Calls Try.prog 16 #[.slice A xs.length c, .slice A' xs.length c'] w fun e w' => e = .returned (.bool true) ∧ w = w' := by
  have k1 := string_of_reads (P := Try.prog) (c := c) Try.underlying24 Try.underlying5 Try.underlying9 h
  have k2 := string_of_reads (P := Try.prog) (c := c') Try.underlying24 Try.underlying5 Try.underlying9 h'
  clear h h'
  go_enter Try.func16, Try.ntmps16
  go_wp2
  go_ret
  exact ⟨by first | rfl | (simp; done), rfl⟩
theorem own_shape8 {W : World} {n : Nat} {B : Nat} {e : TypeId} {A : Option Addr} {c : Nat} {xs : List Value} (h : W.ownsRow B e 1 (.slice A n c) n xs) : A = none ∧ n = 0 ∨ ∃ b, A = some ⟨b, 0, none⟩ := by
  rcases h.2 with ⟨h1, h2⟩ | ⟨gb, cap, cur, h1, _⟩
  · injection h1 with h1 _ _
    exact .inl ⟨h1, h2⟩
  · injection h1 with h1 _ _
    exact .inr ⟨gb, h1⟩
/-- what lent hands back: a row of its own with two marks behind -/
def Lent8Post (bs : List Int) (w : World) (e : Ending) (w' : World) : Prop :=
  ∃ gl c, e = .returned (.slice (some ⟨gl, 0, none⟩) bs.length c) ∧ bs.length + 2 ≤ c ∧ w'.ownsRow w.heap.size 5 1 (.slice (some ⟨gl, 0, none⟩) (bs.length + 2) c) (bs.length + 2) (nums .u8 (bs ++ [171, 172])) ∧ w.heap.size ≤ gl ∧ Below w.heap.size w w'
theorem reads_two (W : World) (x y : Int) : ReadsInt (W.alloc (.cells #[.int .u8 x, .int .u8 y] 5)) .u8 (some ⟨W.heap.size, 0, none⟩) 2 [x, y] := by
  have ho := own_lit W W.heap.size 5 .u8 [x, y] (Nat.le_refl _) (by simp)
  obtain ⟨A, c, h1, _, h2⟩ := own_reads' ho
  injection h1 with h1 _ _
  subst h1
  exact h2
set_option maxHeartbeats 3200000 in
set_option maxRecDepth 100000 in
theorem lent8_calls (A : Option Addr) (c : Nat) (bs : List Int) (w : World) (hr : ReadsInt w .u8 A bs.length bs) (hc : bs.length ≤ c) (hl : bs.length ≤ 140737488351232) :
    Calls Try.prog 12 #[.slice A bs.length c] w (Lent8Post bs w) := by
  obtain ⟨ti, hti, hte⟩ := Option.map_eq_some_iff.1 info_u8
  simp only [Prod.mk.injEq] at hte
  obtain ⟨z1, z2, z3⟩ := hte
  have hmk : ∀ W : World, (Instr.makeSlice 24 (.int .i64 0) (.int .i64 ((bs.length : Int) + 2))).run Try.prog W = .ok (.slice (some ⟨W.heap.size, 0, none⟩) 0 (bs.length + 2)) (W.alloc (.cells (madeCells (Value.int .u8 0).cells ((bs.length + 2) * ti.size)) 5)) := fun W => by
    have h := run_make (P := Try.prog) W 24 5 ti (.int .u8 0) Try.underlying24 hti z1 .i64 .i64 0 ((bs.length : Int) + 2) (by omega) (by omega) (by rw [z3]; omega) (by omega)
    have e1 : ((bs.length : Int) + 2).toNat = bs.length + 2 := by omega
    rw [e1] at h
    exact h
  have HO := Aside0.mk (World.ownsRow_made (base := w.heap.size) (e := 5) (size := 1) w (madeCells (Value.int .u8 0).cells ((bs.length + 2) * ti.size)) (bs.length + 2) (Nat.le_refl _) (by simp only [maxLen]; omega) (by rw [size_madeCells, z2]))
  have HB := Aside0.mk (below1 (w := w) (.cells (madeCells (Value.int .u8 0).cells ((bs.length + 2) * ti.size)) 5))
  have HR := Aside0.mk (hr.below HB.out)
  have HTI := Aside0.mk (And.intro hti z2)
  clear hr hti z1 z2 z3
  generalize madeCells (Value.int .u8 0).cells ((bs.length + 2) * ti.size) = mc at *
  go_enter Try.func12, Try.ntmps12
  go_upto_region 2 with (at_builtin; refine wpList_append_row w.heap.size rfl (.tmp 7) (.tmp 8) 24 5 .u8 1 rfl Try.underlying24 info_u8 (by decide) (.slice (some ⟨w.heap.size, 0, none⟩) 0 (bs.length + 2)) 0 [] bs A bs.length c (by rfl) (by rfl) HO.out HR.out HB.out.size (by omega) ?_; intro v1 w1 ho1 hg1 _; simp only [Nat.zero_add, List.nil_append] at ho1; have HO1 := Aside0.mk ho1; have HB1 := Aside0.mk (HB.out.grown hg1 HB.out.size (own_base HO.out)); obtain ⟨A1, c1, rfl⟩ := own_slice ho1; clear ho1 hg1)
  have HOA := Aside0.mk ((Fr.of_below (S := fun _ => False) (below1 (w := w1) (.cells #[.int .u8 171, .int .u8 172] 5))).own HO1.out (fun _ _ h => h))
  have HBA := Aside0.mk (below_alloc HB1.out (.cells #[.int .u8 171, .int .u8 172] 5))
  go_wp2_with (at_builtin; refine wpList_append_row w.heap.size rfl (.tmp 10) (.tmp 11) 24 5 .u8 1 rfl Try.underlying24 info_u8 (by decide) (.slice A1 bs.length c1) bs.length bs [171, 172] (some ⟨w1.heap.size, 0, none⟩) 2 2 (by rfl) (by rfl) HOA.out (reads_two w1 171 172) HBA.out.size (by omega) ?_; intro v2 w2 ho2 hg2 _; have HO2 := Aside0.mk ho2; have HB2 := Aside0.mk (HBA.out.grown hg2 HBA.out.size (own_base HOA.out)); obtain ⟨A2, c2, m2, hv2, hc2, _⟩ := own_reads'' ho2; subst hv2; obtain ⟨hsl, _, _⟩ := print_take_int (P := Try.prog) (k := .u8) 24 5 Try.underlying24 HTI.out.1 HTI.out.2 A2 c2 (bs ++ [171, 172]) (bs.length : Int) (by omega) (by rw [List.length_append]; omega) (by rw [List.length_append]; exact hc2); have hxl : ((bs ++ [(171 : Int), 172]).take bs.length).length = bs.length := (by rw [List.length_take, List.length_append]; omega); have hll : (bs ++ [(171 : Int), 172]).length = bs.length + 2 := (by rw [List.length_append]; rfl); simp only [Int.toNat_natCast, hxl, hll] at hsl; have HC2 := Aside0.mk hc2; clear ho2 hg2 hxl hll hc2)
  go_ret
  rcases own_shape8 HO2.out with ⟨_, h⟩ | ⟨gl, rfl⟩
  · omega
  · exact ⟨gl, c2, rfl, HC2.out, HO2.out, own_base HO2.out gl rfl, HB2.out⟩
end Go.Proofs.Ytgmbfecfkdbfaaa.Wi
/- The record laws' kept and owned. -/
set_option linter.unusedVariables false
set_option linter.unusedSimpArgs false
namespace Go.Proofs.Ytgmbfecfkdbfaaa.Wi
open Go Go.RowKit Go.Proofs.YtgmbfecfkdbfaaaW.PrintWords
set_option maxHeartbeats 3200000 in
set_option maxRecDepth 100000 in
theorem kept_calls (A : Option Addr) (cA c : Nat) (bs : List Int) (B gl : Nat) (w : World) (hr : ReadsInt w .u8 A bs.length bs) (hl : bs.length ≤ 140737488351232) (hc : bs.length + 2 ≤ c)
    (ho : w.ownsRow B 5 1 (.slice (some ⟨gl, 0, none⟩) (bs.length + 2) c) (bs.length + 2) (nums .u8 (bs ++ [171, 172]))) :
    Calls Try.prog 14 #[.slice (some ⟨gl, 0, none⟩) bs.length c, .slice A bs.length cA] w fun e w' => e = .returned (.bool true) ∧ Fr (fun i => i = gl) w w' := by
  have HO := Aside0.mk ho
  obtain ⟨ti, hti, hte⟩ : ∃ i, Try.prog.info? 5 = some i ∧ i.size = 1 := by
    obtain ⟨i, h1, h2⟩ := Option.map_eq_some_iff.1 info_u8
    injection h2 with _ h2
    injection h2 with h2 _
    exact ⟨i, h1, h2⟩
  have hxl : ((bs ++ [(171 : Int), 172]).take bs.length) = bs := by simp
  have hll : (bs ++ [(171 : Int), 172]).length = bs.length + 2 := by rw [List.length_append]; rfl
  have hsl : ∀ W : World, (Instr.slice 24 (.slice (some ⟨gl, 0, none⟩) bs.length c) none (some (.int .i64 ((bs.length : Int) + 2))) none).run Try.prog W = .ok (.slice (some ⟨gl, 0, none⟩) (bs.length + 2) c) W := fun W => by
    have hel : Try.prog.elem 24 = 5 := by simp [Program.elem, Try.underlying24]
    have hu : Try.prog.underlying 24 = some (.slice (Try.prog.elem 24)) := by rw [hel]; exact Try.underlying24
    rw [run_slice_h W 24 (some ⟨gl, 0, none⟩) bs.length c hu .i64 ((bs.length : Int) + 2) (by omega) (by omega), hel]
    simp [sizeOf, typeInfo, hti, hte, sliced, Result.andThen, Addr.add]
    omega
  obtain ⟨hsl2, hrt, _⟩ := print_take_int (P := Try.prog) (k := .u8) 24 5 Try.underlying24 hti hte (some ⟨gl, 0, none⟩) c (bs ++ [171, 172]) (bs.length : Int) (by omega) (by rw [hll]; omega) (by rw [hll]; exact hc)
  simp only [Int.toNat_natCast, hxl, hll] at hsl2 hrt
  have HRL := Aside0.mk (show ReadsInt w .u8 (some ⟨gl, 0, none⟩) bs.length bs from by
    obtain ⟨A', c', h1, _, h2⟩ := own_reads' ho
    injection h1 with h1 _ _
    subst h1
    exact hrt w h2)
  have HS := Aside0.mk (same_eq (some ⟨gl, 0, none⟩) A c cA bs w HRL.out hr)
  have h171 := own_at ho (bs.length : Int) (by omega) (by omega)
  have h172 := own_at ho ((bs.length : Int) + 1) (by omega) (by omega)
  have r1 : rd (bs ++ [(171 : Int), 172]) (bs.length : Int) = 171 := by simp [rd, List.getD]
  have e1 : ((bs.length : Int) + 1).toNat = bs.length + 1 := by omega
  have r2 : rd (bs ++ [(171 : Int), 172]) ((bs.length : Int) + 1) = 172 := by
    unfold rd
    rw [e1]
    simp [List.getD]
  rw [r1, Int.toNat_natCast] at h171
  rw [r2, e1] at h172
  obtain ⟨m1, _⟩ := h171
  obtain ⟨m2, _⟩ := h172
  clear hr ho hti hte hxl hll hrt r1 r2 e1
  go_enter Try.func14, Try.ntmps14
  go_wp2_with (go_at_call 16; refine HS.out.mono ?_; rintro e w1 ⟨rfl, rfl⟩)
  clear m1 m2 hsl hsl2 HS HRL
  go_loopg [7] (bs.length + 2) (fun gg s7 wr => ∃ (i : Nat) (xs : List Int), i ≤ bs.length + 2 ∧ bs.length + 2 - i ≤ gg ∧ s7 = .int .i64 i ∧ Aside0 (wr.ownsRow B 5 1 (.slice (some ⟨gl, 0, none⟩) (bs.length + 2) c) (bs.length + 2) (nums .u8 xs)) ∧ Aside0 (Fr (fun i => i = gl) w wr))
  case atStart => exact ⟨0, _, by omega, by omega, rfl, HO, ⟨Fr.refl _ _⟩⟩
  case round =>
    obtain ⟨i, xs, hi, hg, rfl, HO1, HF⟩ := hrel
    clear HO
    by_cases hlt : i < bs.length + 2
    · have hltz : (i : Int) < (bs.length : Int) + 2 := by omega
      have HA := own_at HO1.out (i : Int) (by omega) (by omega)
      simp only [Int.toNat_natCast] at HA
      obtain ⟨cc, cf⟩ := HA
      have hst := own_store HO1.out (i : Int) 99
      simp only [Int.toNat_natCast] at hst
      have HST := Aside0.mk hst
      have HFR := Aside0.mk (HF.out.set_ (p := ⟨gl, i, none⟩) (.inl rfl) (.int .u8 99))
      clear hst
      go_wp2
      go_roundg (bs.length + 2 - (i + 1))
      case measure => omega
      case rel => exact ⟨i + 1, _, by omega, by omega, by go_num, ⟨HST.out.1⟩, ⟨HFR.out⟩⟩
    · have hltz : ¬ (i : Int) < (bs.length : Int) + 2 := by omega
      go_wp2
      go_ret
      exact ⟨rfl, HF.out⟩
end Go.Proofs.Ytgmbfecfkdbfaaa.Wi
/- The record laws' owned. -/
set_option linter.unusedVariables false
set_option linter.unusedSimpArgs false
namespace Go.Proofs.Ytgmbfecfkdbfaaa.Wi
open Go Go.RowKit Go.Proofs.YtgmbfecfkdbfaaaW.PrintWords
theorem own_keepk {W W' : World} {B : Nat} {e : TypeId} {v : Value} {n : Nat} {xs : List Value} (h : W.ownsRow B e 1 v n xs) (hk : ∀ k, v.ownBlock = some k → W'.heap[k]? = W.heap[k]?) : W'.ownsRow B e 1 v n xs := by
  refine ⟨h.1, ?_⟩
  rcases h.2 with h2 | ⟨gb, cap, cur, rfl, h1, h2, h3⟩
  · exact .inl h2
  · exact .inr ⟨gb, cap, cur, rfl, h1, (hk gb rfl).trans h2, h3⟩
set_option maxHeartbeats 3200000 in
set_option maxRecDepth 100000 in
theorem owned8_calls (A A' : Option Addr) (c c' n n' : Nat) (xs ys : List Int) (B : Nat) (w : World) (hB : B ≤ w.heap.size) (hn : n ≤ 1000000) (h1 : w.ownsRow B 5 1 (.slice A n c) n (nums .u8 xs)) (h2 : w.ownsRow B 5 1 (.slice A' n' c') n' (nums .u8 ys)) (hd : ∀ k, (Value.slice A n c).ownBlock = some k → (Value.slice A' n' c').ownBlock ≠ some k) :
    Calls Try.prog 17 #[.slice A n c, .slice A' n' c'] w fun e w' => e = .returned (.bool true) ∧ Fr (fun i => (Value.slice A n c).ownBlock = some i) w w' := by
  have H1 := Aside0.mk h1
  have H2 := Aside0.mk h2
  have HD := Aside0.mk hd
  have HBS := Aside0.mk hB
  have rd2 : ∀ W : World, W.ownsRow B 5 1 (.slice A' n' c') n' (nums .u8 ys) → ReadsInt W .u8 A' n' ys := fun W h => by
    obtain ⟨A2, c2, e, _, hr⟩ := own_reads' h
    injection e with e1 _ _
    subst e1
    exact hr
  have HRD := Aside0.mk rd2
  have k0 := string_of_reads (P := Try.prog) (c := c') Try.underlying24 Try.underlying5 Try.underlying9 (rd2 w h2)
  clear h1 h2 hd rd2 hB
  go_enter Try.func17, Try.ntmps17
  go_wp2
  clear k0
  go_loopg [6] n (fun gg s6 wr => ∃ (i : Nat) (zs : List Int), i ≤ n ∧ n - i ≤ gg ∧ s6 = .int .i64 i ∧ Aside0 (wr.ownsRow B 5 1 (.slice A n c) n (nums .u8 zs)) ∧ Aside0 (Fr (fun i => (Value.slice A n c).ownBlock = some i) w wr))
  case atStart => exact ⟨0, _, by omega, by omega, rfl, H1, ⟨Fr.refl _ _⟩⟩
  case round =>
    obtain ⟨i, zs, hi, hg, rfl, HO1, HF⟩ := hrel
    clear H1
    by_cases hlt : i < n
    · have hltz : (i : Int) < (n : Int) := by omega
      obtain ⟨b, rfl⟩ : ∃ b, A = some ⟨b, 0, none⟩ := by
        rcases own_shape8 HO1.out with ⟨_, h⟩ | h
        · omega
        · exact h
      have HA := own_at HO1.out (i : Int) (by omega) hltz
      simp only [Int.toNat_natCast] at HA
      obtain ⟨cc, cf⟩ := HA
      have HST := Aside0.mk (fun x : Int => own_store HO1.out (i : Int) x)
      simp only [Int.toNat_natCast] at HST
      have HFR := Aside0.mk (fun x : Int => HF.out.set_ (p := ⟨b, i, none⟩) (.inl rfl) (.int .u8 x))
      go_wp2
      go_roundg (n - (i + 1))
      case measure => omega
      case rel => exact ⟨i + 1, _, by omega, by omega, by go_num, ⟨(HST.out _).1⟩, ⟨HFR.out _⟩⟩
    · have hltz : ¬ (i : Int) < (n : Int) := by omega
      have HB1 := Aside0.mk (show B ≤ wr.heap.size from Nat.le_trans HBS.out HF.out.size)
      have HOA := Aside0.mk ((Fr.of_below (S := fun _ => False) (below1 (w := wr) (.cells #[.int .u8 1, .int .u8 2] 5))).own HO1.out (fun _ _ h => h))
      go_wp2_with (at_builtin; refine wpList_append_row B rfl (.tmp 23) (.tmp 24) 24 5 .u8 1 rfl Try.underlying24 info_u8 (by decide) (.slice A n c) n zs [1, 2] (some ⟨wr.heap.size, 0, none⟩) 2 2 (by rfl) (by rfl) HOA.out (reads_two wr 1 2) (Nat.le_trans HB1.out (below1 _).size) (by omega) ?_; intro v2 w2 ho2 hg2 _; have HF2 := Aside0.mk ((HF.out.then_below (below1 (.cells #[.int .u8 1, .int .u8 2] 5))).grown hg2 (fun k hk => .inl hk)); obtain ⟨A2, c2, hv2⟩ := own_slice ho2; subst hv2; have h22 := HRD.out w2 (own_keepk H2.out (fun k hk => HF2.out.block k (own_lt H2.out k hk) (fun e => HD.out k e hk))); have k2 := string_of_reads (P := Try.prog) (c := c') Try.underlying24 Try.underlying5 Try.underlying9 h22; clear ho2 hg2 h22)
      go_ret
      exact ⟨by first | rfl | (simp; done) | (simp; omega), HF2.out⟩
end Go.Proofs.Ytgmbfecfkdbfaaa.Wi
/- The record laws' awake. -/
set_option linter.unusedVariables false
set_option linter.unusedSimpArgs false
namespace Go.Proofs.Ytgmbfecfkdbfaaa.Wi
open Go Go.RowKit Go.Proofs.YtgmbfecfkdbfaaaW.PrintWords
def tx : Tp := ⟨1, 2, ⟨#[97, 98, 99, 100, 101, 102, 103, 104]⟩, 1, 258, 5⟩
def tx4 : Tp := ⟨1, 2, ⟨#[97, 98, 99, 100, 101, 102, 103, 104]⟩, 4, 258, 5⟩
def bx : List Int := [0, 1, 0, 0, 0, 2, 97, 98, 99, 100, 101, 102, 103, 104, 1, 1, 2, 0, 0, 0, 5]
theorem tx_out : tx.out = bx := rfl
theorem tx_err : tx.err = 0 := rfl
theorem tx4_out : tx4.out = [] := rfl
theorem tx4_err : tx4.err = 80 := rfl
theorem bx_tap : readTap bx = (tx, 0, 0) := rfl
theorem tx_ok : tx.Ok := ⟨by constructor <;> decide, by constructor <;> decide, by decide, by constructor <;> decide, by constructor <;> decide, by constructor <;> decide⟩
theorem tx4_ok : tx4.Ok := ⟨by constructor <;> decide, by constructor <;> decide, by decide, by constructor <;> decide, by constructor <;> decide, by constructor <;> decide⟩
theorem bx_bytes : Bytes bx := by unfold bx Bytes; decide
set_option maxHeartbeats 8000000 in
set_option maxRecDepth 100000 in
theorem awake8_calls (w : World) : Calls Try.prog 9 #[] w fun e w' => e = .returned (.bool true) ∧ Below w.heap.size w w' := by
  have CT := Aside0.mk (fun W => recTap_calls tx tx_ok W)
  have CT4 := Aside0.mk (fun W => recTap_calls tx4 tx4_ok W)
  have CR := Aside0.mk (fun (A : Option Addr) (c : Nat) (W : World) (h : ReadsInt W .u8 A bx.length bx) => recReadTap_calls A c bx W h bx_bytes (by decide))
  unfold RTPost at CT CT4
  unfold TKPost at CR
  simp only [tx_out, tx_err] at CT
  simp only [tx4_out, tx4_err] at CT4
  simp only [bx_tap] at CR
  unfold tx Tp.val at CT
  unfold tx4 Tp.val at CT4
  unfold tx Tp.val at CR
  simp only at CT CT4 CR
  have hbl : bx.length = 21 := rfl
  simp only [hbl] at CT CR
  have HX1 : Aside0 (rd bx 1 = 1 ∧ rd bx 16 = 2) := ⟨⟨rfl, rfl⟩⟩
  generalize bx = bb at *
  clear hbl
  go_enter Try.func9, Try.ntmps9
  go_upto_region 3 with (go_at_call 10; refine (CT.out _).mono ?_; rintro e w1 ⟨v, rfl, ho, hb1⟩; obtain ⟨A, c, m, hv, _, hr⟩ := own_reads'' ho; subst hv; have HR := Aside0.mk hr; have HB1 := Aside0.mk hb1; clear ho hr hb1)
  have HQ1 := Aside0.mk (blk_b (heap_alloc_new w (.cells #[.int .i64 1, .int .i64 2, .string ⟨#[97, 98, 99, 100, 101, 102, 103, 104]⟩, .int .i64 1, .int .i64 258, .int .i64 5] 23)) HB1.out)
  have HW1 := Aside0.mk (show Below w.heap.size w w1 from below_then (below1 (.cells #[.int .i64 1, .int .i64 2, .string ⟨#[97, 98, 99, 100, 101, 102, 103, 104]⟩, .int .i64 1, .int .i64 258, .int .i64 5] 23)) (below1 (.cells #[.int .i64 1, .int .i64 2, .string ⟨#[97, 98, 99, 100, 101, 102, 103, 104]⟩, .int .i64 1, .int .i64 258, .int .i64 5] 23)).size HB1.out)
  clear HB1
  go_upto_region 4 with (go_at_call 13; refine (CR.out A c _ HR.out).mono ?_; rintro e w2 ⟨rfl, hb2⟩; have HB2 := Aside0.mk hb2; clear hb2)
  have hb3 := below2 (w := w2) (.cells #[.int .i64 1, .int .i64 2, .string ⟨#[97, 98, 99, 100, 101, 102, 103, 104]⟩, .int .i64 1, .int .i64 258, .int .i64 5] 23) (.cells #[.int .i64 0, .int .i64 0] 31)
  have HQ3 := Aside0.mk (blk_b (blk_b HQ1.out HB2.out) hb3)
  have HW3 := Aside0.mk (below_then (below_then HW1.out HW1.out.size HB2.out) (Nat.le_trans HW1.out.size HB2.out.size) hb3)
  have HR3 := Aside0.mk ((HR.out.below HB2.out).below hb3)
  have HU3 := Aside0.mk (two_0 w2 (.cells #[.int .i64 1, .int .i64 2, .string ⟨#[97, 98, 99, 100, 101, 102, 103, 104]⟩, .int .i64 1, .int .i64 258, .int .i64 5] 23) (.cells #[.int .i64 0, .int .i64 0] 31))
  have HF3 := Aside0.mk (two_1 w2 (.cells #[.int .i64 1, .int .i64 2, .string ⟨#[97, 98, 99, 100, 101, 102, 103, 104]⟩, .int .i64 1, .int .i64 258, .int .i64 5] 23) (.cells #[.int .i64 0, .int .i64 0] 31))
  have hlt : w.heap.size < w2.heap.size := blk_lt (blk_b HQ1.out HB2.out)
  clear hb3 HQ1 HW1 HB2 HR CT CR
  generalize (w2.alloc (.cells #[.int .i64 1, .int .i64 2, .string ⟨#[97, 98, 99, 100, 101, 102, 103, 104]⟩, .int .i64 1, .int .i64 258, .int .i64 5] 23)).alloc (.cells #[.int .i64 0, .int .i64 0] 31) = w3 at *
  obtain ⟨gu, hgu⟩ : ∃ gu, w2.heap.size = gu := ⟨_, rfl⟩
  rw [hgu] at HU3 HF3 hlt
  rw [show (some (⟨w2.heap.size, 0, none⟩ : Addr)) = some ⟨gu, 0, none⟩ by rw [hgu], show (some (⟨w2.heap.size + 1, 0, none⟩ : Addr)) = some ⟨gu + 1, 0, none⟩ by rw [hgu]]
  clear hgu
  have t0 : _ = some (Value.int .i64 1) := blk_cell HQ3.out 0
  have t1 : _ = some (Value.int .i64 2) := blk_cell HQ3.out 1
  have t2 : _ = some (Value.string ⟨#[97, 98, 99, 100, 101, 102, 103, 104]⟩) := blk_cell HQ3.out 2
  have t3 : _ = some (Value.int .i64 1) := blk_cell HQ3.out 3
  have t4 : _ = some (Value.int .i64 258) := blk_cell HQ3.out 4
  have t5 : _ = some (Value.int .i64 5) := blk_cell HQ3.out 5
  have z3 := blk_frozen HQ3.out 3
  have HW4 := Aside0.mk (HW3.out.setCell (p := ⟨w.heap.size, 3, none⟩) (Nat.le_refl _) (.int .i64 4))
  have HU4 := Aside0.mk (blk_far HU3.out (p := ⟨w.heap.size, 3, none⟩) (by show gu ≠ w.heap.size; omega) (.int .i64 4))
  have HF4 := Aside0.mk (blk_far HF3.out (p := ⟨w.heap.size, 3, none⟩) (by show gu + 1 ≠ w.heap.size; omega) (.int .i64 4))
  have HR4 := Aside0.mk (show ReadsInt (w3.setCell ⟨w.heap.size, 3, none⟩ (.int .i64 4)) .u8 A 21 bb from HR3.out.keep ((KeepBut.refl w3 w.heap.size none).set_ 3 _) (fun ad ea hn e => by
    obtain ⟨ad', e', hc⟩ := HR3.out.2.2 hn
    rw [ea] at e'
    obtain rfl := Option.some.inj e'
    have h := hc 0 hn
    have hbk : (ad.add 0).block = w.heap.size := by rw [add_block]; exact e
    unfold World.cell? at h
    rw [hbk, HQ3.out] at h
    simp only at h
    split at h
    · cases h
    generalize (ad.add 0).off = o at h
    match o, h with
    | 0, h => cases h
    | 1, h => cases h
    | 2, h => cases h
    | 3, h => cases h
    | 4, h => cases h
    | 5, h => cases h
    | n + 6, h => simp at h))
  go_upto_region 6 with (go_at_call 10; refine (CT4.out _).mono ?_; rintro e w5 ⟨v5, rfl, ho5, hb5⟩; have HB5 := Aside0.mk hb5; clear ho5 hb5)
  have u4 : _ = some (Value.int .i64 258) := blk_cell (blk_b HU4.out HB5.out) 4
  have f0 : _ = some (Value.int .i64 0) := blk_cell (blk_b HF4.out HB5.out) 0
  have f1 : _ = some (Value.int .i64 0) := blk_cell (blk_b HF4.out HB5.out) 1
  obtain ⟨ad, rfl, c1⟩ := (HR4.out.below HB5.out).at_ 1 (by omega) (by omega)
  obtain ⟨ad', e', c16⟩ := (HR4.out.below HB5.out).at_ 16 (by omega) (by omega)
  obtain rfl := Option.some.inj e'
  rw [HX1.out.1] at c1
  rw [HX1.out.2] at c16
  have c1' : w5.cell? ⟨ad.block, ad.off + 1, none⟩ = some (Value.int .u8 1) := by simpa [Addr.add] using c1
  have c16' : w5.cell? ⟨ad.block, ad.off + 16, none⟩ = some (Value.int .u8 2) := by simpa [Addr.add] using c16
  clear c1 c16
  have HW5 := Aside0.mk (below_then HW4.out HW4.out.size HB5.out)
  clear t0 t1 t2 t3 t4 t5 z3 HW4 HU4 HF4 HR4 HR3 HB5 HQ3 HW3 HU3 HF3 CT4 HX1 e'
  go_wp2
  go_ret
  exact ⟨by first | rfl | (simp; done), HW5.out⟩
end Go.Proofs.Ytgmbfecfkdbfaaa.Wi
/- RecordTaps: the walk. -/
set_option linter.unusedVariables false
set_option linter.unusedSimpArgs false
namespace Go.Proofs.Ytgmbfecfkdbfaaa.Wi
open Go Go.RowKit Go.Proofs.YtgmbfecfkdbfaaaW.PrintWords
theorem tout_len (t : Tp) : t.out.length ≤ 1000000 := by
  unfold Tp.out
  split
  · unfold WS.out
    split
    · simp
    · exact tput_len t
  · simp
theorem reads_keepb {W W' : World} {A : Option Addr} {n : Nat} {xs : List Int} (h : ReadsInt W .u8 A n xs) (hk : ∀ k, k < W.heap.size → (∃ ad, A = some ad ∧ ad.block = k) → W'.heap[k]? = W.heap[k]?) : ReadsInt W' .u8 A n xs := by
  refine ⟨h.1, h.2.1, fun hn => ?_⟩
  obtain ⟨ad, e, hc⟩ := h.2.2 hn
  refine ⟨ad, e, fun j hj => ?_⟩
  have h1 := hc j hj
  have hb := World.block_lt_of_cell? W _ h1
  rw [add_block] at hb
  rw [World.cell?_of_block (w := W) (by rw [add_block]; exact hk ad.block hb ⟨ad, e, rfl⟩)]
  exact h1
set_option maxHeartbeats 32000000 in
set_option maxRecDepth 100000 in
theorem recordTaps_calls (t : Tp) (ht : t.Ok) (A : Option Addr) (c : Nat) (bs : List Int) (w : World) (hb : kB.C w A bs.length bs) (hc : bs.length ≤ c) (hbl : bs.length ≤ 140737488351232) :
    Calls Try.prog 3 #[t.val, .slice A bs.length c] w fun e w' => e = .returned (.bool true) ∧ Below w.heap.size w w' := by
  obtain ⟨hrd, hby⟩ := kB_reads hb
  have HRD := Aside0.mk hrd
  have CT := Aside0.mk (fun W => recTap_calls t ht W)
  have CF := Aside0.mk (fun W => refTap_calls t ht W)
  have CL := Aside0.mk (fun (W : World) (h : ReadsInt W .u8 A bs.length bs) => lent8_calls A c bs W h hc hbl)
  have CR := Aside0.mk (fun (A : Option Addr) (c : Nat) (W : World) (h : ReadsInt W .u8 A bs.length bs) => recReadTap_calls A c bs W h hby (by omega))
  have CX := Aside0.mk (fun (W : World) (h : ReadsInt W .u8 A bs.length bs) => refReadTap_calls A c bs W h hc hby (by omega))
  have HOL := Aside0.mk (tout_len t)
  unfold TKPost at CR CX
  obtain ⟨⟨⟨m0, m1, my, m3, m4, m5⟩, c0, c1⟩, hp⟩ : ∃ p, readTap bs = p := ⟨_, rfl⟩
  rw [hp] at CR CX
  simp only [Tp.val] at CR CX
  obtain ⟨n0, n1, y, n3, n4, n5⟩ := t
  unfold RTPost Tp.val at CT
  unfold RFPost Tp.val at CF
  simp only at CT CF
  unfold Tp.val
  simp only
  generalize Tp.out ⟨n0, n1, y, n3, n4, n5⟩ = o at *
  generalize Tp.err ⟨n0, n1, y, n3, n4, n5⟩ = er at *
  have HB0 := Aside0.mk (below1 (w := w) (.cells #[.int .i64 n0, .int .i64 n1, .string y, .int .i64 n3, .int .i64 n4, .int .i64 n5] 23))
  have HQ0 := Aside0.mk (heap_alloc_new w (.cells #[.int .i64 n0, .int .i64 n1, .string y, .int .i64 n3, .int .i64 n4, .int .i64 n5] 23))
  clear hb hrd hby hp ht
  go_enter Try.func3, Try.ntmps3
  go_upto_region 6 with (first
    | (go_at_call 9; refine (awake8_calls _).mono ?_; rintro e w1 ⟨rfl, hb1⟩; have HB1 := Aside0.mk hb1; have q1 := blk_b HQ0.out hb1; have e10 : _ = some (Value.int .i64 n0) := blk_cell q1 0; have e11 : _ = some (Value.int .i64 n1) := blk_cell q1 1; have e12 : _ = some (Value.string y) := blk_cell q1 2; have e13 : _ = some (Value.int .i64 n3) := blk_cell q1 3; have e14 : _ = some (Value.int .i64 n4) := blk_cell q1 4; have e15 : _ = some (Value.int .i64 n5) := blk_cell q1 5; clear q1)
    | (go_at_call 10; first
      | ((with_reducible refine (CT.out w1).mono ?_); rintro e w2 ⟨v2, rfl, ho2, hb2⟩; obtain ⟨A2, c2, _, hv2, _, hr2⟩ := own_reads'' ho2; subst hv2; have HO2 := Aside0.mk ho2; have HR2 := Aside0.mk hr2; have HB2 := Aside0.mk hb2; have q2 := blk_b (blk_b HQ0.out HB1.out) hb2; have e20 : _ = some (Value.int .i64 n0) := blk_cell q2 0; have e21 : _ = some (Value.int .i64 n1) := blk_cell q2 1; have e22 : _ = some (Value.string y) := blk_cell q2 2; have e23 : _ = some (Value.int .i64 n3) := blk_cell q2 3; have e24 : _ = some (Value.int .i64 n4) := blk_cell q2 4; have e25 : _ = some (Value.int .i64 n5) := blk_cell q2 5; clear q2 ho2 hr2 hb2)
      | ((with_reducible refine (CT.out w2).mono ?_); rintro e w3 ⟨v3, rfl, ho3, hb3⟩; obtain ⟨A3, c3, _, hv3, _, hr3⟩ := own_reads'' ho3; subst hv3; have HO3 := Aside0.mk ho3; have HR3 := Aside0.mk hr3; have HB3 := Aside0.mk hb3; have q3 := blk_b (blk_b (blk_b HQ0.out HB1.out) HB2.out) hb3; have e30 : _ = some (Value.int .i64 n0) := blk_cell q3 0; have e31 : _ = some (Value.int .i64 n1) := blk_cell q3 1; have e32 : _ = some (Value.string y) := blk_cell q3 2; have e33 : _ = some (Value.int .i64 n3) := blk_cell q3 3; have e34 : _ = some (Value.int .i64 n4) := blk_cell q3 4; have e35 : _ = some (Value.int .i64 n5) := blk_cell q3 5; clear q3 ho3 hr3 hb3))
    | (go_at_call 11; refine (CF.out _).mono ?_; rintro e w4 ⟨A4, c4, rfl, hr4, hb4⟩; have HR4 := Aside0.mk hr4; have HB4 := Aside0.mk hb4; have HRD4 := Aside0.mk ((((HRD.out.below HB0.out).below HB1.out).below HB2.out |>.below HB3.out).below hb4); clear hr4 hb4)
    | (go_at_call 12; refine (CL.out _ HRD4.out).mono ?_; rintro e w5 ⟨gl, cl, rfl, hcl, ho5, hgl, hb5⟩; have HCL := Aside0.mk hcl; have HO5 := Aside0.mk ho5; have HGL := Aside0.mk hgl; have HB5 := Aside0.mk hb5; clear hcl ho5 hgl hb5))
  have L1 := HB0.out.size
  have L2 := HB1.out.size
  have L3 := HB2.out.size
  have L4 := HB3.out.size
  have L5 := HB4.out.size
  have hb25 : Below w2.heap.size w2 w5 := below_then (below_then HB3.out L4 HB4.out) (by omega) HB5.out
  have hb35 : Below w3.heap.size w3 w5 := below_then HB4.out L5 HB5.out
  have HW5 := Aside0.mk (show Below w.heap.size w w5 from below_then (below_then (below_then HB0.out L1 HB1.out) (by omega) HB2.out) (by omega) hb25)
  have HX := Aside0.mk (own_upto ((Fr.of_below (S := fun _ => False) hb25).own HO2.out (fun _ _ h => h)) (base' := w.heap.size) (fun k hk => by have := own_base HO2.out k hk; omega))
  have HY := Aside0.mk (own_upto ((Fr.of_below (S := fun _ => False) hb35).own HO3.out (fun _ _ h => h)) (base' := w.heap.size) (fun k hk => by have := own_base HO3.out k hk; omega))
  have FX := Aside0.mk (show ∀ k, (Value.slice A2 o.length c2).ownBlock = some k → k < gl from fun k hk => by have := own_lt HO2.out k hk; have := HGL.out; omega)
  have FY := Aside0.mk (show ∀ k, (Value.slice A3 o.length c3).ownBlock = some k → k < gl from fun k hk => by have := own_lt HO3.out k hk; have := HGL.out; omega)
  have HD := Aside0.mk (show ∀ k, (Value.slice A2 o.length c2).ownBlock = some k → (Value.slice A3 o.length c3).ownBlock ≠ some k from fun k hk e => by have := own_lt HO2.out k hk; have := own_base HO3.out k e; omega)
  have HR5 := Aside0.mk (HR4.out.below HB5.out)
  have F4 := Aside0.mk (show 0 < o.length → ∀ ad, A4 = some ad → ad.block < gl from fun hn ad ea => by
    obtain ⟨ad', e', hcell⟩ := HR4.out.2.2 hn
    rw [ea] at e'
    obtain rfl := Option.some.inj e'
    have := World.block_lt_of_cell? w4 _ (hcell 0 hn)
    rw [add_block] at this
    have := HGL.out
    omega)
  have FA := Aside0.mk (show 0 < bs.length → ∀ ad, A = some ad → ad.block < gl from fun hn ad ea => by
    obtain ⟨ad', e', hcell⟩ := HRD.out.2.2 hn
    rw [ea] at e'
    obtain rfl := Option.some.inj e'
    have := World.block_lt_of_cell? w _ (hcell 0 hn)
    rw [add_block] at this
    have := HGL.out
    omega)
  have HRD5 := Aside0.mk (HRD4.out.below HB5.out)
  have HIN := Aside0.mk (show ReadsInt w5 .u8 (some ⟨gl, 0, none⟩) bs.length bs from by
    obtain ⟨A', c', h1, _, h2⟩ := own_reads' HO5.out
    injection h1 with h1 _ _
    subst h1
    have h3 := ReadsInt.take_ h2 bs.length (by omega)
    rwa [show (bs ++ [(171 : Int), 172]).take bs.length = bs by simp] at h3)
  have HGW := Aside0.mk (show w.heap.size ≤ gl from by have := HGL.out; omega)
  have HGLT := Aside0.mk (show gl < w5.heap.size from own_lt HO5.out gl rfl)
  have hO5 := own_upto HO5.out (base' := w.heap.size) (fun k hk => by have := own_base HO5.out k hk; omega)
  have HO6 := Aside0.mk hO5
  clear L1 L2 L3 L4 L5 hb25 hb35 hO5 HB0 HB1 HB2 HB3 HB4 HB5 HO2 HO3 HO5 HR2 HR3 HR4 HRD4 HGL HQ0 CT CF CL HRD
  go_upto_region 7 with (go_at_call 13; refine (CR.out _ cl _ HIN.out).mono ?_; rintro e w6 ⟨rfl, hb6⟩; have HB6 := Aside0.mk hb6; clear hb6)
  have hb7 := below2 (w := w6) (.cells #[.int .i64 m0, .int .i64 m1, .string my, .int .i64 m3, .int .i64 m4, .int .i64 m5] 23) (.cells #[.int .i64 c0, .int .i64 c1] 31)
  have HU := Aside0.mk (two_0 w6 (.cells #[.int .i64 m0, .int .i64 m1, .string my, .int .i64 m3, .int .i64 m4, .int .i64 m5] 23) (.cells #[.int .i64 c0, .int .i64 c1] 31))
  have HH := Aside0.mk (two_1 w6 (.cells #[.int .i64 m0, .int .i64 m1, .string my, .int .i64 m3, .int .i64 m4, .int .i64 m5] 23) (.cells #[.int .i64 c0, .int .i64 c1] 31))
  have HB67 := Aside0.mk (below_then HB6.out HB6.out.size hb7)
  have hug : gl < w6.heap.size := by have := HGLT.out; have := HB6.out.size; omega
  clear hb7
  generalize (w6.alloc (.cells #[.int .i64 m0, .int .i64 m1, .string my, .int .i64 m3, .int .i64 m4, .int .i64 m5] 23)).alloc (.cells #[.int .i64 c0, .int .i64 c1] 31) = w7 at *
  generalize w6.heap.size = gu at *
  have fr7 := Fr.of_below (S := fun _ => False) HB67.out
  have HX7 := Aside0.mk (fr7.own HX.out (fun _ _ h => h))
  have HY7 := Aside0.mk (fr7.own HY.out (fun _ _ h => h))
  have HO7 := Aside0.mk (fr7.own HO6.out (fun _ _ h => h))
  have HR7 := Aside0.mk (HR5.out.below HB67.out)
  have HRD7 := Aside0.mk (HRD5.out.below HB67.out)
  have HW7 := Aside0.mk (below_then HW5.out HW5.out.size HB67.out)
  clear fr7 HX HY HO6 HR5 HRD5 HW5 HB67 HB6 HIN
  go_upto_region 8 with (go_at_call 14; refine (kept_calls A c cl bs w.heap.size gl _ HRD7.out hbl HCL.out HO7.out).mono ?_; rintro e w8 ⟨rfl, f8⟩; have HF8 := Aside0.mk f8; clear f8)
  have HX8 := Aside0.mk (HF8.out.own HX7.out (fun k hk e => by have := FX.out k hk; omega))
  have HY8 := Aside0.mk (HF8.out.own HY7.out (fun k hk e => by have := FY.out k hk; omega))
  have HR8 := Aside0.mk (show ReadsInt w8 .u8 A4 o.length o from ⟨HR7.out.1, HR7.out.2.1, fun hn => (reads_keepb HR7.out (fun k hk ⟨ad, e, h⟩ => HF8.out.block k hk (by have := F4.out hn ad e; omega))).2.2 hn⟩)
  have HRD8 := Aside0.mk (show ReadsInt w8 .u8 A bs.length bs from ⟨HRD7.out.1, HRD7.out.2.1, fun hn => (reads_keepb HRD7.out (fun k hk ⟨ad, e, h⟩ => HF8.out.block k hk (by have := FA.out hn ad e; omega))).2.2 hn⟩)
  have HU8 := Aside0.mk (HF8.out.blk HU.out (by show ¬ gu = gl; omega))
  have HH8 := Aside0.mk (HF8.out.blk HH.out (by show ¬ gu + 1 = gl; omega))
  have HW8 := Aside0.mk (HW7.out.trans (HF8.out.below HW7.out.size (fun i hi => by subst hi; exact HGW.out)))
  have hgu8 : gu + 1 < w8.heap.size := blk_lt HH8.out
  clear HX7 HY7 HR7 HRD7 HU HH HW7 HF8 HO7
  go_upto_region 9 with (go_at_call 15; refine (CX.out _ HRD8.out).mono ?_; rintro e w9 ⟨rfl, hb9⟩; have HB9 := Aside0.mk hb9; clear hb9)
  have hb10 := below2 (w := w9) (.cells #[.int .i64 m0, .int .i64 m1, .string my, .int .i64 m3, .int .i64 m4, .int .i64 m5] 23) (.cells #[.int .i64 c0, .int .i64 c1] 31)
  have HV := Aside0.mk (two_0 w9 (.cells #[.int .i64 m0, .int .i64 m1, .string my, .int .i64 m3, .int .i64 m4, .int .i64 m5] 23) (.cells #[.int .i64 c0, .int .i64 c1] 31))
  have HI := Aside0.mk (two_1 w9 (.cells #[.int .i64 m0, .int .i64 m1, .string my, .int .i64 m3, .int .i64 m4, .int .i64 m5] 23) (.cells #[.int .i64 c0, .int .i64 c1] 31))
  have HB8 := Aside0.mk (below_then HB9.out HB9.out.size hb10)
  have hgv : gu + 1 < w9.heap.size := by have := HB9.out.size; omega
  clear hb10
  generalize (w9.alloc (.cells #[.int .i64 m0, .int .i64 m1, .string my, .int .i64 m3, .int .i64 m4, .int .i64 m5] 23)).alloc (.cells #[.int .i64 c0, .int .i64 c1] 31) = wa at *
  generalize w9.heap.size = gv at *
  have fra := Fr.of_below (S := fun _ => False) HB8.out
  have HXA := Aside0.mk (fra.own HX8.out (fun _ _ h => h))
  have HYA := Aside0.mk (fra.own HY8.out (fun _ _ h => h))
  have HRA := Aside0.mk (HR8.out.below HB8.out)
  have HUA := Aside0.mk (blk_b HU8.out HB8.out)
  have HHA := Aside0.mk (blk_b HH8.out HB8.out)
  have HWA := Aside0.mk (below_then HW8.out HW8.out.size HB8.out)
  have HRX := Aside0.mk (show ReadsInt wa .u8 A2 o.length o from by
    obtain ⟨A', c', h1, _, h2⟩ := own_reads' HXA.out
    injection h1 with h1 _ _
    subst h1
    exact h2)
  have HRY := Aside0.mk (show ReadsInt wa .u8 A3 o.length o from by
    obtain ⟨A', c', h1, _, h2⟩ := own_reads' HYA.out
    injection h1 with h1 _ _
    subst h1
    exact h2)
  have SX := Aside0.mk (same_eq A2 A4 c2 c4 o wa HRX.out HRA.out)
  have SY := Aside0.mk (same_eq A3 A4 c3 c4 o wa HRY.out HRA.out)
  clear fra HX8 HY8 HR8 HU8 HH8 HW8 HB8 HRD8 HRX HRY HRA
  go_upto_region 11 with (first
    | (go_at_call 16; first | ((with_reducible refine SX.out.mono ?_); rintro e wb ⟨rfl, rfl⟩) | ((with_reducible refine SY.out.mono ?_); rintro e wb ⟨rfl, rfl⟩))
    | (go_at_call 17; refine (owned8_calls A2 A3 c2 c3 o.length o.length o o w.heap.size wa HWA.out.size HOL.out HXA.out HYA.out HD.out).mono ?_; rintro e wc ⟨rfl, fc⟩; have HFC := Aside0.mk fc; clear fc))
  have hne : ∀ k, gl < k → ¬ (Value.slice A2 o.length c2).ownBlock = some k := fun k hk e => by have := FX.out k e; omega
  have qU := HFC.out.blk HUA.out (hne gu (by omega))
  have qH := HFC.out.blk HHA.out (hne (gu + 1) (by omega))
  have qV := HFC.out.blk HV.out (hne gv (by omega))
  have qI := HFC.out.blk HI.out (hne (gv + 1) (by omega))
  have HEND := Aside0.mk (HWA.out.trans (HFC.out.below HWA.out.size (fun i hi => own_base HXA.out i hi)))
  have ua0 : _ = some (Value.int .i64 m0) := blk_cell qU 0
  have ua1 : _ = some (Value.int .i64 m1) := blk_cell qU 1
  have ua2 : _ = some (Value.string my) := blk_cell qU 2
  have ua3 : _ = some (Value.int .i64 m3) := blk_cell qU 3
  have ua4 : _ = some (Value.int .i64 m4) := blk_cell qU 4
  have ua5 : _ = some (Value.int .i64 m5) := blk_cell qU 5
  have ub0 : _ = some (Value.int .i64 c0) := blk_cell qH 0
  have ub1 : _ = some (Value.int .i64 c1) := blk_cell qH 1
  have uc0 : _ = some (Value.int .i64 m0) := blk_cell qV 0
  have uc1 : _ = some (Value.int .i64 m1) := blk_cell qV 1
  have uc2 : _ = some (Value.string my) := blk_cell qV 2
  have uc3 : _ = some (Value.int .i64 m3) := blk_cell qV 3
  have uc4 : _ = some (Value.int .i64 m4) := blk_cell qV 4
  have uc5 : _ = some (Value.int .i64 m5) := blk_cell qV 5
  have ud0 : _ = some (Value.int .i64 c0) := blk_cell qI 0
  have ud1 : _ = some (Value.int .i64 c1) := blk_cell qI 1
  clear hne qU qH qV qI HFC HUA HHA HV HI HWA HXA HYA
  go_wp2
  go_ret
  exact ⟨by first | rfl | (simp; done), HEND.out⟩
end Go.Proofs.Ytgmbfecfkdbfaaa.Wi
/- record.Key. -/
set_option linter.unusedVariables false
set_option linter.unusedSimpArgs false
namespace Go.Proofs.Ytgmbfecfkdbfaaa.Wi
open Go Go.RowKit Go.Proofs.YtgmbfecfkdbfaaaW.PrintWords
/-- what a key is put as -/
def keyW (n0 n1 : Int) (y : ByteArray) (n5 : Int) : WS := ((((((⟨[], false⟩ : WS).put (pFixed ⟨#[116]⟩ 1)).put (pFixed y 8)).put (pNumber n5 4)).put (pNumber n0 2)).put (pNumber n1 4))
def Tp.key (t : Tp) : ByteArray × Int := if t.right = true then (strOfNums (keyW t.n0 t.n1 t.y t.n5).out, (keyW t.n0 t.n1 t.y t.n5).err) else (⟨#[]⟩, 80)
def KeyPost (t : Tp) (w : World) (e : Ending) (w' : World) : Prop := e = .returned (.tuple #[.string t.key.1, .int .i64 t.key.2]) ∧ Below w.heap.size w w'
set_option maxHeartbeats 8000000 in
set_option maxRecDepth 100000 in
theorem recKey_calls (t : Tp) (ht : t.Ok) (w : World) : Calls Try.prog 18 #[t.val] w (KeyPost t w) := by
  have HT := Aside0.mk (fun W => rightTap_calls t W)
  obtain ⟨⟨_, h0⟩, ⟨_, h1⟩, hy, ⟨_, h3⟩, ⟨_, h4⟩, ⟨_, h5⟩⟩ := ht
  obtain ⟨r, hr⟩ : ∃ r, t.right = r := ⟨_, rfl⟩
  have HK : Aside0 (t.key = if r = true then (strOfNums (keyW t.n0 t.n1 t.y t.n5).out, (keyW t.n0 t.n1 t.y t.n5).err) else (⟨#[]⟩, 80)) := ⟨by unfold Tp.key; rw [hr]⟩
  simp only [hr] at HT
  clear hr
  unfold KeyPost
  rw [HK.out]
  obtain ⟨n0, n1, y, n3, n4, n5⟩ := t
  unfold Tp.val at HT ⊢
  simp only at HT h0 h1 hy h3 h4 h5 ⊢
  clear HK
  have HB0 := Aside0.mk (below1 (w := w) (.cells #[.int .i64 n0, .int .i64 n1, .string y, .int .i64 n3, .int .i64 n4, .int .i64 n5] 23))
  have HQ0 := Aside0.mk (heap_alloc_new w (.cells #[.int .i64 n0, .int .i64 n1, .string y, .int .i64 n3, .int .i64 n4, .int .i64 n5] 23))
  cases r with
  | false =>
    simp only [Bool.false_eq_true, ↓reduceIte] at HT ⊢
    go_enter Try.func18, Try.ntmps18
    go_wp2_with (go_at_call 42; refine (HT.out _).mono ?_; rintro e w1 ⟨rfl, hb1⟩)
    go_ret2
    exact ⟨rfl, below_then HB0.out HB0.out.size hb1⟩
  | true =>
    simp only [↓reduceIte] at HT ⊢
    have L0 := put_len (⟨[], false⟩ : WS) (pFixed ⟨#[116]⟩ 1) (fun ys h => by have e : ys = [116] := Option.some.inj (h.symm.trans (rfl : pFixed ⟨#[116]⟩ 1 = some [116])); rw [e]; decide)
    have L1 := putFix_len ((⟨[], false⟩ : WS).put (pFixed ⟨#[116]⟩ 1)) y
    have L2 := putNum_len (((⟨[], false⟩ : WS).put (pFixed ⟨#[116]⟩ 1)).put (pFixed y 8)) n5 4
    have L3 := putNum_len ((((⟨[], false⟩ : WS).put (pFixed ⟨#[116]⟩ 1)).put (pFixed y 8)).put (pNumber n5 4)) n0 2
    have L4 := putNum_len (((((⟨[], false⟩ : WS).put (pFixed ⟨#[116]⟩ 1)).put (pFixed y 8)).put (pNumber n5 4)).put (pNumber n0 2)) n1 4
    have L5 : (⟨[], false⟩ : WS).xs.length = 0 := rfl
    have HL := Aside0.mk (And.intro L5 (And.intro L0 (And.intro L1 (And.intro L2 (And.intro L3 L4)))))
    clear L0 L1 L2 L3 L4 L5
    unfold keyW
    go_enter Try.func18, Try.ntmps18
    go_upto_region 5 with (first
      | (go_at_call 42; refine (HT.out _).mono ?_; rintro e w1 ⟨rfl, hb1⟩; have HB1 := Aside0.mk (below_then HB0.out HB0.out.size hb1); have HQ1 := Aside0.mk (blk_b HQ0.out hb1); clear hb1)
      | (go_at_call 51; refine (newWriter_calls _).mono ?_; rintro e w2 ⟨rfl, S0, hb2⟩; have HS0 := Aside0.mk S0; have HB2 := Aside0.mk hb2; clear S0 hb2))
    have hb3 := below1 (w := w2) (.cells #[.pointer (some ⟨w1.heap.size, 0, none⟩), .pointer none] 97)
    have HQ3 := Aside0.mk (blk_b (blk_b HQ1.out HB2.out) hb3)
    have HX3 := Aside0.mk (heap_alloc_new w2 (.cells #[.pointer (some ⟨w1.heap.size, 0, none⟩), .pointer none] 97))
    have HW3 := Aside0.mk (below_then (below_then HB1.out HB1.out.size HB2.out) (Nat.le_trans HB1.out.size HB2.out.size) hb3)
    have hlt1 : w.heap.size < w1.heap.size := blk_lt HQ1.out
    have hlt2 : w1.heap.size < w2.heap.size := HS0.out.lt
    have H0 := Aside0.mk (show OW (w2.alloc (.cells #[.pointer (some ⟨w1.heap.size, 0, none⟩), .pointer none] 97)) (w2.alloc (.cells #[.pointer (some ⟨w1.heap.size, 0, none⟩), .pointer none] 97)) w1.heap.size w1.heap.size none ⟨[], false⟩ from ⟨Nat.le_trans HB2.out.size hb3.size, none, HS0.out.below hb3, .inl rfl, Fr.refl _ _⟩)
    have HNG := Aside0.mk (show w.heap.size ≠ w1.heap.size by omega)
    have HNX := Aside0.mk (show w2.heap.size ≠ w1.heap.size by omega)
    have HLE := Aside0.mk (show w.heap.size ≤ w1.heap.size by omega)
    clear hb3 HQ0 HB0 HB1 HQ1 HB2 HS0 hlt1 hlt2
    generalize w2.alloc (.cells #[.pointer (some ⟨w1.heap.size, 0, none⟩), .pointer none] 97) = W1 at *
    generalize w2.heap.size = gs at *
    generalize w1.heap.size = g at *
    have c0 : W1.cell? ⟨w.heap.size, 0, none⟩ = some (Value.int .i64 n0) := blk_cell HQ3.out 0
    have c1 : W1.cell? ⟨w.heap.size, 1, none⟩ = some (Value.int .i64 n1) := blk_cell HQ3.out 1
    have c2 : W1.cell? ⟨w.heap.size, 2, none⟩ = some (Value.string y) := blk_cell HQ3.out 2
    have c5 : W1.cell? ⟨w.heap.size, 5, none⟩ = some (Value.int .i64 n5) := blk_cell HQ3.out 5
    have HC := Aside0.mk (And.intro c0 (And.intro c1 (And.intro c2 c5)))
    have HK : Aside0 (∀ W, Fr (WrS g none) W1 W → W.cell? ⟨gs, 0, none⟩ = some (.pointer (some ⟨g, 0, none⟩)) ∧ W.cell? ⟨gs, 1, none⟩ = some (.pointer none)) := ⟨fun W hf => by
      have hx := hf.blk HX3.out (fun h => h.elim (fun e => HNX.out e) (fun e => nomatch e))
      exact ⟨(blk_cell hx 0).trans rfl, (blk_cell hx 1).trans rfl⟩⟩
    have s00 := (HK.out _ H0.out.fr).1
    have s01 := (HK.out _ H0.out.fr).2
    clear c0 c1 c2 c5 HX3 HQ3
    go_upto_region 10 with (first
      | (go_at_call 52; refine (wFixed_calls ⟨#[116]⟩ 1 (by decide) H0.out.2.choose_spec.1 (Nat.le_trans H0.out.1 H0.out.fr.size) (by have := HL.out; omega)).mono ?_; intro e wa hP; obtain ⟨rfl, H1'⟩ := OW.post H0.out _ H0.out.2.choose_spec.2.1 hP; have H1 := Aside0.mk H1'; have s10 := (HK.out _ H1'.fr).1; have s11 := (HK.out _ H1'.fr).2; clear hP H1')
      | (go_at_call 53; refine (OW.token H1.out 2 y HC.out.2.2.1 hy HNG.out (by simp) (by have := HL.out; omega)).mono ?_; rintro e wb ⟨rfl, H2'⟩; have H2 := Aside0.mk H2'; have s20 := (HK.out _ H2'.fr).1; have s21 := (HK.out _ H2'.fr).2; clear H2')
      | (go_at_call 54; first
        | ((with_reducible refine (OW.number H2.out 5 n5 4 HC.out.2.2.2 h5 HNG.out (by simp) (by have := HL.out; omega)).mono ?_); rintro e wc ⟨rfl, H3'⟩; have H3 := Aside0.mk H3'; have s30 := (HK.out _ H3'.fr).1; have s31 := (HK.out _ H3'.fr).2; clear H3')
        | ((with_reducible refine (OW.number H3.out 0 n0 2 HC.out.1 h0 HNG.out (by simp) (by have := HL.out; omega)).mono ?_); rintro e wd ⟨rfl, H4'⟩; have H4 := Aside0.mk H4'; have s40 := (HK.out _ H4'.fr).1; have s41 := (HK.out _ H4'.fr).2; clear H4')
        | ((with_reducible refine (OW.number H4.out 1 n1 4 HC.out.2.1 h1 HNG.out (by simp) (by have := HL.out; omega)).mono ?_); rintro e we ⟨rfl, H5'⟩; have H5 := Aside0.mk H5'; have s50 := (HK.out _ H5'.fr).1; clear H5')))
    go_wp2_with (go_at_call 55; refine (wBytes_calls H5.out.2.choose_spec.1 (by have := HL.out; omega)).mono ?_; rintro e wf ⟨v, rfl, ho, hb⟩; obtain ⟨Av, cv, _, hv, _, hrv⟩ := own_reads'' ho; subst hv; have HBF := Aside0.mk hb; have kc := string_of_reads (P := Try.prog) (c := cv) Try.underlying24 Try.underlying5 Try.underlying9 hrv; clear ho hb hrv)
    go_ret2
    have hbw := HW3.out.trans (H5.out.fr.below HW3.out.size (fun i hi => hi.elim (fun e => by subst e; exact HLE.out) (fun e => nomatch e)))
    exact ⟨rfl, below_then hbw hbw.size HBF.out⟩
end Go.Proofs.Ytgmbfecfkdbfaaa.Wi
/- fareboxref08.Key. -/
set_option linter.unusedVariables false
set_option linter.unusedSimpArgs false
namespace Go.Proofs.Ytgmbfecfkdbfaaa.Wi
open Go Go.RowKit Go.Proofs.YtgmbfecfkdbfaaaW.PrintWords
set_option maxHeartbeats 8000000 in
set_option maxRecDepth 100000 in
theorem refKey_calls (t : Tp) (ht : t.Ok) (w : World) : Calls Try.prog 19 #[t.val] w (KeyPost t w) := by
  have HT := Aside0.mk (fun W => rTapRight_calls t W)
  obtain ⟨⟨_, h0⟩, ⟨_, h1⟩, hy, ⟨_, h3⟩, ⟨_, h4⟩, ⟨_, h5⟩⟩ := ht
  obtain ⟨r, hr⟩ : ∃ r, t.right = r := ⟨_, rfl⟩
  have HK0 : Aside0 (t.key = if r = true then (strOfNums (keyW t.n0 t.n1 t.y t.n5).out, (keyW t.n0 t.n1 t.y t.n5).err) else (⟨#[]⟩, 80)) := ⟨by unfold Tp.key; rw [hr]⟩
  simp only [hr] at HT
  clear hr
  unfold KeyPost
  rw [HK0.out]
  obtain ⟨n0, n1, y, n3, n4, n5⟩ := t
  unfold Tp.val at HT ⊢
  simp only at HT h0 h1 hy h3 h4 h5 ⊢
  clear HK0
  have HB0 := Aside0.mk (below1 (w := w) (.cells #[.int .i64 n0, .int .i64 n1, .string y, .int .i64 n3, .int .i64 n4, .int .i64 n5] 23))
  have HQ0 := Aside0.mk (heap_alloc_new w (.cells #[.int .i64 n0, .int .i64 n1, .string y, .int .i64 n3, .int .i64 n4, .int .i64 n5] 23))
  cases r with
  | false =>
    simp only [Bool.false_eq_true, ↓reduceIte] at HT ⊢
    go_enter Try.func19, Try.ntmps19
    go_wp2_with (go_at_call 46; refine (HT.out _).mono ?_; rintro e w1 ⟨rfl, hb1⟩)
    go_ret2
    exact ⟨rfl, below_then HB0.out HB0.out.size hb1⟩
  | true =>
    simp only [↓reduceIte] at HT ⊢
    have L0 := put_len (⟨[], false⟩ : WS) (pFixed ⟨#[116]⟩ 1) (fun ys h => by have e : ys = [116] := Option.some.inj (h.symm.trans (rfl : pFixed ⟨#[116]⟩ 1 = some [116])); rw [e]; decide)
    have L1 := putFix_len ((⟨[], false⟩ : WS).put (pFixed ⟨#[116]⟩ 1)) y
    have L2 := putNum_len (((⟨[], false⟩ : WS).put (pFixed ⟨#[116]⟩ 1)).put (pFixed y 8)) n5 4
    have L3 := putNum_len ((((⟨[], false⟩ : WS).put (pFixed ⟨#[116]⟩ 1)).put (pFixed y 8)).put (pNumber n5 4)) n0 2
    have L4 := putNum_len (((((⟨[], false⟩ : WS).put (pFixed ⟨#[116]⟩ 1)).put (pFixed y 8)).put (pNumber n5 4)).put (pNumber n0 2)) n1 4
    have L5 : (⟨[], false⟩ : WS).xs.length = 0 := rfl
    have HL := Aside0.mk (And.intro L5 (And.intro L0 (And.intro L1 (And.intro L2 (And.intro L3 L4)))))
    clear L0 L1 L2 L3 L4 L5
    unfold keyW
    go_enter Try.func19, Try.ntmps19
    go_upto_region 5 with (go_at_call 46; refine (HT.out _).mono ?_; rintro e w1 ⟨rfl, hb1⟩; have HB1 := Aside0.mk (below_then HB0.out HB0.out.size hb1); have HQ1 := Aside0.mk (blk_b HQ0.out hb1); clear hb1)
    have hb3 := below1 (w := w1) (.cells #[.slice none 0 0, .bool false] 81)
    have qw := heap_alloc_new w1 (.cells #[.slice none 0 0, .bool false] 81)
    have hlt1 : w.heap.size < w1.heap.size := blk_lt HQ1.out
    have H0 := Aside0.mk (show OV (w1.alloc (.cells #[.slice none 0 0, .bool false] 81)) (w1.alloc (.cells #[.slice none 0 0, .bool false] 81)) w1.heap.size w1.heap.size none ⟨[], false⟩ from ⟨hb3.size, none, ⟨⟨_, qw, own_nil _ _ _ _, rfl⟩, Nat.le_refl _⟩, .inl rfl, Fr.refl _ _⟩)
    have qt := blk_b HQ1.out hb3
    have HK : Aside0 (∀ W, Fr (WrS w1.heap.size none) (w1.alloc (.cells #[.slice none 0 0, .bool false] 81)) W → W.heap[w.heap.size]? = some (.cells #[.int .i64 n0, .int .i64 n1, .string y, .int .i64 n3, .int .i64 n4, .int .i64 n5] 23 (0, 0))) := ⟨fun W hf => hf.blk qt (fun h => h.elim (fun e => by omega) (fun e => nomatch e))⟩
    have HW3 := Aside0.mk (below_then HB1.out HB1.out.size hb3)
    have HLE := Aside0.mk (show w.heap.size ≤ w1.heap.size by omega)
    clear hb3 qw qt HB0 HQ0 HB1 HQ1 hlt1
    go_upto_region 10 with (first | (go_at_call 44; (with_reducible refine (OV.call H0.out (fun ro hw hB => vFixed_calls ⟨#[116]⟩ 1 (by decide) hw hB (by have := HL.out; omega))).mono ?_); rintro e v1 ⟨rfl, H1'⟩; have H1 := Aside0.mk H1'; have q1 := HK.out _ H1'.fr; have e0 : _ = some (Value.int .i64 n0) := blk_cell q1 0; have e1 : _ = some (Value.int .i64 n1) := blk_cell q1 1; have e2 : _ = some (Value.string y) := blk_cell q1 2; have e5 : _ = some (Value.int .i64 n5) := blk_cell q1 5; clear H1') | (go_at_call 44; (with_reducible refine (OV.call H1.out (fun ro hw hB => vFixed_calls y 8 hy hw hB (by have := HL.out; omega))).mono ?_); rintro e v2 ⟨rfl, H2'⟩; have H2 := Aside0.mk H2'; have q2 := HK.out _ H2'.fr; have e0 : _ = some (Value.int .i64 n0) := blk_cell q2 0; have e1 : _ = some (Value.int .i64 n1) := blk_cell q2 1; have e2 : _ = some (Value.string y) := blk_cell q2 2; have e5 : _ = some (Value.int .i64 n5) := blk_cell q2 5; clear H2') | (go_at_call 43; (with_reducible refine (OV.call H2.out (fun ro hw hB => vNumber_calls n5 4 h5 hw hB (by have := HL.out; omega))).mono ?_); rintro e v3 ⟨rfl, H3'⟩; have H3 := Aside0.mk H3'; have q3 := HK.out _ H3'.fr; have e0 : _ = some (Value.int .i64 n0) := blk_cell q3 0; have e1 : _ = some (Value.int .i64 n1) := blk_cell q3 1; have e2 : _ = some (Value.string y) := blk_cell q3 2; have e5 : _ = some (Value.int .i64 n5) := blk_cell q3 5; clear H3') | (go_at_call 43; (with_reducible refine (OV.call H3.out (fun ro hw hB => vNumber_calls n0 2 h0 hw hB (by have := HL.out; omega))).mono ?_); rintro e v4 ⟨rfl, H4'⟩; have H4 := Aside0.mk H4'; have q4 := HK.out _ H4'.fr; have e0 : _ = some (Value.int .i64 n0) := blk_cell q4 0; have e1 : _ = some (Value.int .i64 n1) := blk_cell q4 1; have e2 : _ = some (Value.string y) := blk_cell q4 2; have e5 : _ = some (Value.int .i64 n5) := blk_cell q4 5; clear H4') | (go_at_call 43; (with_reducible refine (OV.call H4.out (fun ro hw hB => vNumber_calls n1 4 h1 hw hB (by have := HL.out; omega))).mono ?_); rintro e v5 ⟨rfl, H5'⟩; have H5 := Aside0.mk H5'; have q5 := HK.out _ H5'.fr; have e0 : _ = some (Value.int .i64 n0) := blk_cell q5 0; have e1 : _ = some (Value.int .i64 n1) := blk_cell q5 1; have e2 : _ = some (Value.string y) := blk_cell q5 2; have e5 : _ = some (Value.int .i64 n5) := blk_cell q5 5; clear H5'))
    go_wp2_with (go_at_call 56; refine (vBytes_calls H5.out.2.choose_spec.1 (by have := HL.out; omega)).mono ?_; rintro e wf ⟨Av, cv, rfl, hrv, hb⟩; have HBF := Aside0.mk hb; have kc := string_of_reads (P := Try.prog) (c := cv) Try.underlying24 Try.underlying5 Try.underlying9 hrv; clear hb hrv)
    go_ret2
    have hbw := HW3.out.trans (H5.out.fr.below HW3.out.size (fun i hi => hi.elim (fun e => by subst e; exact HLE.out) (fun e => nomatch e)))
    exact ⟨rfl, below_then hbw hbw.size HBF.out⟩
end Go.Proofs.Ytgmbfecfkdbfaaa.Wi
/- Plain law of keys: bytes of one length stand as their numbers do; keys of one token stand as times, devices, counters do. -/
set_option linter.unusedVariables false
set_option linter.unusedSimpArgs false
namespace Go.Proofs.Ytgmbfecfkdbfaaa.Wi
open Go Go.RowKit Go.Proofs.YtgmbfecfkdbfaaaW.PrintWords
theorem val_append (l r : List Int) : Wi.val (l ++ r) = Wi.val l * 256 ^ r.length + Wi.val r := by
  refine snoc_ind (P := fun r => Wi.val (l ++ r) = Wi.val l * 256 ^ r.length + Wi.val r) (by simp [Wi.val]) ?_ r
  intro r x ih
  rw [← List.append_assoc, val_snoc, ih, val_snoc, List.length_append, List.length_singleton, Nat.pow_succ, Nat.add_mul, Nat.mul_assoc, Nat.add_assoc]
theorem val_cons (a : Int) (r : List Int) : Wi.val (a :: r) = a.toNat * 256 ^ r.length + Wi.val r := by
  have h := val_append [a] r
  have h1 : Wi.val [a] = a.toNat := by simp [Wi.val]
  rw [h1] at h
  exact h
theorem bytesLess_app (p x y : List UInt8) : Op.bytesLess (p ++ x) (p ++ y) = Op.bytesLess x y := by
  induction p with
  | nil => rfl
  | cons a p ih => simp [Op.bytesLess, ih]
theorem u8_toNat (a : Int) (h : 0 ≤ a ∧ a ≤ 255) : (UInt8.ofNat a.toNat).toNat = a.toNat := by
  rw [UInt8.toNat_ofNat']
  exact Nat.mod_eq_of_lt (by omega)
theorem bytesLess_val : ∀ (x y : List Int), Bytes x → Bytes y → x.length = y.length → Op.bytesLess (x.map fun n => UInt8.ofNat n.toNat) (y.map fun n => UInt8.ofNat n.toNat) = decide (Wi.val x < Wi.val y)
  | [], [], _, _, _ => by simp [Op.bytesLess]
  | [], _ :: _, _, _, h => by cases h
  | _ :: _, [], _, _, h => by cases h
  | a :: x, b :: y, hx, hy, h => by
    have hxa := hx a (List.mem_cons_self)
    have hyb := hy b (List.mem_cons_self)
    have hx' : Bytes x := fun z hz => hx z (List.mem_cons_of_mem _ hz)
    have hy' : Bytes y := fun z hz => hy z (List.mem_cons_of_mem _ hz)
    have hl : x.length = y.length := by simpa using h
    have ih := bytesLess_val x y hx' hy' hl
    have ea := u8_toNat a hxa
    have eb := u8_toNat b hyb
    rw [List.map_cons, List.map_cons, Op.bytesLess, ih, val_cons, val_cons, hl]
    have v1 := val_lt x hx'
    have v2 := val_lt y hy'
    rw [hl] at v1
    generalize 256 ^ y.length = P at *
    have h1 : decide (UInt8.ofNat a.toNat < UInt8.ofNat b.toNat) = decide (a.toNat < b.toNat) := by
      rw [decide_eq_decide, UInt8.lt_iff_toNat_lt, ea, eb]
    have h2 : (UInt8.ofNat a.toNat == UInt8.ofNat b.toNat) = decide (a.toNat = b.toNat) := by
      by_cases e : a.toNat = b.toNat
      · rw [e]; simp
      · rw [decide_eq_false e]
        refine beq_eq_false_iff_ne.2 fun e' => e ?_
        rw [← ea, ← eb, e']
    rw [h1, h2]
    generalize a.toNat = A at *
    generalize b.toNat = C at *
    rcases Nat.lt_trichotomy A C with hlt | heq | hgt
    · have : A * P + P ≤ C * P := by rw [← Nat.succ_mul]; exact Nat.mul_le_mul_right P hlt
      rw [decide_eq_true hlt, Bool.true_or]
      exact (decide_eq_true (by omega)).symm
    · subst heq
      rw [decide_eq_false (Nat.lt_irrefl _), decide_eq_true rfl, Bool.false_or, Bool.true_and, decide_eq_decide]
      omega
    · have : C * P + P ≤ A * P := by rw [← Nat.succ_mul]; exact Nat.mul_le_mul_right P hgt
      rw [decide_eq_false (by omega), decide_eq_false (by omega), Bool.false_or, Bool.false_and]
      exact (decide_eq_false (by omega)).symm
/-- a right tap's key in bytes -/
def Tp.kxs (t : Tp) : List Int := (116 :: strBytes t.y) ++ (be t.n5.toNat 4 ++ (be t.n0.toNat 2 ++ be t.n1.toNat 4))
theorem Tp.right_all {t : Tp} (h : t.right = true) : (1 ≤ t.n0 ∧ t.n0 ≤ 65535) ∧ (1 ≤ t.n1 ∧ t.n1 ≤ 4294967295) ∧ t.y.size = 8 ∧ (1 ≤ t.n3 ∧ t.n3 ≤ 3) ∧ (1 ≤ t.n4 ∧ t.n4 ≤ 65535) ∧ 0 ≤ t.n5 ∧ t.n5 ≤ 2147483648 := by
  unfold Tp.right inB at h
  simp only [Bool.and_eq_true, decide_eq_true_eq, beq_iff_eq] at h
  obtain ⟨⟨⟨⟨⟨h0, h1⟩, h2⟩, h3⟩, h4⟩, h5⟩ := h
  refine ⟨h0, h1, by omega, h3, ⟨h4.1, ?_⟩, h5⟩
  have := h4.2
  split at this <;> omega
theorem pNumber_ok {n size : Int} (s : Nat) (hs : size = (s : Int)) (h1 : 1 ≤ s) (h8 : s ≤ 8) (h0 : 0 ≤ n) (h : s = 8 ∨ n < 256 ^ s) : pNumber n size = some (be n.toNat s) := by
  subst hs
  unfold pNumber
  rw [if_pos]
  · rfl
  · unfold sizedB fitsB
    have e1 : decide (1 ≤ (s : Int)) = true := decide_eq_true (by omega)
    have e2 : decide ((s : Int) ≤ 8) = true := decide_eq_true (by omega)
    have e3 : decide (0 ≤ n) = true := decide_eq_true h0
    rw [e1, e2, e3]
    rcases h with h | h
    · rw [decide_eq_true (show (s : Int) = 8 by omega)]; rfl
    · have e4 : decide (n < 256 ^ (s : Int).toNat) = true := decide_eq_true (by rw [Int.toNat_natCast]; exact h)
      rw [e4, Bool.or_true]; rfl
theorem pFixed_ok {y : ByteArray} {size : Int} (h : (y.size : Int) = size) (hs : size ≤ 65535) : pFixed y size = some (strBytes y) := by
  unfold pFixed fixedB
  rw [if_pos]
  rw [decide_eq_true (show 0 ≤ size by omega), decide_eq_true hs, beq_iff_eq.2 h]; rfl
theorem key_kxs (t : Tp) (h : t.right = true) : keyW t.n0 t.n1 t.y t.n5 = ⟨t.kxs, false⟩ := by
  obtain ⟨h0, h1, hy, h3, h4, h5⟩ := Tp.right_all h
  unfold keyW Tp.kxs
  rw [show pFixed ⟨#[116]⟩ 1 = some [116] from rfl, pFixed_ok (by omega) (by omega), pNumber_ok (size := 4) 4 rfl (by omega) (by omega) (by omega) (.inr (by omega)), pNumber_ok (size := 2) 2 rfl (by omega) (by omega) (by omega) (.inr (by omega)), pNumber_ok (size := 4) 4 rfl (by omega) (by omega) (by omega) (.inr (by omega))]
  simp [WS.put]
theorem tail_val (t : Tp) (h : t.right = true) : Wi.val (be t.n5.toNat 4 ++ (be t.n0.toNat 2 ++ be t.n1.toNat 4)) = t.n5.toNat * 281474976710656 + (t.n0.toNat * 4294967296 + t.n1.toNat) := by
  obtain ⟨h0, h1, hy, h3, h4, h5⟩ := Tp.right_all h
  rw [val_append, val_append, val_be 4 _ (by omega), val_be 2 _ (by omega), val_be 4 _ (by omega)]
  simp only [List.length_append, be_length]
theorem bytes_tail (t : Tp) : Bytes (be t.n5.toNat 4 ++ (be t.n0.toNat 2 ++ be t.n1.toNat 4)) := (be_bytes _ _).append ((be_bytes _ _).append (be_bytes _ _))
/-- keys of one token stand as times, devices, counters do -/
theorem keys_order (a b : Tp) (ha : a.right = true) (hb : b.right = true) (hy : a.y = b.y) :
    Op.bytesLess a.key.1.toList b.key.1.toList = decide (a.n5 < b.n5 ∨ a.n5 = b.n5 ∧ (a.n0 < b.n0 ∨ a.n0 = b.n0 ∧ a.n1 < b.n1)) := by
  have ea : a.key.1 = strOfNums a.kxs := by unfold Tp.key; rw [if_pos ha, key_kxs a ha]; rfl
  have eb : b.key.1 = strOfNums b.kxs := by unfold Tp.key; rw [if_pos hb, key_kxs b hb]; rfl
  rw [ea, eb, ByteArray.toList_eq, ByteArray.toList_eq, strOfNums_data, strOfNums_data]
  unfold Tp.kxs
  rw [hy, List.map_append, List.map_append (l₁ := 116 :: strBytes b.y), bytesLess_app, bytesLess_val _ _ (bytes_tail a) (bytes_tail b) (by simp [be_length]), tail_val a ha, tail_val b hb, decide_eq_decide]
  obtain ⟨h0, h1, _, h3, h4, h5⟩ := Tp.right_all ha
  obtain ⟨k0, k1, _, k3, k4, k5⟩ := Tp.right_all hb
  omega
theorem key_err_ok (a : Tp) : a.key.2 = if a.right = true then 0 else 80 := by
  unfold Tp.key
  split
  · rename_i h
    rw [key_kxs a h]; rfl
  · rfl
end Go.Proofs.Ytgmbfecfkdbfaaa.Wi
/- RecordKeys: the walk. -/
set_option linter.unusedVariables false
set_option linter.unusedSimpArgs false
namespace Go.Proofs.Ytgmbfecfkdbfaaa.Wi
open Go Go.RowKit Go.Proofs.YtgmbfecfkdbfaaaW.PrintWords
set_option maxHeartbeats 16000000 in
set_option maxRecDepth 100000 in
theorem keys_e (n0 n1 : Int) (ny : ByteArray) (n3 n4 n5 m0 m1 : Int) (my : ByteArray) (m3 m4 m5 : Int) (x : ByteArray) (e : Int) (y : ByteArray) (f : Int) (w : World)
    (CA : Aside0 (∀ W, Calls Try.prog 18 #[.agg #[.int .i64 n0, .int .i64 n1, .string ny, .int .i64 n3, .int .i64 n4, .int .i64 n5]] W fun e' w' => e' = .returned (.tuple #[.string x, .int .i64 e]) ∧ Below W.heap.size W w'))
    (CB : Aside0 (∀ W, Calls Try.prog 18 #[.agg #[.int .i64 m0, .int .i64 m1, .string my, .int .i64 m3, .int .i64 m4, .int .i64 m5]] W fun e' w' => e' = .returned (.tuple #[.string y, .int .i64 f]) ∧ Below W.heap.size W w'))
    (FA : Aside0 (∀ W, Calls Try.prog 19 #[.agg #[.int .i64 n0, .int .i64 n1, .string ny, .int .i64 n3, .int .i64 n4, .int .i64 n5]] W fun e' w' => e' = .returned (.tuple #[.string x, .int .i64 e]) ∧ Below W.heap.size W w'))
    (FB : Aside0 (∀ W, Calls Try.prog 19 #[.agg #[.int .i64 m0, .int .i64 m1, .string my, .int .i64 m3, .int .i64 m4, .int .i64 m5]] W fun e' w' => e' = .returned (.tuple #[.string y, .int .i64 f]) ∧ Below W.heap.size W w'))
    (he : e = 80) :
    Calls Try.prog 4 #[.agg #[.int .i64 n0, .int .i64 n1, .string ny, .int .i64 n3, .int .i64 n4, .int .i64 n5], .agg #[.int .i64 m0, .int .i64 m1, .string my, .int .i64 m3, .int .i64 m4, .int .i64 m5]] w fun e' w' => e' = .returned (.bool true) ∧ Below w.heap.size w w' := by
  have HB0 := Aside0.mk (below2 (w := w) (.cells #[.int .i64 n0, .int .i64 n1, .string ny, .int .i64 n3, .int .i64 n4, .int .i64 n5] 23) (.cells #[.int .i64 m0, .int .i64 m1, .string my, .int .i64 m3, .int .i64 m4, .int .i64 m5] 23))
  have HQN0 := Aside0.mk (two_0 w (.cells #[.int .i64 n0, .int .i64 n1, .string ny, .int .i64 n3, .int .i64 n4, .int .i64 n5] 23) (.cells #[.int .i64 m0, .int .i64 m1, .string my, .int .i64 m3, .int .i64 m4, .int .i64 m5] 23))
  have HQM0 := Aside0.mk (two_1 w (.cells #[.int .i64 n0, .int .i64 n1, .string ny, .int .i64 n3, .int .i64 n4, .int .i64 n5] 23) (.cells #[.int .i64 m0, .int .i64 m1, .string my, .int .i64 m3, .int .i64 m4, .int .i64 m5] 23))
  have hxx : (x.toList == x.toList) = true := beq_self_eq_true _
  have hyy : (y.toList == y.toList) = true := beq_self_eq_true _
  subst he
  go_enter Try.func4, Try.ntmps4
  go_wp2_with (first
      | (go_at_call 9; refine (awake8_calls _).mono ?_; rintro e' w1 ⟨rfl, hb1⟩; have qn1 := blk_b HQN0.out hb1; have qm1 := blk_b HQM0.out hb1; have HQN1 := Aside0.mk qn1; have HQM1 := Aside0.mk qm1; have HB1 := Aside0.mk (below_then HB0.out HB0.out.size hb1); have e100 : _ = some (Value.int .i64 n0) := blk_cell qn1 0; have e101 : _ = some (Value.int .i64 n1) := blk_cell qn1 1; have e102 : _ = some (Value.string ny) := blk_cell qn1 2; have e103 : _ = some (Value.int .i64 n3) := blk_cell qn1 3; have e104 : _ = some (Value.int .i64 n4) := blk_cell qn1 4; have e105 : _ = some (Value.int .i64 n5) := blk_cell qn1 5; have e110 : _ = some (Value.int .i64 m0) := blk_cell qm1 0; have e111 : _ = some (Value.int .i64 m1) := blk_cell qm1 1; have e112 : _ = some (Value.string my) := blk_cell qm1 2; have e113 : _ = some (Value.int .i64 m3) := blk_cell qm1 3; have e114 : _ = some (Value.int .i64 m4) := blk_cell qm1 4; have e115 : _ = some (Value.int .i64 m5) := blk_cell qm1 5; clear qn1 qm1 hb1)
      | (go_at_call 18; first
        | ((with_reducible refine (CA.out w1).mono ?_); rintro e' w2 ⟨rfl, hb2⟩; have qn2 := blk_b HQN1.out hb2; have qm2 := blk_b HQM1.out hb2; have HQN2 := Aside0.mk qn2; have HQM2 := Aside0.mk qm2; have HB2 := Aside0.mk (below_then HB1.out HB1.out.size hb2); have e200 : _ = some (Value.int .i64 n0) := blk_cell qn2 0; have e201 : _ = some (Value.int .i64 n1) := blk_cell qn2 1; have e202 : _ = some (Value.string ny) := blk_cell qn2 2; have e203 : _ = some (Value.int .i64 n3) := blk_cell qn2 3; have e204 : _ = some (Value.int .i64 n4) := blk_cell qn2 4; have e205 : _ = some (Value.int .i64 n5) := blk_cell qn2 5; have e210 : _ = some (Value.int .i64 m0) := blk_cell qm2 0; have e211 : _ = some (Value.int .i64 m1) := blk_cell qm2 1; have e212 : _ = some (Value.string my) := blk_cell qm2 2; have e213 : _ = some (Value.int .i64 m3) := blk_cell qm2 3; have e214 : _ = some (Value.int .i64 m4) := blk_cell qm2 4; have e215 : _ = some (Value.int .i64 m5) := blk_cell qm2 5; clear qn2 qm2 hb2)
        | ((with_reducible refine (CB.out w2).mono ?_); rintro e' w3 ⟨rfl, hb3⟩; have qn3 := blk_b HQN2.out hb3; have qm3 := blk_b HQM2.out hb3; have HQN3 := Aside0.mk qn3; have HQM3 := Aside0.mk qm3; have HB3 := Aside0.mk (below_then HB2.out HB2.out.size hb3); have e300 : _ = some (Value.int .i64 n0) := blk_cell qn3 0; have e301 : _ = some (Value.int .i64 n1) := blk_cell qn3 1; have e302 : _ = some (Value.string ny) := blk_cell qn3 2; have e303 : _ = some (Value.int .i64 n3) := blk_cell qn3 3; have e304 : _ = some (Value.int .i64 n4) := blk_cell qn3 4; have e305 : _ = some (Value.int .i64 n5) := blk_cell qn3 5; have e310 : _ = some (Value.int .i64 m0) := blk_cell qm3 0; have e311 : _ = some (Value.int .i64 m1) := blk_cell qm3 1; have e312 : _ = some (Value.string my) := blk_cell qm3 2; have e313 : _ = some (Value.int .i64 m3) := blk_cell qm3 3; have e314 : _ = some (Value.int .i64 m4) := blk_cell qm3 4; have e315 : _ = some (Value.int .i64 m5) := blk_cell qm3 5; clear qn3 qm3 hb3))
      | (go_at_call 19; first
        | ((with_reducible refine (FA.out w3).mono ?_); rintro e' w4 ⟨rfl, hb4⟩; have qn4 := blk_b HQN3.out hb4; have qm4 := blk_b HQM3.out hb4; have HQN4 := Aside0.mk qn4; have HQM4 := Aside0.mk qm4; have HB4 := Aside0.mk (below_then HB3.out HB3.out.size hb4); have e400 : _ = some (Value.int .i64 n0) := blk_cell qn4 0; have e401 : _ = some (Value.int .i64 n1) := blk_cell qn4 1; have e402 : _ = some (Value.string ny) := blk_cell qn4 2; have e403 : _ = some (Value.int .i64 n3) := blk_cell qn4 3; have e404 : _ = some (Value.int .i64 n4) := blk_cell qn4 4; have e405 : _ = some (Value.int .i64 n5) := blk_cell qn4 5; have e410 : _ = some (Value.int .i64 m0) := blk_cell qm4 0; have e411 : _ = some (Value.int .i64 m1) := blk_cell qm4 1; have e412 : _ = some (Value.string my) := blk_cell qm4 2; have e413 : _ = some (Value.int .i64 m3) := blk_cell qm4 3; have e414 : _ = some (Value.int .i64 m4) := blk_cell qm4 4; have e415 : _ = some (Value.int .i64 m5) := blk_cell qm4 5; clear qn4 qm4 hb4)
        | ((with_reducible refine (FB.out w4).mono ?_); rintro e' w5 ⟨rfl, hb5⟩; have qn5 := blk_b HQN4.out hb5; have qm5 := blk_b HQM4.out hb5; have HQN5 := Aside0.mk qn5; have HQM5 := Aside0.mk qm5; have HB5 := Aside0.mk (below_then HB4.out HB4.out.size hb5); have e500 : _ = some (Value.int .i64 n0) := blk_cell qn5 0; have e501 : _ = some (Value.int .i64 n1) := blk_cell qn5 1; have e502 : _ = some (Value.string ny) := blk_cell qn5 2; have e503 : _ = some (Value.int .i64 n3) := blk_cell qn5 3; have e504 : _ = some (Value.int .i64 n4) := blk_cell qn5 4; have e505 : _ = some (Value.int .i64 n5) := blk_cell qn5 5; have e510 : _ = some (Value.int .i64 m0) := blk_cell qm5 0; have e511 : _ = some (Value.int .i64 m1) := blk_cell qm5 1; have e512 : _ = some (Value.string my) := blk_cell qm5 2; have e513 : _ = some (Value.int .i64 m3) := blk_cell qm5 3; have e514 : _ = some (Value.int .i64 m4) := blk_cell qm5 4; have e515 : _ = some (Value.int .i64 m5) := blk_cell qm5 5; clear qn5 qm5 hb5)))
  go_ret
  exact ⟨by first | rfl | (simp; done) | (simp [*]; done), HB5.out⟩
set_option maxHeartbeats 16000000 in
set_option maxRecDepth 100000 in
theorem keys_f (n0 n1 : Int) (ny : ByteArray) (n3 n4 n5 m0 m1 : Int) (my : ByteArray) (m3 m4 m5 : Int) (x : ByteArray) (e : Int) (y : ByteArray) (f : Int) (w : World)
    (CA : Aside0 (∀ W, Calls Try.prog 18 #[.agg #[.int .i64 n0, .int .i64 n1, .string ny, .int .i64 n3, .int .i64 n4, .int .i64 n5]] W fun e' w' => e' = .returned (.tuple #[.string x, .int .i64 e]) ∧ Below W.heap.size W w'))
    (CB : Aside0 (∀ W, Calls Try.prog 18 #[.agg #[.int .i64 m0, .int .i64 m1, .string my, .int .i64 m3, .int .i64 m4, .int .i64 m5]] W fun e' w' => e' = .returned (.tuple #[.string y, .int .i64 f]) ∧ Below W.heap.size W w'))
    (FA : Aside0 (∀ W, Calls Try.prog 19 #[.agg #[.int .i64 n0, .int .i64 n1, .string ny, .int .i64 n3, .int .i64 n4, .int .i64 n5]] W fun e' w' => e' = .returned (.tuple #[.string x, .int .i64 e]) ∧ Below W.heap.size W w'))
    (FB : Aside0 (∀ W, Calls Try.prog 19 #[.agg #[.int .i64 m0, .int .i64 m1, .string my, .int .i64 m3, .int .i64 m4, .int .i64 m5]] W fun e' w' => e' = .returned (.tuple #[.string y, .int .i64 f]) ∧ Below W.heap.size W w'))
    (he : e = 0) (hf : f = 80) :
    Calls Try.prog 4 #[.agg #[.int .i64 n0, .int .i64 n1, .string ny, .int .i64 n3, .int .i64 n4, .int .i64 n5], .agg #[.int .i64 m0, .int .i64 m1, .string my, .int .i64 m3, .int .i64 m4, .int .i64 m5]] w fun e' w' => e' = .returned (.bool true) ∧ Below w.heap.size w w' := by
  have HB0 := Aside0.mk (below2 (w := w) (.cells #[.int .i64 n0, .int .i64 n1, .string ny, .int .i64 n3, .int .i64 n4, .int .i64 n5] 23) (.cells #[.int .i64 m0, .int .i64 m1, .string my, .int .i64 m3, .int .i64 m4, .int .i64 m5] 23))
  have HQN0 := Aside0.mk (two_0 w (.cells #[.int .i64 n0, .int .i64 n1, .string ny, .int .i64 n3, .int .i64 n4, .int .i64 n5] 23) (.cells #[.int .i64 m0, .int .i64 m1, .string my, .int .i64 m3, .int .i64 m4, .int .i64 m5] 23))
  have HQM0 := Aside0.mk (two_1 w (.cells #[.int .i64 n0, .int .i64 n1, .string ny, .int .i64 n3, .int .i64 n4, .int .i64 n5] 23) (.cells #[.int .i64 m0, .int .i64 m1, .string my, .int .i64 m3, .int .i64 m4, .int .i64 m5] 23))
  have hxx : (x.toList == x.toList) = true := beq_self_eq_true _
  have hyy : (y.toList == y.toList) = true := beq_self_eq_true _
  subst he
  subst hf
  go_enter Try.func4, Try.ntmps4
  go_wp2_with (first
      | (go_at_call 9; refine (awake8_calls _).mono ?_; rintro e' w1 ⟨rfl, hb1⟩; have qn1 := blk_b HQN0.out hb1; have qm1 := blk_b HQM0.out hb1; have HQN1 := Aside0.mk qn1; have HQM1 := Aside0.mk qm1; have HB1 := Aside0.mk (below_then HB0.out HB0.out.size hb1); have e100 : _ = some (Value.int .i64 n0) := blk_cell qn1 0; have e101 : _ = some (Value.int .i64 n1) := blk_cell qn1 1; have e102 : _ = some (Value.string ny) := blk_cell qn1 2; have e103 : _ = some (Value.int .i64 n3) := blk_cell qn1 3; have e104 : _ = some (Value.int .i64 n4) := blk_cell qn1 4; have e105 : _ = some (Value.int .i64 n5) := blk_cell qn1 5; have e110 : _ = some (Value.int .i64 m0) := blk_cell qm1 0; have e111 : _ = some (Value.int .i64 m1) := blk_cell qm1 1; have e112 : _ = some (Value.string my) := blk_cell qm1 2; have e113 : _ = some (Value.int .i64 m3) := blk_cell qm1 3; have e114 : _ = some (Value.int .i64 m4) := blk_cell qm1 4; have e115 : _ = some (Value.int .i64 m5) := blk_cell qm1 5; clear qn1 qm1 hb1)
      | (go_at_call 18; first
        | ((with_reducible refine (CA.out w1).mono ?_); rintro e' w2 ⟨rfl, hb2⟩; have qn2 := blk_b HQN1.out hb2; have qm2 := blk_b HQM1.out hb2; have HQN2 := Aside0.mk qn2; have HQM2 := Aside0.mk qm2; have HB2 := Aside0.mk (below_then HB1.out HB1.out.size hb2); have e200 : _ = some (Value.int .i64 n0) := blk_cell qn2 0; have e201 : _ = some (Value.int .i64 n1) := blk_cell qn2 1; have e202 : _ = some (Value.string ny) := blk_cell qn2 2; have e203 : _ = some (Value.int .i64 n3) := blk_cell qn2 3; have e204 : _ = some (Value.int .i64 n4) := blk_cell qn2 4; have e205 : _ = some (Value.int .i64 n5) := blk_cell qn2 5; have e210 : _ = some (Value.int .i64 m0) := blk_cell qm2 0; have e211 : _ = some (Value.int .i64 m1) := blk_cell qm2 1; have e212 : _ = some (Value.string my) := blk_cell qm2 2; have e213 : _ = some (Value.int .i64 m3) := blk_cell qm2 3; have e214 : _ = some (Value.int .i64 m4) := blk_cell qm2 4; have e215 : _ = some (Value.int .i64 m5) := blk_cell qm2 5; clear qn2 qm2 hb2)
        | ((with_reducible refine (CB.out w2).mono ?_); rintro e' w3 ⟨rfl, hb3⟩; have qn3 := blk_b HQN2.out hb3; have qm3 := blk_b HQM2.out hb3; have HQN3 := Aside0.mk qn3; have HQM3 := Aside0.mk qm3; have HB3 := Aside0.mk (below_then HB2.out HB2.out.size hb3); have e300 : _ = some (Value.int .i64 n0) := blk_cell qn3 0; have e301 : _ = some (Value.int .i64 n1) := blk_cell qn3 1; have e302 : _ = some (Value.string ny) := blk_cell qn3 2; have e303 : _ = some (Value.int .i64 n3) := blk_cell qn3 3; have e304 : _ = some (Value.int .i64 n4) := blk_cell qn3 4; have e305 : _ = some (Value.int .i64 n5) := blk_cell qn3 5; have e310 : _ = some (Value.int .i64 m0) := blk_cell qm3 0; have e311 : _ = some (Value.int .i64 m1) := blk_cell qm3 1; have e312 : _ = some (Value.string my) := blk_cell qm3 2; have e313 : _ = some (Value.int .i64 m3) := blk_cell qm3 3; have e314 : _ = some (Value.int .i64 m4) := blk_cell qm3 4; have e315 : _ = some (Value.int .i64 m5) := blk_cell qm3 5; clear qn3 qm3 hb3))
      | (go_at_call 19; first
        | ((with_reducible refine (FA.out w3).mono ?_); rintro e' w4 ⟨rfl, hb4⟩; have qn4 := blk_b HQN3.out hb4; have qm4 := blk_b HQM3.out hb4; have HQN4 := Aside0.mk qn4; have HQM4 := Aside0.mk qm4; have HB4 := Aside0.mk (below_then HB3.out HB3.out.size hb4); have e400 : _ = some (Value.int .i64 n0) := blk_cell qn4 0; have e401 : _ = some (Value.int .i64 n1) := blk_cell qn4 1; have e402 : _ = some (Value.string ny) := blk_cell qn4 2; have e403 : _ = some (Value.int .i64 n3) := blk_cell qn4 3; have e404 : _ = some (Value.int .i64 n4) := blk_cell qn4 4; have e405 : _ = some (Value.int .i64 n5) := blk_cell qn4 5; have e410 : _ = some (Value.int .i64 m0) := blk_cell qm4 0; have e411 : _ = some (Value.int .i64 m1) := blk_cell qm4 1; have e412 : _ = some (Value.string my) := blk_cell qm4 2; have e413 : _ = some (Value.int .i64 m3) := blk_cell qm4 3; have e414 : _ = some (Value.int .i64 m4) := blk_cell qm4 4; have e415 : _ = some (Value.int .i64 m5) := blk_cell qm4 5; clear qn4 qm4 hb4)
        | ((with_reducible refine (FB.out w4).mono ?_); rintro e' w5 ⟨rfl, hb5⟩; have qn5 := blk_b HQN4.out hb5; have qm5 := blk_b HQM4.out hb5; have HQN5 := Aside0.mk qn5; have HQM5 := Aside0.mk qm5; have HB5 := Aside0.mk (below_then HB4.out HB4.out.size hb5); have e500 : _ = some (Value.int .i64 n0) := blk_cell qn5 0; have e501 : _ = some (Value.int .i64 n1) := blk_cell qn5 1; have e502 : _ = some (Value.string ny) := blk_cell qn5 2; have e503 : _ = some (Value.int .i64 n3) := blk_cell qn5 3; have e504 : _ = some (Value.int .i64 n4) := blk_cell qn5 4; have e505 : _ = some (Value.int .i64 n5) := blk_cell qn5 5; have e510 : _ = some (Value.int .i64 m0) := blk_cell qm5 0; have e511 : _ = some (Value.int .i64 m1) := blk_cell qm5 1; have e512 : _ = some (Value.string my) := blk_cell qm5 2; have e513 : _ = some (Value.int .i64 m3) := blk_cell qm5 3; have e514 : _ = some (Value.int .i64 m4) := blk_cell qm5 4; have e515 : _ = some (Value.int .i64 m5) := blk_cell qm5 5; clear qn5 qm5 hb5)))
  go_ret
  exact ⟨by first | rfl | (simp; done) | (simp [*]; done), HB5.out⟩
set_option maxHeartbeats 16000000 in
set_option maxRecDepth 100000 in
theorem keys_y (n0 n1 : Int) (ny : ByteArray) (n3 n4 n5 m0 m1 : Int) (my : ByteArray) (m3 m4 m5 : Int) (x : ByteArray) (e : Int) (y : ByteArray) (f : Int) (w : World)
    (CA : Aside0 (∀ W, Calls Try.prog 18 #[.agg #[.int .i64 n0, .int .i64 n1, .string ny, .int .i64 n3, .int .i64 n4, .int .i64 n5]] W fun e' w' => e' = .returned (.tuple #[.string x, .int .i64 e]) ∧ Below W.heap.size W w'))
    (CB : Aside0 (∀ W, Calls Try.prog 18 #[.agg #[.int .i64 m0, .int .i64 m1, .string my, .int .i64 m3, .int .i64 m4, .int .i64 m5]] W fun e' w' => e' = .returned (.tuple #[.string y, .int .i64 f]) ∧ Below W.heap.size W w'))
    (FA : Aside0 (∀ W, Calls Try.prog 19 #[.agg #[.int .i64 n0, .int .i64 n1, .string ny, .int .i64 n3, .int .i64 n4, .int .i64 n5]] W fun e' w' => e' = .returned (.tuple #[.string x, .int .i64 e]) ∧ Below W.heap.size W w'))
    (FB : Aside0 (∀ W, Calls Try.prog 19 #[.agg #[.int .i64 m0, .int .i64 m1, .string my, .int .i64 m3, .int .i64 m4, .int .i64 m5]] W fun e' w' => e' = .returned (.tuple #[.string y, .int .i64 f]) ∧ Below W.heap.size W w'))
    (he : e = 0) (hf : f = 0) (hyn : (ny.toList == my.toList) = false) :
    Calls Try.prog 4 #[.agg #[.int .i64 n0, .int .i64 n1, .string ny, .int .i64 n3, .int .i64 n4, .int .i64 n5], .agg #[.int .i64 m0, .int .i64 m1, .string my, .int .i64 m3, .int .i64 m4, .int .i64 m5]] w fun e' w' => e' = .returned (.bool true) ∧ Below w.heap.size w w' := by
  have HB0 := Aside0.mk (below2 (w := w) (.cells #[.int .i64 n0, .int .i64 n1, .string ny, .int .i64 n3, .int .i64 n4, .int .i64 n5] 23) (.cells #[.int .i64 m0, .int .i64 m1, .string my, .int .i64 m3, .int .i64 m4, .int .i64 m5] 23))
  have HQN0 := Aside0.mk (two_0 w (.cells #[.int .i64 n0, .int .i64 n1, .string ny, .int .i64 n3, .int .i64 n4, .int .i64 n5] 23) (.cells #[.int .i64 m0, .int .i64 m1, .string my, .int .i64 m3, .int .i64 m4, .int .i64 m5] 23))
  have HQM0 := Aside0.mk (two_1 w (.cells #[.int .i64 n0, .int .i64 n1, .string ny, .int .i64 n3, .int .i64 n4, .int .i64 n5] 23) (.cells #[.int .i64 m0, .int .i64 m1, .string my, .int .i64 m3, .int .i64 m4, .int .i64 m5] 23))
  have hxx : (x.toList == x.toList) = true := beq_self_eq_true _
  have hyy : (y.toList == y.toList) = true := beq_self_eq_true _
  subst he
  subst hf
  go_enter Try.func4, Try.ntmps4
  go_wp2_with (first
      | (go_at_call 9; refine (awake8_calls _).mono ?_; rintro e' w1 ⟨rfl, hb1⟩; have qn1 := blk_b HQN0.out hb1; have qm1 := blk_b HQM0.out hb1; have HQN1 := Aside0.mk qn1; have HQM1 := Aside0.mk qm1; have HB1 := Aside0.mk (below_then HB0.out HB0.out.size hb1); have e100 : _ = some (Value.int .i64 n0) := blk_cell qn1 0; have e101 : _ = some (Value.int .i64 n1) := blk_cell qn1 1; have e102 : _ = some (Value.string ny) := blk_cell qn1 2; have e103 : _ = some (Value.int .i64 n3) := blk_cell qn1 3; have e104 : _ = some (Value.int .i64 n4) := blk_cell qn1 4; have e105 : _ = some (Value.int .i64 n5) := blk_cell qn1 5; have e110 : _ = some (Value.int .i64 m0) := blk_cell qm1 0; have e111 : _ = some (Value.int .i64 m1) := blk_cell qm1 1; have e112 : _ = some (Value.string my) := blk_cell qm1 2; have e113 : _ = some (Value.int .i64 m3) := blk_cell qm1 3; have e114 : _ = some (Value.int .i64 m4) := blk_cell qm1 4; have e115 : _ = some (Value.int .i64 m5) := blk_cell qm1 5; clear qn1 qm1 hb1)
      | (go_at_call 18; first
        | ((with_reducible refine (CA.out w1).mono ?_); rintro e' w2 ⟨rfl, hb2⟩; have qn2 := blk_b HQN1.out hb2; have qm2 := blk_b HQM1.out hb2; have HQN2 := Aside0.mk qn2; have HQM2 := Aside0.mk qm2; have HB2 := Aside0.mk (below_then HB1.out HB1.out.size hb2); have e200 : _ = some (Value.int .i64 n0) := blk_cell qn2 0; have e201 : _ = some (Value.int .i64 n1) := blk_cell qn2 1; have e202 : _ = some (Value.string ny) := blk_cell qn2 2; have e203 : _ = some (Value.int .i64 n3) := blk_cell qn2 3; have e204 : _ = some (Value.int .i64 n4) := blk_cell qn2 4; have e205 : _ = some (Value.int .i64 n5) := blk_cell qn2 5; have e210 : _ = some (Value.int .i64 m0) := blk_cell qm2 0; have e211 : _ = some (Value.int .i64 m1) := blk_cell qm2 1; have e212 : _ = some (Value.string my) := blk_cell qm2 2; have e213 : _ = some (Value.int .i64 m3) := blk_cell qm2 3; have e214 : _ = some (Value.int .i64 m4) := blk_cell qm2 4; have e215 : _ = some (Value.int .i64 m5) := blk_cell qm2 5; clear qn2 qm2 hb2)
        | ((with_reducible refine (CB.out w2).mono ?_); rintro e' w3 ⟨rfl, hb3⟩; have qn3 := blk_b HQN2.out hb3; have qm3 := blk_b HQM2.out hb3; have HQN3 := Aside0.mk qn3; have HQM3 := Aside0.mk qm3; have HB3 := Aside0.mk (below_then HB2.out HB2.out.size hb3); have e300 : _ = some (Value.int .i64 n0) := blk_cell qn3 0; have e301 : _ = some (Value.int .i64 n1) := blk_cell qn3 1; have e302 : _ = some (Value.string ny) := blk_cell qn3 2; have e303 : _ = some (Value.int .i64 n3) := blk_cell qn3 3; have e304 : _ = some (Value.int .i64 n4) := blk_cell qn3 4; have e305 : _ = some (Value.int .i64 n5) := blk_cell qn3 5; have e310 : _ = some (Value.int .i64 m0) := blk_cell qm3 0; have e311 : _ = some (Value.int .i64 m1) := blk_cell qm3 1; have e312 : _ = some (Value.string my) := blk_cell qm3 2; have e313 : _ = some (Value.int .i64 m3) := blk_cell qm3 3; have e314 : _ = some (Value.int .i64 m4) := blk_cell qm3 4; have e315 : _ = some (Value.int .i64 m5) := blk_cell qm3 5; clear qn3 qm3 hb3))
      | (go_at_call 19; first
        | ((with_reducible refine (FA.out w3).mono ?_); rintro e' w4 ⟨rfl, hb4⟩; have qn4 := blk_b HQN3.out hb4; have qm4 := blk_b HQM3.out hb4; have HQN4 := Aside0.mk qn4; have HQM4 := Aside0.mk qm4; have HB4 := Aside0.mk (below_then HB3.out HB3.out.size hb4); have e400 : _ = some (Value.int .i64 n0) := blk_cell qn4 0; have e401 : _ = some (Value.int .i64 n1) := blk_cell qn4 1; have e402 : _ = some (Value.string ny) := blk_cell qn4 2; have e403 : _ = some (Value.int .i64 n3) := blk_cell qn4 3; have e404 : _ = some (Value.int .i64 n4) := blk_cell qn4 4; have e405 : _ = some (Value.int .i64 n5) := blk_cell qn4 5; have e410 : _ = some (Value.int .i64 m0) := blk_cell qm4 0; have e411 : _ = some (Value.int .i64 m1) := blk_cell qm4 1; have e412 : _ = some (Value.string my) := blk_cell qm4 2; have e413 : _ = some (Value.int .i64 m3) := blk_cell qm4 3; have e414 : _ = some (Value.int .i64 m4) := blk_cell qm4 4; have e415 : _ = some (Value.int .i64 m5) := blk_cell qm4 5; clear qn4 qm4 hb4)
        | ((with_reducible refine (FB.out w4).mono ?_); rintro e' w5 ⟨rfl, hb5⟩; have qn5 := blk_b HQN4.out hb5; have qm5 := blk_b HQM4.out hb5; have HQN5 := Aside0.mk qn5; have HQM5 := Aside0.mk qm5; have HB5 := Aside0.mk (below_then HB4.out HB4.out.size hb5); have e500 : _ = some (Value.int .i64 n0) := blk_cell qn5 0; have e501 : _ = some (Value.int .i64 n1) := blk_cell qn5 1; have e502 : _ = some (Value.string ny) := blk_cell qn5 2; have e503 : _ = some (Value.int .i64 n3) := blk_cell qn5 3; have e504 : _ = some (Value.int .i64 n4) := blk_cell qn5 4; have e505 : _ = some (Value.int .i64 n5) := blk_cell qn5 5; have e510 : _ = some (Value.int .i64 m0) := blk_cell qm5 0; have e511 : _ = some (Value.int .i64 m1) := blk_cell qm5 1; have e512 : _ = some (Value.string my) := blk_cell qm5 2; have e513 : _ = some (Value.int .i64 m3) := blk_cell qm5 3; have e514 : _ = some (Value.int .i64 m4) := blk_cell qm5 4; have e515 : _ = some (Value.int .i64 m5) := blk_cell qm5 5; clear qn5 qm5 hb5)))
  go_ret
  exact ⟨by first | rfl | (simp; done) | (simp [*]; done), HB5.out⟩
set_option maxHeartbeats 16000000 in
set_option maxRecDepth 100000 in
theorem keys_t1 (n0 n1 : Int) (ny : ByteArray) (n3 n4 n5 m0 m1 : Int) (my : ByteArray) (m3 m4 m5 : Int) (x : ByteArray) (e : Int) (y : ByteArray) (f : Int) (w : World)
    (CA : Aside0 (∀ W, Calls Try.prog 18 #[.agg #[.int .i64 n0, .int .i64 n1, .string ny, .int .i64 n3, .int .i64 n4, .int .i64 n5]] W fun e' w' => e' = .returned (.tuple #[.string x, .int .i64 e]) ∧ Below W.heap.size W w'))
    (CB : Aside0 (∀ W, Calls Try.prog 18 #[.agg #[.int .i64 m0, .int .i64 m1, .string my, .int .i64 m3, .int .i64 m4, .int .i64 m5]] W fun e' w' => e' = .returned (.tuple #[.string y, .int .i64 f]) ∧ Below W.heap.size W w'))
    (FA : Aside0 (∀ W, Calls Try.prog 19 #[.agg #[.int .i64 n0, .int .i64 n1, .string ny, .int .i64 n3, .int .i64 n4, .int .i64 n5]] W fun e' w' => e' = .returned (.tuple #[.string x, .int .i64 e]) ∧ Below W.heap.size W w'))
    (FB : Aside0 (∀ W, Calls Try.prog 19 #[.agg #[.int .i64 m0, .int .i64 m1, .string my, .int .i64 m3, .int .i64 m4, .int .i64 m5]] W fun e' w' => e' = .returned (.tuple #[.string y, .int .i64 f]) ∧ Below W.heap.size W w'))
    (he : e = 0) (hf : f = 0) (hyn : (ny.toList == my.toList) = true) (hl : Op.bytesLess x.toList y.toList = true) (h5 : n5 < m5) :
    Calls Try.prog 4 #[.agg #[.int .i64 n0, .int .i64 n1, .string ny, .int .i64 n3, .int .i64 n4, .int .i64 n5], .agg #[.int .i64 m0, .int .i64 m1, .string my, .int .i64 m3, .int .i64 m4, .int .i64 m5]] w fun e' w' => e' = .returned (.bool true) ∧ Below w.heap.size w w' := by
  have HB0 := Aside0.mk (below2 (w := w) (.cells #[.int .i64 n0, .int .i64 n1, .string ny, .int .i64 n3, .int .i64 n4, .int .i64 n5] 23) (.cells #[.int .i64 m0, .int .i64 m1, .string my, .int .i64 m3, .int .i64 m4, .int .i64 m5] 23))
  have HQN0 := Aside0.mk (two_0 w (.cells #[.int .i64 n0, .int .i64 n1, .string ny, .int .i64 n3, .int .i64 n4, .int .i64 n5] 23) (.cells #[.int .i64 m0, .int .i64 m1, .string my, .int .i64 m3, .int .i64 m4, .int .i64 m5] 23))
  have HQM0 := Aside0.mk (two_1 w (.cells #[.int .i64 n0, .int .i64 n1, .string ny, .int .i64 n3, .int .i64 n4, .int .i64 n5] 23) (.cells #[.int .i64 m0, .int .i64 m1, .string my, .int .i64 m3, .int .i64 m4, .int .i64 m5] 23))
  have hxx : (x.toList == x.toList) = true := beq_self_eq_true _
  have hyy : (y.toList == y.toList) = true := beq_self_eq_true _
  subst he
  subst hf
  go_enter Try.func4, Try.ntmps4
  go_wp2_with (first
      | (go_at_call 9; refine (awake8_calls _).mono ?_; rintro e' w1 ⟨rfl, hb1⟩; have qn1 := blk_b HQN0.out hb1; have qm1 := blk_b HQM0.out hb1; have HQN1 := Aside0.mk qn1; have HQM1 := Aside0.mk qm1; have HB1 := Aside0.mk (below_then HB0.out HB0.out.size hb1); have e100 : _ = some (Value.int .i64 n0) := blk_cell qn1 0; have e101 : _ = some (Value.int .i64 n1) := blk_cell qn1 1; have e102 : _ = some (Value.string ny) := blk_cell qn1 2; have e103 : _ = some (Value.int .i64 n3) := blk_cell qn1 3; have e104 : _ = some (Value.int .i64 n4) := blk_cell qn1 4; have e105 : _ = some (Value.int .i64 n5) := blk_cell qn1 5; have e110 : _ = some (Value.int .i64 m0) := blk_cell qm1 0; have e111 : _ = some (Value.int .i64 m1) := blk_cell qm1 1; have e112 : _ = some (Value.string my) := blk_cell qm1 2; have e113 : _ = some (Value.int .i64 m3) := blk_cell qm1 3; have e114 : _ = some (Value.int .i64 m4) := blk_cell qm1 4; have e115 : _ = some (Value.int .i64 m5) := blk_cell qm1 5; clear qn1 qm1 hb1)
      | (go_at_call 18; first
        | ((with_reducible refine (CA.out w1).mono ?_); rintro e' w2 ⟨rfl, hb2⟩; have qn2 := blk_b HQN1.out hb2; have qm2 := blk_b HQM1.out hb2; have HQN2 := Aside0.mk qn2; have HQM2 := Aside0.mk qm2; have HB2 := Aside0.mk (below_then HB1.out HB1.out.size hb2); have e200 : _ = some (Value.int .i64 n0) := blk_cell qn2 0; have e201 : _ = some (Value.int .i64 n1) := blk_cell qn2 1; have e202 : _ = some (Value.string ny) := blk_cell qn2 2; have e203 : _ = some (Value.int .i64 n3) := blk_cell qn2 3; have e204 : _ = some (Value.int .i64 n4) := blk_cell qn2 4; have e205 : _ = some (Value.int .i64 n5) := blk_cell qn2 5; have e210 : _ = some (Value.int .i64 m0) := blk_cell qm2 0; have e211 : _ = some (Value.int .i64 m1) := blk_cell qm2 1; have e212 : _ = some (Value.string my) := blk_cell qm2 2; have e213 : _ = some (Value.int .i64 m3) := blk_cell qm2 3; have e214 : _ = some (Value.int .i64 m4) := blk_cell qm2 4; have e215 : _ = some (Value.int .i64 m5) := blk_cell qm2 5; clear qn2 qm2 hb2)
        | ((with_reducible refine (CB.out w2).mono ?_); rintro e' w3 ⟨rfl, hb3⟩; have qn3 := blk_b HQN2.out hb3; have qm3 := blk_b HQM2.out hb3; have HQN3 := Aside0.mk qn3; have HQM3 := Aside0.mk qm3; have HB3 := Aside0.mk (below_then HB2.out HB2.out.size hb3); have e300 : _ = some (Value.int .i64 n0) := blk_cell qn3 0; have e301 : _ = some (Value.int .i64 n1) := blk_cell qn3 1; have e302 : _ = some (Value.string ny) := blk_cell qn3 2; have e303 : _ = some (Value.int .i64 n3) := blk_cell qn3 3; have e304 : _ = some (Value.int .i64 n4) := blk_cell qn3 4; have e305 : _ = some (Value.int .i64 n5) := blk_cell qn3 5; have e310 : _ = some (Value.int .i64 m0) := blk_cell qm3 0; have e311 : _ = some (Value.int .i64 m1) := blk_cell qm3 1; have e312 : _ = some (Value.string my) := blk_cell qm3 2; have e313 : _ = some (Value.int .i64 m3) := blk_cell qm3 3; have e314 : _ = some (Value.int .i64 m4) := blk_cell qm3 4; have e315 : _ = some (Value.int .i64 m5) := blk_cell qm3 5; clear qn3 qm3 hb3))
      | (go_at_call 19; first
        | ((with_reducible refine (FA.out w3).mono ?_); rintro e' w4 ⟨rfl, hb4⟩; have qn4 := blk_b HQN3.out hb4; have qm4 := blk_b HQM3.out hb4; have HQN4 := Aside0.mk qn4; have HQM4 := Aside0.mk qm4; have HB4 := Aside0.mk (below_then HB3.out HB3.out.size hb4); have e400 : _ = some (Value.int .i64 n0) := blk_cell qn4 0; have e401 : _ = some (Value.int .i64 n1) := blk_cell qn4 1; have e402 : _ = some (Value.string ny) := blk_cell qn4 2; have e403 : _ = some (Value.int .i64 n3) := blk_cell qn4 3; have e404 : _ = some (Value.int .i64 n4) := blk_cell qn4 4; have e405 : _ = some (Value.int .i64 n5) := blk_cell qn4 5; have e410 : _ = some (Value.int .i64 m0) := blk_cell qm4 0; have e411 : _ = some (Value.int .i64 m1) := blk_cell qm4 1; have e412 : _ = some (Value.string my) := blk_cell qm4 2; have e413 : _ = some (Value.int .i64 m3) := blk_cell qm4 3; have e414 : _ = some (Value.int .i64 m4) := blk_cell qm4 4; have e415 : _ = some (Value.int .i64 m5) := blk_cell qm4 5; clear qn4 qm4 hb4)
        | ((with_reducible refine (FB.out w4).mono ?_); rintro e' w5 ⟨rfl, hb5⟩; have qn5 := blk_b HQN4.out hb5; have qm5 := blk_b HQM4.out hb5; have HQN5 := Aside0.mk qn5; have HQM5 := Aside0.mk qm5; have HB5 := Aside0.mk (below_then HB4.out HB4.out.size hb5); have e500 : _ = some (Value.int .i64 n0) := blk_cell qn5 0; have e501 : _ = some (Value.int .i64 n1) := blk_cell qn5 1; have e502 : _ = some (Value.string ny) := blk_cell qn5 2; have e503 : _ = some (Value.int .i64 n3) := blk_cell qn5 3; have e504 : _ = some (Value.int .i64 n4) := blk_cell qn5 4; have e505 : _ = some (Value.int .i64 n5) := blk_cell qn5 5; have e510 : _ = some (Value.int .i64 m0) := blk_cell qm5 0; have e511 : _ = some (Value.int .i64 m1) := blk_cell qm5 1; have e512 : _ = some (Value.string my) := blk_cell qm5 2; have e513 : _ = some (Value.int .i64 m3) := blk_cell qm5 3; have e514 : _ = some (Value.int .i64 m4) := blk_cell qm5 4; have e515 : _ = some (Value.int .i64 m5) := blk_cell qm5 5; clear qn5 qm5 hb5)))
  go_ret
  exact ⟨by first | rfl | (simp; done) | (simp [*]; done), HB5.out⟩
set_option maxHeartbeats 16000000 in
set_option maxRecDepth 100000 in
theorem keys_t2 (n0 n1 : Int) (ny : ByteArray) (n3 n4 n5 m0 m1 : Int) (my : ByteArray) (m3 m4 : Int) (x : ByteArray) (e : Int) (y : ByteArray) (f : Int) (w : World)
    (CA : Aside0 (∀ W, Calls Try.prog 18 #[.agg #[.int .i64 n0, .int .i64 n1, .string ny, .int .i64 n3, .int .i64 n4, .int .i64 n5]] W fun e' w' => e' = .returned (.tuple #[.string x, .int .i64 e]) ∧ Below W.heap.size W w'))
    (CB : Aside0 (∀ W, Calls Try.prog 18 #[.agg #[.int .i64 m0, .int .i64 m1, .string my, .int .i64 m3, .int .i64 m4, .int .i64 n5]] W fun e' w' => e' = .returned (.tuple #[.string y, .int .i64 f]) ∧ Below W.heap.size W w'))
    (FA : Aside0 (∀ W, Calls Try.prog 19 #[.agg #[.int .i64 n0, .int .i64 n1, .string ny, .int .i64 n3, .int .i64 n4, .int .i64 n5]] W fun e' w' => e' = .returned (.tuple #[.string x, .int .i64 e]) ∧ Below W.heap.size W w'))
    (FB : Aside0 (∀ W, Calls Try.prog 19 #[.agg #[.int .i64 m0, .int .i64 m1, .string my, .int .i64 m3, .int .i64 m4, .int .i64 n5]] W fun e' w' => e' = .returned (.tuple #[.string y, .int .i64 f]) ∧ Below W.heap.size W w'))
    (he : e = 0) (hf : f = 0) (hyn : (ny.toList == my.toList) = true) (hl : Op.bytesLess x.toList y.toList = true) (h5 : ¬ n5 < n5) (h0 : n0 < m0) :
    Calls Try.prog 4 #[.agg #[.int .i64 n0, .int .i64 n1, .string ny, .int .i64 n3, .int .i64 n4, .int .i64 n5], .agg #[.int .i64 m0, .int .i64 m1, .string my, .int .i64 m3, .int .i64 m4, .int .i64 n5]] w fun e' w' => e' = .returned (.bool true) ∧ Below w.heap.size w w' := by
  have HB0 := Aside0.mk (below2 (w := w) (.cells #[.int .i64 n0, .int .i64 n1, .string ny, .int .i64 n3, .int .i64 n4, .int .i64 n5] 23) (.cells #[.int .i64 m0, .int .i64 m1, .string my, .int .i64 m3, .int .i64 m4, .int .i64 n5] 23))
  have HQN0 := Aside0.mk (two_0 w (.cells #[.int .i64 n0, .int .i64 n1, .string ny, .int .i64 n3, .int .i64 n4, .int .i64 n5] 23) (.cells #[.int .i64 m0, .int .i64 m1, .string my, .int .i64 m3, .int .i64 m4, .int .i64 n5] 23))
  have HQM0 := Aside0.mk (two_1 w (.cells #[.int .i64 n0, .int .i64 n1, .string ny, .int .i64 n3, .int .i64 n4, .int .i64 n5] 23) (.cells #[.int .i64 m0, .int .i64 m1, .string my, .int .i64 m3, .int .i64 m4, .int .i64 n5] 23))
  have hxx : (x.toList == x.toList) = true := beq_self_eq_true _
  have hyy : (y.toList == y.toList) = true := beq_self_eq_true _
  subst he
  subst hf
  go_enter Try.func4, Try.ntmps4
  go_wp2_with (first
      | (go_at_call 9; refine (awake8_calls _).mono ?_; rintro e' w1 ⟨rfl, hb1⟩; have qn1 := blk_b HQN0.out hb1; have qm1 := blk_b HQM0.out hb1; have HQN1 := Aside0.mk qn1; have HQM1 := Aside0.mk qm1; have HB1 := Aside0.mk (below_then HB0.out HB0.out.size hb1); have e100 : _ = some (Value.int .i64 n0) := blk_cell qn1 0; have e101 : _ = some (Value.int .i64 n1) := blk_cell qn1 1; have e102 : _ = some (Value.string ny) := blk_cell qn1 2; have e103 : _ = some (Value.int .i64 n3) := blk_cell qn1 3; have e104 : _ = some (Value.int .i64 n4) := blk_cell qn1 4; have e105 : _ = some (Value.int .i64 n5) := blk_cell qn1 5; have e110 : _ = some (Value.int .i64 m0) := blk_cell qm1 0; have e111 : _ = some (Value.int .i64 m1) := blk_cell qm1 1; have e112 : _ = some (Value.string my) := blk_cell qm1 2; have e113 : _ = some (Value.int .i64 m3) := blk_cell qm1 3; have e114 : _ = some (Value.int .i64 m4) := blk_cell qm1 4; have e115 : _ = some (Value.int .i64 n5) := blk_cell qm1 5; clear qn1 qm1 hb1)
      | (go_at_call 18; first
        | ((with_reducible refine (CA.out w1).mono ?_); rintro e' w2 ⟨rfl, hb2⟩; have qn2 := blk_b HQN1.out hb2; have qm2 := blk_b HQM1.out hb2; have HQN2 := Aside0.mk qn2; have HQM2 := Aside0.mk qm2; have HB2 := Aside0.mk (below_then HB1.out HB1.out.size hb2); have e200 : _ = some (Value.int .i64 n0) := blk_cell qn2 0; have e201 : _ = some (Value.int .i64 n1) := blk_cell qn2 1; have e202 : _ = some (Value.string ny) := blk_cell qn2 2; have e203 : _ = some (Value.int .i64 n3) := blk_cell qn2 3; have e204 : _ = some (Value.int .i64 n4) := blk_cell qn2 4; have e205 : _ = some (Value.int .i64 n5) := blk_cell qn2 5; have e210 : _ = some (Value.int .i64 m0) := blk_cell qm2 0; have e211 : _ = some (Value.int .i64 m1) := blk_cell qm2 1; have e212 : _ = some (Value.string my) := blk_cell qm2 2; have e213 : _ = some (Value.int .i64 m3) := blk_cell qm2 3; have e214 : _ = some (Value.int .i64 m4) := blk_cell qm2 4; have e215 : _ = some (Value.int .i64 n5) := blk_cell qm2 5; clear qn2 qm2 hb2)
        | ((with_reducible refine (CB.out w2).mono ?_); rintro e' w3 ⟨rfl, hb3⟩; have qn3 := blk_b HQN2.out hb3; have qm3 := blk_b HQM2.out hb3; have HQN3 := Aside0.mk qn3; have HQM3 := Aside0.mk qm3; have HB3 := Aside0.mk (below_then HB2.out HB2.out.size hb3); have e300 : _ = some (Value.int .i64 n0) := blk_cell qn3 0; have e301 : _ = some (Value.int .i64 n1) := blk_cell qn3 1; have e302 : _ = some (Value.string ny) := blk_cell qn3 2; have e303 : _ = some (Value.int .i64 n3) := blk_cell qn3 3; have e304 : _ = some (Value.int .i64 n4) := blk_cell qn3 4; have e305 : _ = some (Value.int .i64 n5) := blk_cell qn3 5; have e310 : _ = some (Value.int .i64 m0) := blk_cell qm3 0; have e311 : _ = some (Value.int .i64 m1) := blk_cell qm3 1; have e312 : _ = some (Value.string my) := blk_cell qm3 2; have e313 : _ = some (Value.int .i64 m3) := blk_cell qm3 3; have e314 : _ = some (Value.int .i64 m4) := blk_cell qm3 4; have e315 : _ = some (Value.int .i64 n5) := blk_cell qm3 5; clear qn3 qm3 hb3))
      | (go_at_call 19; first
        | ((with_reducible refine (FA.out w3).mono ?_); rintro e' w4 ⟨rfl, hb4⟩; have qn4 := blk_b HQN3.out hb4; have qm4 := blk_b HQM3.out hb4; have HQN4 := Aside0.mk qn4; have HQM4 := Aside0.mk qm4; have HB4 := Aside0.mk (below_then HB3.out HB3.out.size hb4); have e400 : _ = some (Value.int .i64 n0) := blk_cell qn4 0; have e401 : _ = some (Value.int .i64 n1) := blk_cell qn4 1; have e402 : _ = some (Value.string ny) := blk_cell qn4 2; have e403 : _ = some (Value.int .i64 n3) := blk_cell qn4 3; have e404 : _ = some (Value.int .i64 n4) := blk_cell qn4 4; have e405 : _ = some (Value.int .i64 n5) := blk_cell qn4 5; have e410 : _ = some (Value.int .i64 m0) := blk_cell qm4 0; have e411 : _ = some (Value.int .i64 m1) := blk_cell qm4 1; have e412 : _ = some (Value.string my) := blk_cell qm4 2; have e413 : _ = some (Value.int .i64 m3) := blk_cell qm4 3; have e414 : _ = some (Value.int .i64 m4) := blk_cell qm4 4; have e415 : _ = some (Value.int .i64 n5) := blk_cell qm4 5; clear qn4 qm4 hb4)
        | ((with_reducible refine (FB.out w4).mono ?_); rintro e' w5 ⟨rfl, hb5⟩; have qn5 := blk_b HQN4.out hb5; have qm5 := blk_b HQM4.out hb5; have HQN5 := Aside0.mk qn5; have HQM5 := Aside0.mk qm5; have HB5 := Aside0.mk (below_then HB4.out HB4.out.size hb5); have e500 : _ = some (Value.int .i64 n0) := blk_cell qn5 0; have e501 : _ = some (Value.int .i64 n1) := blk_cell qn5 1; have e502 : _ = some (Value.string ny) := blk_cell qn5 2; have e503 : _ = some (Value.int .i64 n3) := blk_cell qn5 3; have e504 : _ = some (Value.int .i64 n4) := blk_cell qn5 4; have e505 : _ = some (Value.int .i64 n5) := blk_cell qn5 5; have e510 : _ = some (Value.int .i64 m0) := blk_cell qm5 0; have e511 : _ = some (Value.int .i64 m1) := blk_cell qm5 1; have e512 : _ = some (Value.string my) := blk_cell qm5 2; have e513 : _ = some (Value.int .i64 m3) := blk_cell qm5 3; have e514 : _ = some (Value.int .i64 m4) := blk_cell qm5 4; have e515 : _ = some (Value.int .i64 n5) := blk_cell qm5 5; clear qn5 qm5 hb5)))
  go_ret
  exact ⟨by first | rfl | (simp; done) | (simp [*]; done), HB5.out⟩
set_option maxHeartbeats 16000000 in
set_option maxRecDepth 100000 in
theorem keys_t3 (n0 n1 : Int) (ny : ByteArray) (n3 n4 n5 m1 : Int) (my : ByteArray) (m3 m4 : Int) (x : ByteArray) (e : Int) (y : ByteArray) (f : Int) (w : World)
    (CA : Aside0 (∀ W, Calls Try.prog 18 #[.agg #[.int .i64 n0, .int .i64 n1, .string ny, .int .i64 n3, .int .i64 n4, .int .i64 n5]] W fun e' w' => e' = .returned (.tuple #[.string x, .int .i64 e]) ∧ Below W.heap.size W w'))
    (CB : Aside0 (∀ W, Calls Try.prog 18 #[.agg #[.int .i64 n0, .int .i64 m1, .string my, .int .i64 m3, .int .i64 m4, .int .i64 n5]] W fun e' w' => e' = .returned (.tuple #[.string y, .int .i64 f]) ∧ Below W.heap.size W w'))
    (FA : Aside0 (∀ W, Calls Try.prog 19 #[.agg #[.int .i64 n0, .int .i64 n1, .string ny, .int .i64 n3, .int .i64 n4, .int .i64 n5]] W fun e' w' => e' = .returned (.tuple #[.string x, .int .i64 e]) ∧ Below W.heap.size W w'))
    (FB : Aside0 (∀ W, Calls Try.prog 19 #[.agg #[.int .i64 n0, .int .i64 m1, .string my, .int .i64 m3, .int .i64 m4, .int .i64 n5]] W fun e' w' => e' = .returned (.tuple #[.string y, .int .i64 f]) ∧ Below W.heap.size W w'))
    (he : e = 0) (hf : f = 0) (hyn : (ny.toList == my.toList) = true) (hl : Op.bytesLess x.toList y.toList = true) (h5 : ¬ n5 < n5) (h0 : ¬ n0 < n0) (h1 : n1 < m1) :
    Calls Try.prog 4 #[.agg #[.int .i64 n0, .int .i64 n1, .string ny, .int .i64 n3, .int .i64 n4, .int .i64 n5], .agg #[.int .i64 n0, .int .i64 m1, .string my, .int .i64 m3, .int .i64 m4, .int .i64 n5]] w fun e' w' => e' = .returned (.bool true) ∧ Below w.heap.size w w' := by
  have HB0 := Aside0.mk (below2 (w := w) (.cells #[.int .i64 n0, .int .i64 n1, .string ny, .int .i64 n3, .int .i64 n4, .int .i64 n5] 23) (.cells #[.int .i64 n0, .int .i64 m1, .string my, .int .i64 m3, .int .i64 m4, .int .i64 n5] 23))
  have HQN0 := Aside0.mk (two_0 w (.cells #[.int .i64 n0, .int .i64 n1, .string ny, .int .i64 n3, .int .i64 n4, .int .i64 n5] 23) (.cells #[.int .i64 n0, .int .i64 m1, .string my, .int .i64 m3, .int .i64 m4, .int .i64 n5] 23))
  have HQM0 := Aside0.mk (two_1 w (.cells #[.int .i64 n0, .int .i64 n1, .string ny, .int .i64 n3, .int .i64 n4, .int .i64 n5] 23) (.cells #[.int .i64 n0, .int .i64 m1, .string my, .int .i64 m3, .int .i64 m4, .int .i64 n5] 23))
  have hxx : (x.toList == x.toList) = true := beq_self_eq_true _
  have hyy : (y.toList == y.toList) = true := beq_self_eq_true _
  subst he
  subst hf
  go_enter Try.func4, Try.ntmps4
  go_wp2_with (first
      | (go_at_call 9; refine (awake8_calls _).mono ?_; rintro e' w1 ⟨rfl, hb1⟩; have qn1 := blk_b HQN0.out hb1; have qm1 := blk_b HQM0.out hb1; have HQN1 := Aside0.mk qn1; have HQM1 := Aside0.mk qm1; have HB1 := Aside0.mk (below_then HB0.out HB0.out.size hb1); have e100 : _ = some (Value.int .i64 n0) := blk_cell qn1 0; have e101 : _ = some (Value.int .i64 n1) := blk_cell qn1 1; have e102 : _ = some (Value.string ny) := blk_cell qn1 2; have e103 : _ = some (Value.int .i64 n3) := blk_cell qn1 3; have e104 : _ = some (Value.int .i64 n4) := blk_cell qn1 4; have e105 : _ = some (Value.int .i64 n5) := blk_cell qn1 5; have e110 : _ = some (Value.int .i64 n0) := blk_cell qm1 0; have e111 : _ = some (Value.int .i64 m1) := blk_cell qm1 1; have e112 : _ = some (Value.string my) := blk_cell qm1 2; have e113 : _ = some (Value.int .i64 m3) := blk_cell qm1 3; have e114 : _ = some (Value.int .i64 m4) := blk_cell qm1 4; have e115 : _ = some (Value.int .i64 n5) := blk_cell qm1 5; clear qn1 qm1 hb1)
      | (go_at_call 18; first
        | ((with_reducible refine (CA.out w1).mono ?_); rintro e' w2 ⟨rfl, hb2⟩; have qn2 := blk_b HQN1.out hb2; have qm2 := blk_b HQM1.out hb2; have HQN2 := Aside0.mk qn2; have HQM2 := Aside0.mk qm2; have HB2 := Aside0.mk (below_then HB1.out HB1.out.size hb2); have e200 : _ = some (Value.int .i64 n0) := blk_cell qn2 0; have e201 : _ = some (Value.int .i64 n1) := blk_cell qn2 1; have e202 : _ = some (Value.string ny) := blk_cell qn2 2; have e203 : _ = some (Value.int .i64 n3) := blk_cell qn2 3; have e204 : _ = some (Value.int .i64 n4) := blk_cell qn2 4; have e205 : _ = some (Value.int .i64 n5) := blk_cell qn2 5; have e210 : _ = some (Value.int .i64 n0) := blk_cell qm2 0; have e211 : _ = some (Value.int .i64 m1) := blk_cell qm2 1; have e212 : _ = some (Value.string my) := blk_cell qm2 2; have e213 : _ = some (Value.int .i64 m3) := blk_cell qm2 3; have e214 : _ = some (Value.int .i64 m4) := blk_cell qm2 4; have e215 : _ = some (Value.int .i64 n5) := blk_cell qm2 5; clear qn2 qm2 hb2)
        | ((with_reducible refine (CB.out w2).mono ?_); rintro e' w3 ⟨rfl, hb3⟩; have qn3 := blk_b HQN2.out hb3; have qm3 := blk_b HQM2.out hb3; have HQN3 := Aside0.mk qn3; have HQM3 := Aside0.mk qm3; have HB3 := Aside0.mk (below_then HB2.out HB2.out.size hb3); have e300 : _ = some (Value.int .i64 n0) := blk_cell qn3 0; have e301 : _ = some (Value.int .i64 n1) := blk_cell qn3 1; have e302 : _ = some (Value.string ny) := blk_cell qn3 2; have e303 : _ = some (Value.int .i64 n3) := blk_cell qn3 3; have e304 : _ = some (Value.int .i64 n4) := blk_cell qn3 4; have e305 : _ = some (Value.int .i64 n5) := blk_cell qn3 5; have e310 : _ = some (Value.int .i64 n0) := blk_cell qm3 0; have e311 : _ = some (Value.int .i64 m1) := blk_cell qm3 1; have e312 : _ = some (Value.string my) := blk_cell qm3 2; have e313 : _ = some (Value.int .i64 m3) := blk_cell qm3 3; have e314 : _ = some (Value.int .i64 m4) := blk_cell qm3 4; have e315 : _ = some (Value.int .i64 n5) := blk_cell qm3 5; clear qn3 qm3 hb3))
      | (go_at_call 19; first
        | ((with_reducible refine (FA.out w3).mono ?_); rintro e' w4 ⟨rfl, hb4⟩; have qn4 := blk_b HQN3.out hb4; have qm4 := blk_b HQM3.out hb4; have HQN4 := Aside0.mk qn4; have HQM4 := Aside0.mk qm4; have HB4 := Aside0.mk (below_then HB3.out HB3.out.size hb4); have e400 : _ = some (Value.int .i64 n0) := blk_cell qn4 0; have e401 : _ = some (Value.int .i64 n1) := blk_cell qn4 1; have e402 : _ = some (Value.string ny) := blk_cell qn4 2; have e403 : _ = some (Value.int .i64 n3) := blk_cell qn4 3; have e404 : _ = some (Value.int .i64 n4) := blk_cell qn4 4; have e405 : _ = some (Value.int .i64 n5) := blk_cell qn4 5; have e410 : _ = some (Value.int .i64 n0) := blk_cell qm4 0; have e411 : _ = some (Value.int .i64 m1) := blk_cell qm4 1; have e412 : _ = some (Value.string my) := blk_cell qm4 2; have e413 : _ = some (Value.int .i64 m3) := blk_cell qm4 3; have e414 : _ = some (Value.int .i64 m4) := blk_cell qm4 4; have e415 : _ = some (Value.int .i64 n5) := blk_cell qm4 5; clear qn4 qm4 hb4)
        | ((with_reducible refine (FB.out w4).mono ?_); rintro e' w5 ⟨rfl, hb5⟩; have qn5 := blk_b HQN4.out hb5; have qm5 := blk_b HQM4.out hb5; have HQN5 := Aside0.mk qn5; have HQM5 := Aside0.mk qm5; have HB5 := Aside0.mk (below_then HB4.out HB4.out.size hb5); have e500 : _ = some (Value.int .i64 n0) := blk_cell qn5 0; have e501 : _ = some (Value.int .i64 n1) := blk_cell qn5 1; have e502 : _ = some (Value.string ny) := blk_cell qn5 2; have e503 : _ = some (Value.int .i64 n3) := blk_cell qn5 3; have e504 : _ = some (Value.int .i64 n4) := blk_cell qn5 4; have e505 : _ = some (Value.int .i64 n5) := blk_cell qn5 5; have e510 : _ = some (Value.int .i64 n0) := blk_cell qm5 0; have e511 : _ = some (Value.int .i64 m1) := blk_cell qm5 1; have e512 : _ = some (Value.string my) := blk_cell qm5 2; have e513 : _ = some (Value.int .i64 m3) := blk_cell qm5 3; have e514 : _ = some (Value.int .i64 m4) := blk_cell qm5 4; have e515 : _ = some (Value.int .i64 n5) := blk_cell qm5 5; clear qn5 qm5 hb5)))
  go_ret
  exact ⟨by first | rfl | (simp; done) | (simp [*]; done), HB5.out⟩
set_option maxHeartbeats 16000000 in
set_option maxRecDepth 100000 in
theorem keys_f3 (n0 n1 : Int) (ny : ByteArray) (n3 n4 n5 m1 : Int) (my : ByteArray) (m3 m4 : Int) (x : ByteArray) (e : Int) (y : ByteArray) (f : Int) (w : World)
    (CA : Aside0 (∀ W, Calls Try.prog 18 #[.agg #[.int .i64 n0, .int .i64 n1, .string ny, .int .i64 n3, .int .i64 n4, .int .i64 n5]] W fun e' w' => e' = .returned (.tuple #[.string x, .int .i64 e]) ∧ Below W.heap.size W w'))
    (CB : Aside0 (∀ W, Calls Try.prog 18 #[.agg #[.int .i64 n0, .int .i64 m1, .string my, .int .i64 m3, .int .i64 m4, .int .i64 n5]] W fun e' w' => e' = .returned (.tuple #[.string y, .int .i64 f]) ∧ Below W.heap.size W w'))
    (FA : Aside0 (∀ W, Calls Try.prog 19 #[.agg #[.int .i64 n0, .int .i64 n1, .string ny, .int .i64 n3, .int .i64 n4, .int .i64 n5]] W fun e' w' => e' = .returned (.tuple #[.string x, .int .i64 e]) ∧ Below W.heap.size W w'))
    (FB : Aside0 (∀ W, Calls Try.prog 19 #[.agg #[.int .i64 n0, .int .i64 m1, .string my, .int .i64 m3, .int .i64 m4, .int .i64 n5]] W fun e' w' => e' = .returned (.tuple #[.string y, .int .i64 f]) ∧ Below W.heap.size W w'))
    (he : e = 0) (hf : f = 0) (hyn : (ny.toList == my.toList) = true) (hl : Op.bytesLess x.toList y.toList = false) (h5 : ¬ n5 < n5) (h0 : ¬ n0 < n0) (h1 : ¬ n1 < m1) :
    Calls Try.prog 4 #[.agg #[.int .i64 n0, .int .i64 n1, .string ny, .int .i64 n3, .int .i64 n4, .int .i64 n5], .agg #[.int .i64 n0, .int .i64 m1, .string my, .int .i64 m3, .int .i64 m4, .int .i64 n5]] w fun e' w' => e' = .returned (.bool true) ∧ Below w.heap.size w w' := by
  have HB0 := Aside0.mk (below2 (w := w) (.cells #[.int .i64 n0, .int .i64 n1, .string ny, .int .i64 n3, .int .i64 n4, .int .i64 n5] 23) (.cells #[.int .i64 n0, .int .i64 m1, .string my, .int .i64 m3, .int .i64 m4, .int .i64 n5] 23))
  have HQN0 := Aside0.mk (two_0 w (.cells #[.int .i64 n0, .int .i64 n1, .string ny, .int .i64 n3, .int .i64 n4, .int .i64 n5] 23) (.cells #[.int .i64 n0, .int .i64 m1, .string my, .int .i64 m3, .int .i64 m4, .int .i64 n5] 23))
  have HQM0 := Aside0.mk (two_1 w (.cells #[.int .i64 n0, .int .i64 n1, .string ny, .int .i64 n3, .int .i64 n4, .int .i64 n5] 23) (.cells #[.int .i64 n0, .int .i64 m1, .string my, .int .i64 m3, .int .i64 m4, .int .i64 n5] 23))
  have hxx : (x.toList == x.toList) = true := beq_self_eq_true _
  have hyy : (y.toList == y.toList) = true := beq_self_eq_true _
  subst he
  subst hf
  go_enter Try.func4, Try.ntmps4
  go_wp2_with (first
      | (go_at_call 9; refine (awake8_calls _).mono ?_; rintro e' w1 ⟨rfl, hb1⟩; have qn1 := blk_b HQN0.out hb1; have qm1 := blk_b HQM0.out hb1; have HQN1 := Aside0.mk qn1; have HQM1 := Aside0.mk qm1; have HB1 := Aside0.mk (below_then HB0.out HB0.out.size hb1); have e100 : _ = some (Value.int .i64 n0) := blk_cell qn1 0; have e101 : _ = some (Value.int .i64 n1) := blk_cell qn1 1; have e102 : _ = some (Value.string ny) := blk_cell qn1 2; have e103 : _ = some (Value.int .i64 n3) := blk_cell qn1 3; have e104 : _ = some (Value.int .i64 n4) := blk_cell qn1 4; have e105 : _ = some (Value.int .i64 n5) := blk_cell qn1 5; have e110 : _ = some (Value.int .i64 n0) := blk_cell qm1 0; have e111 : _ = some (Value.int .i64 m1) := blk_cell qm1 1; have e112 : _ = some (Value.string my) := blk_cell qm1 2; have e113 : _ = some (Value.int .i64 m3) := blk_cell qm1 3; have e114 : _ = some (Value.int .i64 m4) := blk_cell qm1 4; have e115 : _ = some (Value.int .i64 n5) := blk_cell qm1 5; clear qn1 qm1 hb1)
      | (go_at_call 18; first
        | ((with_reducible refine (CA.out w1).mono ?_); rintro e' w2 ⟨rfl, hb2⟩; have qn2 := blk_b HQN1.out hb2; have qm2 := blk_b HQM1.out hb2; have HQN2 := Aside0.mk qn2; have HQM2 := Aside0.mk qm2; have HB2 := Aside0.mk (below_then HB1.out HB1.out.size hb2); have e200 : _ = some (Value.int .i64 n0) := blk_cell qn2 0; have e201 : _ = some (Value.int .i64 n1) := blk_cell qn2 1; have e202 : _ = some (Value.string ny) := blk_cell qn2 2; have e203 : _ = some (Value.int .i64 n3) := blk_cell qn2 3; have e204 : _ = some (Value.int .i64 n4) := blk_cell qn2 4; have e205 : _ = some (Value.int .i64 n5) := blk_cell qn2 5; have e210 : _ = some (Value.int .i64 n0) := blk_cell qm2 0; have e211 : _ = some (Value.int .i64 m1) := blk_cell qm2 1; have e212 : _ = some (Value.string my) := blk_cell qm2 2; have e213 : _ = some (Value.int .i64 m3) := blk_cell qm2 3; have e214 : _ = some (Value.int .i64 m4) := blk_cell qm2 4; have e215 : _ = some (Value.int .i64 n5) := blk_cell qm2 5; clear qn2 qm2 hb2)
        | ((with_reducible refine (CB.out w2).mono ?_); rintro e' w3 ⟨rfl, hb3⟩; have qn3 := blk_b HQN2.out hb3; have qm3 := blk_b HQM2.out hb3; have HQN3 := Aside0.mk qn3; have HQM3 := Aside0.mk qm3; have HB3 := Aside0.mk (below_then HB2.out HB2.out.size hb3); have e300 : _ = some (Value.int .i64 n0) := blk_cell qn3 0; have e301 : _ = some (Value.int .i64 n1) := blk_cell qn3 1; have e302 : _ = some (Value.string ny) := blk_cell qn3 2; have e303 : _ = some (Value.int .i64 n3) := blk_cell qn3 3; have e304 : _ = some (Value.int .i64 n4) := blk_cell qn3 4; have e305 : _ = some (Value.int .i64 n5) := blk_cell qn3 5; have e310 : _ = some (Value.int .i64 n0) := blk_cell qm3 0; have e311 : _ = some (Value.int .i64 m1) := blk_cell qm3 1; have e312 : _ = some (Value.string my) := blk_cell qm3 2; have e313 : _ = some (Value.int .i64 m3) := blk_cell qm3 3; have e314 : _ = some (Value.int .i64 m4) := blk_cell qm3 4; have e315 : _ = some (Value.int .i64 n5) := blk_cell qm3 5; clear qn3 qm3 hb3))
      | (go_at_call 19; first
        | ((with_reducible refine (FA.out w3).mono ?_); rintro e' w4 ⟨rfl, hb4⟩; have qn4 := blk_b HQN3.out hb4; have qm4 := blk_b HQM3.out hb4; have HQN4 := Aside0.mk qn4; have HQM4 := Aside0.mk qm4; have HB4 := Aside0.mk (below_then HB3.out HB3.out.size hb4); have e400 : _ = some (Value.int .i64 n0) := blk_cell qn4 0; have e401 : _ = some (Value.int .i64 n1) := blk_cell qn4 1; have e402 : _ = some (Value.string ny) := blk_cell qn4 2; have e403 : _ = some (Value.int .i64 n3) := blk_cell qn4 3; have e404 : _ = some (Value.int .i64 n4) := blk_cell qn4 4; have e405 : _ = some (Value.int .i64 n5) := blk_cell qn4 5; have e410 : _ = some (Value.int .i64 n0) := blk_cell qm4 0; have e411 : _ = some (Value.int .i64 m1) := blk_cell qm4 1; have e412 : _ = some (Value.string my) := blk_cell qm4 2; have e413 : _ = some (Value.int .i64 m3) := blk_cell qm4 3; have e414 : _ = some (Value.int .i64 m4) := blk_cell qm4 4; have e415 : _ = some (Value.int .i64 n5) := blk_cell qm4 5; clear qn4 qm4 hb4)
        | ((with_reducible refine (FB.out w4).mono ?_); rintro e' w5 ⟨rfl, hb5⟩; have qn5 := blk_b HQN4.out hb5; have qm5 := blk_b HQM4.out hb5; have HQN5 := Aside0.mk qn5; have HQM5 := Aside0.mk qm5; have HB5 := Aside0.mk (below_then HB4.out HB4.out.size hb5); have e500 : _ = some (Value.int .i64 n0) := blk_cell qn5 0; have e501 : _ = some (Value.int .i64 n1) := blk_cell qn5 1; have e502 : _ = some (Value.string ny) := blk_cell qn5 2; have e503 : _ = some (Value.int .i64 n3) := blk_cell qn5 3; have e504 : _ = some (Value.int .i64 n4) := blk_cell qn5 4; have e505 : _ = some (Value.int .i64 n5) := blk_cell qn5 5; have e510 : _ = some (Value.int .i64 n0) := blk_cell qm5 0; have e511 : _ = some (Value.int .i64 m1) := blk_cell qm5 1; have e512 : _ = some (Value.string my) := blk_cell qm5 2; have e513 : _ = some (Value.int .i64 m3) := blk_cell qm5 3; have e514 : _ = some (Value.int .i64 m4) := blk_cell qm5 4; have e515 : _ = some (Value.int .i64 n5) := blk_cell qm5 5; clear qn5 qm5 hb5)))
  go_ret
  exact ⟨by first | rfl | (simp; done) | (simp [*]; done), HB5.out⟩
set_option maxHeartbeats 16000000 in
set_option maxRecDepth 100000 in
theorem keys_f2 (n0 n1 : Int) (ny : ByteArray) (n3 n4 n5 m0 m1 : Int) (my : ByteArray) (m3 m4 : Int) (x : ByteArray) (e : Int) (y : ByteArray) (f : Int) (w : World)
    (CA : Aside0 (∀ W, Calls Try.prog 18 #[.agg #[.int .i64 n0, .int .i64 n1, .string ny, .int .i64 n3, .int .i64 n4, .int .i64 n5]] W fun e' w' => e' = .returned (.tuple #[.string x, .int .i64 e]) ∧ Below W.heap.size W w'))
    (CB : Aside0 (∀ W, Calls Try.prog 18 #[.agg #[.int .i64 m0, .int .i64 m1, .string my, .int .i64 m3, .int .i64 m4, .int .i64 n5]] W fun e' w' => e' = .returned (.tuple #[.string y, .int .i64 f]) ∧ Below W.heap.size W w'))
    (FA : Aside0 (∀ W, Calls Try.prog 19 #[.agg #[.int .i64 n0, .int .i64 n1, .string ny, .int .i64 n3, .int .i64 n4, .int .i64 n5]] W fun e' w' => e' = .returned (.tuple #[.string x, .int .i64 e]) ∧ Below W.heap.size W w'))
    (FB : Aside0 (∀ W, Calls Try.prog 19 #[.agg #[.int .i64 m0, .int .i64 m1, .string my, .int .i64 m3, .int .i64 m4, .int .i64 n5]] W fun e' w' => e' = .returned (.tuple #[.string y, .int .i64 f]) ∧ Below W.heap.size W w'))
    (he : e = 0) (hf : f = 0) (hyn : (ny.toList == my.toList) = true) (hl : Op.bytesLess x.toList y.toList = false) (h5 : ¬ n5 < n5) (h0 : ¬ n0 < m0) (h0e : ¬ n0 = m0) :
    Calls Try.prog 4 #[.agg #[.int .i64 n0, .int .i64 n1, .string ny, .int .i64 n3, .int .i64 n4, .int .i64 n5], .agg #[.int .i64 m0, .int .i64 m1, .string my, .int .i64 m3, .int .i64 m4, .int .i64 n5]] w fun e' w' => e' = .returned (.bool true) ∧ Below w.heap.size w w' := by
  have HB0 := Aside0.mk (below2 (w := w) (.cells #[.int .i64 n0, .int .i64 n1, .string ny, .int .i64 n3, .int .i64 n4, .int .i64 n5] 23) (.cells #[.int .i64 m0, .int .i64 m1, .string my, .int .i64 m3, .int .i64 m4, .int .i64 n5] 23))
  have HQN0 := Aside0.mk (two_0 w (.cells #[.int .i64 n0, .int .i64 n1, .string ny, .int .i64 n3, .int .i64 n4, .int .i64 n5] 23) (.cells #[.int .i64 m0, .int .i64 m1, .string my, .int .i64 m3, .int .i64 m4, .int .i64 n5] 23))
  have HQM0 := Aside0.mk (two_1 w (.cells #[.int .i64 n0, .int .i64 n1, .string ny, .int .i64 n3, .int .i64 n4, .int .i64 n5] 23) (.cells #[.int .i64 m0, .int .i64 m1, .string my, .int .i64 m3, .int .i64 m4, .int .i64 n5] 23))
  have hxx : (x.toList == x.toList) = true := beq_self_eq_true _
  have hyy : (y.toList == y.toList) = true := beq_self_eq_true _
  subst he
  subst hf
  have h0b : (n0 == m0) = false := beq_eq_false_iff_ne.2 h0e
  go_enter Try.func4, Try.ntmps4
  go_wp2_with (first
      | (go_at_call 9; refine (awake8_calls _).mono ?_; rintro e' w1 ⟨rfl, hb1⟩; have qn1 := blk_b HQN0.out hb1; have qm1 := blk_b HQM0.out hb1; have HQN1 := Aside0.mk qn1; have HQM1 := Aside0.mk qm1; have HB1 := Aside0.mk (below_then HB0.out HB0.out.size hb1); have e100 : _ = some (Value.int .i64 n0) := blk_cell qn1 0; have e101 : _ = some (Value.int .i64 n1) := blk_cell qn1 1; have e102 : _ = some (Value.string ny) := blk_cell qn1 2; have e103 : _ = some (Value.int .i64 n3) := blk_cell qn1 3; have e104 : _ = some (Value.int .i64 n4) := blk_cell qn1 4; have e105 : _ = some (Value.int .i64 n5) := blk_cell qn1 5; have e110 : _ = some (Value.int .i64 m0) := blk_cell qm1 0; have e111 : _ = some (Value.int .i64 m1) := blk_cell qm1 1; have e112 : _ = some (Value.string my) := blk_cell qm1 2; have e113 : _ = some (Value.int .i64 m3) := blk_cell qm1 3; have e114 : _ = some (Value.int .i64 m4) := blk_cell qm1 4; have e115 : _ = some (Value.int .i64 n5) := blk_cell qm1 5; clear qn1 qm1 hb1)
      | (go_at_call 18; first
        | ((with_reducible refine (CA.out w1).mono ?_); rintro e' w2 ⟨rfl, hb2⟩; have qn2 := blk_b HQN1.out hb2; have qm2 := blk_b HQM1.out hb2; have HQN2 := Aside0.mk qn2; have HQM2 := Aside0.mk qm2; have HB2 := Aside0.mk (below_then HB1.out HB1.out.size hb2); have e200 : _ = some (Value.int .i64 n0) := blk_cell qn2 0; have e201 : _ = some (Value.int .i64 n1) := blk_cell qn2 1; have e202 : _ = some (Value.string ny) := blk_cell qn2 2; have e203 : _ = some (Value.int .i64 n3) := blk_cell qn2 3; have e204 : _ = some (Value.int .i64 n4) := blk_cell qn2 4; have e205 : _ = some (Value.int .i64 n5) := blk_cell qn2 5; have e210 : _ = some (Value.int .i64 m0) := blk_cell qm2 0; have e211 : _ = some (Value.int .i64 m1) := blk_cell qm2 1; have e212 : _ = some (Value.string my) := blk_cell qm2 2; have e213 : _ = some (Value.int .i64 m3) := blk_cell qm2 3; have e214 : _ = some (Value.int .i64 m4) := blk_cell qm2 4; have e215 : _ = some (Value.int .i64 n5) := blk_cell qm2 5; clear qn2 qm2 hb2)
        | ((with_reducible refine (CB.out w2).mono ?_); rintro e' w3 ⟨rfl, hb3⟩; have qn3 := blk_b HQN2.out hb3; have qm3 := blk_b HQM2.out hb3; have HQN3 := Aside0.mk qn3; have HQM3 := Aside0.mk qm3; have HB3 := Aside0.mk (below_then HB2.out HB2.out.size hb3); have e300 : _ = some (Value.int .i64 n0) := blk_cell qn3 0; have e301 : _ = some (Value.int .i64 n1) := blk_cell qn3 1; have e302 : _ = some (Value.string ny) := blk_cell qn3 2; have e303 : _ = some (Value.int .i64 n3) := blk_cell qn3 3; have e304 : _ = some (Value.int .i64 n4) := blk_cell qn3 4; have e305 : _ = some (Value.int .i64 n5) := blk_cell qn3 5; have e310 : _ = some (Value.int .i64 m0) := blk_cell qm3 0; have e311 : _ = some (Value.int .i64 m1) := blk_cell qm3 1; have e312 : _ = some (Value.string my) := blk_cell qm3 2; have e313 : _ = some (Value.int .i64 m3) := blk_cell qm3 3; have e314 : _ = some (Value.int .i64 m4) := blk_cell qm3 4; have e315 : _ = some (Value.int .i64 n5) := blk_cell qm3 5; clear qn3 qm3 hb3))
      | (go_at_call 19; first
        | ((with_reducible refine (FA.out w3).mono ?_); rintro e' w4 ⟨rfl, hb4⟩; have qn4 := blk_b HQN3.out hb4; have qm4 := blk_b HQM3.out hb4; have HQN4 := Aside0.mk qn4; have HQM4 := Aside0.mk qm4; have HB4 := Aside0.mk (below_then HB3.out HB3.out.size hb4); have e400 : _ = some (Value.int .i64 n0) := blk_cell qn4 0; have e401 : _ = some (Value.int .i64 n1) := blk_cell qn4 1; have e402 : _ = some (Value.string ny) := blk_cell qn4 2; have e403 : _ = some (Value.int .i64 n3) := blk_cell qn4 3; have e404 : _ = some (Value.int .i64 n4) := blk_cell qn4 4; have e405 : _ = some (Value.int .i64 n5) := blk_cell qn4 5; have e410 : _ = some (Value.int .i64 m0) := blk_cell qm4 0; have e411 : _ = some (Value.int .i64 m1) := blk_cell qm4 1; have e412 : _ = some (Value.string my) := blk_cell qm4 2; have e413 : _ = some (Value.int .i64 m3) := blk_cell qm4 3; have e414 : _ = some (Value.int .i64 m4) := blk_cell qm4 4; have e415 : _ = some (Value.int .i64 n5) := blk_cell qm4 5; clear qn4 qm4 hb4)
        | ((with_reducible refine (FB.out w4).mono ?_); rintro e' w5 ⟨rfl, hb5⟩; have qn5 := blk_b HQN4.out hb5; have qm5 := blk_b HQM4.out hb5; have HQN5 := Aside0.mk qn5; have HQM5 := Aside0.mk qm5; have HB5 := Aside0.mk (below_then HB4.out HB4.out.size hb5); have e500 : _ = some (Value.int .i64 n0) := blk_cell qn5 0; have e501 : _ = some (Value.int .i64 n1) := blk_cell qn5 1; have e502 : _ = some (Value.string ny) := blk_cell qn5 2; have e503 : _ = some (Value.int .i64 n3) := blk_cell qn5 3; have e504 : _ = some (Value.int .i64 n4) := blk_cell qn5 4; have e505 : _ = some (Value.int .i64 n5) := blk_cell qn5 5; have e510 : _ = some (Value.int .i64 m0) := blk_cell qm5 0; have e511 : _ = some (Value.int .i64 m1) := blk_cell qm5 1; have e512 : _ = some (Value.string my) := blk_cell qm5 2; have e513 : _ = some (Value.int .i64 m3) := blk_cell qm5 3; have e514 : _ = some (Value.int .i64 m4) := blk_cell qm5 4; have e515 : _ = some (Value.int .i64 n5) := blk_cell qm5 5; clear qn5 qm5 hb5)))
  go_ret
  exact ⟨by first | rfl | (simp; done) | (simp [*]; done), HB5.out⟩
set_option maxHeartbeats 16000000 in
set_option maxRecDepth 100000 in
theorem keys_f1 (n0 n1 : Int) (ny : ByteArray) (n3 n4 n5 m0 m1 : Int) (my : ByteArray) (m3 m4 m5 : Int) (x : ByteArray) (e : Int) (y : ByteArray) (f : Int) (w : World)
    (CA : Aside0 (∀ W, Calls Try.prog 18 #[.agg #[.int .i64 n0, .int .i64 n1, .string ny, .int .i64 n3, .int .i64 n4, .int .i64 n5]] W fun e' w' => e' = .returned (.tuple #[.string x, .int .i64 e]) ∧ Below W.heap.size W w'))
    (CB : Aside0 (∀ W, Calls Try.prog 18 #[.agg #[.int .i64 m0, .int .i64 m1, .string my, .int .i64 m3, .int .i64 m4, .int .i64 m5]] W fun e' w' => e' = .returned (.tuple #[.string y, .int .i64 f]) ∧ Below W.heap.size W w'))
    (FA : Aside0 (∀ W, Calls Try.prog 19 #[.agg #[.int .i64 n0, .int .i64 n1, .string ny, .int .i64 n3, .int .i64 n4, .int .i64 n5]] W fun e' w' => e' = .returned (.tuple #[.string x, .int .i64 e]) ∧ Below W.heap.size W w'))
    (FB : Aside0 (∀ W, Calls Try.prog 19 #[.agg #[.int .i64 m0, .int .i64 m1, .string my, .int .i64 m3, .int .i64 m4, .int .i64 m5]] W fun e' w' => e' = .returned (.tuple #[.string y, .int .i64 f]) ∧ Below W.heap.size W w'))
    (he : e = 0) (hf : f = 0) (hyn : (ny.toList == my.toList) = true) (hl : Op.bytesLess x.toList y.toList = false) (h5 : ¬ n5 < m5) (h5e : ¬ n5 = m5) :
    Calls Try.prog 4 #[.agg #[.int .i64 n0, .int .i64 n1, .string ny, .int .i64 n3, .int .i64 n4, .int .i64 n5], .agg #[.int .i64 m0, .int .i64 m1, .string my, .int .i64 m3, .int .i64 m4, .int .i64 m5]] w fun e' w' => e' = .returned (.bool true) ∧ Below w.heap.size w w' := by
  have HB0 := Aside0.mk (below2 (w := w) (.cells #[.int .i64 n0, .int .i64 n1, .string ny, .int .i64 n3, .int .i64 n4, .int .i64 n5] 23) (.cells #[.int .i64 m0, .int .i64 m1, .string my, .int .i64 m3, .int .i64 m4, .int .i64 m5] 23))
  have HQN0 := Aside0.mk (two_0 w (.cells #[.int .i64 n0, .int .i64 n1, .string ny, .int .i64 n3, .int .i64 n4, .int .i64 n5] 23) (.cells #[.int .i64 m0, .int .i64 m1, .string my, .int .i64 m3, .int .i64 m4, .int .i64 m5] 23))
  have HQM0 := Aside0.mk (two_1 w (.cells #[.int .i64 n0, .int .i64 n1, .string ny, .int .i64 n3, .int .i64 n4, .int .i64 n5] 23) (.cells #[.int .i64 m0, .int .i64 m1, .string my, .int .i64 m3, .int .i64 m4, .int .i64 m5] 23))
  have hxx : (x.toList == x.toList) = true := beq_self_eq_true _
  have hyy : (y.toList == y.toList) = true := beq_self_eq_true _
  subst he
  subst hf
  have h5b : (n5 == m5) = false := beq_eq_false_iff_ne.2 h5e
  go_enter Try.func4, Try.ntmps4
  go_wp2_with (first
      | (go_at_call 9; refine (awake8_calls _).mono ?_; rintro e' w1 ⟨rfl, hb1⟩; have qn1 := blk_b HQN0.out hb1; have qm1 := blk_b HQM0.out hb1; have HQN1 := Aside0.mk qn1; have HQM1 := Aside0.mk qm1; have HB1 := Aside0.mk (below_then HB0.out HB0.out.size hb1); have e100 : _ = some (Value.int .i64 n0) := blk_cell qn1 0; have e101 : _ = some (Value.int .i64 n1) := blk_cell qn1 1; have e102 : _ = some (Value.string ny) := blk_cell qn1 2; have e103 : _ = some (Value.int .i64 n3) := blk_cell qn1 3; have e104 : _ = some (Value.int .i64 n4) := blk_cell qn1 4; have e105 : _ = some (Value.int .i64 n5) := blk_cell qn1 5; have e110 : _ = some (Value.int .i64 m0) := blk_cell qm1 0; have e111 : _ = some (Value.int .i64 m1) := blk_cell qm1 1; have e112 : _ = some (Value.string my) := blk_cell qm1 2; have e113 : _ = some (Value.int .i64 m3) := blk_cell qm1 3; have e114 : _ = some (Value.int .i64 m4) := blk_cell qm1 4; have e115 : _ = some (Value.int .i64 m5) := blk_cell qm1 5; clear qn1 qm1 hb1)
      | (go_at_call 18; first
        | ((with_reducible refine (CA.out w1).mono ?_); rintro e' w2 ⟨rfl, hb2⟩; have qn2 := blk_b HQN1.out hb2; have qm2 := blk_b HQM1.out hb2; have HQN2 := Aside0.mk qn2; have HQM2 := Aside0.mk qm2; have HB2 := Aside0.mk (below_then HB1.out HB1.out.size hb2); have e200 : _ = some (Value.int .i64 n0) := blk_cell qn2 0; have e201 : _ = some (Value.int .i64 n1) := blk_cell qn2 1; have e202 : _ = some (Value.string ny) := blk_cell qn2 2; have e203 : _ = some (Value.int .i64 n3) := blk_cell qn2 3; have e204 : _ = some (Value.int .i64 n4) := blk_cell qn2 4; have e205 : _ = some (Value.int .i64 n5) := blk_cell qn2 5; have e210 : _ = some (Value.int .i64 m0) := blk_cell qm2 0; have e211 : _ = some (Value.int .i64 m1) := blk_cell qm2 1; have e212 : _ = some (Value.string my) := blk_cell qm2 2; have e213 : _ = some (Value.int .i64 m3) := blk_cell qm2 3; have e214 : _ = some (Value.int .i64 m4) := blk_cell qm2 4; have e215 : _ = some (Value.int .i64 m5) := blk_cell qm2 5; clear qn2 qm2 hb2)
        | ((with_reducible refine (CB.out w2).mono ?_); rintro e' w3 ⟨rfl, hb3⟩; have qn3 := blk_b HQN2.out hb3; have qm3 := blk_b HQM2.out hb3; have HQN3 := Aside0.mk qn3; have HQM3 := Aside0.mk qm3; have HB3 := Aside0.mk (below_then HB2.out HB2.out.size hb3); have e300 : _ = some (Value.int .i64 n0) := blk_cell qn3 0; have e301 : _ = some (Value.int .i64 n1) := blk_cell qn3 1; have e302 : _ = some (Value.string ny) := blk_cell qn3 2; have e303 : _ = some (Value.int .i64 n3) := blk_cell qn3 3; have e304 : _ = some (Value.int .i64 n4) := blk_cell qn3 4; have e305 : _ = some (Value.int .i64 n5) := blk_cell qn3 5; have e310 : _ = some (Value.int .i64 m0) := blk_cell qm3 0; have e311 : _ = some (Value.int .i64 m1) := blk_cell qm3 1; have e312 : _ = some (Value.string my) := blk_cell qm3 2; have e313 : _ = some (Value.int .i64 m3) := blk_cell qm3 3; have e314 : _ = some (Value.int .i64 m4) := blk_cell qm3 4; have e315 : _ = some (Value.int .i64 m5) := blk_cell qm3 5; clear qn3 qm3 hb3))
      | (go_at_call 19; first
        | ((with_reducible refine (FA.out w3).mono ?_); rintro e' w4 ⟨rfl, hb4⟩; have qn4 := blk_b HQN3.out hb4; have qm4 := blk_b HQM3.out hb4; have HQN4 := Aside0.mk qn4; have HQM4 := Aside0.mk qm4; have HB4 := Aside0.mk (below_then HB3.out HB3.out.size hb4); have e400 : _ = some (Value.int .i64 n0) := blk_cell qn4 0; have e401 : _ = some (Value.int .i64 n1) := blk_cell qn4 1; have e402 : _ = some (Value.string ny) := blk_cell qn4 2; have e403 : _ = some (Value.int .i64 n3) := blk_cell qn4 3; have e404 : _ = some (Value.int .i64 n4) := blk_cell qn4 4; have e405 : _ = some (Value.int .i64 n5) := blk_cell qn4 5; have e410 : _ = some (Value.int .i64 m0) := blk_cell qm4 0; have e411 : _ = some (Value.int .i64 m1) := blk_cell qm4 1; have e412 : _ = some (Value.string my) := blk_cell qm4 2; have e413 : _ = some (Value.int .i64 m3) := blk_cell qm4 3; have e414 : _ = some (Value.int .i64 m4) := blk_cell qm4 4; have e415 : _ = some (Value.int .i64 m5) := blk_cell qm4 5; clear qn4 qm4 hb4)
        | ((with_reducible refine (FB.out w4).mono ?_); rintro e' w5 ⟨rfl, hb5⟩; have qn5 := blk_b HQN4.out hb5; have qm5 := blk_b HQM4.out hb5; have HQN5 := Aside0.mk qn5; have HQM5 := Aside0.mk qm5; have HB5 := Aside0.mk (below_then HB4.out HB4.out.size hb5); have e500 : _ = some (Value.int .i64 n0) := blk_cell qn5 0; have e501 : _ = some (Value.int .i64 n1) := blk_cell qn5 1; have e502 : _ = some (Value.string ny) := blk_cell qn5 2; have e503 : _ = some (Value.int .i64 n3) := blk_cell qn5 3; have e504 : _ = some (Value.int .i64 n4) := blk_cell qn5 4; have e505 : _ = some (Value.int .i64 n5) := blk_cell qn5 5; have e510 : _ = some (Value.int .i64 m0) := blk_cell qm5 0; have e511 : _ = some (Value.int .i64 m1) := blk_cell qm5 1; have e512 : _ = some (Value.string my) := blk_cell qm5 2; have e513 : _ = some (Value.int .i64 m3) := blk_cell qm5 3; have e514 : _ = some (Value.int .i64 m4) := blk_cell qm5 4; have e515 : _ = some (Value.int .i64 m5) := blk_cell qm5 5; clear qn5 qm5 hb5)))
  go_ret
  exact ⟨by first | rfl | (simp; done) | (simp [*]; done), HB5.out⟩
theorem toList_beq (a b : ByteArray) : (a.toList == b.toList) = decide (a = b) := by
  by_cases h : a = b
  · subst h; simp
  · rw [decide_eq_false h]
    refine beq_eq_false_iff_ne.2 fun e => h ?_
    rw [ByteArray.toList_eq, ByteArray.toList_eq] at e
    exact ByteArray.ext (Array.ext' e)
theorem recordKeys_calls (s : Tp) (hs : s.Ok) (t : Tp) (ht : t.Ok) (w : World) :
    Calls Try.prog 4 #[s.val, t.val] w fun e w' => e = .returned (.bool true) ∧ Below w.heap.size w w' := by
  have CA := Aside0.mk (fun W => recKey_calls s hs W)
  have CB := Aside0.mk (fun W => recKey_calls t ht W)
  have FA := Aside0.mk (fun W => refKey_calls s hs W)
  have FB := Aside0.mk (fun W => refKey_calls t ht W)
  unfold KeyPost at CA CB FA FB
  have E1 := key_err_ok s
  have E2 := key_err_ok t
  have HO := keys_order s t
  generalize s.key = kx at *
  generalize t.key = ky at *
  obtain ⟨x, e⟩ := kx
  obtain ⟨y, f⟩ := ky
  simp only at CA CB FA FB E1 E2 HO
  cases hr1 : s.right with
  | false =>
    rw [hr1] at E1
    exact keys_e _ _ _ _ _ _ _ _ _ _ _ _ x e y f w CA CB FA FB (by simpa using E1)
  | true =>
    rw [hr1] at E1
    cases hr2 : t.right with
    | false =>
      rw [hr2] at E2
      exact keys_f _ _ _ _ _ _ _ _ _ _ _ _ x e y f w CA CB FA FB (by simpa using E1) (by simpa using E2)
    | true =>
      rw [hr2] at E2
      have E1' : e = 0 := by simpa using E1
      have E2' : f = 0 := by simpa using E2
      by_cases hy : s.y = t.y
      · have hyb : (s.y.toList == t.y.toList) = true := by rw [toList_beq]; exact decide_eq_true hy
        have HL := HO hr1 hr2 hy
        clear HO hr1 hr2 E1 E2 hs ht
        obtain ⟨n0, n1, ny, n3, n4, n5⟩ := s
        obtain ⟨m0, m1, my, m3, m4, m5⟩ := t
        simp only at HL hyb
        unfold Tp.val at *
        simp only at CA CB FA FB ⊢
        by_cases h5 : n5 < m5
        · exact keys_t1 _ _ _ _ _ _ _ _ _ _ _ _ x e y f w CA CB FA FB E1' E2' hyb (by rw [HL]; exact decide_eq_true (.inl h5)) h5
        · by_cases h5e : n5 = m5
          · subst h5e
            by_cases h0 : n0 < m0
            · exact keys_t2 _ _ _ _ _ _ _ _ _ _ _ x e y f w CA CB FA FB E1' E2' hyb (by rw [HL]; exact decide_eq_true (by omega)) h5 h0
            · by_cases h0e : n0 = m0
              · subst h0e
                by_cases h1 : n1 < m1
                · exact keys_t3 _ _ _ _ _ _ _ _ _ _ x e y f w CA CB FA FB E1' E2' hyb (by rw [HL]; exact decide_eq_true (by omega)) h5 h0 h1
                · exact keys_f3 _ _ _ _ _ _ _ _ _ _ x e y f w CA CB FA FB E1' E2' hyb (by rw [HL]; exact decide_eq_false (by omega)) h5 h0 h1
              · exact keys_f2 _ _ _ _ _ _ _ _ _ _ _ x e y f w CA CB FA FB E1' E2' hyb (by rw [HL]; exact decide_eq_false (by omega)) h5 h0 h0e
          · exact keys_f1 _ _ _ _ _ _ _ _ _ _ _ _ x e y f w CA CB FA FB E1' E2' hyb (by rw [HL]; exact decide_eq_false (by omega)) h5 h5e
      · exact keys_y _ _ _ _ _ _ _ _ _ _ _ _ x e y f w CA CB FA FB E1' E2' (by rw [toList_beq]; exact decide_eq_false hy)
end Go.Proofs.Ytgmbfecfkdbfaaa.Wi
