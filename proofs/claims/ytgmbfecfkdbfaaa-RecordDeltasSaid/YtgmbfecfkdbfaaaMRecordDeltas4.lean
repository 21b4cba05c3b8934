/- fareboxref08.ReadTap. -/
import Derived.Test.YtgmbfecfkdbfaaaMRecordDeltas3
set_option linter.unusedVariables false
set_option linter.unusedSimpArgs false
namespace Go.Proofs.Ytgmbfecfkdbfaaa.Wi
open Go Go.RowKit Go.Proofs.YtgmbfecfkdbfaaaW.PrintWords
/-- the document's reader and what it has laid down -/
structure OX (W1 W : World) (gx bt : Nat) (A : Option Addr) (c : Nat) (bs : List Int) (cs : Array Value) (r : RS) : Prop where
  xr : XR W gx A c bs r
  blk : W.heap[bt]? = some (.cells cs 23 (0, 0))
  fr : Fr (fun i => i = gx ∨ i = bt) W1 W
theorem XR.far_ {W : World} {gx bt : Nat} {A : Option Addr} {c : Nat} {bs : List Int} {r : RS} (h : XR W gx A c bs r) (hne : bt ≠ gx) (hf : ∀ ad, A = some ad → 0 < bs.length → ad.block ≠ bt) (k : Nat) (u : Value) : XR (W.setCell ⟨bt, k, none⟩ u) gx A c bs r :=
  ⟨blk_far h.blk (p := ⟨bt, k, none⟩) (Ne.symm hne) u, h.rd_.keep ((KeepBut.refl W bt none).set_ k u) hf, h.far, h.le, h.len, h.byt, h.cap⟩
theorem OX.step {W1 W W' : World} {gx bt : Nat} {A : Option Addr} {c : Nat} {bs : List Int} {cs cs' : Array Value} {r r' : RS} (h : OX W1 W gx bt A c bs cs r) (hx : XR W' gx A c bs r') (hf : Fr (fun i => i = gx) W W') (k : Nat) (u : Value) (hfb : bt ≠ gx ∧ ∀ ad, A = some ad → 0 < bs.length → ad.block ≠ bt) (e : cs.setIfInBounds k u = cs') : OX W1 (W'.setCell ⟨bt, k, none⟩ u) gx bt A c bs cs' r' := by
  have hq := hf.blk h.blk hfb.1
  exact ⟨hx.far_ hfb.1 hfb.2 k u, blk_put hq k u e, ((h.fr.trans (hf.mono (S' := fun i => i = gx ∨ i = bt) (fun i _ h => .inl h)) (fun _ _ h => h))).set_ (p := ⟨bt, k, none⟩) (.inl (.inr rfl)) u⟩
set_option maxHeartbeats 8000000 in
set_option maxRecDepth 100000 in
theorem refReadTap_calls (A : Option Addr) (c : Nat) (bs : List Int) (w : World) (hr : ReadsInt w .u8 A bs.length bs) (hc : bs.length ≤ c) (hby : Bytes bs) (hl : bs.length ≤ 140737488355328) :
    Calls Try.prog 15 #[.slice A bs.length c] w (TKPost bs w) := by
  have hb4 : Below w.heap.size w ((((w.alloc (.cells #[.int .i64 0, .int .i64 0, .string ⟨#[]⟩, .int .i64 0, .int .i64 0, .int .i64 0] 23)).alloc (.cells #[.int .i64 0, .int .i64 0] 31)).alloc (.cells #[.slice A bs.length c, .int .i64 0, .int .i64 0, .int .i64 0, .int .i64 0] 89)).alloc (.cells #[.int .i64 0, .int .i64 0, .string ⟨#[]⟩, .int .i64 0, .int .i64 0, .int .i64 0] 23)) := below_alloc (below_alloc (below_alloc (below_alloc (Below.refl _ _) _) _) _) _
  have s1 : (w.alloc (.cells #[.int .i64 0, .int .i64 0, .string ⟨#[]⟩, .int .i64 0, .int .i64 0, .int .i64 0] 23)).heap.size = w.heap.size + 1 := by simp
  have s2 : ((w.alloc (.cells #[.int .i64 0, .int .i64 0, .string ⟨#[]⟩, .int .i64 0, .int .i64 0, .int .i64 0] 23)).alloc (.cells #[.int .i64 0, .int .i64 0] 31)).heap.size = w.heap.size + 1 + 1 := by simp
  have s3 : (((w.alloc (.cells #[.int .i64 0, .int .i64 0, .string ⟨#[]⟩, .int .i64 0, .int .i64 0, .int .i64 0] 23)).alloc (.cells #[.int .i64 0, .int .i64 0] 31)).alloc (.cells #[.slice A bs.length c, .int .i64 0, .int .i64 0, .int .i64 0, .int .i64 0] 89)).heap.size = w.heap.size + 1 + 1 + 1 := by simp
  have q6 : ((((w.alloc (.cells #[.int .i64 0, .int .i64 0, .string ⟨#[]⟩, .int .i64 0, .int .i64 0, .int .i64 0] 23)).alloc (.cells #[.int .i64 0, .int .i64 0] 31)).alloc (.cells #[.slice A bs.length c, .int .i64 0, .int .i64 0, .int .i64 0, .int .i64 0] 89)).alloc (.cells #[.int .i64 0, .int .i64 0, .string ⟨#[]⟩, .int .i64 0, .int .i64 0, .int .i64 0] 23)).heap[w.heap.size]? = some _ := blk_b (blk_b (blk_b (heap_alloc_new w (.cells #[.int .i64 0, .int .i64 0, .string ⟨#[]⟩, .int .i64 0, .int .i64 0, .int .i64 0] 23)) (below1 (.cells #[.int .i64 0, .int .i64 0] 31))) (below1 (.cells #[.slice A bs.length c, .int .i64 0, .int .i64 0, .int .i64 0, .int .i64 0] 89))) (below1 (.cells #[.int .i64 0, .int .i64 0, .string ⟨#[]⟩, .int .i64 0, .int .i64 0, .int .i64 0] 23))
  have q7 : ((((w.alloc (.cells #[.int .i64 0, .int .i64 0, .string ⟨#[]⟩, .int .i64 0, .int .i64 0, .int .i64 0] 23)).alloc (.cells #[.int .i64 0, .int .i64 0] 31)).alloc (.cells #[.slice A bs.length c, .int .i64 0, .int .i64 0, .int .i64 0, .int .i64 0] 89)).alloc (.cells #[.int .i64 0, .int .i64 0, .string ⟨#[]⟩, .int .i64 0, .int .i64 0, .int .i64 0] 23)).heap[w.heap.size + 1]? = some _ := s1 ▸ blk_b (blk_b (heap_alloc_new (w.alloc (.cells #[.int .i64 0, .int .i64 0, .string ⟨#[]⟩, .int .i64 0, .int .i64 0, .int .i64 0] 23)) (.cells #[.int .i64 0, .int .i64 0] 31)) (below1 (.cells #[.slice A bs.length c, .int .i64 0, .int .i64 0, .int .i64 0, .int .i64 0] 89))) (below1 (.cells #[.int .i64 0, .int .i64 0, .string ⟨#[]⟩, .int .i64 0, .int .i64 0, .int .i64 0] 23))
  have q8 : ((((w.alloc (.cells #[.int .i64 0, .int .i64 0, .string ⟨#[]⟩, .int .i64 0, .int .i64 0, .int .i64 0] 23)).alloc (.cells #[.int .i64 0, .int .i64 0] 31)).alloc (.cells #[.slice A bs.length c, .int .i64 0, .int .i64 0, .int .i64 0, .int .i64 0] 89)).alloc (.cells #[.int .i64 0, .int .i64 0, .string ⟨#[]⟩, .int .i64 0, .int .i64 0, .int .i64 0] 23)).heap[w.heap.size + 1 + 1]? = some _ := s2 ▸ blk_b (heap_alloc_new ((w.alloc (.cells #[.int .i64 0, .int .i64 0, .string ⟨#[]⟩, .int .i64 0, .int .i64 0, .int .i64 0] 23)).alloc (.cells #[.int .i64 0, .int .i64 0] 31)) (.cells #[.slice A bs.length c, .int .i64 0, .int .i64 0, .int .i64 0, .int .i64 0] 89)) (below1 (.cells #[.int .i64 0, .int .i64 0, .string ⟨#[]⟩, .int .i64 0, .int .i64 0, .int .i64 0] 23))
  have q9 : ((((w.alloc (.cells #[.int .i64 0, .int .i64 0, .string ⟨#[]⟩, .int .i64 0, .int .i64 0, .int .i64 0] 23)).alloc (.cells #[.int .i64 0, .int .i64 0] 31)).alloc (.cells #[.slice A bs.length c, .int .i64 0, .int .i64 0, .int .i64 0, .int .i64 0] 89)).alloc (.cells #[.int .i64 0, .int .i64 0, .string ⟨#[]⟩, .int .i64 0, .int .i64 0, .int .i64 0] 23)).heap[w.heap.size + 1 + 1 + 1]? = some _ := s3 ▸ heap_alloc_new (((w.alloc (.cells #[.int .i64 0, .int .i64 0, .string ⟨#[]⟩, .int .i64 0, .int .i64 0, .int .i64 0] 23)).alloc (.cells #[.int .i64 0, .int .i64 0] 31)).alloc (.cells #[.slice A bs.length c, .int .i64 0, .int .i64 0, .int .i64 0, .int .i64 0] 89)) (.cells #[.int .i64 0, .int .i64 0, .string ⟨#[]⟩, .int .i64 0, .int .i64 0, .int .i64 0] 23)
  have hfar : ∀ ad, A = some ad → 0 < bs.length → ad.block < w.heap.size := fun ad ea hn => by
    obtain ⟨ad', e', hcell⟩ := hr.2.2 hn
    rw [ea] at e'
    obtain rfl := Option.some.inj e'
    have := World.block_lt_of_cell? w _ (hcell 0 hn)
    rwa [add_block] at this
  obtain ⟨⟨n0, r1⟩, e0⟩ : ∃ p, rNum bs ⟨0, 0, 0, 0⟩ 2 = p := ⟨_, rfl⟩
  obtain ⟨⟨n1, r2⟩, e1⟩ : ∃ p, rNum bs r1 4 = p := ⟨_, rfl⟩
  obtain ⟨⟨my, r3⟩, e2⟩ : ∃ p, rFix bs r2 8 = p := ⟨_, rfl⟩
  obtain ⟨⟨n3, r4⟩, e3⟩ : ∃ p, rNum bs r3 1 = p := ⟨_, rfl⟩
  obtain ⟨⟨n4, r5⟩, e4⟩ : ∃ p, rNum bs r4 2 = p := ⟨_, rfl⟩
  obtain ⟨⟨n5, r6⟩, e5⟩ : ∃ p, rNum bs r5 4 = p := ⟨_, rfl⟩
  have HTP : Aside0 (tapR bs ⟨0, 0, 0, 0⟩ = (⟨n0, n1, my, n3, n4, n5⟩, r6)) := ⟨by simp [tapR, e0, e1, e2, e3, e4, e5]⟩
  have C0 := Aside0.mk (fun (W : World) (h : XR W (w.heap.size + 1 + 1) A c bs ⟨0, 0, 0, 0⟩) => xNum_calls 2 h)
  have C1 := Aside0.mk (fun (W : World) (h : XR W (w.heap.size + 1 + 1) A c bs r1) => xNum_calls 4 h)
  have C2 := Aside0.mk (fun (W : World) (h : XR W (w.heap.size + 1 + 1) A c bs r2) => xFix_calls 8 h)
  have C3 := Aside0.mk (fun (W : World) (h : XR W (w.heap.size + 1 + 1) A c bs r3) => xNum_calls 1 h)
  have C4 := Aside0.mk (fun (W : World) (h : XR W (w.heap.size + 1 + 1) A c bs r4) => xNum_calls 2 h)
  have C5 := Aside0.mk (fun (W : World) (h : XR W (w.heap.size + 1 + 1) A c bs r5) => xNum_calls 4 h)
  rw [e0] at C0
  rw [e1] at C1
  rw [e2] at C2
  rw [e3] at C3
  rw [e4] at C4
  rw [e5] at C5
  simp only at C0 C1 C2 C3 C4 C5
  have H0 := Aside0.mk (show OX ((((w.alloc (.cells #[.int .i64 0, .int .i64 0, .string ⟨#[]⟩, .int .i64 0, .int .i64 0, .int .i64 0] 23)).alloc (.cells #[.int .i64 0, .int .i64 0] 31)).alloc (.cells #[.slice A bs.length c, .int .i64 0, .int .i64 0, .int .i64 0, .int .i64 0] 89)).alloc (.cells #[.int .i64 0, .int .i64 0, .string ⟨#[]⟩, .int .i64 0, .int .i64 0, .int .i64 0] 23)) ((((w.alloc (.cells #[.int .i64 0, .int .i64 0, .string ⟨#[]⟩, .int .i64 0, .int .i64 0, .int .i64 0] 23)).alloc (.cells #[.int .i64 0, .int .i64 0] 31)).alloc (.cells #[.slice A bs.length c, .int .i64 0, .int .i64 0, .int .i64 0, .int .i64 0] 89)).alloc (.cells #[.int .i64 0, .int .i64 0, .string ⟨#[]⟩, .int .i64 0, .int .i64 0, .int .i64 0] 23)) (w.heap.size + 1 + 1) (w.heap.size + 1 + 1 + 1) A c bs #[.int .i64 0, .int .i64 0, .string ⟨#[]⟩, .int .i64 0, .int .i64 0, .int .i64 0] ⟨0, 0, 0, 0⟩ from ⟨⟨q8, hr.below hb4, fun ad ea hn => by have := hfar ad ea hn; omega, Nat.zero_le _, hl, hby, hc⟩, q9, Fr.refl _ _⟩)
  have HFB : Aside0 (w.heap.size + 1 + 1 + 1 ≠ w.heap.size + 1 + 1 ∧ ∀ ad, A = some ad → 0 < bs.length → ad.block ≠ w.heap.size + 1 + 1 + 1) := ⟨⟨by omega, fun ad ea hn => by have := hfar ad ea hn; omega⟩⟩
  have HNE : Aside0 (w.heap.size + 1 + 1 + 1 ≠ w.heap.size + 1 + 1) := ⟨by omega⟩
  have HQ6 := Aside0.mk q6
  have HQ7 := Aside0.mk q7
  have HB4 := Aside0.mk hb4
  clear hb4 s1 s2 s3 q6 q7 q8 q9 hfar e0 e1 e2 e3 e4 e5 hr hby
  go_enter Try.func15, Try.ntmps15
  go_upto_region 3 with (fail)
  generalize ((((w.alloc (.cells #[.int .i64 0, .int .i64 0, .string ⟨#[]⟩, .int .i64 0, .int .i64 0, .int .i64 0] 23)).alloc (.cells #[.int .i64 0, .int .i64 0] 31)).alloc (.cells #[.slice A bs.length c, .int .i64 0, .int .i64 0, .int .i64 0, .int .i64 0] 89)).alloc (.cells #[.int .i64 0, .int .i64 0, .string ⟨#[]⟩, .int .i64 0, .int .i64 0, .int .i64 0] 23)) = W4 at *
  go_upto_region 9 with (first | (go_at_call 48; (with_reducible refine (C0.out _ H0.out.xr).mono ?_); rintro e w1 ⟨rfl, x1, f1⟩; have H1 := Aside0.mk (show OX W4 (w1.setCell ⟨w.heap.size + 1 + 1 + 1, 0, none⟩ (.int .i64 n0)) (w.heap.size + 1 + 1) (w.heap.size + 1 + 1 + 1) A c bs #[.int .i64 n0, .int .i64 0, .string ⟨#[]⟩, .int .i64 0, .int .i64 0, .int .i64 0] r1 from OX.step H0.out x1 f1 0 (.int .i64 n0) HFB.out rfl); have q1 := f1.blk H0.out.blk HNE.out; have cc1 := (blk_cell q1 0).trans rfl; have zz1 := blk_frozen q1 0; clear x1 f1 q1) | (go_at_call 48; (with_reducible refine (C1.out _ H1.out.xr).mono ?_); rintro e w2 ⟨rfl, x2, f2⟩; have H2 := Aside0.mk (show OX W4 (w2.setCell ⟨w.heap.size + 1 + 1 + 1, 1, none⟩ (.int .i64 n1)) (w.heap.size + 1 + 1) (w.heap.size + 1 + 1 + 1) A c bs #[.int .i64 n0, .int .i64 n1, .string ⟨#[]⟩, .int .i64 0, .int .i64 0, .int .i64 0] r2 from OX.step H1.out x2 f2 1 (.int .i64 n1) HFB.out rfl); have q2 := f2.blk H1.out.blk HNE.out; have cc2 := (blk_cell q2 1).trans rfl; have zz2 := blk_frozen q2 1; clear x2 f2 q2) | (go_at_call 49; (with_reducible refine (C2.out _ H2.out.xr).mono ?_); rintro e w3 ⟨rfl, x3, f3⟩; have H3 := Aside0.mk (show OX W4 (w3.setCell ⟨w.heap.size + 1 + 1 + 1, 2, none⟩ (.string (strOfNums my))) (w.heap.size + 1 + 1) (w.heap.size + 1 + 1 + 1) A c bs #[.int .i64 n0, .int .i64 n1, .string (strOfNums my), .int .i64 0, .int .i64 0, .int .i64 0] r3 from OX.step H2.out x3 f3 2 (.string (strOfNums my)) HFB.out rfl); have q3 := f3.blk H2.out.blk HNE.out; have cc3 := (blk_cell q3 2).trans rfl; have zz3 := blk_frozen q3 2; clear x3 f3 q3) | (go_at_call 48; (with_reducible refine (C3.out _ H3.out.xr).mono ?_); rintro e w4 ⟨rfl, x4, f4⟩; have H4 := Aside0.mk (show OX W4 (w4.setCell ⟨w.heap.size + 1 + 1 + 1, 3, none⟩ (.int .i64 n3)) (w.heap.size + 1 + 1) (w.heap.size + 1 + 1 + 1) A c bs #[.int .i64 n0, .int .i64 n1, .string (strOfNums my), .int .i64 n3, .int .i64 0, .int .i64 0] r4 from OX.step H3.out x4 f4 3 (.int .i64 n3) HFB.out rfl); have q4 := f4.blk H3.out.blk HNE.out; have cc4 := (blk_cell q4 3).trans rfl; have zz4 := blk_frozen q4 3; clear x4 f4 q4) | (go_at_call 48; (with_reducible refine (C4.out _ H4.out.xr).mono ?_); rintro e w5 ⟨rfl, x5, f5⟩; have H5 := Aside0.mk (show OX W4 (w5.setCell ⟨w.heap.size + 1 + 1 + 1, 4, none⟩ (.int .i64 n4)) (w.heap.size + 1 + 1) (w.heap.size + 1 + 1 + 1) A c bs #[.int .i64 n0, .int .i64 n1, .string (strOfNums my), .int .i64 n3, .int .i64 n4, .int .i64 0] r5 from OX.step H4.out x5 f5 4 (.int .i64 n4) HFB.out rfl); have q5 := f5.blk H4.out.blk HNE.out; have cc5 := (blk_cell q5 4).trans rfl; have zz5 := blk_frozen q5 4; clear x5 f5 q5) | (go_at_call 48; (with_reducible refine (C5.out _ H5.out.xr).mono ?_); rintro e w6 ⟨rfl, x6, f6⟩; have H6 := Aside0.mk (show OX W4 (w6.setCell ⟨w.heap.size + 1 + 1 + 1, 5, none⟩ (.int .i64 n5)) (w.heap.size + 1 + 1) (w.heap.size + 1 + 1 + 1) A c bs #[.int .i64 n0, .int .i64 n1, .string (strOfNums my), .int .i64 n3, .int .i64 n4, .int .i64 n5] r6 from OX.step H5.out x6 f6 5 (.int .i64 n5) HFB.out rfl); have q6 := f6.blk H5.out.blk HNE.out; have cc6 := (blk_cell q6 5).trans rfl; have zz6 := blk_frozen q6 5; clear x6 f6 q6))
  generalize w6.setCell ⟨w.heap.size + 1 + 1 + 1, 5, none⟩ (.int .i64 n5) = W6 at H6 ⊢
  have v0 : _ = some (Value.int .i64 n0) := blk_cell H6.out.blk 0
  have v1 : _ = some (Value.int .i64 n1) := blk_cell H6.out.blk 1
  have v2 : _ = some (Value.string (strOfNums my)) := blk_cell H6.out.blk 2
  have v3 : _ = some (Value.int .i64 n3) := blk_cell H6.out.blk 3
  have v4 : _ = some (Value.int .i64 n4) := blk_cell H6.out.blk 4
  have v5 : _ = some (Value.int .i64 n5) := blk_cell H6.out.blk 5
  have HT := Aside0.mk (fun W => rTapRight_calls ⟨n0, n1, strOfNums my, n3, n4, n5⟩ W)
  have hrt : readTap bs = (if (r6.end_ bs.length).code = 0 then (if (Tp.right ⟨n0, n1, strOfNums my, n3, n4, n5⟩) = true then (⟨n0, n1, strOfNums my, n3, n4, n5⟩, 0, (r6.end_ bs.length).fat) else (Tp.zero, 80, -1)) else (Tp.zero, (r6.end_ bs.length).code, (r6.end_ bs.length).fat)) := by
    unfold readTap
    rw [HTP.out]
    rfl
  obtain ⟨rr, hrr⟩ : ∃ rr, (Tp.right ⟨n0, n1, strOfNums my, n3, n4, n5⟩) = rr := ⟨_, rfl⟩
  obtain ⟨⟨code, fat⟩, hec⟩ : ∃ p, endC r6 bs.length rr = p := ⟨_, rfl⟩
  have HRT0 : Aside0 (readTap bs = if code = 0 then (⟨n0, n1, strOfNums my, n3, n4, n5⟩, code, fat) else (Tp.zero, code, fat)) := ⟨by
    rw [hrt, hrr]
    unfold endC at hec
    cases rr with
    | true =>
      rw [if_neg (by simp)] at hec
      injection hec with e1 e2
      by_cases h0 : code = 0
      · rw [if_pos h0, if_pos (by rw [e1, h0]), if_pos rfl, e2, h0]
      · rw [if_neg h0, if_neg (by rw [e1]; exact h0), e1, e2]
    | false =>
      by_cases h1 : (r6.end_ bs.length).code = 0
      · rw [if_pos ⟨h1, rfl⟩] at hec
        injection hec with e1 e2
        subst e1 e2
        rw [if_pos h1]
        simp
      · rw [if_neg (fun h => h1 h.1)] at hec
        injection hec with e1 e2
        rw [if_neg h1, if_neg (by rw [← e1]; exact h1), e1, e2]⟩
  have HEC := Aside0.mk (fun (W : World) (h : XR W (w.heap.size + 1 + 1) A c bs r6) => ended_calls rr h)
  rw [hec] at HEC
  rw [hrr] at HT
  unfold Tp.val at HT
  simp only at HT HEC
  clear hrt hrr hec HTP C0 C1 C2 C3 C4 C5
  go_upto_region 10 with (first
    | (go_at_call 46; refine (HT.out _).mono ?_; rintro e w7 ⟨rfl, hb7⟩; have HB7 := Aside0.mk hb7; clear hb7)
    | (go_at_call 50; refine (HEC.out _ (H6.out.xr.below HB7.out)).mono ?_; rintro e w8 ⟨rfl, x8, f8⟩; have HF8 := Aside0.mk f8; clear x8 f8))
  have hz : w.heap.size + 1 < W4.heap.size := blk_lt HQ7.out
  have hb9 := below1 (w := w8) (.cells #[.int .i64 code, .int .i64 fat] 31)
  have old : ∀ k (cs : Array Value) (T : TypeId), k ≠ w.heap.size + 1 + 1 → k ≠ w.heap.size + 1 + 1 + 1 → W4.heap[k]? = some (.cells cs T (0, 0)) → (w8.alloc (.cells #[.int .i64 code, .int .i64 fat] 31)).heap[k]? = some (.cells cs T (0, 0)) := fun k cs T h1 h2 h3 => blk_b (HF8.out.blk (blk_b (H6.out.fr.blk h3 (fun h => h.elim h1 h2)) HB7.out) h1) hb9
  have HG := Aside0.mk (And.intro (old _ _ _ (by omega) (by omega) HQ6.out) (And.intro (old _ _ _ (by omega) (by omega) HQ7.out) (And.intro (blk_b (HF8.out.blk (blk_b H6.out.blk HB7.out) HNE.out) hb9) (heap_alloc_new w8 (.cells #[.int .i64 code, .int .i64 fat] 31)))))
  have HW9 := Aside0.mk (show Below w.heap.size w (w8.alloc (.cells #[.int .i64 code, .int .i64 fat] 31)) from by
    have h1 := HB4.out.size
    have h2 := H6.out.fr.size
    have h3 := HB7.out.size
    have h4 := HF8.out.size
    exact below_alloc (((HB4.out.trans (H6.out.fr.below h1 (fun i hi => by rcases hi with e | e <;> omega))).trans ⟨HB7.out.os, HB7.out.tape, HB7.out.output, HB7.out.size, fun i hi => HB7.out.block i (by omega)⟩).trans (HF8.out.below (by omega) (fun i hi => by omega))) _)
  have hgf : w.heap.size + 1 + 1 + 1 < w8.heap.size := by
    have h1 := blk_lt H0.out.blk
    have h2 := H6.out.fr.size
    have h3 := HB7.out.size
    have h4 := HF8.out.size
    omega
  clear old hb9 hz v0 v1 v2 v3 v4 v5 H0 H1 H2 H3 H4 H5 H6 HF8 HB7 HQ6 HQ7 HB4
  generalize w8.alloc (.cells #[.int .i64 code, .int .i64 fat] 31) = w9 at *
  generalize w8.heap.size = gf at *
  have f0 : _ = some (Value.int .i64 code) := blk_cell HG.out.2.2.2 0
  have f1 : _ = some (Value.int .i64 fat) := blk_cell HG.out.2.2.2 1
  by_cases hc0 : code = 0
  case neg =>
    have hcn : (code != 0) = true := bne_iff_ne.2 hc0
    have HRT : Aside0 (readTap bs = (Tp.zero, code, fat)) := ⟨by rw [HRT0.out, if_neg hc0]⟩
    clear HRT0 hc0
    go_wp2
    have p0 : _ = some (Value.int .i64 0) := blk_cell HG.out.1 0
    have z0 := blk_frozen HG.out.1 0
    have p1 : _ = some (Value.int .i64 0) := blk_cell HG.out.1 1
    have z1 := blk_frozen HG.out.1 1
    have p2 : _ = some (Value.string ⟨#[]⟩) := blk_cell HG.out.1 2
    have z2 := blk_frozen HG.out.1 2
    have p3 : _ = some (Value.int .i64 0) := blk_cell HG.out.1 3
    have z3 := blk_frozen HG.out.1 3
    have p4 : _ = some (Value.int .i64 0) := blk_cell HG.out.1 4
    have z4 := blk_frozen HG.out.1 4
    have p5 : _ = some (Value.int .i64 0) := blk_cell HG.out.1 5
    have z5 := blk_frozen HG.out.1 5
    have t0 : _ = some (Value.int .i64 0) := blk_cell HG.out.2.1 0
    have y0 := blk_frozen HG.out.2.1 0
    have t1 : _ = some (Value.int .i64 0) := blk_cell HG.out.2.1 1
    have y1 := blk_frozen HG.out.2.1 1
    go_region
    generalize hWE : World.drew _ = WE
    obtain ⟨k0, k1, k2, k3, k4, k5, l0, l1, hbl⟩ := fin8 HG.out.1 HG.out.2.1 HW9.out (Nat.le_refl _) 0 0 ⟨#[]⟩ 0 0 0 code fat hWE.symm
    clear hWE
    go_wp2
    refine bodyPost_ret (v := .tuple #[.agg #[.int .i64 0, .int .i64 0, .string ⟨#[]⟩, .int .i64 0, .int .i64 0, .int .i64 0], .agg #[.int .i64 code, .int .i64 fat]]) (by simp [results, Try.results15, go_sem, k0, k1, k2, k3, k4, k5, l0, l1]) rfl ?_
    unfold TKPost
    rw [HRT.out]
    exact ⟨rfl, hbl⟩
  case pos =>
    subst hc0
    have HRT : Aside0 (readTap bs = (⟨n0, n1, strOfNums my, n3, n4, n5⟩, 0, fat)) := ⟨by rw [HRT0.out, if_pos rfl]⟩
    clear HRT0
    have v0 : _ = some (Value.int .i64 n0) := blk_cell HG.out.2.2.1 0
    have v1 : _ = some (Value.int .i64 n1) := blk_cell HG.out.2.2.1 1
    have v2 : _ = some (Value.string (strOfNums my)) := blk_cell HG.out.2.2.1 2
    have v3 : _ = some (Value.int .i64 n3) := blk_cell HG.out.2.2.1 3
    have v4 : _ = some (Value.int .i64 n4) := blk_cell HG.out.2.2.1 4
    have v5 : _ = some (Value.int .i64 n5) := blk_cell HG.out.2.2.1 5
    go_wp2
    have p0 : _ = some (Value.int .i64 0) := blk_cell HG.out.1 0
    have z0 := blk_frozen HG.out.1 0
    have p1 : _ = some (Value.int .i64 0) := blk_cell HG.out.1 1
    have z1 := blk_frozen HG.out.1 1
    have p2 : _ = some (Value.string ⟨#[]⟩) := blk_cell HG.out.1 2
    have z2 := blk_frozen HG.out.1 2
    have p3 : _ = some (Value.int .i64 0) := blk_cell HG.out.1 3
    have z3 := blk_frozen HG.out.1 3
    have p4 : _ = some (Value.int .i64 0) := blk_cell HG.out.1 4
    have z4 := blk_frozen HG.out.1 4
    have p5 : _ = some (Value.int .i64 0) := blk_cell HG.out.1 5
    have z5 := blk_frozen HG.out.1 5
    have t0 : _ = some (Value.int .i64 0) := blk_cell HG.out.2.1 0
    have y0 := blk_frozen HG.out.2.1 0
    have t1 : _ = some (Value.int .i64 0) := blk_cell HG.out.2.1 1
    have y1 := blk_frozen HG.out.2.1 1
    go_region
    generalize hWE : World.drew _ = WE
    obtain ⟨k0, k1, k2, k3, k4, k5, l0, l1, hbl⟩ := fin8 HG.out.1 HG.out.2.1 HW9.out (Nat.le_refl _) n0 n1 (strOfNums my) n3 n4 n5 0 fat hWE.symm
    clear hWE
    go_wp2
    refine bodyPost_ret (v := .tuple #[.agg #[.int .i64 n0, .int .i64 n1, .string (strOfNums my), .int .i64 n3, .int .i64 n4, .int .i64 n5], .agg #[.int .i64 0, .int .i64 fat]]) (by simp [results, Try.results15, go_sem, k0, k1, k2, k3, k4, k5, l0, l1]) rfl ?_
    unfold TKPost
    rw [HRT.out]
    exact ⟨rfl, hbl⟩
end Go.Proofs.Ytgmbfecfkdbfaaa.Wi
/- The record laws' small functions: same, lent. -/
set_option linter.unusedVariables false
set_option linter.unusedSimpArgs false
namespace Go.Proofs.Ytgmbfecfkdbfaaa.Wi
open Go Go.RowKit Go.Proofs.YtgmbfecfkdbfaaaW.PrintWords
set_option maxHeartbeats 1600000 in
set_option maxRecDepth 100000 in
theorem same_eq (A A' : Option Addr) (c c' : Nat) (xs : List Int) (w : World) (h : ReadsInt w .u8 A xs.length xs) (h' : ReadsInt w .u8 A' xs.length xs) : Calls Try.prog 16 #[.slice A xs.length c, .slice A' xs.length c'] w fun e w' => e = .returned (.bool true) ∧ w = w' := by
  have k1 := string_of_reads (P := Try.prog) (c := c) Try.underlying24 Try.underlying5 Try.underlying9 h
  have k2 := string_of_reads (P := Try.prog) (c := c') Try.underlying24 Try.underlying5 Try.underlying9 h'
  clear h h'
  go_enter Try.func16, Try.ntmps16
  go_wp2
  go_ret
  exact ⟨by first | rfl | (simp; done), rfl⟩
theorem own_shape8 {W : World} {n : Nat} {B : Nat} {e : TypeId} {A : Option Addr} {c : Nat} {xs : List Value} (h : W.ownsRow B e 1 (.slice A n c) n xs) : A = none ∧ n = 0 ∨ ∃ b, A = some ⟨b, 0, none⟩ := by
  rcases h.2 with ⟨h1, h2⟩ | ⟨gb, cap, cur, h1, _⟩
  · injection h1 with h1 _ _
    exact .inl ⟨h1, h2⟩
  · injection h1 with h1 _ _
    exact .inr ⟨gb, h1⟩
/-- what lent hands back: a row of its own with two marks behind -/
def Lent8Post (bs : List Int) (w : World) (e : Ending) (w' : World) : Prop :=
  ∃ gl c, e = .returned (.slice (some ⟨gl, 0, none⟩) bs.length c) ∧ bs.length + 2 ≤ c ∧ w'.ownsRow w.heap.size 5 1 (.slice (some ⟨gl, 0, none⟩) (bs.length + 2) c) (bs.length + 2) (nums .u8 (bs ++ [171, 172])) ∧ w.heap.size ≤ gl ∧ Below w.heap.size w w'
theorem reads_two (W : World) (x y : Int) : ReadsInt (W.alloc (.cells #[.int .u8 x, .int .u8 y] 5)) .u8 (some ⟨W.heap.size, 0, none⟩) 2 [x, y] := by
  have ho := own_lit W W.heap.size 5 .u8 [x, y] (Nat.le_refl _) (by simp)
  obtain ⟨A, c, h1, _, h2⟩ := own_reads' ho
  injection h1 with h1 _ _
  subst h1
  exact h2
set_option maxHeartbeats 3200000 in
set_option maxRecDepth 100000 in
theorem lent8_calls (A : Option Addr) (c : Nat) (bs : List Int) (w : World) (hr : ReadsInt w .u8 A bs.length bs) (hc : bs.length ≤ c) (hl : bs.length ≤ 140737488351232) :
    Calls Try.prog 12 #[.slice A bs.length c] w (Lent8Post bs w) := by
  obtain ⟨ti, hti, hte⟩ := Option.map_eq_some_iff.1 info_u8
  simp only [Prod.mk.injEq] at hte
  obtain ⟨z1, z2, z3⟩ := hte
  have hmk : ∀ W : World, (Instr.makeSlice 24 (.int .i64 0) (.int .i64 ((bs.length : Int) + 2))).run Try.prog W = .ok (.slice (some ⟨W.heap.size, 0, none⟩) 0 (bs.length + 2)) (W.alloc (.cells (madeCells (Value.int .u8 0).cells ((bs.length + 2) * ti.size)) 5)) := fun W => by
    have h := run_make (P := Try.prog) W 24 5 ti (.int .u8 0) Try.underlying24 hti z1 .i64 .i64 0 ((bs.length : Int) + 2) (by omega) (by omega) (by rw [z3]; omega) (by omega)
    have e1 : ((bs.length : Int) + 2).toNat = bs.length + 2 := by omega
    rw [e1] at h
    exact h
  have HO := Aside0.mk (World.ownsRow_made (base := w.heap.size) (e := 5) (size := 1) w (madeCells (Value.int .u8 0).cells ((bs.length + 2) * ti.size)) (bs.length + 2) (Nat.le_refl _) (by simp only [maxLen]; omega) (by rw [size_madeCells, z2]))
  have HB := Aside0.mk (below1 (w := w) (.cells (madeCells (Value.int .u8 0).cells ((bs.length + 2) * ti.size)) 5))
  have HR := Aside0.mk (hr.below HB.out)
  have HTI := Aside0.mk (And.intro hti z2)
  clear hr hti z1 z2 z3
  generalize madeCells (Value.int .u8 0).cells ((bs.length + 2) * ti.size) = mc at *
  go_enter Try.func12, Try.ntmps12
  go_upto_region 2 with (at_builtin; refine wpList_append_row w.heap.size rfl (.tmp 7) (.tmp 8) 24 5 .u8 1 rfl Try.underlying24 info_u8 (by decide) (.slice (some ⟨w.heap.size, 0, none⟩) 0 (bs.length + 2)) 0 [] bs A bs.length c (by rfl) (by rfl) HO.out HR.out HB.out.size (by omega) ?_; intro v1 w1 ho1 hg1 _; simp only [Nat.zero_add, List.nil_append] at ho1; have HO1 := Aside0.mk ho1; have HB1 := Aside0.mk (HB.out.grown hg1 HB.out.size (own_base HO.out)); obtain ⟨A1, c1, rfl⟩ := own_slice ho1; clear ho1 hg1)
  have HOA := Aside0.mk ((Fr.of_below (S := fun _ => False) (below1 (w := w1) (.cells #[.int .u8 171, .int .u8 172] 5))).own HO1.out (fun _ _ h => h))
  have HBA := Aside0.mk (below_alloc HB1.out (.cells #[.int .u8 171, .int .u8 172] 5))
  go_wp2_with (at_builtin; refine wpList_append_row w.heap.size rfl (.tmp 10) (.tmp 11) 24 5 .u8 1 rfl Try.underlying24 info_u8 (by decide) (.slice A1 bs.length c1) bs.length bs [171, 172] (some ⟨w1.heap.size, 0, none⟩) 2 2 (by rfl) (by rfl) HOA.out (reads_two w1 171 172) HBA.out.size (by omega) ?_; intro v2 w2 ho2 hg2 _; have HO2 := Aside0.mk ho2; have HB2 := Aside0.mk (HBA.out.grown hg2 HBA.out.size (own_base HOA.out)); obtain ⟨A2, c2, m2, hv2, hc2, _⟩ := own_reads'' ho2; subst hv2; obtain ⟨hsl, _, _⟩ := print_take_int (P := Try.prog) (k := .u8) 24 5 Try.underlying24 HTI.out.1 HTI.out.2 A2 c2 (bs ++ [171, 172]) (bs.length : Int) (by omega) (by rw [List.length_append]; omega) (by rw [List.length_append]; exact hc2); have hxl : ((bs ++ [(171 : Int), 172]).take bs.length).length = bs.length := (by rw [List.length_take, List.length_append]; omega); have hll : (bs ++ [(171 : Int), 172]).length = bs.length + 2 := (by rw [List.length_append]; rfl); simp only [Int.toNat_natCast, hxl, hll] at hsl; have HC2 := Aside0.mk hc2; clear ho2 hg2 hxl hll hc2)
  go_ret
  rcases own_shape8 HO2.out with ⟨_, h⟩ | ⟨gl, rfl⟩
  · omega
  · exact ⟨gl, c2, rfl, HC2.out, HO2.out, own_base HO2.out gl rfl, HB2.out⟩
end Go.Proofs.Ytgmbfecfkdbfaaa.Wi
/- The record laws' kept and owned. -/
set_option linter.unusedVariables false
set_option linter.unusedSimpArgs false
namespace Go.Proofs.Ytgmbfecfkdbfaaa.Wi
open Go Go.RowKit Go.Proofs.YtgmbfecfkdbfaaaW.PrintWords
set_option maxHeartbeats 3200000 in
set_option maxRecDepth 100000 in
theorem kept_calls (A : Option Addr) (cA c : Nat) (bs : List Int) (B gl : Nat) (w : World) (hr : ReadsInt w .u8 A bs.length bs) (hl : bs.length ≤ 140737488351232) (hc : bs.length + 2 ≤ c)
    (ho : w.ownsRow B 5 1 (.slice (some ⟨gl, 0, none⟩) (bs.length + 2) c) (bs.length + 2) (nums .u8 (bs ++ [171, 172]))) :
    Calls Try.prog 14 #[.slice (some ⟨gl, 0, none⟩) bs.length c, .slice A bs.length cA] w fun e w' => e = .returned (.bool true) ∧ Fr (fun i => i = gl) w w' := by
  have HO := Aside0.mk ho
  obtain ⟨ti, hti, hte⟩ : ∃ i, Try.prog.info? 5 = some i ∧ i.size = 1 := by
    obtain ⟨i, h1, h2⟩ := Option.map_eq_some_iff.1 info_u8
    injection h2 with _ h2
    injection h2 with h2 _
    exact ⟨i, h1, h2⟩
  have hxl : ((bs ++ [(171 : Int), 172]).take bs.length) = bs := by simp
  have hll : (bs ++ [(171 : Int), 172]).length = bs.length + 2 := by rw [List.length_append]; rfl
  have hsl : ∀ W : World, (Instr.slice 24 (.slice (some ⟨gl, 0, none⟩) bs.length c) none (some (.int .i64 ((bs.length : Int) + 2))) none).run Try.prog W = .ok (.slice (some ⟨gl, 0, none⟩) (bs.length + 2) c) W := fun W => by
    have hel : Try.prog.elem 24 = 5 := by simp [Program.elem, Try.underlying24]
    have hu : Try.prog.underlying 24 = some (.slice (Try.prog.elem 24)) := by rw [hel]; exact Try.underlying24
    rw [run_slice_h W 24 (some ⟨gl, 0, none⟩) bs.length c hu .i64 ((bs.length : Int) + 2) (by omega) (by omega), hel]
    simp [sizeOf, typeInfo, hti, hte, sliced, Result.andThen, Addr.add]
    omega
  obtain ⟨hsl2, hrt, _⟩ := print_take_int (P := Try.prog) (k := .u8) 24 5 Try.underlying24 hti hte (some ⟨gl, 0, none⟩) c (bs ++ [171, 172]) (bs.length : Int) (by omega) (by rw [hll]; omega) (by rw [hll]; exact hc)
  simp only [Int.toNat_natCast, hxl, hll] at hsl2 hrt
  have HRL := Aside0.mk (show ReadsInt w .u8 (some ⟨gl, 0, none⟩) bs.length bs from by
    obtain ⟨A', c', h1, _, h2⟩ := own_reads' ho
    injection h1 with h1 _ _
    subst h1
    exact hrt w h2)
  have HS := Aside0.mk (same_eq (some ⟨gl, 0, none⟩) A c cA bs w HRL.out hr)
  have h171 := own_at ho (bs.length : Int) (by omega) (by omega)
  have h172 := own_at ho ((bs.length : Int) + 1) (by omega) (by omega)
  have r1 : rd (bs ++ [(171 : Int), 172]) (bs.length : Int) = 171 := by simp [rd, List.getD]
  have e1 : ((bs.length : Int) + 1).toNat = bs.length + 1 := by omega
  have r2 : rd (bs ++ [(171 : Int), 172]) ((bs.length : Int) + 1) = 172 := by
    unfold rd
    rw [e1]
    simp [List.getD]
  rw [r1, Int.toNat_natCast] at h171
  rw [r2, e1] at h172
  obtain ⟨m1, _⟩ := h171
  obtain ⟨m2, _⟩ := h172
  clear hr ho hti hte hxl hll hrt r1 r2 e1
  go_enter Try.func14, Try.ntmps14
  go_wp2_with (go_at_call 16; refine HS.out.mono ?_; rintro e w1 ⟨rfl, rfl⟩)
  clear m1 m2 hsl hsl2 HS HRL
  go_loopg [7] (bs.length + 2) (fun gg s7 wr => ∃ (i : Nat) (xs : List Int), i ≤ bs.length + 2 ∧ bs.length + 2 - i ≤ gg ∧ s7 = .int .i64 i ∧ Aside0 (wr.ownsRow B 5 1 (.slice (some ⟨gl, 0, none⟩) (bs.length + 2) c) (bs.length + 2) (nums .u8 xs)) ∧ Aside0 (Fr (fun i => i = gl) w wr))
  case atStart => exact ⟨0, _, by omega, by omega, rfl, HO, ⟨Fr.refl _ _⟩⟩
  case round =>
    obtain ⟨i, xs, hi, hg, rfl, HO1, HF⟩ := hrel
    clear HO
    by_cases hlt : i < bs.length + 2
    · have hltz : (i : Int) < (bs.length : Int) + 2 := by omega
      have HA := own_at HO1.out (i : Int) (by omega) (by omega)
      simp only [Int.toNat_natCast] at HA
      obtain ⟨cc, cf⟩ := HA
      have hst := own_store HO1.out (i : Int) 99
      simp only [Int.toNat_natCast] at hst
      have HST := Aside0.mk hst
      have HFR := Aside0.mk (HF.out.set_ (p := ⟨gl, i, none⟩) (.inl rfl) (.int .u8 99))
      clear hst
      go_wp2
      go_roundg (bs.length + 2 - (i + 1))
      case measure => omega
      case rel => exact ⟨i + 1, _, by omega, by omega, by go_num, ⟨HST.out.1⟩, ⟨HFR.out⟩⟩
    · have hltz : ¬ (i : Int) < (bs.length : Int) + 2 := by omega
      go_wp2
      go_ret
      exact ⟨rfl, HF.out⟩
end Go.Proofs.Ytgmbfecfkdbfaaa.Wi
/- The record laws' owned. -/
set_option linter.unusedVariables false
set_option linter.unusedSimpArgs false
namespace Go.Proofs.Ytgmbfecfkdbfaaa.Wi
open Go Go.RowKit Go.Proofs.YtgmbfecfkdbfaaaW.PrintWords
theorem own_keepk {W W' : World} {B : Nat} {e : TypeId} {v : Value} {n : Nat} {xs : List Value} (h : W.ownsRow B e 1 v n xs) (hk : ∀ k, v.ownBlock = some k → W'.heap[k]? = W.heap[k]?) : W'.ownsRow B e 1 v n xs := by
  refine ⟨h.1, ?_⟩
  rcases h.2 with h2 | ⟨gb, cap, cur, rfl, h1, h2, h3⟩
  · exact .inl h2
  · exact .inr ⟨gb, cap, cur, rfl, h1, (hk gb rfl).trans h2, h3⟩
set_option maxHeartbeats 3200000 in
set_option maxRecDepth 100000 in
theorem owned8_calls (A A' : Option Addr) (c c' n n' : Nat) (xs ys : List Int) (B : Nat) (w : World) (hB : B ≤ w.heap.size) (hn : n ≤ 1000000) (h1 : w.ownsRow B 5 1 (.slice A n c) n (nums .u8 xs)) (h2 : w.ownsRow B 5 1 (.slice A' n' c') n' (nums .u8 ys)) (hd : ∀ k, (Value.slice A n c).ownBlock = some k → (Value.slice A' n' c').ownBlock ≠ some k) :
    Calls Try.prog 17 #[.slice A n c, .slice A' n' c'] w fun e w' => e = .returned (.bool true) ∧ Fr (fun i => (Value.slice A n c).ownBlock = some i) w w' := by
  have H1 := Aside0.mk h1
  have H2 := Aside0.mk h2
  have HD := Aside0.mk hd
  have HBS := Aside0.mk hB
  have rd2 : ∀ W : World, W.ownsRow B 5 1 (.slice A' n' c') n' (nums .u8 ys) → ReadsInt W .u8 A' n' ys := fun W h => by
    obtain ⟨A2, c2, e, _, hr⟩ := own_reads' h
    injection e with e1 _ _
    subst e1
    exact hr
  have HRD := Aside0.mk rd2
  have k0 := string_of_reads (P := Try.prog) (c := c') Try.underlying24 Try.underlying5 Try.underlying9 (rd2 w h2)
  clear h1 h2 hd rd2 hB
  go_enter Try.func17, Try.ntmps17
  go_wp2
  clear k0
  go_loopg [6] n (fun gg s6 wr => ∃ (i : Nat) (zs : List Int), i ≤ n ∧ n - i ≤ gg ∧ s6 = .int .i64 i ∧ Aside0 (wr.ownsRow B 5 1 (.slice A n c) n (nums .u8 zs)) ∧ Aside0 (Fr (fun i => (Value.slice A n c).ownBlock = some i) w wr))
  case atStart => exact ⟨0, _, by omega, by omega, rfl, H1, ⟨Fr.refl _ _⟩⟩
  case round =>
    obtain ⟨i, zs, hi, hg, rfl, HO1, HF⟩ := hrel
    clear H1
    by_cases hlt : i < n
    · have hltz : (i : Int) < (n : Int) := by omega
      obtain ⟨b, rfl⟩ : ∃ b, A = some ⟨b, 0, none⟩ := by
        rcases own_shape8 HO1.out with ⟨_, h⟩ | h
        · omega
        · exact h
      have HA := own_at HO1.out (i : Int) (by omega) hltz
      simp only [Int.toNat_natCast] at HA
      obtain ⟨cc, cf⟩ := HA
      have HST := Aside0.mk (fun x : Int => own_store HO1.out (i : Int) x)
      simp only [Int.toNat_natCast] at HST
      have HFR := Aside0.mk (fun x : Int => HF.out.set_ (p := ⟨b, i, none⟩) (.inl rfl) (.int .u8 x))
      go_wp2
      go_roundg (n - (i + 1))
      case measure => omega
      case rel => exact ⟨i + 1, _, by omega, by omega, by go_num, ⟨(HST.out _).1⟩, ⟨HFR.out _⟩⟩
    · have hltz : ¬ (i : Int) < (n : Int) := by omega
      have HB1 := Aside0.mk (show B ≤ wr.heap.size from Nat.le_trans HBS.out HF.out.size)
      have HOA := Aside0.mk ((Fr.of_below (S := fun _ => False) (below1 (w := wr) (.cells #[.int .u8 1, .int .u8 2] 5))).own HO1.out (fun _ _ h => h))
      go_wp2_with (at_builtin; refine wpList_append_row B rfl (.tmp 23) (.tmp 24) 24 5 .u8 1 rfl Try.underlying24 info_u8 (by decide) (.slice A n c) n zs [1, 2] (some ⟨wr.heap.size, 0, none⟩) 2 2 (by rfl) (by rfl) HOA.out (reads_two wr 1 2) (Nat.le_trans HB1.out (below1 _).size) (by omega) ?_; intro v2 w2 ho2 hg2 _; have HF2 := Aside0.mk ((HF.out.then_below (below1 (.cells #[.int .u8 1, .int .u8 2] 5))).grown hg2 (fun k hk => .inl hk)); obtain ⟨A2, c2, hv2⟩ := own_slice ho2; subst hv2; have h22 := HRD.out w2 (own_keepk H2.out (fun k hk => HF2.out.block k (own_lt H2.out k hk) (fun e => HD.out k e hk))); have k2 := string_of_reads (P := Try.prog) (c := c') Try.underlying24 Try.underlying5 Try.underlying9 h22; clear ho2 hg2 h22)
      go_ret
      exact ⟨by first | rfl | (simp; done) | (simp; omega), HF2.out⟩
end Go.Proofs.Ytgmbfecfkdbfaaa.Wi
/- The record laws' awake. -/
set_option linter.unusedVariables false
set_option linter.unusedSimpArgs false
namespace Go.Proofs.Ytgmbfecfkdbfaaa.Wi
open Go Go.RowKit Go.Proofs.YtgmbfecfkdbfaaaW.PrintWords
def tx : Tp := ⟨1, 2, ⟨#[97, 98, 99, 100, 101, 102, 103, 104]⟩, 1, 258, 5⟩
def tx4 : Tp := ⟨1, 2, ⟨#[97, 98, 99, 100, 101, 102, 103, 104]⟩, 4, 258, 5⟩
def bx : List Int := [0, 1, 0, 0, 0, 2, 97, 98, 99, 100, 101, 102, 103, 104, 1, 1, 2, 0, 0, 0, 5]
theorem tx_out : tx.out = bx := rfl
theorem tx_err : tx.err = 0 := rfl
theorem tx4_out : tx4.out = [] := rfl
theorem tx4_err : tx4.err = 80 := rfl
theorem bx_tap : readTap bx = (tx, 0, 0) := rfl
theorem tx_ok : tx.Ok := ⟨by constructor <;> decide, by constructor <;> decide, by decide, by constructor <;> decide, by constructor <;> decide, by constructor <;> decide⟩
theorem tx4_ok : tx4.Ok := ⟨by constructor <;> decide, by constructor <;> decide, by decide, by constructor <;> decide, by constructor <;> decide, by constructor <;> decide⟩
theorem bx_bytes : Bytes bx := by unfold bx Bytes; decide
set_option maxHeartbeats 8000000 in
set_option maxRecDepth 100000 in
theorem awake8_calls (w : World) : Calls Try.prog 9 #[] w fun e w' => e = .returned (.bool true) ∧ Below w.heap.size w w' := by
  have CT := Aside0.mk (fun W => recTap_calls tx tx_ok W)
  have CT4 := Aside0.mk (fun W => recTap_calls tx4 tx4_ok W)
  have CR := Aside0.mk (fun (A : Option Addr) (c : Nat) (W : World) (h : ReadsInt W .u8 A bx.length bx) => recReadTap_calls A c bx W h bx_bytes (by decide))
  unfold RTPost at CT CT4
  unfold TKPost at CR
  simp only [tx_out, tx_err] at CT
  simp only [tx4_out, tx4_err] at CT4
  simp only [bx_tap] at CR
  unfold tx Tp.val at CT
  unfold tx4 Tp.val at CT4
  unfold tx Tp.val at CR
  simp only at CT CT4 CR
  have hbl : bx.length = 21 := rfl
  simp only [hbl] at CT CR
  have HX1 : Aside0 (rd bx 1 = 1 ∧ rd bx 16 = 2) := ⟨⟨rfl, rfl⟩⟩
  generalize bx = bb at *
  clear hbl
  go_enter Try.func9, Try.ntmps9
  go_upto_region 3 with (go_at_call 10; refine (CT.out _).mono ?_; rintro e w1 ⟨v, rfl, ho, hb1⟩; obtain ⟨A, c, m, hv, _, hr⟩ := own_reads'' ho; subst hv; have HR := Aside0.mk hr; have HB1 := Aside0.mk hb1; clear ho hr hb1)
  have HQ1 := Aside0.mk (blk_b (heap_alloc_new w (.cells #[.int .i64 1, .int .i64 2, .string ⟨#[97, 98, 99, 100, 101, 102, 103, 104]⟩, .int .i64 1, .int .i64 258, .int .i64 5] 23)) HB1.out)
  have HW1 := Aside0.mk (show Below w.heap.size w w1 from below_then (below1 (.cells #[.int .i64 1, .int .i64 2, .string ⟨#[97, 98, 99, 100, 101, 102, 103, 104]⟩, .int .i64 1, .int .i64 258, .int .i64 5] 23)) (below1 (.cells #[.int .i64 1, .int .i64 2, .string ⟨#[97, 98, 99, 100, 101, 102, 103, 104]⟩, .int .i64 1, .int .i64 258, .int .i64 5] 23)).size HB1.out)
  clear HB1
  go_upto_region 4 with (go_at_call 13; refine (CR.out A c _ HR.out).mono ?_; rintro e w2 ⟨rfl, hb2⟩; have HB2 := Aside0.mk hb2; clear hb2)
  have hb3 := below2 (w := w2) (.cells #[.int .i64 1, .int .i64 2, .string ⟨#[97, 98, 99, 100, 101, 102, 103, 104]⟩, .int .i64 1, .int .i64 258, .int .i64 5] 23) (.cells #[.int .i64 0, .int .i64 0] 31)
  have HQ3 := Aside0.mk (blk_b (blk_b HQ1.out HB2.out) hb3)
  have HW3 := Aside0.mk (below_then (below_then HW1.out HW1.out.size HB2.out) (Nat.le_trans HW1.out.size HB2.out.size) hb3)
  have HR3 := Aside0.mk ((HR.out.below HB2.out).below hb3)
  have HU3 := Aside0.mk (two_0 w2 (.cells #[.int .i64 1, .int .i64 2, .string ⟨#[97, 98, 99, 100, 101, 102, 103, 104]⟩, .int .i64 1, .int .i64 258, .int .i64 5] 23) (.cells #[.int .i64 0, .int .i64 0] 31))
  have HF3 := Aside0.mk (two_1 w2 (.cells #[.int .i64 1, .int .i64 2, .string ⟨#[97, 98, 99, 100, 101, 102, 103, 104]⟩, .int .i64 1, .int .i64 258, .int .i64 5] 23) (.cells #[.int .i64 0, .int .i64 0] 31))
  have hlt : w.heap.size < w2.heap.size := blk_lt (blk_b HQ1.out HB2.out)
  clear hb3 HQ1 HW1 HB2 HR CT CR
  generalize (w2.alloc (.cells #[.int .i64 1, .int .i64 2, .string ⟨#[97, 98, 99, 100, 101, 102, 103, 104]⟩, .int .i64 1, .int .i64 258, .int .i64 5] 23)).alloc (.cells #[.int .i64 0, .int .i64 0] 31) = w3 at *
  obtain ⟨gu, hgu⟩ : ∃ gu, w2.heap.size = gu := ⟨_, rfl⟩
  rw [hgu] at HU3 HF3 hlt
  rw [show (some (⟨w2.heap.size, 0, none⟩ : Addr)) = some ⟨gu, 0, none⟩ by rw [hgu], show (some (⟨w2.heap.size + 1, 0, none⟩ : Addr)) = some ⟨gu + 1, 0, none⟩ by rw [hgu]]
  clear hgu
  have t0 : _ = some (Value.int .i64 1) := blk_cell HQ3.out 0
  have t1 : _ = some (Value.int .i64 2) := blk_cell HQ3.out 1
  have t2 : _ = some (Value.string ⟨#[97, 98, 99, 100, 101, 102, 103, 104]⟩) := blk_cell HQ3.out 2
  have t3 : _ = some (Value.int .i64 1) := blk_cell HQ3.out 3
  have t4 : _ = some (Value.int .i64 258) := blk_cell HQ3.out 4
  have t5 : _ = some (Value.int .i64 5) := blk_cell HQ3.out 5
  have z3 := blk_frozen HQ3.out 3
  have HW4 := Aside0.mk (HW3.out.setCell (p := ⟨w.heap.size, 3, none⟩) (Nat.le_refl _) (.int .i64 4))
  have HU4 := Aside0.mk (blk_far HU3.out (p := ⟨w.heap.size, 3, none⟩) (by show gu ≠ w.heap.size; omega) (.int .i64 4))
  have HF4 := Aside0.mk (blk_far HF3.out (p := ⟨w.heap.size, 3, none⟩) (by show gu + 1 ≠ w.heap.size; omega) (.int .i64 4))
  have HR4 := Aside0.mk (show ReadsInt (w3.setCell ⟨w.heap.size, 3, none⟩ (.int .i64 4)) .u8 A 21 bb from HR3.out.keep ((KeepBut.refl w3 w.heap.size none).set_ 3 _) (fun ad ea hn e => by
    obtain ⟨ad', e', hc⟩ := HR3.out.2.2 hn
    rw [ea] at e'
    obtain rfl := Option.some.inj e'
    have h := hc 0 hn
    have hbk : (ad.add 0).block = w.heap.size := by rw [add_block]; exact e
    unfold World.cell? at h
    rw [hbk, HQ3.out] at h
    simp only at h
    split at h
    · cases h
    generalize (ad.add 0).off = o at h
    match o, h with
    | 0, h => cases h
    | 1, h => cases h
    | 2, h => cases h
    | 3, h => cases h
    | 4, h => cases h
    | 5, h => cases h
    | n + 6, h => simp at h))
  go_upto_region 6 with (go_at_call 10; refine (CT4.out _).mono ?_; rintro e w5 ⟨v5, rfl, ho5, hb5⟩; have HB5 := Aside0.mk hb5; clear ho5 hb5)
  have u4 : _ = some (Value.int .i64 258) := blk_cell (blk_b HU4.out HB5.out) 4
  have f0 : _ = some (Value.int .i64 0) := blk_cell (blk_b HF4.out HB5.out) 0
  have f1 : _ = some (Value.int .i64 0) := blk_cell (blk_b HF4.out HB5.out) 1
  obtain ⟨ad, rfl, c1⟩ := (HR4.out.below HB5.out).at_ 1 (by omega) (by omega)
  obtain ⟨ad', e', c16⟩ := (HR4.out.below HB5.out).at_ 16 (by omega) (by omega)
  obtain rfl := Option.some.inj e'
  rw [HX1.out.1] at c1
  rw [HX1.out.2] at c16
  have c1' : w5.cell? ⟨ad.block, ad.off + 1, none⟩ = some (Value.int .u8 1) := by simpa [Addr.add] using c1
  have c16' : w5.cell? ⟨ad.block, ad.off + 16, none⟩ = some (Value.int .u8 2) := by simpa [Addr.add] using c16
  clear c1 c16
  have HW5 := Aside0.mk (below_then HW4.out HW4.out.size HB5.out)
  clear t0 t1 t2 t3 t4 t5 z3 HW4 HU4 HF4 HR4 HR3 HB5 HQ3 HW3 HU3 HF3 CT4 HX1 e'
  go_wp2
  go_ret
  exact ⟨by first | rfl | (simp; done), HW5.out⟩
end Go.Proofs.Ytgmbfecfkdbfaaa.Wi
/- A record's pieces: any number, a truth; numbers by twos, threes and fours: both ways. -/
set_option linter.unusedVariables false
set_option linter.unusedSimpArgs false
namespace Go.Proofs.Ytgmbfecfkdbfaaa.Wi
open Go Go.RowKit Go.Proofs.YtgmbfecfkdbfaaaW.PrintWords
section
variable {w : World} {B g : Nat} {ro : Option Nat} {s : WS} {bs : List Int} {r : RS}
set_option maxHeartbeats 3200000 in
set_option maxRecDepth 100000 in
theorem whole_w (bt o : Nat) (n : Int) (hp : w.cell? ⟨bt, o, none⟩ = some (.int .i64 n)) (hbg : bt ≠ g) (hbr : ro ≠ some bt) (hw : Wr w B g ro s) (hB : B ≤ w.heap.size) (hl : (s.put (pInt n)).xs.length ≤ 140737488355328) :
    Calls Try.prog 113 #[.agg #[.pointer (some ⟨g, 0, none⟩), .pointer none], .pointer (some ⟨bt, o, none⟩)] w (WPost B g ro (s.put (pInt n)) w) := by
  have hbt : bt < w.heap.size := World.block_lt_of_cell? w _ hp
  have hgl := hw.lt
  have hrl := hw.ro_lt
  have HW := Aside0.mk ((hw.below (below1 (.cells #[.pointer (some ⟨g, 0, none⟩), .pointer none] 97))).below (Below.refl _ _).drew)
  have HB := Aside0.mk (Nat.le_trans hB (below1 (w := w) (.cells #[.pointer (some ⟨g, 0, none⟩), .pointer none] 97)).size)
  have hp1 : (w.alloc (.cells #[.pointer (some ⟨g, 0, none⟩), .pointer none] 97)).cell? ⟨bt, o, none⟩ = some (.int .i64 n) := (World.cell?_alloc_lt w _ _ hbt).trans hp
  have hq := heap_alloc_new w (.cells #[.pointer (some ⟨g, 0, none⟩), .pointer none] 97)
  have HS0 := Aside0.mk (show (w.alloc (.cells #[.pointer (some ⟨g, 0, none⟩), .pointer none] 97)).drew.cell? ⟨w.heap.size, 0, none⟩ = some (.pointer (some ⟨g, 0, none⟩)) ∧ (w.alloc (.cells #[.pointer (some ⟨g, 0, none⟩), .pointer none] 97)).drew.cell? ⟨bt, o, none⟩ = some (.int .i64 n) from ⟨(blk_cell hq 0).trans rfl, hp1⟩)
  have HBL := Aside0.mk (show Below w.heap.size w (w.alloc (.cells #[.pointer (some ⟨g, 0, none⟩), .pointer none] 97)).drew from (below1 (.cells #[.pointer (some ⟨g, 0, none⟩), .pointer none] 97)).drew)
  have HK : Aside0 (∀ W, Fr (WrS g ro) (w.alloc (.cells #[.pointer (some ⟨g, 0, none⟩), .pointer none] 97)).drew W → W.cell? ⟨w.heap.size, 0, none⟩ = some (.pointer (some ⟨g, 0, none⟩)) ∧ W.cell? ⟨bt, o, none⟩ = some (.int .i64 n)) := ⟨fun W hf => by
    have e1 : ∀ k, k < (w.alloc (.cells #[.pointer (some ⟨g, 0, none⟩), .pointer none] 97)).drew.heap.size → ¬ WrS g ro k → ∀ p : Addr, p.block = k → W.cell? p = (w.alloc (.cells #[.pointer (some ⟨g, 0, none⟩), .pointer none] 97)).drew.cell? p := fun k hk hn p hpk => World.cell?_of_block (by rw [hpk]; exact hf.block k hk hn)
    have hsz := (below1 (w := w) (.cells #[.pointer (some ⟨g, 0, none⟩), .pointer none] 97)).size
    have hsz2 : w.heap.size < (w.alloc (.cells #[.pointer (some ⟨g, 0, none⟩), .pointer none] 97)).drew.heap.size := blk_lt hq
    refine ⟨(e1 _ hsz2 ?_ _ rfl).trans HS0.out.1, (e1 bt (by show bt < (w.alloc (.cells #[.pointer (some ⟨g, 0, none⟩), .pointer none] 97)).heap.size; omega) ?_ _ rfl).trans HS0.out.2⟩
    · rintro (e | e)
      · omega
      · have := (hrl _ e).2
        omega
    · rintro (e | e)
      · exact hbg e
      · exact hbr e⟩
  clear hw hB hp hp1 hq hbt hgl hrl
  go_enter Try.func113, Try.ntmps113
  go_wp2
  refine YtgmbfecfkdbfaaaG.wp_region_door 99 YtgmbfecfkdbfaaaG.keepT (fun _ _ => False) (fun W => W.cell? ⟨w.heap.size, 0, none⟩ = some (.pointer (some ⟨g, 0, none⟩)) ∧ W.cell? ⟨bt, o, none⟩ = some (.int .i64 n)) (by kernel_rfl) trivial (fun _ _ _ _ h => h.elim) ?_
  refine YtgmbfecfkdbfaaaG.wpAnyG_take 0 (v := .pointer (some ⟨w.heap.size, 0, none⟩)) rfl (by kernel_rfl) (by kernel_rfl) (by kernel_rfl) (by kernel_rfl) (by decide) (fun a u => YtgmbfecfkdbfaaaG.keepT_put a u) HS0.out trivial (by rfl) (by rintro W ⟨h0, h1⟩; go_simp; done) ?_
  try simp only [Act.put, List.getElem_toArray, List.getElem_cons_zero, List.getElem_cons_succ, List.setIfInBounds_toArray, List.set_cons_zero, List.set_cons_succ]
  refine YtgmbfecfkdbfaaaG.wpAnyG_take 1 (v := .pointer (some ⟨g, 0, none⟩)) rfl (by kernel_rfl) (by kernel_rfl) (by kernel_rfl) (by kernel_rfl) (by decide) (fun a u => YtgmbfecfkdbfaaaG.keepT_put a u) HS0.out trivial (by rfl) (by rintro W ⟨h0, h1⟩; go_simp; done) ?_
  try simp only [Act.put, List.getElem_toArray, List.getElem_cons_zero, List.getElem_cons_succ, List.setIfInBounds_toArray, List.set_cons_zero, List.set_cons_succ]
  refine YtgmbfecfkdbfaaaG.wpAnyG_take 2 (v := .pointer (some ⟨bt, o, none⟩)) rfl (by kernel_rfl) (by kernel_rfl) (by kernel_rfl) (by kernel_rfl) (by decide) (fun a u => YtgmbfecfkdbfaaaG.keepT_put a u) HS0.out trivial (by rfl) (by rintro W ⟨h0, h1⟩; go_simp; done) ?_
  try simp only [Act.put, List.getElem_toArray, List.getElem_cons_zero, List.getElem_cons_succ, List.setIfInBounds_toArray, List.set_cons_zero, List.set_cons_succ]
  refine YtgmbfecfkdbfaaaG.wpAnyG_take 3 (v := .pointer (some ⟨bt, o, none⟩)) rfl (by kernel_rfl) (by kernel_rfl) (by kernel_rfl) (by kernel_rfl) (by decide) (fun a u => YtgmbfecfkdbfaaaG.keepT_put a u) HS0.out trivial (by rfl) (by rintro W ⟨h0, h1⟩; go_simp; done) ?_
  try simp only [Act.put, List.getElem_toArray, List.getElem_cons_zero, List.getElem_cons_succ, List.setIfInBounds_toArray, List.set_cons_zero, List.set_cons_succ]
  refine YtgmbfecfkdbfaaaG.wpAnyG_take 4 (v := .int .i64 n) rfl (by kernel_rfl) (by kernel_rfl) (by kernel_rfl) (by kernel_rfl) (by decide) (fun a u => YtgmbfecfkdbfaaaG.keepT_put a u) HS0.out trivial (by rfl) (by rintro W ⟨h0, h1⟩; go_simp; done) ?_
  try simp only [Act.put, List.getElem_toArray, List.getElem_cons_zero, List.getElem_cons_succ, List.setIfInBounds_toArray, List.set_cons_zero, List.set_cons_succ]
  refine YtgmbfecfkdbfaaaG.wpAnyG_one 5 rfl (by kernel_rfl) (by rfl) (fun K hK => ?_)
  go_simp
  refine (wInt_calls n HW.out HB.out hl).mono ?_
  rintro e w5 ⟨rfl, hP⟩
  obtain ⟨ro', hw', hgr, hf⟩ := hP
  refine hK _ _ (HK.out _ hf) trivial ?_
  clear hK K
  refine YtgmbfecfkdbfaaaG.wpAnyG_done (by kernel_rfl) ?_ _
  go_wp2
  go_end0
  exact WPost.from (w1 := (w.alloc (.cells #[.pointer (some ⟨g, 0, none⟩), .pointer none] 97)).drew) ⟨rfl, ro', hw', hgr, hf⟩ HBL.out
set_option maxHeartbeats 3200000 in
set_option maxRecDepth 100000 in
theorem truth_w (bt o : Nat) (is : Bool) (hp : w.cell? ⟨bt, o, none⟩ = some (.bool is)) (hbg : bt ≠ g) (hbr : ro ≠ some bt) (hw : Wr w B g ro s) (hB : B ≤ w.heap.size) (hl : (s.put (pBool is)).xs.length ≤ 140737488355328) :
    Calls Try.prog 114 #[.agg #[.pointer (some ⟨g, 0, none⟩), .pointer none], .pointer (some ⟨bt, o, none⟩)] w (WPost B g ro (s.put (pBool is)) w) := by
  have hbt : bt < w.heap.size := World.block_lt_of_cell? w _ hp
  have hgl := hw.lt
  have hrl := hw.ro_lt
  have HW := Aside0.mk ((hw.below (below1 (.cells #[.pointer (some ⟨g, 0, none⟩), .pointer none] 97))).below (Below.refl _ _).drew)
  have HB := Aside0.mk (Nat.le_trans hB (below1 (w := w) (.cells #[.pointer (some ⟨g, 0, none⟩), .pointer none] 97)).size)
  have hp1 : (w.alloc (.cells #[.pointer (some ⟨g, 0, none⟩), .pointer none] 97)).cell? ⟨bt, o, none⟩ = some (.bool is) := (World.cell?_alloc_lt w _ _ hbt).trans hp
  have hq := heap_alloc_new w (.cells #[.pointer (some ⟨g, 0, none⟩), .pointer none] 97)
  have HS0 := Aside0.mk (show (w.alloc (.cells #[.pointer (some ⟨g, 0, none⟩), .pointer none] 97)).drew.cell? ⟨w.heap.size, 0, none⟩ = some (.pointer (some ⟨g, 0, none⟩)) ∧ (w.alloc (.cells #[.pointer (some ⟨g, 0, none⟩), .pointer none] 97)).drew.cell? ⟨bt, o, none⟩ = some (.bool is) from ⟨(blk_cell hq 0).trans rfl, hp1⟩)
  have HBL := Aside0.mk (show Below w.heap.size w (w.alloc (.cells #[.pointer (some ⟨g, 0, none⟩), .pointer none] 97)).drew from (below1 (.cells #[.pointer (some ⟨g, 0, none⟩), .pointer none] 97)).drew)
  have HK : Aside0 (∀ W, Fr (WrS g ro) (w.alloc (.cells #[.pointer (some ⟨g, 0, none⟩), .pointer none] 97)).drew W → W.cell? ⟨w.heap.size, 0, none⟩ = some (.pointer (some ⟨g, 0, none⟩)) ∧ W.cell? ⟨bt, o, none⟩ = some (.bool is)) := ⟨fun W hf => by
    have e1 : ∀ k, k < (w.alloc (.cells #[.pointer (some ⟨g, 0, none⟩), .pointer none] 97)).drew.heap.size → ¬ WrS g ro k → ∀ p : Addr, p.block = k → W.cell? p = (w.alloc (.cells #[.pointer (some ⟨g, 0, none⟩), .pointer none] 97)).drew.cell? p := fun k hk hn p hpk => World.cell?_of_block (by rw [hpk]; exact hf.block k hk hn)
    have hsz := (below1 (w := w) (.cells #[.pointer (some ⟨g, 0, none⟩), .pointer none] 97)).size
    have hsz2 : w.heap.size < (w.alloc (.cells #[.pointer (some ⟨g, 0, none⟩), .pointer none] 97)).drew.heap.size := blk_lt hq
    refine ⟨(e1 _ hsz2 ?_ _ rfl).trans HS0.out.1, (e1 bt (by show bt < (w.alloc (.cells #[.pointer (some ⟨g, 0, none⟩), .pointer none] 97)).heap.size; omega) ?_ _ rfl).trans HS0.out.2⟩
    · rintro (e | e)
      · omega
      · have := (hrl _ e).2
        omega
    · rintro (e | e)
      · exact hbg e
      · exact hbr e⟩
  clear hw hB hp hp1 hq hbt hgl hrl
  go_enter Try.func114, Try.ntmps114
  go_wp2
  refine YtgmbfecfkdbfaaaG.wp_region_door 99 YtgmbfecfkdbfaaaG.keepT (fun _ _ => False) (fun W => W.cell? ⟨w.heap.size, 0, none⟩ = some (.pointer (some ⟨g, 0, none⟩)) ∧ W.cell? ⟨bt, o, none⟩ = some (.bool is)) (by kernel_rfl) trivial (fun _ _ _ _ h => h.elim) ?_
  refine YtgmbfecfkdbfaaaG.wpAnyG_take 0 (v := .pointer (some ⟨w.heap.size, 0, none⟩)) rfl (by kernel_rfl) (by kernel_rfl) (by kernel_rfl) (by kernel_rfl) (by decide) (fun a u => YtgmbfecfkdbfaaaG.keepT_put a u) HS0.out trivial (by rfl) (by rintro W ⟨h0, h1⟩; go_simp; done) ?_
  try simp only [Act.put, List.getElem_toArray, List.getElem_cons_zero, List.getElem_cons_succ, List.setIfInBounds_toArray, List.set_cons_zero, List.set_cons_succ]
  refine YtgmbfecfkdbfaaaG.wpAnyG_take 1 (v := .pointer (some ⟨g, 0, none⟩)) rfl (by kernel_rfl) (by kernel_rfl) (by kernel_rfl) (by kernel_rfl) (by decide) (fun a u => YtgmbfecfkdbfaaaG.keepT_put a u) HS0.out trivial (by rfl) (by rintro W ⟨h0, h1⟩; go_simp; done) ?_
  try simp only [Act.put, List.getElem_toArray, List.getElem_cons_zero, List.getElem_cons_succ, List.setIfInBounds_toArray, List.set_cons_zero, List.set_cons_succ]
  refine YtgmbfecfkdbfaaaG.wpAnyG_take 2 (v := .pointer (some ⟨bt, o, none⟩)) rfl (by kernel_rfl) (by kernel_rfl) (by kernel_rfl) (by kernel_rfl) (by decide) (fun a u => YtgmbfecfkdbfaaaG.keepT_put a u) HS0.out trivial (by rfl) (by rintro W ⟨h0, h1⟩; go_simp; done) ?_
  try simp only [Act.put, List.getElem_toArray, List.getElem_cons_zero, List.getElem_cons_succ, List.setIfInBounds_toArray, List.set_cons_zero, List.set_cons_succ]
  refine YtgmbfecfkdbfaaaG.wpAnyG_take 3 (v := .pointer (some ⟨bt, o, none⟩)) rfl (by kernel_rfl) (by kernel_rfl) (by kernel_rfl) (by kernel_rfl) (by decide) (fun a u => YtgmbfecfkdbfaaaG.keepT_put a u) HS0.out trivial (by rfl) (by rintro W ⟨h0, h1⟩; go_simp; done) ?_
  try simp only [Act.put, List.getElem_toArray, List.getElem_cons_zero, List.getElem_cons_succ, List.setIfInBounds_toArray, List.set_cons_zero, List.set_cons_succ]
  refine YtgmbfecfkdbfaaaG.wpAnyG_take 4 (v := .bool is) rfl (by kernel_rfl) (by kernel_rfl) (by kernel_rfl) (by kernel_rfl) (by decide) (fun a u => YtgmbfecfkdbfaaaG.keepT_put a u) HS0.out trivial (by rfl) (by rintro W ⟨h0, h1⟩; go_simp; done) ?_
  try simp only [Act.put, List.getElem_toArray, List.getElem_cons_zero, List.getElem_cons_succ, List.setIfInBounds_toArray, List.set_cons_zero, List.set_cons_succ]
  refine YtgmbfecfkdbfaaaG.wpAnyG_one 5 rfl (by kernel_rfl) (by rfl) (fun K hK => ?_)
  go_simp
  refine (wBool_calls is HW.out HB.out hl).mono ?_
  rintro e w5 ⟨rfl, hP⟩
  obtain ⟨ro', hw', hgr, hf⟩ := hP
  refine hK _ _ (HK.out _ hf) trivial ?_
  clear hK K
  refine YtgmbfecfkdbfaaaG.wpAnyG_done (by kernel_rfl) ?_ _
  go_wp2
  go_end0
  exact WPost.from (w1 := (w.alloc (.cells #[.pointer (some ⟨g, 0, none⟩), .pointer none] 97)).drew) ⟨rfl, ro', hw', hgr, hf⟩ HBL.out
end
section
variable {w : World} {B g : Nat} {ro : Option Nat} {bs : List Int} {r : RS} {bt : Nat} {cs : Array Value} {T : TypeId}
set_option maxHeartbeats 3200000 in
set_option maxRecDepth 100000 in
theorem whole_r (o : Nat) (ho : o < cs.size) (hq : w.heap[bt]? = some (.cells cs T (0, 0))) (h1 : T ≠ 202) (h2 : T ≠ 5) (hr : Rd w B g ro bs r) (hB : B ≤ w.heap.size) :
    Calls Try.prog 113 #[.agg #[.pointer none, .pointer (some ⟨g, 0, none⟩)], .pointer (some ⟨bt, o, none⟩)] w (SPost B g ro bs bt T (cs.setIfInBounds o (.int .i64 (rInt bs r).1)) (rInt bs r).2 w) := by
  obtain ⟨hbg, hbr⟩ := hr.ne_ hq h1 h2
  have HB1 := Aside0.mk (below1 (w := w) (.cells #[.pointer none, .pointer (some ⟨g, 0, none⟩)] 97))
  have HQ := Aside0.mk ((Fr.of_below (S := fun _ => False) HB1.out).blk hq (fun h => h))
  have C := Aside0.mk (rInt_calls (hr.below HB1.out) (Nat.le_trans hB HB1.out.size))
  have HBG := Aside0.mk hbg
  have HBR := Aside0.mk hbr
  have HO := Aside0.mk ho
  clear hq hr hB hbg hbr
  unfold rInt
  generalize hqq : r.take bs _ _ = qq at C ⊢
  obtain ⟨v, r2⟩ := qq
  simp only [encS] at C ⊢
  clear hqq
  go_enter Try.func113, Try.ntmps113
  go_wp2_with (go_at_call 155; refine C.out.mono ?_; rintro e w1 ⟨rfl, R1, f1⟩; have HR1 := Aside0.mk R1; have hq1 := f1.blk HQ.out HBG.out; have hc1 : _ = some (cs[o]'HO.out) := (blk_cell hq1 o).trans (Array.getElem?_eq_getElem HO.out); have hz1 := blk_frozen hq1 o; have HQ1 := Aside0.mk hq1; have HF1 := Aside0.mk f1; clear R1 hq1 f1)
  go_end0
  have hf2 := (Fr.refl (fun i => i = g ∨ i = bt) w1).set_ (p := ⟨bt, o, none⟩) (.inl (.inr rfl)) (.int .i64 v)
  refine ⟨rfl, HR1.out.keep ((Fr.refl (fun i => i = bt) w1).set_ (p := ⟨bt, o, none⟩) (.inl rfl) _) (fun e => HBG.out e.symm) (fun k hk e => HBR.out (by rw [hk, e])), blk_put HQ1.out o _ rfl, ((Fr.of_below HB1.out).trans (HF1.out.mono (S' := fun i => i = g ∨ i = bt) (fun i _ h => .inl h)) (fun _ _ h => h)).trans hf2 (fun _ _ h => h)⟩
set_option maxHeartbeats 3200000 in
set_option maxRecDepth 100000 in
theorem truth_r (o : Nat) (ho : o < cs.size) (hq : w.heap[bt]? = some (.cells cs T (0, 0))) (h1 : T ≠ 202) (h2 : T ≠ 5) (hr : Rd w B g ro bs r) (hB : B ≤ w.heap.size) :
    Calls Try.prog 114 #[.agg #[.pointer none, .pointer (some ⟨g, 0, none⟩)], .pointer (some ⟨bt, o, none⟩)] w (SPost B g ro bs bt T (cs.setIfInBounds o (.bool (rBoo bs r).1)) (rBoo bs r).2 w) := by
  obtain ⟨hbg, hbr⟩ := hr.ne_ hq h1 h2
  have HB1 := Aside0.mk (below1 (w := w) (.cells #[.pointer none, .pointer (some ⟨g, 0, none⟩)] 97))
  have HQ := Aside0.mk ((Fr.of_below (S := fun _ => False) HB1.out).blk hq (fun h => h))
  have C := Aside0.mk (rBool_calls (hr.below HB1.out) (Nat.le_trans hB HB1.out.size))
  have HBG := Aside0.mk hbg
  have HBR := Aside0.mk hbr
  have HO := Aside0.mk ho
  clear hq hr hB hbg hbr
  unfold rBoo
  generalize hqq : r.take bs _ _ = qq at C ⊢
  obtain ⟨v, r2⟩ := qq
  simp only [encS] at C ⊢
  clear hqq
  go_enter Try.func114, Try.ntmps114
  go_wp2_with (go_at_call 157; refine C.out.mono ?_; rintro e w1 ⟨rfl, R1, f1⟩; have HR1 := Aside0.mk R1; have hq1 := f1.blk HQ.out HBG.out; have hc1 : _ = some (cs[o]'HO.out) := (blk_cell hq1 o).trans (Array.getElem?_eq_getElem HO.out); have hz1 := blk_frozen hq1 o; have HQ1 := Aside0.mk hq1; have HF1 := Aside0.mk f1; clear R1 hq1 f1)
  go_end0
  have hf2 := (Fr.refl (fun i => i = g ∨ i = bt) w1).set_ (p := ⟨bt, o, none⟩) (.inl (.inr rfl)) (.bool v)
  refine ⟨rfl, HR1.out.keep ((Fr.refl (fun i => i = bt) w1).set_ (p := ⟨bt, o, none⟩) (.inl rfl) _) (fun e => HBG.out e.symm) (fun k hk e => HBR.out (by rw [hk, e])), blk_put HQ1.out o _ rfl, ((Fr.of_below HB1.out).trans (HF1.out.mono (S' := fun i => i = g ∨ i = bt) (fun i _ h => .inl h)) (fun _ _ h => h)).trans hf2 (fun _ _ h => h)⟩
end
section
variable {W1 W W' : World} {B g : Nat} {ro : Option Nat} {s : WS} {bs : List Int} {r : RS} {bt : Nat} {cs : Array Value} {T : TypeId}
theorem OW.whole (h : OW W1 W B g ro s) (k : Nat) (n : Int) (hk : W1.cell? ⟨bt, k, none⟩ = some (.int .i64 n)) (hg : bt ≠ g) (hr : ro ≠ some bt) (hl : (s.put (pInt n)).xs.length ≤ 140737488355328) :
    Calls Try.prog 113 #[.agg #[.pointer (some ⟨g, 0, none⟩), .pointer none], .pointer (some ⟨bt, k, none⟩)] W fun e W' => e = .returned (.tuple #[]) ∧ OW W1 W' B g ro (s.put (pInt n)) := by
  have hc := h.cell hk hg hr
  have h' := h
  have hbl : bt < W1.heap.size := World.block_lt_of_cell? W1 _ hk
  obtain ⟨h0, ro', hw', hr', hf'⟩ := h
  have hro : ro' ≠ some bt := by
    rintro rfl
    rcases hr' with h | ⟨b, h, h3⟩
    · exact hr h.symm
    · have := Option.some.inj h
      omega
  exact (whole_w bt k n hc hg hro hw' (Nat.le_trans h0 hf'.size) hl).mono fun e W' hP => OW.post h' ro' hr' hP
theorem OR_.whole (h : OR_ W1 W B g ro bs bt T cs r) (k : Nat) (hk : k < cs.size) (h1 : T ≠ 202) (h2 : T ≠ 5) :
    Calls Try.prog 113 #[.agg #[.pointer none, .pointer (some ⟨g, 0, none⟩)], .pointer (some ⟨bt, k, none⟩)] W fun e W' => e = .returned (.tuple #[]) ∧ OR_ W1 W' B g ro bs bt T (cs.setIfInBounds k (.int .i64 (rInt bs r).1)) (rInt bs r).2 :=
  (whole_r k hk h.blk h1 h2 h.rd_ (Nat.le_trans h.base h.fr.size)).mono fun e W' ⟨he, hr, hq, hf⟩ => ⟨he, h.base, hr, hq, h.fr.trans hf (fun _ _ h => h)⟩
theorem OW.truth (h : OW W1 W B g ro s) (k : Nat) (is : Bool) (hk : W1.cell? ⟨bt, k, none⟩ = some (.bool is)) (hg : bt ≠ g) (hr : ro ≠ some bt) (hl : (s.put (pBool is)).xs.length ≤ 140737488355328) :
    Calls Try.prog 114 #[.agg #[.pointer (some ⟨g, 0, none⟩), .pointer none], .pointer (some ⟨bt, k, none⟩)] W fun e W' => e = .returned (.tuple #[]) ∧ OW W1 W' B g ro (s.put (pBool is)) := by
  have hc := h.cell hk hg hr
  have h' := h
  have hbl : bt < W1.heap.size := World.block_lt_of_cell? W1 _ hk
  obtain ⟨h0, ro', hw', hr', hf'⟩ := h
  have hro : ro' ≠ some bt := by
    rintro rfl
    rcases hr' with h | ⟨b, h, h3⟩
    · exact hr h.symm
    · have := Option.some.inj h
      omega
  exact (truth_w bt k is hc hg hro hw' (Nat.le_trans h0 hf'.size) hl).mono fun e W' hP => OW.post h' ro' hr' hP
theorem OR_.truth (h : OR_ W1 W B g ro bs bt T cs r) (k : Nat) (hk : k < cs.size) (h1 : T ≠ 202) (h2 : T ≠ 5) :
    Calls Try.prog 114 #[.agg #[.pointer none, .pointer (some ⟨g, 0, none⟩)], .pointer (some ⟨bt, k, none⟩)] W fun e W' => e = .returned (.tuple #[]) ∧ OR_ W1 W' B g ro bs bt T (cs.setIfInBounds k (.bool (rBoo bs r).1)) (rBoo bs r).2 :=
  (truth_r k hk h.blk h1 h2 h.rd_ (Nat.le_trans h.base h.fr.size)).mono fun e W' ⟨he, hr, hq, hf⟩ => ⟨he, h.base, hr, hq, h.fr.trans hf (fun _ _ h => h)⟩
theorem OW.number2 (h : OW W1 W B g ro s) (k0 : Nat) (n0 : Int) (k1 : Nat) (n1 : Int) (size : Int) (hk0 : W1.cell? ⟨bt, k0, none⟩ = some (.int .i64 n0)) (hn0 : n0 ≤ 9223372036854775807) (hk1 : W1.cell? ⟨bt, k1, none⟩ = some (.int .i64 n1)) (hn1 : n1 ≤ 9223372036854775807) (hg : bt ≠ g) (hr : ro ≠ some bt) (hl : s.xs.length ≤ 100000000000) :
    Calls Try.prog 54 #[.agg #[.pointer (some ⟨g, 0, none⟩), .pointer none], .int .i64 size, .slice (some ⟨W.heap.size, 0, none⟩) 2 2] (W.alloc (.cells #[.pointer (some ⟨bt, k0, none⟩), .pointer (some ⟨bt, k1, none⟩)] 101)) fun e W' => e = .returned (.tuple #[]) ∧ OW W1 W' B g ro ((s.put (pNumber n0 size)).put (pNumber n1 size)) := by
  have hb := below1 (w := W) (.cells #[.pointer (some ⟨bt, k0, none⟩), .pointer (some ⟨bt, k1, none⟩)] 101)
  have h2 := h.then_ hb
  have hq := heap_alloc_new W (.cells #[.pointer (some ⟨bt, k0, none⟩), .pointer (some ⟨bt, k1, none⟩)] 101)
  have hc0 := h2.cell hk0 hg hr
  have hc1 := h2.cell hk1 hg hr
  have hbl : bt < W1.heap.size := World.block_lt_of_cell? W1 _ hk0
  obtain ⟨h0, ro', hw', hr', hf'⟩ := h
  have hw2 := hw'.below hb
  have hgl := hw'.lt
  have hrl := hw'.ro_lt
  have hro : ro' ≠ some bt := by
    rintro rfl
    rcases hr' with h | ⟨b, h, h3⟩
    · exact hr h.symm
    · have := Option.some.inj h
      omega
  have hng : W.heap.size ≠ g ∧ ro' ≠ some W.heap.size := ⟨by omega, fun e => by
    have := (hrl _ e).2
    omega⟩
  have C := number_w size ⟨W.heap.size, 0, none⟩ 2 [⟨bt, k0, none⟩, ⟨bt, k1, none⟩] [n0, n1] rfl (fun m hm => by
      simp only [List.mem_cons, List.not_mem_nil, or_false] at hm
      rcases hm with rfl | rfl
      · exact hn0
      · exact hn1) (by simp)
    (fun i hi => by
      match i, hi with
      | 0, _ => exact ⟨(blk_cell hq 0).trans rfl, hng⟩
      | 1, _ => exact ⟨(blk_cell hq 1).trans rfl, hng⟩
      | i + 2, hi => exact absurd hi (by simp))
    (fun i hi hj => by
      match i, hi, hj with
      | 0, _, _ => exact ⟨hc0, hg, hro⟩
      | 1, _, _ => exact ⟨hc1, hg, hro⟩
      | i + 2, hi, _ => exact absurd hi (by simp)) hw2 (Nat.le_trans h0 (Nat.le_trans hf'.size hb.size)) hl
  exact C.mono fun e W' hP => OW.post h2 ro' hr' hP
theorem OR_.number2 (h : OR_ W1 W B g ro bs bt T cs r) (k0 : Nat) (k1 : Nat) (size : Int) (hk0 : k0 < cs.size) (hk1 : k1 < cs.size) (h1 : T ≠ 202) (h2 : T ≠ 5) :
    Calls Try.prog 54 #[.agg #[.pointer none, .pointer (some ⟨g, 0, none⟩)], .int .i64 size, .slice (some ⟨W.heap.size, 0, none⟩) 2 2] (W.alloc (.cells #[.pointer (some ⟨bt, k0, none⟩), .pointer (some ⟨bt, k1, none⟩)] 101)) fun e W' => e = .returned (.tuple #[]) ∧ OR_ W1 W' B g ro bs bt T ((cs.setIfInBounds k0 (.int .i64 (rNum bs r size).1)).setIfInBounds k1 (.int .i64 (rNum bs (rNum bs r size).2 size).1)) (rNum bs (rNum bs r size).2 size).2 := by
  have hb := below1 (w := W) (.cells #[.pointer (some ⟨bt, k0, none⟩), .pointer (some ⟨bt, k1, none⟩)] 101)
  have hq := heap_alloc_new W (.cells #[.pointer (some ⟨bt, k0, none⟩), .pointer (some ⟨bt, k1, none⟩)] 101)
  have h3 := h.then_ hb
  have hgl := h.rd_.lt
  have hbl := blk_lt h.blk
  have C := number_r size ⟨W.heap.size, 0, none⟩ 2 [k0, k1] (fun m hm => by
      simp only [List.mem_cons, List.not_mem_nil, or_false] at hm
      rcases hm with rfl | rfl
      · exact hk0
      · exact hk1) (by simp)
    (fun i hi => by
      match i, hi with
      | 0, _ => exact ⟨(blk_cell hq 0).trans rfl, by show W.heap.size ≠ g; omega, by show W.heap.size ≠ bt; omega⟩
      | 1, _ => exact ⟨(blk_cell hq 1).trans rfl, by show W.heap.size ≠ g; omega, by show W.heap.size ≠ bt; omega⟩
      | i + 2, hi => exact absurd hi (by simp)) h3.blk h1 h2 h3.rd_ (Nat.le_trans h.base (Nat.le_trans h.fr.size hb.size))
  exact C.mono fun e W' ⟨he, hr, hq, hf⟩ => ⟨he, h.base, hr, hq, h3.fr.trans hf (fun _ _ h => h)⟩
theorem OW.number3 (h : OW W1 W B g ro s) (k0 : Nat) (n0 : Int) (k1 : Nat) (n1 : Int) (k2 : Nat) (n2 : Int) (size : Int) (hk0 : W1.cell? ⟨bt, k0, none⟩ = some (.int .i64 n0)) (hn0 : n0 ≤ 9223372036854775807) (hk1 : W1.cell? ⟨bt, k1, none⟩ = some (.int .i64 n1)) (hn1 : n1 ≤ 9223372036854775807) (hk2 : W1.cell? ⟨bt, k2, none⟩ = some (.int .i64 n2)) (hn2 : n2 ≤ 9223372036854775807) (hg : bt ≠ g) (hr : ro ≠ some bt) (hl : s.xs.length ≤ 100000000000) :
    Calls Try.prog 54 #[.agg #[.pointer (some ⟨g, 0, none⟩), .pointer none], .int .i64 size, .slice (some ⟨W.heap.size, 0, none⟩) 3 3] (W.alloc (.cells #[.pointer (some ⟨bt, k0, none⟩), .pointer (some ⟨bt, k1, none⟩), .pointer (some ⟨bt, k2, none⟩)] 101)) fun e W' => e = .returned (.tuple #[]) ∧ OW W1 W' B g ro (((s.put (pNumber n0 size)).put (pNumber n1 size)).put (pNumber n2 size)) := by
  have hb := below1 (w := W) (.cells #[.pointer (some ⟨bt, k0, none⟩), .pointer (some ⟨bt, k1, none⟩), .pointer (some ⟨bt, k2, none⟩)] 101)
  have h2 := h.then_ hb
  have hq := heap_alloc_new W (.cells #[.pointer (some ⟨bt, k0, none⟩), .pointer (some ⟨bt, k1, none⟩), .pointer (some ⟨bt, k2, none⟩)] 101)
  have hc0 := h2.cell hk0 hg hr
  have hc1 := h2.cell hk1 hg hr
  have hc2 := h2.cell hk2 hg hr
  have hbl : bt < W1.heap.size := World.block_lt_of_cell? W1 _ hk0
  obtain ⟨h0, ro', hw', hr', hf'⟩ := h
  have hw2 := hw'.below hb
  have hgl := hw'.lt
  have hrl := hw'.ro_lt
  have hro : ro' ≠ some bt := by
    rintro rfl
    rcases hr' with h | ⟨b, h, h3⟩
    · exact hr h.symm
    · have := Option.some.inj h
      omega
  have hng : W.heap.size ≠ g ∧ ro' ≠ some W.heap.size := ⟨by omega, fun e => by
    have := (hrl _ e).2
    omega⟩
  have C := number_w size ⟨W.heap.size, 0, none⟩ 3 [⟨bt, k0, none⟩, ⟨bt, k1, none⟩, ⟨bt, k2, none⟩] [n0, n1, n2] rfl (fun m hm => by
      simp only [List.mem_cons, List.not_mem_nil, or_false] at hm
      rcases hm with rfl | rfl | rfl
      · exact hn0
      · exact hn1
      · exact hn2) (by simp)
    (fun i hi => by
      match i, hi with
      | 0, _ => exact ⟨(blk_cell hq 0).trans rfl, hng⟩
      | 1, _ => exact ⟨(blk_cell hq 1).trans rfl, hng⟩
      | 2, _ => exact ⟨(blk_cell hq 2).trans rfl, hng⟩
      | i + 3, hi => exact absurd hi (by simp))
    (fun i hi hj => by
      match i, hi, hj with
      | 0, _, _ => exact ⟨hc0, hg, hro⟩
      | 1, _, _ => exact ⟨hc1, hg, hro⟩
      | 2, _, _ => exact ⟨hc2, hg, hro⟩
      | i + 3, hi, _ => exact absurd hi (by simp)) hw2 (Nat.le_trans h0 (Nat.le_trans hf'.size hb.size)) hl
  exact C.mono fun e W' hP => OW.post h2 ro' hr' hP
theorem OR_.number3 (h : OR_ W1 W B g ro bs bt T cs r) (k0 : Nat) (k1 : Nat) (k2 : Nat) (size : Int) (hk0 : k0 < cs.size) (hk1 : k1 < cs.size) (hk2 : k2 < cs.size) (h1 : T ≠ 202) (h2 : T ≠ 5) :
    Calls Try.prog 54 #[.agg #[.pointer none, .pointer (some ⟨g, 0, none⟩)], .int .i64 size, .slice (some ⟨W.heap.size, 0, none⟩) 3 3] (W.alloc (.cells #[.pointer (some ⟨bt, k0, none⟩), .pointer (some ⟨bt, k1, none⟩), .pointer (some ⟨bt, k2, none⟩)] 101)) fun e W' => e = .returned (.tuple #[]) ∧ OR_ W1 W' B g ro bs bt T (((cs.setIfInBounds k0 (.int .i64 (rNum bs r size).1)).setIfInBounds k1 (.int .i64 (rNum bs (rNum bs r size).2 size).1)).setIfInBounds k2 (.int .i64 (rNum bs (rNum bs (rNum bs r size).2 size).2 size).1)) (rNum bs (rNum bs (rNum bs r size).2 size).2 size).2 := by
  have hb := below1 (w := W) (.cells #[.pointer (some ⟨bt, k0, none⟩), .pointer (some ⟨bt, k1, none⟩), .pointer (some ⟨bt, k2, none⟩)] 101)
  have hq := heap_alloc_new W (.cells #[.pointer (some ⟨bt, k0, none⟩), .pointer (some ⟨bt, k1, none⟩), .pointer (some ⟨bt, k2, none⟩)] 101)
  have h3 := h.then_ hb
  have hgl := h.rd_.lt
  have hbl := blk_lt h.blk
  have C := number_r size ⟨W.heap.size, 0, none⟩ 3 [k0, k1, k2] (fun m hm => by
      simp only [List.mem_cons, List.not_mem_nil, or_false] at hm
      rcases hm with rfl | rfl | rfl
      · exact hk0
      · exact hk1
      · exact hk2) (by simp)
    (fun i hi => by
      match i, hi with
      | 0, _ => exact ⟨(blk_cell hq 0).trans rfl, by show W.heap.size ≠ g; omega, by show W.heap.size ≠ bt; omega⟩
      | 1, _ => exact ⟨(blk_cell hq 1).trans rfl, by show W.heap.size ≠ g; omega, by show W.heap.size ≠ bt; omega⟩
      | 2, _ => exact ⟨(blk_cell hq 2).trans rfl, by show W.heap.size ≠ g; omega, by show W.heap.size ≠ bt; omega⟩
      | i + 3, hi => exact absurd hi (by simp)) h3.blk h1 h2 h3.rd_ (Nat.le_trans h.base (Nat.le_trans h.fr.size hb.size))
  exact C.mono fun e W' ⟨he, hr, hq, hf⟩ => ⟨he, h.base, hr, hq, h3.fr.trans hf (fun _ _ h => h)⟩
theorem OW.number4 (h : OW W1 W B g ro s) (k0 : Nat) (n0 : Int) (k1 : Nat) (n1 : Int) (k2 : Nat) (n2 : Int) (k3 : Nat) (n3 : Int) (size : Int) (hk0 : W1.cell? ⟨bt, k0, none⟩ = some (.int .i64 n0)) (hn0 : n0 ≤ 9223372036854775807) (hk1 : W1.cell? ⟨bt, k1, none⟩ = some (.int .i64 n1)) (hn1 : n1 ≤ 9223372036854775807) (hk2 : W1.cell? ⟨bt, k2, none⟩ = some (.int .i64 n2)) (hn2 : n2 ≤ 9223372036854775807) (hk3 : W1.cell? ⟨bt, k3, none⟩ = some (.int .i64 n3)) (hn3 : n3 ≤ 9223372036854775807) (hg : bt ≠ g) (hr : ro ≠ some bt) (hl : s.xs.length ≤ 100000000000) :
    Calls Try.prog 54 #[.agg #[.pointer (some ⟨g, 0, none⟩), .pointer none], .int .i64 size, .slice (some ⟨W.heap.size, 0, none⟩) 4 4] (W.alloc (.cells #[.pointer (some ⟨bt, k0, none⟩), .pointer (some ⟨bt, k1, none⟩), .pointer (some ⟨bt, k2, none⟩), .pointer (some ⟨bt, k3, none⟩)] 101)) fun e W' => e = .returned (.tuple #[]) ∧ OW W1 W' B g ro ((((s.put (pNumber n0 size)).put (pNumber n1 size)).put (pNumber n2 size)).put (pNumber n3 size)) := by
  have hb := below1 (w := W) (.cells #[.pointer (some ⟨bt, k0, none⟩), .pointer (some ⟨bt, k1, none⟩), .pointer (some ⟨bt, k2, none⟩), .pointer (some ⟨bt, k3, none⟩)] 101)
  have h2 := h.then_ hb
  have hq := heap_alloc_new W (.cells #[.pointer (some ⟨bt, k0, none⟩), .pointer (some ⟨bt, k1, none⟩), .pointer (some ⟨bt, k2, none⟩), .pointer (some ⟨bt, k3, none⟩)] 101)
  have hc0 := h2.cell hk0 hg hr
  have hc1 := h2.cell hk1 hg hr
  have hc2 := h2.cell hk2 hg hr
  have hc3 := h2.cell hk3 hg hr
  have hbl : bt < W1.heap.size := World.block_lt_of_cell? W1 _ hk0
  obtain ⟨h0, ro', hw', hr', hf'⟩ := h
  have hw2 := hw'.below hb
  have hgl := hw'.lt
  have hrl := hw'.ro_lt
  have hro : ro' ≠ some bt := by
    rintro rfl
    rcases hr' with h | ⟨b, h, h3⟩
    · exact hr h.symm
    · have := Option.some.inj h
      omega
  have hng : W.heap.size ≠ g ∧ ro' ≠ some W.heap.size := ⟨by omega, fun e => by
    have := (hrl _ e).2
    omega⟩
  have C := number_w size ⟨W.heap.size, 0, none⟩ 4 [⟨bt, k0, none⟩, ⟨bt, k1, none⟩, ⟨bt, k2, none⟩, ⟨bt, k3, none⟩] [n0, n1, n2, n3] rfl (fun m hm => by
      simp only [List.mem_cons, List.not_mem_nil, or_false] at hm
      rcases hm with rfl | rfl | rfl | rfl
      · exact hn0
      · exact hn1
      · exact hn2
      · exact hn3) (by simp)
    (fun i hi => by
      match i, hi with
      | 0, _ => exact ⟨(blk_cell hq 0).trans rfl, hng⟩
      | 1, _ => exact ⟨(blk_cell hq 1).trans rfl, hng⟩
      | 2, _ => exact ⟨(blk_cell hq 2).trans rfl, hng⟩
      | 3, _ => exact ⟨(blk_cell hq 3).trans rfl, hng⟩
      | i + 4, hi => exact absurd hi (by simp))
    (fun i hi hj => by
      match i, hi, hj with
      | 0, _, _ => exact ⟨hc0, hg, hro⟩
      | 1, _, _ => exact ⟨hc1, hg, hro⟩
      | 2, _, _ => exact ⟨hc2, hg, hro⟩
      | 3, _, _ => exact ⟨hc3, hg, hro⟩
      | i + 4, hi, _ => exact absurd hi (by simp)) hw2 (Nat.le_trans h0 (Nat.le_trans hf'.size hb.size)) hl
  exact C.mono fun e W' hP => OW.post h2 ro' hr' hP
theorem OR_.number4 (h : OR_ W1 W B g ro bs bt T cs r) (k0 : Nat) (k1 : Nat) (k2 : Nat) (k3 : Nat) (size : Int) (hk0 : k0 < cs.size) (hk1 : k1 < cs.size) (hk2 : k2 < cs.size) (hk3 : k3 < cs.size) (h1 : T ≠ 202) (h2 : T ≠ 5) :
    Calls Try.prog 54 #[.agg #[.pointer none, .pointer (some ⟨g, 0, none⟩)], .int .i64 size, .slice (some ⟨W.heap.size, 0, none⟩) 4 4] (W.alloc (.cells #[.pointer (some ⟨bt, k0, none⟩), .pointer (some ⟨bt, k1, none⟩), .pointer (some ⟨bt, k2, none⟩), .pointer (some ⟨bt, k3, none⟩)] 101)) fun e W' => e = .returned (.tuple #[]) ∧ OR_ W1 W' B g ro bs bt T ((((cs.setIfInBounds k0 (.int .i64 (rNum bs r size).1)).setIfInBounds k1 (.int .i64 (rNum bs (rNum bs r size).2 size).1)).setIfInBounds k2 (.int .i64 (rNum bs (rNum bs (rNum bs r size).2 size).2 size).1)).setIfInBounds k3 (.int .i64 (rNum bs (rNum bs (rNum bs (rNum bs r size).2 size).2 size).2 size).1)) (rNum bs (rNum bs (rNum bs (rNum bs r size).2 size).2 size).2 size).2 := by
  have hb := below1 (w := W) (.cells #[.pointer (some ⟨bt, k0, none⟩), .pointer (some ⟨bt, k1, none⟩), .pointer (some ⟨bt, k2, none⟩), .pointer (some ⟨bt, k3, none⟩)] 101)
  have hq := heap_alloc_new W (.cells #[.pointer (some ⟨bt, k0, none⟩), .pointer (some ⟨bt, k1, none⟩), .pointer (some ⟨bt, k2, none⟩), .pointer (some ⟨bt, k3, none⟩)] 101)
  have h3 := h.then_ hb
  have hgl := h.rd_.lt
  have hbl := blk_lt h.blk
  have C := number_r size ⟨W.heap.size, 0, none⟩ 4 [k0, k1, k2, k3] (fun m hm => by
      simp only [List.mem_cons, List.not_mem_nil, or_false] at hm
      rcases hm with rfl | rfl | rfl | rfl
      · exact hk0
      · exact hk1
      · exact hk2
      · exact hk3) (by simp)
    (fun i hi => by
      match i, hi with
      | 0, _ => exact ⟨(blk_cell hq 0).trans rfl, by show W.heap.size ≠ g; omega, by show W.heap.size ≠ bt; omega⟩
      | 1, _ => exact ⟨(blk_cell hq 1).trans rfl, by show W.heap.size ≠ g; omega, by show W.heap.size ≠ bt; omega⟩
      | 2, _ => exact ⟨(blk_cell hq 2).trans rfl, by show W.heap.size ≠ g; omega, by show W.heap.size ≠ bt; omega⟩
      | 3, _ => exact ⟨(blk_cell hq 3).trans rfl, by show W.heap.size ≠ g; omega, by show W.heap.size ≠ bt; omega⟩
      | i + 4, hi => exact absurd hi (by simp)) h3.blk h1 h2 h3.rd_ (Nat.le_trans h.base (Nat.le_trans h.fr.size hb.size))
  exact C.mono fun e W' ⟨he, hr, hq, hf⟩ => ⟨he, h.base, hr, hq, h3.fr.trans hf (fun _ _ h => h)⟩
end
end Go.Proofs.Ytgmbfecfkdbfaaa.Wi
/- Lists of elements in memory: one that is read, one of the call's own; what is put of a list, what is taken. -/
set_option linter.unusedVariables false
set_option linter.unusedSimpArgs false
namespace Go.Proofs.Ytgmbfecfkdbfaaa.Wi
open Go Go.RowKit Go.Proofs.YtgmbfecfkdbfaaaW.PrintWords
/-- cells from a place on -/
def putAt (cs : Array Value) (o : Nat) : List Value → Array Value
  | [] => cs
  | v :: l => putAt (cs.setIfInBounds o v) (o + 1) l
theorem putAt_app : ∀ (l b a c : List Value), b.length = l.length → putAt (a ++ b ++ c).toArray a.length l = (a ++ l ++ c).toArray
  | [], b, a, c, h => by
    obtain rfl := List.eq_nil_of_length_eq_zero h
    rfl
  | v :: l, [], a, c, h => by cases h
  | v :: l, u :: b, a, c, h => by
    have ih := putAt_app l b (a ++ [v]) c (by simpa using h)
    rw [putAt]
    have e : ((a ++ u :: b ++ c).toArray).setIfInBounds a.length v = (a ++ [v] ++ b ++ c).toArray := by
      simp
    rw [e, show a.length + 1 = (a ++ [v]).length by simp, ih]
    simp
theorem putAt_size : ∀ (l : List Value) (cs : Array Value) (o : Nat), (putAt cs o l).size = cs.size
  | [], _, _ => rfl
  | v :: l, cs, o => by rw [putAt, putAt_size l, Array.size_setIfInBounds]
section
variable {α : Type} {enc : α → List Value} {m : Nat} {w w' : World} {A : Option Addr} {xs : List α}
theorem flat_len (henc : ∀ x, (enc x).length = m) : ∀ xs : List α, (xs.flatMap enc).length = xs.length * m
  | [] => by simp
  | x :: xs => by rw [List.flatMap_cons, List.length_append, henc, flat_len henc xs, List.length_cons, Nat.succ_mul]; omega
theorem flat_get (henc : ∀ x, (enc x).length = m) : ∀ (xs : List α) (i : Nat) (hi : i < xs.length) (j : Nat) (hj : j < m), (xs.flatMap enc)[i * m + j]? = (enc xs[i])[j]?
  | x :: xs, 0, hi, j, hj => by
    rw [List.flatMap_cons, List.getElem?_append_left (by rw [henc]; omega), Nat.zero_mul, Nat.zero_add]
    rfl
  | x :: xs, i + 1, hi, j, hj => by
    have hi' : i < xs.length := by simpa using hi
    rw [List.flatMap_cons, List.getElem?_append_right (by rw [henc, Nat.succ_mul]; omega), henc, show (i + 1) * m + j - m = i * m + j by rw [Nat.succ_mul]; omega, flat_get henc xs i hi' j hj]
    rfl
/-- a list of elements that is read -/
def ElAt (enc : α → List Value) (m : Nat) (w : World) (A : Option Addr) (xs : List α) : Prop :=
  ∀ i, (hi : i < xs.length) → ∃ ad, A = some ad ∧ ∀ j u, (enc xs[i])[j]? = some u → w.cell? (ad.add (i * m + j)) = some u
theorem ElAt.keep {S : Nat → Prop} (h : ElAt enc m w A xs) (hf : Fr S w w') (hS : ∀ ad, A = some ad → 0 < xs.length → ¬ S ad.block) : ElAt enc m w' A xs := fun i hi => by
  obtain ⟨ad, e, hc⟩ := h i hi
  refine ⟨ad, e, fun j u hu => ?_⟩
  have h1 := hc j u hu
  have hb := World.block_lt_of_cell? w _ h1
  rw [add_block] at hb
  rw [World.cell?_of_block (w := w) (by rw [add_block]; exact hf.block _ hb (hS ad e (by omega)))]
  exact h1
theorem ElAt.below (h : ElAt enc m w A xs) (hb : Below w.heap.size w w') : ElAt enc m w' A xs := h.keep (S := fun _ => False) (Fr.of_below hb) (fun _ _ _ h => h)
theorem ElAt.lt (h : ElAt enc m w A xs) (h0 : ∀ x, 0 < (enc x).length) (ad : Addr) (e : A = some ad) (hn : 0 < xs.length) : ad.block < w.heap.size := by
  obtain ⟨ad', e', hc⟩ := h 0 hn
  rw [e] at e'
  obtain rfl := Option.some.inj e'
  have hb := World.block_lt_of_cell? w _ (hc 0 _ (List.getElem?_eq_getElem (h0 _)))
  rwa [add_block] at hb
theorem ElAt.nil (A : Option Addr) (w : World) : ElAt enc m w A [] := fun i hi => absurd hi (by simp)
/-- a list of the call's own -/
def RowAt (enc : α → List Value) (E : TypeId) (base : Nat) (w : World) (v : Value) (xs : List α) : Prop :=
  (xs = [] ∧ v = .slice none 0 0) ∨ (0 < xs.length ∧ ∃ nb, base ≤ nb ∧ v = .slice (some ⟨nb, 0, none⟩) xs.length xs.length ∧ w.heap[nb]? = some (.cells (xs.flatMap enc).toArray E (0, 0)))
section
variable {E : TypeId} {base : Nat} {v : Value}
theorem RowAt.el (h : RowAt enc E base w v xs) (henc : ∀ x, (enc x).length = m) : ∃ A, v = .slice A xs.length xs.length ∧ ElAt enc m w A xs := by
  rcases h with ⟨rfl, rfl⟩ | ⟨hn, nb, hb, rfl, hq⟩
  · exact ⟨none, rfl, ElAt.nil _ _⟩
  · refine ⟨_, rfl, fun i hi => ⟨_, rfl, fun j u hu => ?_⟩⟩
    have hj : j < m := by
      have := (List.getElem?_eq_some_iff.1 hu).1
      rwa [henc] at this
    have e : (⟨nb, 0, none⟩ : Addr).add (i * m + j) = ⟨nb, i * m + j, none⟩ := by
      unfold Addr.add
      split
      · rename_i h0; rw [h0]
      · simp
    rw [e, blk_cell hq, List.getElem?_toArray, flat_get henc xs i hi j hj, hu]
theorem RowAt.keep {S : Nat → Prop} (h : RowAt enc E base w v xs) (hf : Fr S w w') (hS : ∀ k, v.ownBlock = some k → ¬ S k) : RowAt enc E base w' v xs := by
  rcases h with h | ⟨hn, nb, hb, rfl, hq⟩
  · exact .inl h
  · exact .inr ⟨hn, nb, hb, rfl, hf.blk hq (hS nb rfl)⟩
theorem RowAt.below (h : RowAt enc E base w v xs) (hb : Below w.heap.size w w') : RowAt enc E base w' v xs := h.keep (S := fun _ => False) (Fr.of_below hb) (fun _ _ h => h)
theorem RowAt.from (h : RowAt enc E base w v xs) {base' : Nat} (hb : base' ≤ base) : RowAt enc E base' w v xs := by
  rcases h with h | ⟨hn, nb, hb', h⟩
  · exact .inl h
  · exact .inr ⟨hn, nb, by omega, h⟩
theorem RowAt.own (h : RowAt enc E base w v xs) (k : Nat) (hk : v.ownBlock = some k) : base ≤ k ∧ k < w.heap.size ∧ ∃ cs, w.heap[k]? = some (.cells cs E (0, 0)) := by
  rcases h with ⟨_, rfl⟩ | ⟨hn, nb, hb, rfl, hq⟩
  · cases hk
  · obtain rfl : nb = k := Option.some.inj hk
    exact ⟨hb, blk_lt hq, _, hq⟩
theorem RowAt.slice (h : RowAt enc E base w v xs) : ∃ A, v = .slice A xs.length xs.length := by
  rcases h with ⟨rfl, rfl⟩ | ⟨hn, nb, hb, rfl, hq⟩
  · exact ⟨none, rfl⟩
  · exact ⟨_, rfl⟩
end
end
/-- a list, put -/
def putL {α : Type} (put : WS → α → WS) (s : WS) (xs : List α) : WS := xs.foldl put (s.put (pNumber xs.length 2))
/-- so many elements, taken -/
def getN {α : Type} (get : RS → α × RS) : Nat → RS → List α × RS
  | 0, r => ([], r)
  | k + 1, r => ((getN get k r).1 ++ [(get (getN get k r).2).1], (get (getN get k r).2).2)
theorem getN_len {α : Type} (get : RS → α × RS) : ∀ (k : Nat) (r : RS), (getN get k r).1.length = k
  | 0, r => rfl
  | k + 1, r => by simp [getN, getN_len get k r]
/-- a list, taken -/
def getL {α : Type} (bs : List Int) (get : RS → α × RS) (most : Int) (r : RS) : List α × RS := getN get (rCou bs r most).1.toNat (rCou bs r most).2
theorem rCou_range (bs : List Int) (r : RS) (most : Int) (h : 0 ≤ most) : 0 ≤ (rCou bs r most).1 ∧ (rCou bs r most).1 ≤ most := by
  unfold rCou RS.take
  split
  · exact ⟨Int.le_refl _, h⟩
  · generalize hq : (fun l => gCount l most) (List.drop r.at_ bs) = q
    have hq' : gCount (List.drop r.at_ bs) most = q := hq
    clear hq
    cases q with
    | error e => exact ⟨Int.le_refl _, h⟩
    | ok p =>
      unfold gCount at hq'
      rw [if_neg (by omega)] at hq'
      split at hq'
      · cases hq'
      · split at hq'
        · cases hq'
        · rename_i h3
          injection hq' with hq'
          subst hq'
          exact ⟨by simp, by simpa using h3⟩
theorem made_flat {α : Type} {enc : α → List Value} {m : Nat} (z : α) (henc : ∀ x, (enc x).length = m) (zc : Array Value) (hz : zc = (enc z).toArray) (n : Nat) : madeCells zc (n * m) = ((List.replicate n z).flatMap enc).toArray := by
  have hs : zc.size = m := by rw [hz, List.size_toArray, henc]
  apply Array.ext
  · rw [size_madeCells, List.size_toArray, flat_len henc, List.length_replicate]
  · intro i h1 h2
    rw [size_madeCells] at h1
    have hm : 0 < m := by
      rcases Nat.eq_zero_or_pos m with h0 | h0
      · subst h0; simp at h1
      · exact h0
    have hd : i / m < n := Nat.div_lt_of_lt_mul (by rwa [Nat.mul_comm])
    have hg := flat_get henc (List.replicate n z) (i / m) (by rw [List.length_replicate]; exact hd) (i % m) (Nat.mod_lt _ hm)
    rw [Nat.div_add_mod' i m, List.getElem_replicate] at hg
    have e1 : (madeCells zc (n * m))[i]'(by rw [size_madeCells]; exact h1) = zc[i % zc.size]! := by simp [madeCells]
    rw [e1]
    have hlt : i % m < zc.size := by rw [hs]; exact Nat.mod_lt _ hm
    have hL : ((List.replicate n z).flatMap enc).toArray[i]'h2 = ((List.replicate n z).flatMap enc)[i]'(by simpa using h2) := by simp
    rw [hL]
    have h3 := (List.getElem?_eq_getElem (l := (List.replicate n z).flatMap enc) (i := i) (by simpa using h2)).symm.trans hg
    rw [hs, getElem!_pos zc _ hlt]
    have h4 : (enc z)[i % m]? = some (zc[i % m]'hlt) := by
      subst hz
      rw [List.getElem?_eq_getElem (by rw [henc]; exact Nat.mod_lt _ hm)]
      simp
    rw [h4] at h3
    exact (Option.some.inj h3).symm
/-- numbers by threes, twos, fives -/
structure I3 where
  a : Int
  b : Int
  c : Int
structure I2 where
  a : Int
  b : Int
structure I5 where
  a : Int
  b : Int
  c : Int
  d : Int
  e : Int
def encI3 (x : I3) : List Value := [.int .i64 x.a, .int .i64 x.b, .int .i64 x.c]
def encI2 (x : I2) : List Value := [.int .i64 x.a, .int .i64 x.b]
def encI5 (x : I5) : List Value := [.int .i64 x.a, .int .i64 x.b, .int .i64 x.c, .int .i64 x.d, .int .i64 x.e]
def encStr (y : ByteArray) : List Value := [.string y]
structure I3.Ok (x : I3) : Prop where
  a : I64 x.a
  b : I64 x.b
  c : I64 x.c
structure I2.Ok (x : I2) : Prop where
  a : I64 x.a
  b : I64 x.b
structure I5.Ok (x : I5) : Prop where
  a : I64 x.a
  b : I64 x.b
  c : I64 x.c
  d : I64 x.d
  e : I64 x.e
def StrOk (y : ByteArray) : Prop := y.size ≤ 9223372036854775807
theorem encI3_len (x : I3) : (encI3 x).length = 3 := rfl
theorem encI2_len (x : I2) : (encI2 x).length = 2 := rfl
theorem encI5_len (x : I5) : (encI5 x).length = 5 := rfl
theorem encStr_len (x : ByteArray) : (encStr x).length = 1 := rfl
end Go.Proofs.Ytgmbfecfkdbfaaa.Wi
/- Numbers by their addresses, put; words of lists. -/
set_option linter.unusedVariables false
set_option linter.unusedSimpArgs false
namespace Go.Proofs.Ytgmbfecfkdbfaaa.Wi
open Go Go.RowKit Go.Proofs.YtgmbfecfkdbfaaaW.PrintWords
theorem addz_ (nb n : Nat) : (⟨nb, 0, none⟩ : Addr).add n = ⟨nb, n, none⟩ := by
  unfold Addr.add
  split
  · rename_i h0; rw [h0]
  · simp
theorem row_step {α : Type} {enc : α → List Value} {m : Nat} (henc : ∀ x, (enc x).length = m) (ys : List α) (z x : α) (n kk : Nat) (hk : kk < n) (hy : ys.length = kk) :
    putAt ((ys ++ List.replicate (n - kk) z).flatMap enc).toArray (kk * m) (enc x) = (((ys ++ [x]) ++ List.replicate (n - (kk + 1)) z).flatMap enc).toArray := by
  have e : n - kk = (n - (kk + 1)) + 1 := by omega
  have h := putAt_app (enc x) (enc z) (ys.flatMap enc) ((List.replicate (n - (kk + 1)) z).flatMap enc) (by rw [henc, henc])
  rw [flat_len henc, hy] at h
  rw [e, List.replicate_succ]
  simp only [List.flatMap_append, List.flatMap_cons, List.flatMap_nil, List.append_nil, List.append_assoc] at h ⊢
  exact h
theorem add_add_ (a : Addr) (i j : Nat) : (a.add i).add j = a.add (i + j) := by
  unfold Addr.add
  by_cases hi : i = 0
  · subst hi; simp
  · by_cases hj : j = 0
    · subst hj; simp
    · rw [if_neg hi, if_neg hj, if_neg (by omega)]
      simp [Nat.add_assoc]
/-- what a list that is put leaves -/
def LPost (B g : Nat) (ro : Option Nat) (bt : Nat) (T : TypeId) (cs : Array Value) (s : WS) (w : World) (e : Ending) (w' : World) : Prop :=
  e = .returned (.tuple #[]) ∧ ∃ ro', Wr w' B g ro' s ∧ (ro' = ro ∨ ∃ b, ro' = some b ∧ w.heap.size ≤ b) ∧ w'.heap[bt]? = some (.cells cs T (0, 0)) ∧ Fr (fun i => WrS g ro i ∨ i = bt) w w'
/-- what a list that is laid down leaves -/
def LRPost {α : Type} (enc : α → List Value) (E : TypeId) (B g : Nat) (ro : Option Nat) (bs : List Int) (bt : Nat) (T : TypeId) (cs : Array Value) (k : Nat) (xs : List α) (r : RS) (w : World) (e : Ending) (w' : World) : Prop :=
  e = .returned (.tuple #[]) ∧ Rd w' B g ro bs r ∧ (∃ v, w'.heap[bt]? = some (.cells (cs.setIfInBounds k v) T (0, 0)) ∧ RowAt enc E w.heap.size w' v xs) ∧ Fr (fun i => i = g ∨ i = bt) w w'
theorem foldl_len {α : Type} {put : WS → α → WS} {b : Nat} (h : ∀ s x, (put s x).xs.length ≤ s.xs.length + b) : ∀ (xs : List α) (s : WS), (xs.foldl put s).xs.length ≤ s.xs.length + xs.length * b
  | [], s => by simp
  | x :: xs, s => by
    have h1 := foldl_len h xs (put s x)
    have h2 := h s x
    rw [List.foldl_cons, List.length_cons, Nat.succ_mul]
    omega
theorem fold_snoc {α : Type} {put : WS → α → WS} (s : WS) (xs : List α) (k : Nat) (hk : k < xs.length) : (xs.take (k + 1)).foldl put s = put ((xs.take k).foldl put s) xs[k] := by
  rw [List.take_succ_eq_append_getElem hk, List.foldl_append]
  rfl
section
variable {W1 W W' : World} {B g : Nat} {ro : Option Nat} {s : WS} {bt : Nat}
theorem OW.numA1 (h : OW W1 W B g ro s) (p0 : Addr) (n0 : Int) (size : Int) (hk0 : W1.cell? p0 = some (.int .i64 n0)) (hn0 : n0 ≤ 9223372036854775807) (hb0 : p0.block = bt) (hg : bt ≠ g) (hr : ro ≠ some bt) (hl : s.xs.length ≤ 100000000000) :
    Calls Try.prog 54 #[.agg #[.pointer (some ⟨g, 0, none⟩), .pointer none], .int .i64 size, .slice (some ⟨W.heap.size, 0, none⟩) 1 1] (W.alloc (.cells #[.pointer (some p0)] 101)) fun e W' => e = .returned (.tuple #[]) ∧ OW W1 W' B g ro (s.put (pNumber n0 size)) := by
  have hb := below1 (w := W) (.cells #[.pointer (some p0)] 101)
  have h2 := h.then_ hb
  have hq := heap_alloc_new W (.cells #[.pointer (some p0)] 101)
  have hgg0 : p0.block ≠ g := by rw [hb0]; exact hg
  have hrr0 : ro ≠ some p0.block := by rw [hb0]; exact hr
  have hc0 := h2.cell hk0 hgg0 hrr0
  have hbl : bt < W1.heap.size := by rw [← hb0]; exact World.block_lt_of_cell? W1 _ hk0
  obtain ⟨h0, ro', hw', hr', hf'⟩ := h
  have hw2 := hw'.below hb
  have hgl := hw'.lt
  have hrl := hw'.ro_lt
  have hro : ro' ≠ some bt := by
    rintro rfl
    rcases hr' with h | ⟨b, h, h3⟩
    · exact hr h.symm
    · have := Option.some.inj h
      omega
  have hng : W.heap.size ≠ g ∧ ro' ≠ some W.heap.size := ⟨by omega, fun e => by
    have := (hrl _ e).2
    omega⟩
  have C := number_w size ⟨W.heap.size, 0, none⟩ 1 [p0] [n0] rfl (fun m hm => by rw [List.mem_singleton.1 hm]; exact hn0) (by simp)
    (fun i hi => by
      match i, hi with
      | 0, _ => exact ⟨(blk_cell hq 0).trans rfl, hng⟩
      | i + 1, hi => exact absurd hi (by simp))
    (fun i hi hj => by
      match i, hi, hj with
      | 0, _, _ => exact ⟨hc0, hgg0, by show ro' ≠ some p0.block; rw [hb0]; exact hro⟩
      | i + 1, hi, _ => exact absurd hi (by simp)) hw2 (Nat.le_trans h0 (Nat.le_trans hf'.size hb.size)) hl
  exact C.mono fun e W' hP => OW.post h2 ro' hr' hP
theorem OW.numA2 (h : OW W1 W B g ro s) (p0 : Addr) (n0 : Int) (p1 : Addr) (n1 : Int) (size : Int) (hk0 : W1.cell? p0 = some (.int .i64 n0)) (hn0 : n0 ≤ 9223372036854775807) (hb0 : p0.block = bt) (hk1 : W1.cell? p1 = some (.int .i64 n1)) (hn1 : n1 ≤ 9223372036854775807) (hb1 : p1.block = bt) (hg : bt ≠ g) (hr : ro ≠ some bt) (hl : s.xs.length ≤ 100000000000) :
    Calls Try.prog 54 #[.agg #[.pointer (some ⟨g, 0, none⟩), .pointer none], .int .i64 size, .slice (some ⟨W.heap.size, 0, none⟩) 2 2] (W.alloc (.cells #[.pointer (some p0), .pointer (some p1)] 101)) fun e W' => e = .returned (.tuple #[]) ∧ OW W1 W' B g ro ((s.put (pNumber n0 size)).put (pNumber n1 size)) := by
  have hb := below1 (w := W) (.cells #[.pointer (some p0), .pointer (some p1)] 101)
  have h2 := h.then_ hb
  have hq := heap_alloc_new W (.cells #[.pointer (some p0), .pointer (some p1)] 101)
  have hgg0 : p0.block ≠ g := by rw [hb0]; exact hg
  have hrr0 : ro ≠ some p0.block := by rw [hb0]; exact hr
  have hc0 := h2.cell hk0 hgg0 hrr0
  have hgg1 : p1.block ≠ g := by rw [hb1]; exact hg
  have hrr1 : ro ≠ some p1.block := by rw [hb1]; exact hr
  have hc1 := h2.cell hk1 hgg1 hrr1
  have hbl : bt < W1.heap.size := by rw [← hb0]; exact World.block_lt_of_cell? W1 _ hk0
  obtain ⟨h0, ro', hw', hr', hf'⟩ := h
  have hw2 := hw'.below hb
  have hgl := hw'.lt
  have hrl := hw'.ro_lt
  have hro : ro' ≠ some bt := by
    rintro rfl
    rcases hr' with h | ⟨b, h, h3⟩
    · exact hr h.symm
    · have := Option.some.inj h
      omega
  have hng : W.heap.size ≠ g ∧ ro' ≠ some W.heap.size := ⟨by omega, fun e => by
    have := (hrl _ e).2
    omega⟩
  have C := number_w size ⟨W.heap.size, 0, none⟩ 2 [p0, p1] [n0, n1] rfl (fun m hm => by
      simp only [List.mem_cons, List.not_mem_nil, or_false] at hm
      rcases hm with rfl | rfl
      · exact hn0
      · exact hn1) (by simp)
    (fun i hi => by
      match i, hi with
      | 0, _ => exact ⟨(blk_cell hq 0).trans rfl, hng⟩
      | 1, _ => exact ⟨(blk_cell hq 1).trans rfl, hng⟩
      | i + 2, hi => exact absurd hi (by simp))
    (fun i hi hj => by
      match i, hi, hj with
      | 0, _, _ => exact ⟨hc0, hgg0, by show ro' ≠ some p0.block; rw [hb0]; exact hro⟩
      | 1, _, _ => exact ⟨hc1, hgg1, by show ro' ≠ some p1.block; rw [hb1]; exact hro⟩
      | i + 2, hi, _ => exact absurd hi (by simp)) hw2 (Nat.le_trans h0 (Nat.le_trans hf'.size hb.size)) hl
  exact C.mono fun e W' hP => OW.post h2 ro' hr' hP
theorem OW.numA3 (h : OW W1 W B g ro s) (p0 : Addr) (n0 : Int) (p1 : Addr) (n1 : Int) (p2 : Addr) (n2 : Int) (size : Int) (hk0 : W1.cell? p0 = some (.int .i64 n0)) (hn0 : n0 ≤ 9223372036854775807) (hb0 : p0.block = bt) (hk1 : W1.cell? p1 = some (.int .i64 n1)) (hn1 : n1 ≤ 9223372036854775807) (hb1 : p1.block = bt) (hk2 : W1.cell? p2 = some (.int .i64 n2)) (hn2 : n2 ≤ 9223372036854775807) (hb2 : p2.block = bt) (hg : bt ≠ g) (hr : ro ≠ some bt) (hl : s.xs.length ≤ 100000000000) :
    Calls Try.prog 54 #[.agg #[.pointer (some ⟨g, 0, none⟩), .pointer none], .int .i64 size, .slice (some ⟨W.heap.size, 0, none⟩) 3 3] (W.alloc (.cells #[.pointer (some p0), .pointer (some p1), .pointer (some p2)] 101)) fun e W' => e = .returned (.tuple #[]) ∧ OW W1 W' B g ro (((s.put (pNumber n0 size)).put (pNumber n1 size)).put (pNumber n2 size)) := by
  have hb := below1 (w := W) (.cells #[.pointer (some p0), .pointer (some p1), .pointer (some p2)] 101)
  have h2 := h.then_ hb
  have hq := heap_alloc_new W (.cells #[.pointer (some p0), .pointer (some p1), .pointer (some p2)] 101)
  have hgg0 : p0.block ≠ g := by rw [hb0]; exact hg
  have hrr0 : ro ≠ some p0.block := by rw [hb0]; exact hr
  have hc0 := h2.cell hk0 hgg0 hrr0
  have hgg1 : p1.block ≠ g := by rw [hb1]; exact hg
  have hrr1 : ro ≠ some p1.block := by rw [hb1]; exact hr
  have hc1 := h2.cell hk1 hgg1 hrr1
  have hgg2 : p2.block ≠ g := by rw [hb2]; exact hg
  have hrr2 : ro ≠ some p2.block := by rw [hb2]; exact hr
  have hc2 := h2.cell hk2 hgg2 hrr2
  have hbl : bt < W1.heap.size := by rw [← hb0]; exact World.block_lt_of_cell? W1 _ hk0
  obtain ⟨h0, ro', hw', hr', hf'⟩ := h
  have hw2 := hw'.below hb
  have hgl := hw'.lt
  have hrl := hw'.ro_lt
  have hro : ro' ≠ some bt := by
    rintro rfl
    rcases hr' with h | ⟨b, h, h3⟩
    · exact hr h.symm
    · have := Option.some.inj h
      omega
  have hng : W.heap.size ≠ g ∧ ro' ≠ some W.heap.size := ⟨by omega, fun e => by
    have := (hrl _ e).2
    omega⟩
  have C := number_w size ⟨W.heap.size, 0, none⟩ 3 [p0, p1, p2] [n0, n1, n2] rfl (fun m hm => by
      simp only [List.mem_cons, List.not_mem_nil, or_false] at hm
      rcases hm with rfl | rfl | rfl
      · exact hn0
      · exact hn1
      · exact hn2) (by simp)
    (fun i hi => by
      match i, hi with
      | 0, _ => exact ⟨(blk_cell hq 0).trans rfl, hng⟩
      | 1, _ => exact ⟨(blk_cell hq 1).trans rfl, hng⟩
      | 2, _ => exact ⟨(blk_cell hq 2).trans rfl, hng⟩
      | i + 3, hi => exact absurd hi (by simp))
    (fun i hi hj => by
      match i, hi, hj with
      | 0, _, _ => exact ⟨hc0, hgg0, by show ro' ≠ some p0.block; rw [hb0]; exact hro⟩
      | 1, _, _ => exact ⟨hc1, hgg1, by show ro' ≠ some p1.block; rw [hb1]; exact hro⟩
      | 2, _, _ => exact ⟨hc2, hgg2, by show ro' ≠ some p2.block; rw [hb2]; exact hro⟩
      | i + 3, hi, _ => exact absurd hi (by simp)) hw2 (Nat.le_trans h0 (Nat.le_trans hf'.size hb.size)) hl
  exact C.mono fun e W' hP => OW.post h2 ro' hr' hP
theorem OW.numA4 (h : OW W1 W B g ro s) (p0 : Addr) (n0 : Int) (p1 : Addr) (n1 : Int) (p2 : Addr) (n2 : Int) (p3 : Addr) (n3 : Int) (size : Int) (hk0 : W1.cell? p0 = some (.int .i64 n0)) (hn0 : n0 ≤ 9223372036854775807) (hb0 : p0.block = bt) (hk1 : W1.cell? p1 = some (.int .i64 n1)) (hn1 : n1 ≤ 9223372036854775807) (hb1 : p1.block = bt) (hk2 : W1.cell? p2 = some (.int .i64 n2)) (hn2 : n2 ≤ 9223372036854775807) (hb2 : p2.block = bt) (hk3 : W1.cell? p3 = some (.int .i64 n3)) (hn3 : n3 ≤ 9223372036854775807) (hb3 : p3.block = bt) (hg : bt ≠ g) (hr : ro ≠ some bt) (hl : s.xs.length ≤ 100000000000) :
    Calls Try.prog 54 #[.agg #[.pointer (some ⟨g, 0, none⟩), .pointer none], .int .i64 size, .slice (some ⟨W.heap.size, 0, none⟩) 4 4] (W.alloc (.cells #[.pointer (some p0), .pointer (some p1), .pointer (some p2), .pointer (some p3)] 101)) fun e W' => e = .returned (.tuple #[]) ∧ OW W1 W' B g ro ((((s.put (pNumber n0 size)).put (pNumber n1 size)).put (pNumber n2 size)).put (pNumber n3 size)) := by
  have hb := below1 (w := W) (.cells #[.pointer (some p0), .pointer (some p1), .pointer (some p2), .pointer (some p3)] 101)
  have h2 := h.then_ hb
  have hq := heap_alloc_new W (.cells #[.pointer (some p0), .pointer (some p1), .pointer (some p2), .pointer (some p3)] 101)
  have hgg0 : p0.block ≠ g := by rw [hb0]; exact hg
  have hrr0 : ro ≠ some p0.block := by rw [hb0]; exact hr
  have hc0 := h2.cell hk0 hgg0 hrr0
  have hgg1 : p1.block ≠ g := by rw [hb1]; exact hg
  have hrr1 : ro ≠ some p1.block := by rw [hb1]; exact hr
  have hc1 := h2.cell hk1 hgg1 hrr1
  have hgg2 : p2.block ≠ g := by rw [hb2]; exact hg
  have hrr2 : ro ≠ some p2.block := by rw [hb2]; exact hr
  have hc2 := h2.cell hk2 hgg2 hrr2
  have hgg3 : p3.block ≠ g := by rw [hb3]; exact hg
  have hrr3 : ro ≠ some p3.block := by rw [hb3]; exact hr
  have hc3 := h2.cell hk3 hgg3 hrr3
  have hbl : bt < W1.heap.size := by rw [← hb0]; exact World.block_lt_of_cell? W1 _ hk0
  obtain ⟨h0, ro', hw', hr', hf'⟩ := h
  have hw2 := hw'.below hb
  have hgl := hw'.lt
  have hrl := hw'.ro_lt
  have hro : ro' ≠ some bt := by
    rintro rfl
    rcases hr' with h | ⟨b, h, h3⟩
    · exact hr h.symm
    · have := Option.some.inj h
      omega
  have hng : W.heap.size ≠ g ∧ ro' ≠ some W.heap.size := ⟨by omega, fun e => by
    have := (hrl _ e).2
    omega⟩
  have C := number_w size ⟨W.heap.size, 0, none⟩ 4 [p0, p1, p2, p3] [n0, n1, n2, n3] rfl (fun m hm => by
      simp only [List.mem_cons, List.not_mem_nil, or_false] at hm
      rcases hm with rfl | rfl | rfl | rfl
      · exact hn0
      · exact hn1
      · exact hn2
      · exact hn3) (by simp)
    (fun i hi => by
      match i, hi with
      | 0, _ => exact ⟨(blk_cell hq 0).trans rfl, hng⟩
      | 1, _ => exact ⟨(blk_cell hq 1).trans rfl, hng⟩
      | 2, _ => exact ⟨(blk_cell hq 2).trans rfl, hng⟩
      | 3, _ => exact ⟨(blk_cell hq 3).trans rfl, hng⟩
      | i + 4, hi => exact absurd hi (by simp))
    (fun i hi hj => by
      match i, hi, hj with
      | 0, _, _ => exact ⟨hc0, hgg0, by show ro' ≠ some p0.block; rw [hb0]; exact hro⟩
      | 1, _, _ => exact ⟨hc1, hgg1, by show ro' ≠ some p1.block; rw [hb1]; exact hro⟩
      | 2, _, _ => exact ⟨hc2, hgg2, by show ro' ≠ some p2.block; rw [hb2]; exact hro⟩
      | 3, _, _ => exact ⟨hc3, hgg3, by show ro' ≠ some p3.block; rw [hb3]; exact hro⟩
      | i + 4, hi, _ => exact absurd hi (by simp)) hw2 (Nat.le_trans h0 (Nat.le_trans hf'.size hb.size)) hl
  exact C.mono fun e W' hP => OW.post h2 ro' hr' hP
end
end Go.Proofs.Ytgmbfecfkdbfaaa.Wi
/- An outage's pieces both ways. -/
set_option linter.unusedVariables false
set_option linter.unusedSimpArgs false
namespace Go.Proofs.Ytgmbfecfkdbfaaa.Wi
open Go Go.RowKit Go.Proofs.YtgmbfecfkdbfaaaW.PrintWords
def putOt (s : WS) (x : I3) : WS := (((s.put (pNumber x.a 2)).put (pNumber x.b 4)).put (pNumber x.c 4))
def getOt (bs : List Int) (r : RS) : I3 × RS :=
  let p0 := rNum bs r 2
  let p1 := rNum bs p0.2 4
  let p2 := rNum bs p1.2 4
  (⟨p0.1, p1.1, p2.1⟩, p2.2)
theorem putOt_len (s : WS) (x : I3) : (putOt s x).xs.length ≤ s.xs.length + 400000 := by
  unfold putOt
  have L0 := putNum_len s x.a 2
  have L1 := putNum_len (s.put (pNumber x.a 2)) x.b 4
  have L2 := putNum_len ((s.put (pNumber x.a 2)).put (pNumber x.b 4)) x.c 4
  omega
set_option maxHeartbeats 8000000 in
set_option maxRecDepth 100000 in
theorem eachOt_w {w : World} {B g : Nat} {ro : Option Nat} {s : WS} (p : Addr) (x : I3) (hx : I3.Ok x) (hp : ∀ j u, (encI3 x)[j]? = some u → w.cell? (p.add j) = some u)
    (hg : p.block ≠ g) (hr : ro ≠ some p.block) (hw : Wr w B g ro s) (hB : B ≤ w.heap.size) (hl : s.xs.length ≤ 90000000000) :
    Calls Try.prog 118 #[.agg #[.pointer (some ⟨g, 0, none⟩), .pointer none], .pointer (some p)] w (WPost B g ro (putOt s x) w) := by
  obtain ⟨pb, po, ps⟩ := p
  have hp0 : w.cell? ⟨pb, po, ps⟩ = some (.int .i64 x.a) := hp 0 _ rfl
  have hp1 : w.cell? ⟨pb, po + 1, none⟩ = some (.int .i64 x.b) := hp 1 _ rfl
  have hp2 : w.cell? ⟨pb, po + 2, none⟩ = some (.int .i64 x.c) := hp 2 _ rfl
  obtain ⟨⟨_, k_a⟩, ⟨_, k_b⟩, ⟨_, k_c⟩⟩ := hx
  obtain ⟨n_a, n_b, n_c⟩ := x
  unfold putOt
  simp only at hp0 hp1 hp2 k_a k_b k_c hg hr ⊢
  clear hp
  have HB1 := Aside0.mk (below1 (w := w) (.cells #[.pointer (some ⟨g, 0, none⟩), .pointer none] 97))
  have hbx := heap_alloc_new w (.cells #[.pointer (some ⟨g, 0, none⟩), .pointer none] 97)
  have H0 := Aside0.mk (show OW (w.alloc (.cells #[.pointer (some ⟨g, 0, none⟩), .pointer none] 97)) (w.alloc (.cells #[.pointer (some ⟨g, 0, none⟩), .pointer none] 97)) B g ro s from ⟨Nat.le_trans hB HB1.out.size, ro, hw.below HB1.out, .inl rfl, Fr.refl _ _⟩)
  have hgl := hw.lt
  have hrl := hw.ro_lt
  have c0 : (w.alloc (.cells #[.pointer (some ⟨g, 0, none⟩), .pointer none] 97)).cell? ⟨pb, po, ps⟩ = some (.int .i64 n_a) := (World.cell?_alloc_lt w _ _ (World.block_lt_of_cell? w _ hp0)).trans hp0
  have c1 : (w.alloc (.cells #[.pointer (some ⟨g, 0, none⟩), .pointer none] 97)).cell? ⟨pb, po + 1, none⟩ = some (.int .i64 n_b) := (World.cell?_alloc_lt w _ _ (World.block_lt_of_cell? w _ hp1)).trans hp1
  have c2 : (w.alloc (.cells #[.pointer (some ⟨g, 0, none⟩), .pointer none] 97)).cell? ⟨pb, po + 2, none⟩ = some (.int .i64 n_c) := (World.cell?_alloc_lt w _ _ (World.block_lt_of_cell? w _ hp2)).trans hp2
  have HC := Aside0.mk (And.intro c0 (And.intro c1 c2))
  have HK : Aside0 (∀ W, Fr (WrS g ro) (w.alloc (.cells #[.pointer (some ⟨g, 0, none⟩), .pointer none] 97)) W → W.cell? ⟨w.heap.size, 0, none⟩ = some (.pointer (some ⟨g, 0, none⟩)) ∧ W.cell? ⟨w.heap.size, 1, none⟩ = some (.pointer none)) := ⟨fun W hf => by
    have hx := hf.blk hbx (by
      rintro (e | e)
      · omega
      · have := (hrl _ e).2
        omega)
    exact ⟨(blk_cell hx 0).trans rfl, (blk_cell hx 1).trans rfl⟩⟩
  have L0 := putNum_len s n_a 2
  have L1 := putNum_len (s.put (pNumber n_a 2)) n_b 4
  have L2 := putNum_len ((s.put (pNumber n_a 2)).put (pNumber n_b 4)) n_c 4
  have HL := Aside0.mk (And.intro hl (And.intro L0 (And.intro L1 L2)))
  clear hw hB hbx hgl hrl c0 c1 c2 hp0 hp1 hp2 L0 L1 L2 hl
  go_enter Try.func118, Try.ntmps118
  go_wp2
  generalize hW1 : w.alloc (.cells #[.pointer (some ⟨g, 0, none⟩), .pointer none] 97) = W1 at *
  generalize hgb : w.heap.size = gb at HK ⊢
  clear hgb
  have HS0 := Aside0.mk (HK.out _ H0.out.fr)
  have HS0 := Aside0.mk (show (W1).drew.cell? ⟨gb, 0, none⟩ = _ ∧ (W1).drew.cell? ⟨gb, 1, none⟩ = _ from HS0.out)
  refine YtgmbfecfkdbfaaaG.wp_region_door 99 YtgmbfecfkdbfaaaG.keepT (fun _ _ => False) (fun W => W.cell? ⟨gb, 0, none⟩ = some (.pointer (some ⟨g, 0, none⟩)) ∧ W.cell? ⟨gb, 1, none⟩ = some (.pointer none)) (by kernel_rfl) trivial (fun _ _ _ _ h => h.elim) ?_
  refine YtgmbfecfkdbfaaaG.wpAnyG_take 0 (v := .agg #[.pointer (some ⟨g, 0, none⟩), .pointer none]) rfl (by kernel_rfl) (by kernel_rfl) (by kernel_rfl) (by kernel_rfl) (by decide) (fun a u => YtgmbfecfkdbfaaaG.keepT_put a u) HS0.out trivial (by rfl) (by rintro W ⟨h0, h1⟩; go_simp; done) ?_
  try simp only [Act.put, List.getElem_toArray, List.getElem_cons_zero, List.getElem_cons_succ, List.setIfInBounds_toArray, List.set_cons_zero, List.set_cons_succ]
  refine YtgmbfecfkdbfaaaG.wpAnyG_take 1 (v := .pointer (some ⟨pb, po, ps⟩)) rfl (by kernel_rfl) (by kernel_rfl) (by kernel_rfl) (by kernel_rfl) (by decide) (fun a u => YtgmbfecfkdbfaaaG.keepT_put a u) HS0.out trivial (by rfl) (by rintro W ⟨h0, h1⟩; go_simp; done) ?_
  try simp only [Act.put, List.getElem_toArray, List.getElem_cons_zero, List.getElem_cons_succ, List.setIfInBounds_toArray, List.set_cons_zero, List.set_cons_succ]
  refine YtgmbfecfkdbfaaaG.wpAnyG_take 2 (v := .pointer (some ⟨pb, po, ps⟩)) rfl (by kernel_rfl) (by kernel_rfl) (by kernel_rfl) (by kernel_rfl) (by decide) (fun a u => YtgmbfecfkdbfaaaG.keepT_put a u) HS0.out trivial (by rfl) (by rintro W ⟨h0, h1⟩; go_simp; done) ?_
  try simp only [Act.put, List.getElem_toArray, List.getElem_cons_zero, List.getElem_cons_succ, List.setIfInBounds_toArray, List.set_cons_zero, List.set_cons_succ]
  refine YtgmbfecfkdbfaaaG.wpAnyG_take 3 (v := .pointer (some ⟨pb, po, ps⟩)) rfl (by kernel_rfl) (by kernel_rfl) (by kernel_rfl) (by kernel_rfl) (by decide) (fun a u => YtgmbfecfkdbfaaaG.keepT_put a u) HS0.out trivial (by rfl) (by rintro W ⟨h0, h1⟩; go_simp; done) ?_
  try simp only [Act.put, List.getElem_toArray, List.getElem_cons_zero, List.getElem_cons_succ, List.setIfInBounds_toArray, List.set_cons_zero, List.set_cons_succ]
  have HD0 := Aside0.mk (H0.out.then_ (Below.refl _ _).drew)
  refine YtgmbfecfkdbfaaaG.wpAnyG_one 4 rfl (by kernel_rfl) (by rfl) (fun K hK => ?_)
  go_simp
  refine hK _ _ (HK.out _ (HD0.out.then_ (below1 _)).fr) trivial ?_
  try simp only [Act.put, List.getElem_toArray, List.getElem_cons_zero, List.getElem_cons_succ, List.setIfInBounds_toArray, List.set_cons_zero, List.set_cons_succ]
  clear hK K
  refine YtgmbfecfkdbfaaaG.wpAnyG_one 5 rfl (by kernel_rfl) (by rfl) (fun K hK => ?_)
  go_simp
  refine (OW.numA1 HD0.out ⟨pb, po, ps⟩ n_a 2 HC.out.1 k_a rfl hg hr (by have := HL.out; omega)).mono ?_
  rintro e w1 ⟨rfl, H1'⟩
  have H1 := Aside0.mk H1'
  clear H1'
  refine hK _ _ (HK.out _ H1.out.fr) trivial ?_
  try simp only [Act.put, List.getElem_toArray, List.getElem_cons_zero, List.getElem_cons_succ, List.setIfInBounds_toArray, List.set_cons_zero, List.set_cons_succ]
  clear hK K HS0
  refine YtgmbfecfkdbfaaaG.wpAnyG_done (by kernel_rfl) ?_ _
  go_wp2
  have HS0 := Aside0.mk (HK.out _ H1.out.fr)
  have HS0 := Aside0.mk (show (w1).drew.cell? ⟨gb, 0, none⟩ = _ ∧ (w1).drew.cell? ⟨gb, 1, none⟩ = _ from HS0.out)
  refine YtgmbfecfkdbfaaaG.wp_region_door 99 YtgmbfecfkdbfaaaG.keepT (fun _ _ => False) (fun W => W.cell? ⟨gb, 0, none⟩ = some (.pointer (some ⟨g, 0, none⟩)) ∧ W.cell? ⟨gb, 1, none⟩ = some (.pointer none)) (by kernel_rfl) trivial (fun _ _ _ _ h => h.elim) ?_
  refine YtgmbfecfkdbfaaaG.wpAnyG_take 0 (v := .agg #[.pointer (some ⟨g, 0, none⟩), .pointer none]) rfl (by kernel_rfl) (by kernel_rfl) (by kernel_rfl) (by kernel_rfl) (by decide) (fun a u => YtgmbfecfkdbfaaaG.keepT_put a u) HS0.out trivial (by rfl) (by rintro W ⟨h0, h1⟩; go_simp; done) ?_
  try simp only [Act.put, List.getElem_toArray, List.getElem_cons_zero, List.getElem_cons_succ, List.setIfInBounds_toArray, List.set_cons_zero, List.set_cons_succ]
  refine YtgmbfecfkdbfaaaG.wpAnyG_take 1 (v := .pointer (some ⟨pb, po, ps⟩)) rfl (by kernel_rfl) (by kernel_rfl) (by kernel_rfl) (by kernel_rfl) (by decide) (fun a u => YtgmbfecfkdbfaaaG.keepT_put a u) HS0.out trivial (by rfl) (by rintro W ⟨h0, h1⟩; go_simp; done) ?_
  try simp only [Act.put, List.getElem_toArray, List.getElem_cons_zero, List.getElem_cons_succ, List.setIfInBounds_toArray, List.set_cons_zero, List.set_cons_succ]
  refine YtgmbfecfkdbfaaaG.wpAnyG_take 2 (v := .pointer (some ⟨pb, po, ps⟩)) rfl (by kernel_rfl) (by kernel_rfl) (by kernel_rfl) (by kernel_rfl) (by decide) (fun a u => YtgmbfecfkdbfaaaG.keepT_put a u) HS0.out trivial (by rfl) (by rintro W ⟨h0, h1⟩; go_simp; done) ?_
  try simp only [Act.put, List.getElem_toArray, List.getElem_cons_zero, List.getElem_cons_succ, List.setIfInBounds_toArray, List.set_cons_zero, List.set_cons_succ]
  refine YtgmbfecfkdbfaaaG.wpAnyG_take 3 (v := .pointer (some ⟨pb, po + 1, none⟩)) rfl (by kernel_rfl) (by kernel_rfl) (by kernel_rfl) (by kernel_rfl) (by decide) (fun a u => YtgmbfecfkdbfaaaG.keepT_put a u) HS0.out trivial (by rfl) (by rintro W ⟨h0, h1⟩; go_simp; done) ?_
  try simp only [Act.put, List.getElem_toArray, List.getElem_cons_zero, List.getElem_cons_succ, List.setIfInBounds_toArray, List.set_cons_zero, List.set_cons_succ]
  refine YtgmbfecfkdbfaaaG.wpAnyG_take 4 (v := .pointer (some ⟨pb, po, ps⟩)) rfl (by kernel_rfl) (by kernel_rfl) (by kernel_rfl) (by kernel_rfl) (by decide) (fun a u => YtgmbfecfkdbfaaaG.keepT_put a u) HS0.out trivial (by rfl) (by rintro W ⟨h0, h1⟩; go_simp; done) ?_
  try simp only [Act.put, List.getElem_toArray, List.getElem_cons_zero, List.getElem_cons_succ, List.setIfInBounds_toArray, List.set_cons_zero, List.set_cons_succ]
  refine YtgmbfecfkdbfaaaG.wpAnyG_take 5 (v := .pointer (some ⟨pb, po, ps⟩)) rfl (by kernel_rfl) (by kernel_rfl) (by kernel_rfl) (by kernel_rfl) (by decide) (fun a u => YtgmbfecfkdbfaaaG.keepT_put a u) HS0.out trivial (by rfl) (by rintro W ⟨h0, h1⟩; go_simp; done) ?_
  try simp only [Act.put, List.getElem_toArray, List.getElem_cons_zero, List.getElem_cons_succ, List.setIfInBounds_toArray, List.set_cons_zero, List.set_cons_succ]
  refine YtgmbfecfkdbfaaaG.wpAnyG_take 6 (v := .pointer (some ⟨pb, po + 2, none⟩)) rfl (by kernel_rfl) (by kernel_rfl) (by kernel_rfl) (by kernel_rfl) (by decide) (fun a u => YtgmbfecfkdbfaaaG.keepT_put a u) HS0.out trivial (by rfl) (by rintro W ⟨h0, h1⟩; go_simp; done) ?_
  try simp only [Act.put, List.getElem_toArray, List.getElem_cons_zero, List.getElem_cons_succ, List.setIfInBounds_toArray, List.set_cons_zero, List.set_cons_succ]
  have HD1 := Aside0.mk (H1.out.then_ (Below.refl _ _).drew)
  refine YtgmbfecfkdbfaaaG.wpAnyG_one 7 rfl (by kernel_rfl) (by rfl) (fun K hK => ?_)
  go_simp
  refine hK _ _ (HK.out _ (HD1.out.then_ (below1 _)).fr) trivial ?_
  try simp only [Act.put, List.getElem_toArray, List.getElem_cons_zero, List.getElem_cons_succ, List.setIfInBounds_toArray, List.set_cons_zero, List.set_cons_succ]
  clear hK K
  refine YtgmbfecfkdbfaaaG.wpAnyG_one 8 rfl (by kernel_rfl) (by rfl) (fun K hK => ?_)
  go_simp
  refine (OW.numA2 HD1.out ⟨pb, po + 1, none⟩ n_b ⟨pb, po + 2, none⟩ n_c 4 HC.out.2.1 k_b rfl HC.out.2.2 k_c rfl hg hr (by have := HL.out; omega)).mono ?_
  rintro e w2 ⟨rfl, H2'⟩
  have H2 := Aside0.mk H2'
  clear H2'
  refine hK _ _ (HK.out _ H2.out.fr) trivial ?_
  try simp only [Act.put, List.getElem_toArray, List.getElem_cons_zero, List.getElem_cons_succ, List.setIfInBounds_toArray, List.set_cons_zero, List.set_cons_succ]
  clear hK K HS0
  refine YtgmbfecfkdbfaaaG.wpAnyG_done (by kernel_rfl) ?_ _
  go_wp2
  go_end0
  obtain ⟨_, ro', hw', hr', hf'⟩ := H2.out
  exact WPost.from (w1 := W1) ⟨rfl, ro', hw', hr', hf'⟩ HB1.out
set_option maxHeartbeats 8000000 in
set_option maxRecDepth 100000 in
theorem eachOt_r {w : World} {B g : Nat} {ro : Option Nat} {bs : List Int} {r : RS} {bt : Nat} {cs : Array Value} {T : TypeId} (o : Nat) (ho : o + 3 ≤ cs.size) (hq : w.heap[bt]? = some (.cells cs T (0, 0))) (h1 : T ≠ 202) (h2 : T ≠ 5)
    (hr : Rd w B g ro bs r) (hB : B ≤ w.heap.size) :
    Calls Try.prog 118 #[.agg #[.pointer none, .pointer (some ⟨g, 0, none⟩)], .pointer (some ⟨bt, o, none⟩)] w (SPost B g ro bs bt T (putAt cs o (encI3 (getOt bs r).1)) (getOt bs r).2 w) := by
  unfold getOt encI3
  simp only [putAt]
  have HB1 := Aside0.mk (below1 (w := w) (.cells #[.pointer none, .pointer (some ⟨g, 0, none⟩)] 97))
  have hbx := heap_alloc_new w (.cells #[.pointer none, .pointer (some ⟨g, 0, none⟩)] 97)
  have hq1 := (Fr.of_below (S := fun _ => False) HB1.out).blk hq (fun h => h)
  have H0 := Aside0.mk (show OR_ (w.alloc (.cells #[.pointer none, .pointer (some ⟨g, 0, none⟩)] 97)) (w.alloc (.cells #[.pointer none, .pointer (some ⟨g, 0, none⟩)] 97)) B g ro bs bt T _ r from ⟨Nat.le_trans hB HB1.out.size, hr.below HB1.out, hq1, Fr.refl _ _⟩)
  have hgl := hr.lt
  have hbl := blk_lt hq
  have HK : Aside0 (∀ W, Fr (fun i => i = g ∨ i = bt) (w.alloc (.cells #[.pointer none, .pointer (some ⟨g, 0, none⟩)] 97)) W → W.cell? ⟨w.heap.size, 0, none⟩ = some (.pointer none) ∧ W.cell? ⟨w.heap.size, 1, none⟩ = some (.pointer (some ⟨g, 0, none⟩))) := ⟨fun W hf => by
    have hx := hf.blk hbx (by rintro (e | e) <;> omega)
    exact ⟨(blk_cell hx 0).trans rfl, (blk_cell hx 1).trans rfl⟩⟩
  clear hq hr hB hbx hq1 hgl hbl
  go_enter Try.func118, Try.ntmps118
  go_wp2
  generalize hW1 : w.alloc (.cells #[.pointer none, .pointer (some ⟨g, 0, none⟩)] 97) = W1 at *
  generalize hgb : w.heap.size = gb at HK ⊢
  clear hgb
  have HS0 := Aside0.mk (HK.out _ H0.out.fr)
  have HS0 := Aside0.mk (show (W1).drew.cell? ⟨gb, 0, none⟩ = _ ∧ (W1).drew.cell? ⟨gb, 1, none⟩ = _ from HS0.out)
  refine YtgmbfecfkdbfaaaG.wp_region_door 99 YtgmbfecfkdbfaaaG.keepT (fun _ _ => False) (fun W => W.cell? ⟨gb, 0, none⟩ = some (.pointer none) ∧ W.cell? ⟨gb, 1, none⟩ = some (.pointer (some ⟨g, 0, none⟩))) (by kernel_rfl) trivial (fun _ _ _ _ h => h.elim) ?_
  refine YtgmbfecfkdbfaaaG.wpAnyG_take 0 (v := .agg #[.pointer none, .pointer (some ⟨g, 0, none⟩)]) rfl (by kernel_rfl) (by kernel_rfl) (by kernel_rfl) (by kernel_rfl) (by decide) (fun a u => YtgmbfecfkdbfaaaG.keepT_put a u) HS0.out trivial (by rfl) (by rintro W ⟨h0, h1⟩; go_simp; done) ?_
  try simp only [Act.put, List.getElem_toArray, List.getElem_cons_zero, List.getElem_cons_succ, List.setIfInBounds_toArray, List.set_cons_zero, List.set_cons_succ]
  refine YtgmbfecfkdbfaaaG.wpAnyG_take 1 (v := .pointer (some ⟨bt, o, none⟩)) rfl (by kernel_rfl) (by kernel_rfl) (by kernel_rfl) (by kernel_rfl) (by decide) (fun a u => YtgmbfecfkdbfaaaG.keepT_put a u) HS0.out trivial (by rfl) (by rintro W ⟨h0, h1⟩; go_simp; done) ?_
  try simp only [Act.put, List.getElem_toArray, List.getElem_cons_zero, List.getElem_cons_succ, List.setIfInBounds_toArray, List.set_cons_zero, List.set_cons_succ]
  refine YtgmbfecfkdbfaaaG.wpAnyG_take 2 (v := .pointer (some ⟨bt, o, none⟩)) rfl (by kernel_rfl) (by kernel_rfl) (by kernel_rfl) (by kernel_rfl) (by decide) (fun a u => YtgmbfecfkdbfaaaG.keepT_put a u) HS0.out trivial (by rfl) (by rintro W ⟨h0, h1⟩; go_simp; done) ?_
  try simp only [Act.put, List.getElem_toArray, List.getElem_cons_zero, List.getElem_cons_succ, List.setIfInBounds_toArray, List.set_cons_zero, List.set_cons_succ]
  refine YtgmbfecfkdbfaaaG.wpAnyG_take 3 (v := .pointer (some ⟨bt, o, none⟩)) rfl (by kernel_rfl) (by kernel_rfl) (by kernel_rfl) (by kernel_rfl) (by decide) (fun a u => YtgmbfecfkdbfaaaG.keepT_put a u) HS0.out trivial (by rfl) (by rintro W ⟨h0, h1⟩; go_simp; done) ?_
  try simp only [Act.put, List.getElem_toArray, List.getElem_cons_zero, List.getElem_cons_succ, List.setIfInBounds_toArray, List.set_cons_zero, List.set_cons_succ]
  have HD0 := Aside0.mk (H0.out.then_ (Below.refl _ _).drew)
  refine YtgmbfecfkdbfaaaG.wpAnyG_one 4 rfl (by kernel_rfl) (by rfl) (fun K hK => ?_)
  go_simp
  refine hK _ _ (HK.out _ (HD0.out.then_ (below1 _)).fr) trivial ?_
  try simp only [Act.put, List.getElem_toArray, List.getElem_cons_zero, List.getElem_cons_succ, List.setIfInBounds_toArray, List.set_cons_zero, List.set_cons_succ]
  clear hK K
  refine YtgmbfecfkdbfaaaG.wpAnyG_one 5 rfl (by kernel_rfl) (by rfl) (fun K hK => ?_)
  go_simp
  refine (OR_.number HD0.out o 2 (by first | omega | (simp only [Array.size_setIfInBounds]; omega)) h1 h2).mono ?_
  rintro e w1 ⟨rfl, H1'⟩
  have H1 := Aside0.mk H1'
  clear H1'
  refine hK _ _ (HK.out _ H1.out.fr) trivial ?_
  try simp only [Act.put, List.getElem_toArray, List.getElem_cons_zero, List.getElem_cons_succ, List.setIfInBounds_toArray, List.set_cons_zero, List.set_cons_succ]
  clear hK K HS0
  refine YtgmbfecfkdbfaaaG.wpAnyG_done (by kernel_rfl) ?_ _
  go_wp2
  have HS0 := Aside0.mk (HK.out _ H1.out.fr)
  have HS0 := Aside0.mk (show (w1).drew.cell? ⟨gb, 0, none⟩ = _ ∧ (w1).drew.cell? ⟨gb, 1, none⟩ = _ from HS0.out)
  refine YtgmbfecfkdbfaaaG.wp_region_door 99 YtgmbfecfkdbfaaaG.keepT (fun _ _ => False) (fun W => W.cell? ⟨gb, 0, none⟩ = some (.pointer none) ∧ W.cell? ⟨gb, 1, none⟩ = some (.pointer (some ⟨g, 0, none⟩))) (by kernel_rfl) trivial (fun _ _ _ _ h => h.elim) ?_
  refine YtgmbfecfkdbfaaaG.wpAnyG_take 0 (v := .agg #[.pointer none, .pointer (some ⟨g, 0, none⟩)]) rfl (by kernel_rfl) (by kernel_rfl) (by kernel_rfl) (by kernel_rfl) (by decide) (fun a u => YtgmbfecfkdbfaaaG.keepT_put a u) HS0.out trivial (by rfl) (by rintro W ⟨h0, h1⟩; go_simp; done) ?_
  try simp only [Act.put, List.getElem_toArray, List.getElem_cons_zero, List.getElem_cons_succ, List.setIfInBounds_toArray, List.set_cons_zero, List.set_cons_succ]
  refine YtgmbfecfkdbfaaaG.wpAnyG_take 1 (v := .pointer (some ⟨bt, o, none⟩)) rfl (by kernel_rfl) (by kernel_rfl) (by kernel_rfl) (by kernel_rfl) (by decide) (fun a u => YtgmbfecfkdbfaaaG.keepT_put a u) HS0.out trivial (by rfl) (by rintro W ⟨h0, h1⟩; go_simp; done) ?_
  try simp only [Act.put, List.getElem_toArray, List.getElem_cons_zero, List.getElem_cons_succ, List.setIfInBounds_toArray, List.set_cons_zero, List.set_cons_succ]
  refine YtgmbfecfkdbfaaaG.wpAnyG_take 2 (v := .pointer (some ⟨bt, o, none⟩)) rfl (by kernel_rfl) (by kernel_rfl) (by kernel_rfl) (by kernel_rfl) (by decide) (fun a u => YtgmbfecfkdbfaaaG.keepT_put a u) HS0.out trivial (by rfl) (by rintro W ⟨h0, h1⟩; go_simp; done) ?_
  try simp only [Act.put, List.getElem_toArray, List.getElem_cons_zero, List.getElem_cons_succ, List.setIfInBounds_toArray, List.set_cons_zero, List.set_cons_succ]
  refine YtgmbfecfkdbfaaaG.wpAnyG_take 3 (v := .pointer (some ⟨bt, o + 1, none⟩)) rfl (by kernel_rfl) (by kernel_rfl) (by kernel_rfl) (by kernel_rfl) (by decide) (fun a u => YtgmbfecfkdbfaaaG.keepT_put a u) HS0.out trivial (by rfl) (by rintro W ⟨h0, h1⟩; go_simp; done) ?_
  try simp only [Act.put, List.getElem_toArray, List.getElem_cons_zero, List.getElem_cons_succ, List.setIfInBounds_toArray, List.set_cons_zero, List.set_cons_succ]
  refine YtgmbfecfkdbfaaaG.wpAnyG_take 4 (v := .pointer (some ⟨bt, o, none⟩)) rfl (by kernel_rfl) (by kernel_rfl) (by kernel_rfl) (by kernel_rfl) (by decide) (fun a u => YtgmbfecfkdbfaaaG.keepT_put a u) HS0.out trivial (by rfl) (by rintro W ⟨h0, h1⟩; go_simp; done) ?_
  try simp only [Act.put, List.getElem_toArray, List.getElem_cons_zero, List.getElem_cons_succ, List.setIfInBounds_toArray, List.set_cons_zero, List.set_cons_succ]
  refine YtgmbfecfkdbfaaaG.wpAnyG_take 5 (v := .pointer (some ⟨bt, o, none⟩)) rfl (by kernel_rfl) (by kernel_rfl) (by kernel_rfl) (by kernel_rfl) (by decide) (fun a u => YtgmbfecfkdbfaaaG.keepT_put a u) HS0.out trivial (by rfl) (by rintro W ⟨h0, h1⟩; go_simp; done) ?_
  try simp only [Act.put, List.getElem_toArray, List.getElem_cons_zero, List.getElem_cons_succ, List.setIfInBounds_toArray, List.set_cons_zero, List.set_cons_succ]
  refine YtgmbfecfkdbfaaaG.wpAnyG_take 6 (v := .pointer (some ⟨bt, o + 2, none⟩)) rfl (by kernel_rfl) (by kernel_rfl) (by kernel_rfl) (by kernel_rfl) (by decide) (fun a u => YtgmbfecfkdbfaaaG.keepT_put a u) HS0.out trivial (by rfl) (by rintro W ⟨h0, h1⟩; go_simp; done) ?_
  try simp only [Act.put, List.getElem_toArray, List.getElem_cons_zero, List.getElem_cons_succ, List.setIfInBounds_toArray, List.set_cons_zero, List.set_cons_succ]
  have HD1 := Aside0.mk (H1.out.then_ (Below.refl _ _).drew)
  refine YtgmbfecfkdbfaaaG.wpAnyG_one 7 rfl (by kernel_rfl) (by rfl) (fun K hK => ?_)
  go_simp
  refine hK _ _ (HK.out _ (HD1.out.then_ (below1 _)).fr) trivial ?_
  try simp only [Act.put, List.getElem_toArray, List.getElem_cons_zero, List.getElem_cons_succ, List.setIfInBounds_toArray, List.set_cons_zero, List.set_cons_succ]
  clear hK K
  refine YtgmbfecfkdbfaaaG.wpAnyG_one 8 rfl (by kernel_rfl) (by rfl) (fun K hK => ?_)
  go_simp
  refine (OR_.number2 HD1.out (o + 1) (o + 2) 4 (by first | omega | (simp only [Array.size_setIfInBounds]; omega)) (by first | omega | (simp only [Array.size_setIfInBounds]; omega)) h1 h2).mono ?_
  rintro e w2 ⟨rfl, H2'⟩
  have H2 := Aside0.mk H2'
  clear H2'
  refine hK _ _ (HK.out _ H2.out.fr) trivial ?_
  try simp only [Act.put, List.getElem_toArray, List.getElem_cons_zero, List.getElem_cons_succ, List.setIfInBounds_toArray, List.set_cons_zero, List.set_cons_succ]
  clear hK K HS0
  refine YtgmbfecfkdbfaaaG.wpAnyG_done (by kernel_rfl) ?_ _
  go_wp2
  go_end0
  have hb := H2.out.blk
  exact ⟨rfl, H2.out.rd_, hb, (Fr.of_below HB1.out).trans H2.out.fr (fun _ _ h => h)⟩
end Go.Proofs.Ytgmbfecfkdbfaaa.Wi
/- A list of outages, put. -/
set_option linter.unusedVariables false
set_option linter.unusedSimpArgs false
namespace Go.Proofs.Ytgmbfecfkdbfaaa.Wi
open Go Go.RowKit Go.Proofs.YtgmbfecfkdbfaaaW.PrintWords
set_option maxHeartbeats 8000000 in
set_option maxRecDepth 100000 in
theorem listOt_w {w : World} {B g : Nat} {ro : Option Nat} {s : WS} {bt : Nat} (k : Nat) (cs : Array Value) (T : TypeId) (xs : List I3) (A : Option Addr) (c : Nat) (most : Int)
    (hq : w.heap[bt]? = some (.cells cs T (0, 0))) (hk : cs[k]? = some (.slice A xs.length c)) (hx : ElAt encI3 3 w A xs) (hok : ∀ x ∈ xs, I3.Ok x) (hn : xs.length ≤ 1000)
    (hA : ∀ ad, A = some ad → 0 < xs.length → ad.block ≠ g ∧ ro ≠ some ad.block) (hg : bt ≠ g) (hr : ro ≠ some bt) (hw : Wr w B g ro s) (hB : B ≤ w.heap.size) (hl : s.xs.length ≤ 10000000000) :
    Calls Try.prog 117 #[.agg #[.pointer (some ⟨g, 0, none⟩), .pointer none], .pointer (some ⟨bt, k, none⟩), .int .i64 most, .func (.func 118) #[] #[]] w (LPost B g ro bt T (if xs.length = 0 then cs.setIfInBounds k (.slice none 0 0) else cs) (putL putOt s xs) w) := by
  have hgl := hw.lt
  have hrl := hw.ro_lt
  have hbl := blk_lt hq
  have HB1 := Aside0.mk (below1 (w := w) (.cells #[.pointer (some ⟨g, 0, none⟩), .pointer none] 97))
  have hbx := heap_alloc_new w (.cells #[.pointer (some ⟨g, 0, none⟩), .pointer none] 97)
  have HK : Aside0 (∀ W, Fr (WrS g ro) (w.alloc (.cells #[.pointer (some ⟨g, 0, none⟩), .pointer none] 97)) W → W.cell? ⟨w.heap.size, 0, none⟩ = some (.pointer (some ⟨g, 0, none⟩)) ∧ W.cell? ⟨w.heap.size, 1, none⟩ = some (.pointer none) ∧ W.heap[bt]? = some (.cells cs T (0, 0)) ∧ ElAt encI3 3 W A xs) := ⟨fun W hf => by
    have hx1 := hf.blk hbx (by
      rintro (e | e)
      · omega
      · have := (hrl _ e).2
        omega)
    refine ⟨(blk_cell hx1 0).trans rfl, (blk_cell hx1 1).trans rfl, hf.blk (blk_b hq HB1.out) (fun h => h.elim hg hr), (hx.below HB1.out).keep hf (fun ad e h => ?_)⟩
    rintro (e' | e')
    · exact (hA ad e h).1 e'
    · exact (hA ad e h).2 e'⟩
  have HW := Aside0.mk (hw.below HB1.out)
  have HB := Aside0.mk (Nat.le_trans hB HB1.out.size)
  have HCK := Aside0.mk hk
  have HOK := Aside0.mk hok
  have HA := Aside0.mk hA
  have HNE := Aside0.mk (And.intro hg hr)
  have HLT := Aside0.mk (hx.lt (fun _ => by simp [encI3]))
  have HBG := Aside0.mk (And.intro hbl (And.intro hgl hrl))
  have HPN := Aside0.mk (show (s.put (pNumber xs.length 2)).xs.length ≤ s.xs.length + 65537 from putNum_len s xs.length 2)
  have HPL := Aside0.mk (fun kk => foldl_len (put := putOt) putOt_len (xs.take kk) (s.put (pNumber xs.length 2)))
  have HTL := Aside0.mk (fun kk => (by rw [List.length_take]; omega : (xs.take kk).length ≤ 1000))
  have h0 := HK.out _ (Fr.refl _ _)
  have b0 := h0.1
  have b1 := h0.2.1
  have bk : (w.alloc (.cells #[.pointer (some ⟨g, 0, none⟩), .pointer none] 97)).cell? ⟨bt, k, none⟩ = some (.slice A xs.length c) := (blk_cell h0.2.2.1 k).trans hk
  obtain ⟨cf, hcf⟩ : ∃ cf, (if xs.length = 0 then cs.setIfInBounds k (.slice none 0 0) else cs) = cf := ⟨_, rfl⟩
  rw [hcf]
  have HCF := Aside0.mk hcf
  have HCNT := Aside0.mk (wCount_calls (xs.length : Int) (by omega) HW.out HB.out (by have := HPN.out; omega))
  unfold LPost putL
  generalize s.put (pNumber (xs.length : Int) 2) = s1 at *
  clear hcf hw hB hq hk hx hok hA hg hr hbx hgl hrl hbl h0
  go_enter Try.func117, Try.ntmps117
  generalize hgb : w.heap.size = gb at HK b0 b1
  generalize hW1 : w.alloc (.cells #[.pointer (some ⟨g, 0, none⟩), .pointer none] 97) = W1 at *
  go_wp2_with (go_at_call 158; refine HCNT.out.mono ?_; rintro e w2 ⟨rfl, ro2, hw2, hg2, hf2⟩; have HW2 := Aside0.mk hw2; have HG2 := Aside0.mk hg2; have HF2 := Aside0.mk hf2; have hk2 := HK.out _ hf2; have c0 := hk2.1; have c1 := hk2.2.1; have ck : w2.cell? ⟨bt, k, none⟩ = some (.slice A xs.length c) := (blk_cell hk2.2.2.1 k).trans HCK.out; clear hw2 hg2 hf2 hk2)
  clear b0 b1 bk c0 c1 ck
  go_loopg [9, 30] xs.length (fun gg s9 s30 wr => ∃ (kk : Nat) (ro' : Option Nat), kk ≤ xs.length ∧ xs.length - kk ≤ gg ∧ s30 = .int .i64 kk ∧ Aside0 (Wr wr B g ro' ((xs.take kk).foldl putOt s1)) ∧ Aside0 (ro' = ro ∨ ∃ b, ro' = some b ∧ W1.heap.size ≤ b) ∧ Aside0 (Fr (WrS g ro) W1 wr))
  case atStart => exact ⟨0, ro2, by omega, by omega, rfl, HW2, HG2, HF2⟩
  case round =>
    obtain ⟨kk, ro', hkk, hgg, rfl, HW3, HG3, HF3⟩ := hrel
    clear HW2 HG2 HF2
    by_cases hlt : kk < xs.length
    · have hltz : (kk : Int) < (xs.length : Int) := by omega
      obtain ⟨hb0, hb1, hbk, hel⟩ := HK.out _ HF3.out
      have hck : wr.cell? ⟨bt, k, none⟩ = some (.slice A xs.length c) := (blk_cell hbk k).trans HCK.out
      obtain ⟨ad, rfl, hcells⟩ := hel kk hlt
      have HE := Aside0.mk (show ∀ j u, (encI3 xs[kk])[j]? = some u → wr.drew.cell? ((ad.add (kk * 3)).add j) = some u from fun j u hu => by rw [add_add_]; exact hcells j u hu)
      have HS0 := Aside0.mk (show wr.drew.cell? ⟨gb, 0, none⟩ = some (.pointer (some ⟨g, 0, none⟩)) ∧ wr.drew.cell? ⟨gb, 1, none⟩ = some (.pointer none) ∧ wr.drew.cell? ⟨bt, k, none⟩ = some (.slice (some ad) xs.length c) from ⟨hb0, hb1, hck⟩)
      have HKK : Aside0 (∀ W, Fr (WrS g ro) W1 W → W.cell? ⟨gb, 0, none⟩ = some (.pointer (some ⟨g, 0, none⟩)) ∧ W.cell? ⟨gb, 1, none⟩ = some (.pointer none) ∧ W.cell? ⟨bt, k, none⟩ = some (.slice (some ad) xs.length c)) := ⟨fun W hf => by
        obtain ⟨h0, h1, h2, _⟩ := HK.out W hf
        exact ⟨h0, h1, (blk_cell h2 k).trans HCK.out⟩⟩
      have HWD := Aside0.mk (HW3.out.below (Below.refl _ _).drew)
      have HBW := Aside0.mk (show B ≤ wr.drew.heap.size from Nat.le_trans HB.out HF3.out.size)
      have HAD := Aside0.mk (show (ad.add (kk * 3)).block ≠ g ∧ ro' ≠ some (ad.add (kk * 3)).block from by
        obtain ⟨h1, h2⟩ := HA.out ad rfl (by omega)
        rw [add_block]
        refine ⟨h1, ?_⟩
        rintro rfl
        rcases HG3.out with h | ⟨b, h, h3⟩
        · exact h2 h.symm
        · have h4 := Option.some.inj h
          have h5 := hel 0 (by omega)
          obtain ⟨ad', e', hc'⟩ := h5
          obtain rfl := Option.some.inj e'
          have h6 : ad.block < w.heap.size := HLT.out ad rfl (by omega)
          have h7 := HB1.out.size
          omega)
      have hfl := HPL.out kk
      have htl := HTL.out kk
      have hfl' : ((xs.take kk).foldl putOt s1).xs.length ≤ 90000000000 := by
        have h1 := HPN.out
        have h2 := Nat.mul_le_mul_right 400000 htl
        omega
      have HLE := Aside0.mk hfl'
      have HOKK := Aside0.mk (HOK.out xs[kk] (List.getElem_mem hlt))
      have HSN := Aside0.mk (fold_snoc (put := putOt) s1 xs kk hlt)
      clear hb0 hb1 hbk hel hck hcells hfl htl hfl'
      generalize xs[kk] = x at *
      go_wp2
      refine YtgmbfecfkdbfaaaG.wp_region_door 99 YtgmbfecfkdbfaaaG.keepT (fun _ _ => False) (fun W => W.cell? ⟨gb, 0, none⟩ = some (.pointer (some ⟨g, 0, none⟩)) ∧ W.cell? ⟨gb, 1, none⟩ = some (.pointer none) ∧ W.cell? ⟨bt, k, none⟩ = some (.slice (some ad) xs.length c)) (by kernel_rfl) trivial (fun _ _ _ _ h => h.elim) ?_
      refine YtgmbfecfkdbfaaaG.wpAnyG_take 0 (v := .func (.func 118) #[] #[]) rfl (by kernel_rfl) (by kernel_rfl) (by kernel_rfl) (by kernel_rfl) (by decide) (fun a u => YtgmbfecfkdbfaaaG.keepT_put a u) HS0.out trivial (by rfl) (by rintro W ⟨h0, h1, h2⟩; go_simp; done) ?_
      try simp only [Act.put, List.getElem_toArray, List.getElem_cons_zero, List.getElem_cons_succ, List.setIfInBounds_toArray, List.set_cons_zero, List.set_cons_succ]
      refine YtgmbfecfkdbfaaaG.wpAnyG_take 1 (v := .agg #[.pointer (some ⟨g, 0, none⟩), .pointer none]) rfl (by kernel_rfl) (by kernel_rfl) (by kernel_rfl) (by kernel_rfl) (by decide) (fun a u => YtgmbfecfkdbfaaaG.keepT_put a u) HS0.out trivial (by rfl) (by rintro W ⟨h0, h1, h2⟩; go_simp; done) ?_
      try simp only [Act.put, List.getElem_toArray, List.getElem_cons_zero, List.getElem_cons_succ, List.setIfInBounds_toArray, List.set_cons_zero, List.set_cons_succ]
      refine YtgmbfecfkdbfaaaG.wpAnyG_take 2 (v := .pointer (some ⟨bt, k, none⟩)) rfl (by kernel_rfl) (by kernel_rfl) (by kernel_rfl) (by kernel_rfl) (by decide) (fun a u => YtgmbfecfkdbfaaaG.keepT_put a u) HS0.out trivial (by rfl) (by rintro W ⟨h0, h1, h2⟩; go_simp; done) ?_
      try simp only [Act.put, List.getElem_toArray, List.getElem_cons_zero, List.getElem_cons_succ, List.setIfInBounds_toArray, List.set_cons_zero, List.set_cons_succ]
      refine YtgmbfecfkdbfaaaG.wpAnyG_take 3 (v := .pointer (some ⟨bt, k, none⟩)) rfl (by kernel_rfl) (by kernel_rfl) (by kernel_rfl) (by kernel_rfl) (by decide) (fun a u => YtgmbfecfkdbfaaaG.keepT_put a u) HS0.out trivial (by rfl) (by rintro W ⟨h0, h1, h2⟩; go_simp; done) ?_
      try simp only [Act.put, List.getElem_toArray, List.getElem_cons_zero, List.getElem_cons_succ, List.setIfInBounds_toArray, List.set_cons_zero, List.set_cons_succ]
      refine YtgmbfecfkdbfaaaG.wpAnyG_take 4 (v := .slice (some ad) xs.length c) rfl (by kernel_rfl) (by kernel_rfl) (by kernel_rfl) (by kernel_rfl) (by decide) (fun a u => YtgmbfecfkdbfaaaG.keepT_put a u) HS0.out trivial (by rfl) (by rintro W ⟨h0, h1, h2⟩; go_simp; done) ?_
      try simp only [Act.put, List.getElem_toArray, List.getElem_cons_zero, List.getElem_cons_succ, List.setIfInBounds_toArray, List.set_cons_zero, List.set_cons_succ]
      refine YtgmbfecfkdbfaaaG.wpAnyG_take 5 (v := .int .i64 kk) rfl (by kernel_rfl) (by kernel_rfl) (by kernel_rfl) (by kernel_rfl) (by decide) (fun a u => YtgmbfecfkdbfaaaG.keepT_put a u) HS0.out trivial (by rfl) (by rintro W ⟨h0, h1, h2⟩; go_simp; done) ?_
      try simp only [Act.put, List.getElem_toArray, List.getElem_cons_zero, List.getElem_cons_succ, List.setIfInBounds_toArray, List.set_cons_zero, List.set_cons_succ]
      refine YtgmbfecfkdbfaaaG.wpAnyG_take 6 (v := .pointer (some (ad.add (kk * 3)))) rfl (by kernel_rfl) (by kernel_rfl) (by kernel_rfl) (by kernel_rfl) (by decide) (fun a u => YtgmbfecfkdbfaaaG.keepT_put a u) HS0.out trivial (by rfl) (by rintro W ⟨h0, h1, h2⟩; go_simp; done) ?_
      try simp only [Act.put, List.getElem_toArray, List.getElem_cons_zero, List.getElem_cons_succ, List.setIfInBounds_toArray, List.set_cons_zero, List.set_cons_succ]
      refine YtgmbfecfkdbfaaaG.wpAnyG_one 7 rfl (by kernel_rfl) (by rfl) (fun K hK => ?_)
      go_simp
      refine (eachOt_w (ad.add (kk * 3)) x HOKK.out HE.out HAD.out.1 HAD.out.2 HWD.out HBW.out HLE.out).mono ?_
      rintro e w5 ⟨rfl, ro5, hw5, hg5, hf5⟩
      have HF5 := Aside0.mk (show Fr (WrS g ro) W1 w5 from HF3.out.drew.trans hf5 (fun i hi hs => by
        rcases hs with e | e
        · exact .inl e
        · rcases HG3.out with h | ⟨b, h, h3⟩
          · exact .inr (by rw [← h, e])
          · rw [h] at e
            obtain rfl := Option.some.inj e
            omega))
      have HG5 := Aside0.mk (show ro5 = ro ∨ ∃ b, ro5 = some b ∧ W1.heap.size ≤ b from by
        rcases hg5 with h | ⟨b, h, hb⟩
        · rw [h]; exact HG3.out
        · exact .inr ⟨b, h, Nat.le_trans HF3.out.size hb⟩)
      have HW5 := Aside0.mk hw5
      clear hw5 hg5 hf5
      refine hK _ _ (HKK.out _ HF5.out) trivial ?_
      clear hK K
      refine YtgmbfecfkdbfaaaG.wpAnyG_done (by kernel_rfl) ?_ _
      go_wp2
      go_roundg (xs.length - (kk + 1))
      case measure => omega
      case rel =>
        refine ⟨kk + 1, ro5, by omega, by omega, by go_num, ⟨?_⟩, HG5, HF5⟩
        rw [HSN.out]
        exact HW5.out
    · have hltz : ¬ (kk : Int) < (xs.length : Int) := by omega
      have hke : xs.take kk = xs := List.take_of_length_le (by omega)
      rw [hke] at HW3
      clear hke
      obtain ⟨_, _, hbk, _⟩ := HK.out _ HF3.out
      have hfw := (Fr.of_below (S := fun i => WrS g ro i ∨ i = bt) HB1.out).trans (HF3.out.mono (S' := fun i => WrS g ro i ∨ i = bt) (fun _ _ h => .inl h)) (fun _ _ h => h)
      have hgw : ro' = ro ∨ ∃ b, ro' = some b ∧ gb ≤ b := HG3.out.elim .inl (fun ⟨b, h, hb⟩ => .inr ⟨b, h, by rw [← hgb]; exact Nat.le_trans HB1.out.size hb⟩)
      have HFW := Aside0.mk hfw
      have HGW := Aside0.mk hgw
      have HBK := Aside0.mk hbk
      clear hbk hfw hgw
      by_cases hz : xs.length = 0
      · have hzb : ((xs.length : Int) == 0) = true := beq_iff_eq.2 (by omega)
        have hzf := blk_frozen HBK.out k
        have hck : wr.cell? ⟨bt, k, none⟩ = some (.slice A xs.length c) := (blk_cell HBK.out k).trans HCK.out
        have hcf := HCF.out
        rw [if_pos hz] at hcf
        subst hcf
        have hnr : ∀ k', ro' = some k' → ¬ k' = bt := fun k' hk' e => by
          subst e
          rcases HG3.out with h | ⟨b, h, hb⟩
          · exact HNE.out.2 (by rw [← h, hk'])
          · rw [hk'] at h
            have h2 := Option.some.inj h
            have h3 := HBG.out.1
            have h4 := HB1.out.size
            omega
        have hfs : Fr (fun i => i = bt) wr (wr.setCell ⟨bt, k, none⟩ (.slice none 0 0)) := (Fr.refl (fun i => i = bt) wr).set_ (p := ⟨bt, k, none⟩) (.inl rfl) _
        have HWK := Aside0.mk (HW3.out.keep hfs (fun e => HNE.out.1 e.symm) hnr)
        clear hnr hfs
        go_wp2
        go_end0
        exact ⟨rfl, ro', HWK.out, HGW.out, blk_put HBK.out k _ rfl, HFW.out.set_ (p := ⟨bt, k, none⟩) (.inl (.inr rfl)) _⟩
      · have hzb : ((xs.length : Int) == 0) = false := beq_eq_false_iff_ne.2 (by omega)
        have hcf := HCF.out
        rw [if_neg hz] at hcf
        subst hcf
        go_wp2
        go_end0
        exact ⟨rfl, ro', HW3.out, HGW.out, HBK.out, HFW.out⟩
end Go.Proofs.Ytgmbfecfkdbfaaa.Wi
/- A list of outages, laid down. -/
set_option linter.unusedVariables false
set_option linter.unusedSimpArgs false
namespace Go.Proofs.Ytgmbfecfkdbfaaa.Wi
open Go Go.RowKit Go.Proofs.YtgmbfecfkdbfaaaW.PrintWords
theorem infoOt : (Try.prog.info? 52).map (fun i => (i.zero, i.size, i.bytes)) = some (some (.agg #[.int .i64 0, .int .i64 0, .int .i64 0]), 3, 24) := by kernel_rfl
theorem makeOt (n : Nat) (hn : n ≤ 1000) (W : World) : (Instr.makeSlice 50 (.int .i64 (n : Int)) (.int .i64 (n : Int))).run Try.prog W = .ok (.slice (some ⟨W.heap.size, 0, none⟩) n n) (W.alloc (.cells ((List.replicate n (⟨0, 0, 0⟩ : I3)).flatMap encI3).toArray 52)) := by
  obtain ⟨i0, hi, hzz⟩ := Option.map_eq_some_iff.1 infoOt
  simp only [Prod.mk.injEq] at hzz
  obtain ⟨hz0, hz1, hz2⟩ := hzz
  have h := run_make (P := Try.prog) W 50 52 i0 (.agg #[.int .i64 0, .int .i64 0, .int .i64 0]) Try.underlying50 hi hz0 .i64 .i64 (n : Int) (n : Int) (by omega) (Int.le_refl _) (by rw [hz2]; omega) (by omega)
  rw [Int.toNat_natCast, hz1, made_flat (enc := encI3) (m := 3) (⟨0, 0, 0⟩ : I3) (fun _ => rfl) ((.agg #[.int .i64 0, .int .i64 0, .int .i64 0]) : Value).cells rfl] at h
  exact h
set_option maxHeartbeats 8000000 in
set_option maxRecDepth 100000 in
theorem listOt_r {w : World} {B g : Nat} {ro : Option Nat} {bs : List Int} {r : RS} {bt : Nat} (k : Nat) (cs : Array Value) (T : TypeId) (most : Int) (hm0 : 0 ≤ most) (hm1 : most ≤ 1000)
    (hq : w.heap[bt]? = some (.cells cs T (0, 0))) (hk : cs[k]? = some (.slice none 0 0)) (h1 : T ≠ 202) (h2 : T ≠ 5) (hr : Rd w B g ro bs r) (hB : B ≤ w.heap.size) :
    Calls Try.prog 117 #[.agg #[.pointer none, .pointer (some ⟨g, 0, none⟩)], .pointer (some ⟨bt, k, none⟩), .int .i64 most, .func (.func 118) #[] #[]] w (LRPost encI3 52 B g ro bs bt T cs k (getL bs (getOt bs) most r).1 (getL bs (getOt bs) most r).2 w) := by
  obtain ⟨hbg, hbr⟩ := hr.ne_ hq h1 h2
  have HB1 := Aside0.mk (below1 (w := w) (.cells #[.pointer none, .pointer (some ⟨g, 0, none⟩)] 97))
  have hbx := heap_alloc_new w (.cells #[.pointer none, .pointer (some ⟨g, 0, none⟩)] 97)
  have HBX := Aside0.mk hbx
  have HQ1 := Aside0.mk (blk_b hq HB1.out)
  have HR1 := Aside0.mk (hr.below HB1.out)
  have HLT := Aside0.mk (And.intro (blk_lt hq) hr.lt)
  have HBG := Aside0.mk hbg
  have HBR := Aside0.mk hbr
  have HCK := Aside0.mk hk
  have HRG := rCou_range bs r most hm0
  have C := Aside0.mk (rCount_calls most HR1.out (Nat.le_trans hB HB1.out.size))
  unfold getL
  obtain ⟨⟨n, r1⟩, hp⟩ : ∃ p, rCou bs r most = p := ⟨_, rfl⟩
  rw [hp] at HRG ⊢
  unfold rCou at hp
  rw [hp] at C
  simp only at HRG C ⊢
  obtain ⟨nn, hnn⟩ : ∃ nn : Nat, n = (nn : Int) := ⟨n.toNat, by omega⟩
  subst hnn
  rw [Int.toNat_natCast]
  have hn : nn ≤ 1000 := by omega
  have hmk := makeOt nn hn
  have HBB := Aside0.mk (Nat.le_trans hB HB1.out.size)
  have b0 : (w.alloc (.cells #[.pointer none, .pointer (some ⟨g, 0, none⟩)] 97)).cell? ⟨w.heap.size, 0, none⟩ = some (.pointer none) := (blk_cell hbx 0).trans rfl
  have b1 : (w.alloc (.cells #[.pointer none, .pointer (some ⟨g, 0, none⟩)] 97)).cell? ⟨w.heap.size, 1, none⟩ = some (.pointer (some ⟨g, 0, none⟩)) := (blk_cell hbx 1).trans rfl
  have bk : (w.alloc (.cells #[.pointer none, .pointer (some ⟨g, 0, none⟩)] 97)).cell? ⟨bt, k, none⟩ = some (.slice none 0 0) := (blk_cell HQ1.out k).trans hk
  have HGB : Aside0 (w.heap.size ≤ w.heap.size) := ⟨Nat.le_refl _⟩
  clear hq hk hr hB hbg hbr hbx hp HRG
  go_enter Try.func117, Try.ntmps117
  generalize hgb : w.heap.size = gb at HBX b0 b1
  have HGE : Aside0 (gb = w.heap.size) := ⟨hgb.symm⟩
  have HL1 := Aside0.mk (blk_lt HBX.out)
  generalize hW1 : w.alloc (.cells #[.pointer none, .pointer (some ⟨g, 0, none⟩)] 97) = W1 at *
  go_wp2_with (go_at_call 159; refine C.out.mono ?_; rintro e w2 ⟨rfl, R2, f2⟩; have HR2 := Aside0.mk R2; have HF2 := Aside0.mk f2; have qk := blk_b (f2.blk HQ1.out HBG.out) (below1 (.cells ((List.replicate nn (⟨0, 0, 0⟩ : I3)).flatMap encI3).toArray 52)); have ck := (blk_cell qk k).trans HCK.out; have zk := blk_frozen qk k; have HQ2 := Aside0.mk qk; have qn := heap_alloc_new w2 (.cells ((List.replicate nn (⟨0, 0, 0⟩ : I3)).flatMap encI3).toArray 52); have HQN := Aside0.mk qn; have hx2 := blk_b (f2.blk HBX.out (by have := HLT.out.2; have := HGE.out; omega)) (below1 (.cells ((List.replicate nn (⟨0, 0, 0⟩ : I3)).flatMap encI3).toArray 52)); have HX2 := Aside0.mk hx2; clear R2 f2 qk qn hx2)
  have hnb : gb < w2.heap.size ∧ bt < w2.heap.size ∧ g < w2.heap.size := by
    have h1 := HF2.out.size
    have h2 := HL1.out
    have h3 := HLT.out
    have h4 := HB1.out.size
    exact ⟨by omega, by omega, by omega⟩
  have HQ3 := Aside0.mk (blk_set HQ2.out k (.slice (some ⟨w2.heap.size, 0, none⟩) nn nn))
  have HQN3 := Aside0.mk (blk_far HQN.out (p := ⟨bt, k, none⟩) (by show w2.heap.size ≠ bt; omega) (.slice (some ⟨w2.heap.size, 0, none⟩) nn nn))
  have HX3 := Aside0.mk (blk_far HX2.out (p := ⟨bt, k, none⟩) (by show gb ≠ bt; have := HLT.out; have := HGE.out; omega) (.slice (some ⟨w2.heap.size, 0, none⟩) nn nn))
  have HR3 := Aside0.mk ((HR2.out.below (below1 (.cells ((List.replicate nn (⟨0, 0, 0⟩ : I3)).flatMap encI3).toArray 52))).keep ((Fr.refl (fun i => i = bt) (w2.alloc (.cells ((List.replicate nn (⟨0, 0, 0⟩ : I3)).flatMap encI3).toArray 52))).set_ (p := ⟨bt, k, none⟩) (.inl rfl) (.slice (some ⟨w2.heap.size, 0, none⟩) nn nn)) (fun e => HBG.out e.symm) (fun k hk e => HBR.out (by rw [hk, e])))
  have HF3 := Aside0.mk ((((Fr.of_below (S := fun i => i = g ∨ i = bt) HB1.out).trans (HF2.out.mono (S' := fun i => i = g ∨ i = bt) (fun i _ h => .inl h)) (fun _ _ h => h)).then_below (below1 (.cells ((List.replicate nn (⟨0, 0, 0⟩ : I3)).flatMap encI3).toArray 52))).set_ (p := ⟨bt, k, none⟩) (.inl (.inr rfl)) (.slice (some ⟨w2.heap.size, 0, none⟩) nn nn))
  have HNB := Aside0.mk hnb
  have HBN := Aside0.mk (show B ≤ ((w2.alloc (.cells ((List.replicate nn (⟨0, 0, 0⟩ : I3)).flatMap encI3).toArray 52)).setCell ⟨bt, k, none⟩ (.slice (some ⟨w2.heap.size, 0, none⟩) nn nn)).heap.size from Nat.le_trans HBB.out (Nat.le_trans HF2.out.size (by simp [World.setCell])))
  clear HQ2 HQN HX2 HR2 HF2 ck zk b0 b1 bk hnb HBX HQ1 HR1 C
  generalize hW3 : (w2.alloc (.cells ((List.replicate nn (⟨0, 0, 0⟩ : I3)).flatMap encI3).toArray 52)).setCell ⟨bt, k, none⟩ (.slice (some ⟨w2.heap.size, 0, none⟩) nn nn) = W3 at *
  generalize w2.heap.size = nb at *
  clear hW3
  go_loopg [9, 30] nn (fun gg s9 s30 wr => ∃ (kk : Nat), kk ≤ nn ∧ nn - kk ≤ gg ∧ s30 = .int .i64 kk ∧ Aside0 (Rd wr B g ro bs (getN (getOt bs) kk r1).2) ∧ Aside0 (wr.heap[nb]? = some (.cells (((getN (getOt bs) kk r1).1 ++ List.replicate (nn - kk) (⟨0, 0, 0⟩ : I3)).flatMap encI3).toArray 52 (0, 0))) ∧ Aside0 (Fr (fun i => i = g ∨ i = nb) W3 wr))
  case atStart => exact ⟨0, by omega, by omega, rfl, HR3, ⟨by simpa [getN] using HQN3.out⟩, ⟨Fr.refl _ _⟩⟩
  case round =>
    obtain ⟨kk, hkk, hgg, rfl, HR4, HQ4, HF4⟩ := hrel
    have HX4 := Aside0.mk (HF4.out.blk HX3.out (by have := HNB.out; have := HLT.out; have := HGE.out; omega))
    have HT4 := Aside0.mk (HF4.out.blk HQ3.out (by have := HNB.out; have := HBG.out; omega))
    by_cases hlt : kk < nn
    · have hltz : (kk : Int) < (nn : Int) := by omega
      have hks : k < cs.size := (Array.getElem?_eq_some_iff.1 HCK.out).1
      have HS0 := Aside0.mk (show wr.drew.cell? ⟨gb, 0, none⟩ = some (.pointer none) ∧ wr.drew.cell? ⟨gb, 1, none⟩ = some (.pointer (some ⟨g, 0, none⟩)) ∧ wr.drew.cell? ⟨bt, k, none⟩ = some (.slice (some ⟨nb, 0, none⟩) nn nn) from ⟨(blk_cell HX4.out 0).trans rfl, (blk_cell HX4.out 1).trans rfl, (blk_cell HT4.out k).trans (by simp [hks])⟩)
      have HKK : Aside0 (∀ W, Fr (fun i => i = g ∨ i = nb) W3 W → W.cell? ⟨gb, 0, none⟩ = some (.pointer none) ∧ W.cell? ⟨gb, 1, none⟩ = some (.pointer (some ⟨g, 0, none⟩)) ∧ W.cell? ⟨bt, k, none⟩ = some (.slice (some ⟨nb, 0, none⟩) nn nn)) := ⟨fun W hf => by
        have hx := hf.blk HX3.out (by have := HNB.out; have := HLT.out; have := HGE.out; omega)
        have ht := hf.blk HQ3.out (by have := HNB.out; have := HBG.out; omega)
        exact ⟨(blk_cell hx 0).trans rfl, (blk_cell hx 1).trans rfl, (blk_cell ht k).trans (by simp [hks])⟩⟩
      have HRD := Aside0.mk (HR4.out.below (Below.refl _ _).drew)
      have HBW := Aside0.mk (show B ≤ wr.drew.heap.size from Nat.le_trans HBN.out HF4.out.size)
      have hlen := getN_len (getOt bs) kk r1
      have HST := Aside0.mk (row_step (enc := encI3) (m := 3) (fun _ => rfl) (getN (getOt bs) kk r1).1 (⟨0, 0, 0⟩ : I3) (getOt bs (getN (getOt bs) kk r1).2).1 nn kk hlt hlen)
      have HSZ := Aside0.mk (show kk * 3 + 3 ≤ (((getN (getOt bs) kk r1).1 ++ List.replicate (nn - kk) (⟨0, 0, 0⟩ : I3)).flatMap encI3).toArray.size from by
        rw [List.size_toArray, flat_len (m := 3) (fun _ => rfl), List.length_append, hlen, List.length_replicate, show kk + (nn - kk) = nn by omega, ← Nat.succ_mul]
        exact Nat.mul_le_mul_right 3 hlt)
      have HGN : Aside0 (getN (getOt bs) (kk + 1) r1 = ((getN (getOt bs) kk r1).1 ++ [(getOt bs (getN (getOt bs) kk r1).2).1], (getOt bs (getN (getOt bs) kk r1).2).2)) := ⟨rfl⟩
      have HQD := Aside0.mk (show wr.drew.heap[nb]? = _ from HQ4.out)
      clear hlen
      generalize getN (getOt bs) kk r1 = q at *
      obtain ⟨ys, r4⟩ := q
      simp only at HR4 HQ4 HRD HST HSZ HGN HQD
      go_wp2
      refine YtgmbfecfkdbfaaaG.wp_region_door 99 YtgmbfecfkdbfaaaG.keepT (fun _ _ => False) (fun W => W.cell? ⟨gb, 0, none⟩ = some (.pointer none) ∧ W.cell? ⟨gb, 1, none⟩ = some (.pointer (some ⟨g, 0, none⟩)) ∧ W.cell? ⟨bt, k, none⟩ = some (.slice (some ⟨nb, 0, none⟩) nn nn)) (by kernel_rfl) trivial (fun _ _ _ _ h => h.elim) ?_
      refine YtgmbfecfkdbfaaaG.wpAnyG_take 0 (v := .func (.func 118) #[] #[]) rfl (by kernel_rfl) (by kernel_rfl) (by kernel_rfl) (by kernel_rfl) (by decide) (fun a u => YtgmbfecfkdbfaaaG.keepT_put a u) HS0.out trivial (by rfl) (by rintro W ⟨h0, h1, h2⟩; go_simp; done) ?_
      try simp only [Act.put, List.getElem_toArray, List.getElem_cons_zero, List.getElem_cons_succ, List.setIfInBounds_toArray, List.set_cons_zero, List.set_cons_succ]
      refine YtgmbfecfkdbfaaaG.wpAnyG_take 1 (v := .agg #[.pointer none, .pointer (some ⟨g, 0, none⟩)]) rfl (by kernel_rfl) (by kernel_rfl) (by kernel_rfl) (by kernel_rfl) (by decide) (fun a u => YtgmbfecfkdbfaaaG.keepT_put a u) HS0.out trivial (by rfl) (by rintro W ⟨h0, h1, h2⟩; go_simp; done) ?_
      try simp only [Act.put, List.getElem_toArray, List.getElem_cons_zero, List.getElem_cons_succ, List.setIfInBounds_toArray, List.set_cons_zero, List.set_cons_succ]
      refine YtgmbfecfkdbfaaaG.wpAnyG_take 2 (v := .pointer (some ⟨bt, k, none⟩)) rfl (by kernel_rfl) (by kernel_rfl) (by kernel_rfl) (by kernel_rfl) (by decide) (fun a u => YtgmbfecfkdbfaaaG.keepT_put a u) HS0.out trivial (by rfl) (by rintro W ⟨h0, h1, h2⟩; go_simp; done) ?_
      try simp only [Act.put, List.getElem_toArray, List.getElem_cons_zero, List.getElem_cons_succ, List.setIfInBounds_toArray, List.set_cons_zero, List.set_cons_succ]
      refine YtgmbfecfkdbfaaaG.wpAnyG_take 3 (v := .pointer (some ⟨bt, k, none⟩)) rfl (by kernel_rfl) (by kernel_rfl) (by kernel_rfl) (by kernel_rfl) (by decide) (fun a u => YtgmbfecfkdbfaaaG.keepT_put a u) HS0.out trivial (by rfl) (by rintro W ⟨h0, h1, h2⟩; go_simp; done) ?_
      try simp only [Act.put, List.getElem_toArray, List.getElem_cons_zero, List.getElem_cons_succ, List.setIfInBounds_toArray, List.set_cons_zero, List.set_cons_succ]
      refine YtgmbfecfkdbfaaaG.wpAnyG_take 4 (v := .slice (some ⟨nb, 0, none⟩) nn nn) rfl (by kernel_rfl) (by kernel_rfl) (by kernel_rfl) (by kernel_rfl) (by decide) (fun a u => YtgmbfecfkdbfaaaG.keepT_put a u) HS0.out trivial (by rfl) (by rintro W ⟨h0, h1, h2⟩; go_simp; done) ?_
      try simp only [Act.put, List.getElem_toArray, List.getElem_cons_zero, List.getElem_cons_succ, List.setIfInBounds_toArray, List.set_cons_zero, List.set_cons_succ]
      refine YtgmbfecfkdbfaaaG.wpAnyG_take 5 (v := .int .i64 kk) rfl (by kernel_rfl) (by kernel_rfl) (by kernel_rfl) (by kernel_rfl) (by decide) (fun a u => YtgmbfecfkdbfaaaG.keepT_put a u) HS0.out trivial (by rfl) (by rintro W ⟨h0, h1, h2⟩; go_simp; done) ?_
      try simp only [Act.put, List.getElem_toArray, List.getElem_cons_zero, List.getElem_cons_succ, List.setIfInBounds_toArray, List.set_cons_zero, List.set_cons_succ]
      refine YtgmbfecfkdbfaaaG.wpAnyG_take 6 (v := .pointer (some ((⟨nb, 0, none⟩ : Addr).add (kk * 3)))) rfl (by kernel_rfl) (by kernel_rfl) (by kernel_rfl) (by kernel_rfl) (by decide) (fun a u => YtgmbfecfkdbfaaaG.keepT_put a u) HS0.out trivial (by rfl) (by rintro W ⟨h0, h1, h2⟩; go_simp; done) ?_
      try simp only [Act.put, List.getElem_toArray, List.getElem_cons_zero, List.getElem_cons_succ, List.setIfInBounds_toArray, List.set_cons_zero, List.set_cons_succ]
      refine YtgmbfecfkdbfaaaG.wpAnyG_one 7 rfl (by kernel_rfl) (by rfl) (fun K hK => ?_)
      go_simp
      try rw [addz_]
      refine (eachOt_r (kk * 3) HSZ.out HQD.out (by decide) (by decide) HRD.out HBW.out).mono ?_
      rintro e w5 ⟨rfl, R5, hq5, f5⟩
      have HR5 := Aside0.mk R5
      have HF5 := Aside0.mk (show Fr (fun i => i = g ∨ i = nb) W3 w5 from HF4.out.drew.trans f5 (fun _ _ h => h))
      have HQ5 := Aside0.mk (hq5.trans (by rw [HST.out]))
      clear R5 hq5 f5
      refine hK _ _ (HKK.out _ HF5.out) trivial ?_
      clear hK K
      refine YtgmbfecfkdbfaaaG.wpAnyG_done (by kernel_rfl) ?_ _
      go_wp2
      go_roundg (nn - (kk + 1))
      case measure => omega
      case rel => exact ⟨kk + 1, by omega, by omega, by go_num, ⟨by rw [HGN.out]; exact HR5.out⟩, ⟨by rw [HGN.out]; exact HQ5.out⟩, HF5⟩
    · have hltz : ¬ (kk : Int) < (nn : Int) := by omega
      obtain rfl : kk = nn := by omega
      have HFE := Aside0.mk (show Fr (fun i => i = g ∨ i = bt) w wr from HF3.out.trans HF4.out (fun i hi h => by
        rcases h with h | h
        · exact .inl h
        · have := HNB.out
          have := HGE.out
          omega))
      rw [Nat.sub_self, List.replicate_zero, List.append_nil] at HQ4
      by_cases hz : kk = 0
      · subst hz
        have hzf := blk_frozen HT4.out k
        have hks : k < cs.size := (Array.getElem?_eq_some_iff.1 HCK.out).1
        have hck : wr.cell? ⟨bt, k, none⟩ = some (.slice (some ⟨nb, 0, none⟩) 0 0) := (blk_cell HT4.out k).trans (by simp [hks])
        go_wp2
        go_end0
        refine ⟨rfl, HR4.out.keep ((Fr.refl (fun i => i = bt) wr).set_ (p := ⟨bt, k, none⟩) (.inl rfl) _) (fun e => HBG.out e.symm) (fun k hk e => HBR.out (by rw [hk, e])), ⟨.slice none 0 0, blk_put HT4.out k _ (by simp), .inl ⟨rfl, rfl⟩⟩, HFE.out.set_ (p := ⟨bt, k, none⟩) (.inl (.inr rfl)) _⟩
      · have hzb : ((kk : Int) == 0) = false := beq_eq_false_iff_ne.2 (by omega)
        go_wp2
        go_end0
        refine ⟨rfl, HR4.out, ⟨.slice (some ⟨nb, 0, none⟩) kk kk, HT4.out, .inr ⟨by rw [getN_len]; omega, nb, by have := HNB.out; have := HGE.out; omega, by rw [getN_len], HQ4.out⟩⟩, HFE.out⟩
end Go.Proofs.Ytgmbfecfkdbfaaa.Wi
