/- fareboxref08.ReadTap. -/
import Derived.Test.YtgmbfecfkdbfaaaRcL
set_option linter.unusedVariables false
set_option linter.unusedSimpArgs false
namespace Go.Proofs.Ytgmbfecfkdbfaaa.Wi
open Go Go.RowKit Go.Proofs.YtgmbfecfkdbfaaaW.PrintWords
/-- the document's reader and what it has laid down -/
structure OX (W1 W : World) (gx bt : Nat) (A : Option Addr) (c : Nat) (bs : List Int) (cs : Array Value) (r : RS) : Prop where
  xr : XR W gx A c bs r
  blk : W.heap[bt]? = some (.cells cs 23 (0, 0))
  fr : Fr (fun i => i = gx ∨ i = bt) W1 W
theorem XR.far_ {W : World} {gx bt : Nat} {A : Option Addr} {c : Nat} {bs : List Int} {r : RS} (h : XR W gx A c bs r) (hne : bt ≠ gx) (hf : ∀ ad, A = some ad → 0 < bs.length → ad.block ≠ bt) (k : Nat) (u : Value) : XR (W.setCell ⟨bt, k, none⟩ u) gx A c bs r :=
  ⟨blk_far h.blk (p := ⟨bt, k, none⟩) (Ne.symm hne) u, h.rd_.keep ((KeepBut.refl W bt none).set_ k u) hf, h.far, h.le, h.len, h.byt, h.cap⟩
theorem OX.step {W1 W W' : World} {gx bt : Nat} {A : Option Addr} {c : Nat} {bs : List Int} {cs cs' : Array Value} {r r' : RS} (h : OX W1 W gx bt A c bs cs r) (hx : XR W' gx A c bs r') (hf : Fr (fun i => i = gx) W W') (k : Nat) (u : Value) (hfb : bt ≠ gx ∧ ∀ ad, A = some ad → 0 < bs.length → ad.block ≠ bt) (e : cs.setIfInBounds k u = cs') : OX W1 (W'.setCell ⟨bt, k, none⟩ u) gx bt A c bs cs' r' := by
  have hq := hf.blk h.blk hfb.1
  exact ⟨hx.far_ hfb.1 hfb.2 k u, blk_put hq k u e, ((h.fr.trans (hf.mono (S' := fun i => i = gx ∨ i = bt) (fun i _ h => .inl h)) (fun _ _ h => h))).set_ (p := ⟨bt, k, none⟩) (.inl (.inr rfl)) u⟩
set_option maxHeartbeats 8000000 in
set_option maxRecDepth 100000 in
theorem refReadTap_calls (A : Option Addr) (c : Nat) (bs : List Int) (w : World) (hr : ReadsInt w .u8 A bs.length bs) (hc : bs.length ≤ c) (hby : Bytes bs) (hl : bs.length ≤ 140737488355328) :
    Calls Try.prog 15 #[.slice A bs.length c] w (TKPost bs w) := by
  have hb4 : Below w.heap.size w ((((w.alloc (.cells #[.int .i64 0, .int .i64 0, .string ⟨#[]⟩, .int .i64 0, .int .i64 0, .int .i64 0] 23)).alloc (.cells #[.int .i64 0, .int .i64 0] 31)).alloc (.cells #[.slice A bs.length c, .int .i64 0, .int .i64 0, .int .i64 0, .int .i64 0] 89)).alloc (.cells #[.int .i64 0, .int .i64 0, .string ⟨#[]⟩, .int .i64 0, .int .i64 0, .int .i64 0] 23)) := below_alloc (below_alloc (below_alloc (below_alloc (Below.refl _ _) _) _) _) _
  have s1 : (w.alloc (.cells #[.int .i64 0, .int .i64 0, .string ⟨#[]⟩, .int .i64 0, .int .i64 0, .int .i64 0] 23)).heap.size = w.heap.size + 1 := by simp
  have s2 : ((w.alloc (.cells #[.int .i64 0, .int .i64 0, .string ⟨#[]⟩, .int .i64 0, .int .i64 0, .int .i64 0] 23)).alloc (.cells #[.int .i64 0, .int .i64 0] 31)).heap.size = w.heap.size + 1 + 1 := by simp
  have s3 : (((w.alloc (.cells #[.int .i64 0, .int .i64 0, .string ⟨#[]⟩, .int .i64 0, .int .i64 0, .int .i64 0] 23)).alloc (.cells #[.int .i64 0, .int .i64 0] 31)).alloc (.cells #[.slice A bs.length c, .int .i64 0, .int .i64 0, .int .i64 0, .int .i64 0] 89)).heap.size = w.heap.size + 1 + 1 + 1 := by simp
  have q6 : ((((w.alloc (.cells #[.int .i64 0, .int .i64 0, .string ⟨#[]⟩, .int .i64 0, .int .i64 0, .int .i64 0] 23)).alloc (.cells #[.int .i64 0, .int .i64 0] 31)).alloc (.cells #[.slice A bs.length c, .int .i64 0, .int .i64 0, .int .i64 0, .int .i64 0] 89)).alloc (.cells #[.int .i64 0, .int .i64 0, .string ⟨#[]⟩, .int .i64 0, .int .i64 0, .int .i64 0] 23)).heap[w.heap.size]? = some _ := blk_b (blk_b (blk_b (heap_alloc_new w (.cells #[.int .i64 0, .int .i64 0, .string ⟨#[]⟩, .int .i64 0, .int .i64 0, .int .i64 0] 23)) (below1 (.cells #[.int .i64 0, .int .i64 0] 31))) (below1 (.cells #[.slice A bs.length c, .int .i64 0, .int .i64 0, .int .i64 0, .int .i64 0] 89))) (below1 (.cells #[.int .i64 0, .int .i64 0, .string ⟨#[]⟩, .int .i64 0, .int .i64 0, .int .i64 0] 23))
  have q7 : ((((w.alloc (.cells #[.int .i64 0, .int .i64 0, .string ⟨#[]⟩, .int .i64 0, .int .i64 0, .int .i64 0] 23)).alloc (.cells #[.int .i64 0, .int .i64 0] 31)).alloc (.cells #[.slice A bs.length c, .int .i64 0, .int .i64 0, .int .i64 0, .int .i64 0] 89)).alloc (.cells #[.int .i64 0, .int .i64 0, .string ⟨#[]⟩, .int .i64 0, .int .i64 0, .int .i64 0] 23)).heap[w.heap.size + 1]? = some _ := s1 ▸ blk_b (blk_b (heap_alloc_new (w.alloc (.cells #[.int .i64 0, .int .i64 0, .string ⟨#[]⟩, .int .i64 0, .int .i64 0, .int .i64 0] 23)) (.cells #[.int .i64 0, .int .i64 0] 31)) (below1 (.cells #[.slice A bs.length c, .int .i64 0, .int .i64 0, .int .i64 0, .int .i64 0] 89))) (below1 (.cells #[.int .i64 0, .int .i64 0, .string ⟨#[]⟩, .int .i64 0, .int .i64 0, .int .i64 0] 23))
  have q8 : ((((w.alloc (.cells #[.int .i64 0, .int .i64 0, .string ⟨#[]⟩, .int .i64 0, .int .i64 0, .int .i64 0] 23)).alloc (.cells #[.int .i64 0, .int .i64 0] 31)).alloc (.cells #[.slice A bs.length c, .int .i64 0, .int .i64 0, .int .i64 0, .int .i64 0] 89)).alloc (.cells #[.int .i64 0, .int .i64 0, .string ⟨#[]⟩, .int .i64 0, .int .i64 0, .int .i64 0] 23)).heap[w.heap.size + 1 + 1]? = some _ := s2 ▸ blk_b (heap_alloc_new ((w.alloc (.cells #[.int .i64 0, .int .i64 0, .string ⟨#[]⟩, .int .i64 0, .int .i64 0, .int .i64 0] 23)).alloc (.cells #[.int .i64 0, .int .i64 0] 31)) (.cells #[.slice A bs.length c, .int .i64 0, .int .i64 0, .int .i64 0, .int .i64 0] 89)) (below1 (.cells #[.int .i64 0, .int .i64 0, .string ⟨#[]⟩, .int .i64 0, .int .i64 0, .int .i64 0] 23))
  have q9 : ((((w.alloc (.cells #[.int .i64 0, .int .i64 0, .string ⟨#[]⟩, .int .i64 0, .int .i64 0, .int .i64 0] 23)).alloc (.cells #[.int .i64 0, .int .i64 0] 31)).alloc (.cells #[.slice A bs.length c, .int .i64 0, .int .i64 0, .int .i64 0, .int .i64 0] 89)).alloc (.cells #[.int .i64 0, .int .i64 0, .string ⟨#[]⟩, .int .i64 0, .int .i64 0, .int .i64 0] 23)).heap[w.heap.size + 1 + 1 + 1]? = some _ := s3 ▸ heap_alloc_new (((w.alloc (.cells #[.int .i64 0, .int .i64 0, .string ⟨#[]⟩, .int .i64 0, .int .i64 0, .int .i64 0] 23)).alloc (.cells #[.int .i64 0, .int .i64 0] 31)).alloc (.cells #[.slice A bs.length c, .int .i64 0, .int .i64 0, .int .i64 0, .int .i64 0] 89)) (.cells #[.int .i64 0, .int .i64 0, .string ⟨#[]⟩, .int .i64 0, .int .i64 0, .int .i64 0] 23)
  have hfar : ∀ ad, A = some ad → 0 < bs.length → ad.block < w.heap.size := fun ad ea hn => by
    obtain ⟨ad', e', hcell⟩ := hr.2.2 hn
    rw [ea] at e'
    obtain rfl := Option.some.inj e'
    have := World.block_lt_of_cell? w _ (hcell 0 hn)
    rwa [add_block] at this
  obtain ⟨⟨n0, r1⟩, e0⟩ : ∃ p, rNum bs ⟨0, 0, 0, 0⟩ 2 = p := ⟨_, rfl⟩
  obtain ⟨⟨n1, r2⟩, e1⟩ : ∃ p, rNum bs r1 4 = p := ⟨_, rfl⟩
  obtain ⟨⟨my, r3⟩, e2⟩ : ∃ p, rFix bs r2 8 = p := ⟨_, rfl⟩
  obtain ⟨⟨n3, r4⟩, e3⟩ : ∃ p, rNum bs r3 1 = p := ⟨_, rfl⟩
  obtain ⟨⟨n4, r5⟩, e4⟩ : ∃ p, rNum bs r4 2 = p := ⟨_, rfl⟩
  obtain ⟨⟨n5, r6⟩, e5⟩ : ∃ p, rNum bs r5 4 = p := ⟨_, rfl⟩
  have HTP : Aside0 (tapR bs ⟨0, 0, 0, 0⟩ = (⟨n0, n1, my, n3, n4, n5⟩, r6)) := ⟨by simp [tapR, e0, e1, e2, e3, e4, e5]⟩
  have C0 := Aside0.mk (fun (W : World) (h : XR W (w.heap.size + 1 + 1) A c bs ⟨0, 0, 0, 0⟩) => xNum_calls 2 h)
  have C1 := Aside0.mk (fun (W : World) (h : XR W (w.heap.size + 1 + 1) A c bs r1) => xNum_calls 4 h)
  have C2 := Aside0.mk (fun (W : World) (h : XR W (w.heap.size + 1 + 1) A c bs r2) => xFix_calls 8 h)
  have C3 := Aside0.mk (fun (W : World) (h : XR W (w.heap.size + 1 + 1) A c bs r3) => xNum_calls 1 h)
  have C4 := Aside0.mk (fun (W : World) (h : XR W (w.heap.size + 1 + 1) A c bs r4) => xNum_calls 2 h)
  have C5 := Aside0.mk (fun (W : World) (h : XR W (w.heap.size + 1 + 1) A c bs r5) => xNum_calls 4 h)
  rw [e0] at C0
  rw [e1] at C1
  rw [e2] at C2
  rw [e3] at C3
  rw [e4] at C4
  rw [e5] at C5
  simp only at C0 C1 C2 C3 C4 C5
  have H0 := Aside0.mk (show OX ((((w.alloc (.cells #[.int .i64 0, .int .i64 0, .string ⟨#[]⟩, .int .i64 0, .int .i64 0, .int .i64 0] 23)).alloc (.cells #[.int .i64 0, .int .i64 0] 31)).alloc (.cells #[.slice A bs.length c, .int .i64 0, .int .i64 0, .int .i64 0, .int .i64 0] 89)).alloc (.cells #[.int .i64 0, .int .i64 0, .string ⟨#[]⟩, .int .i64 0, .int .i64 0, .int .i64 0] 23)) ((((w.alloc (.cells #[.int .i64 0, .int .i64 0, .string ⟨#[]⟩, .int .i64 0, .int .i64 0, .int .i64 0] 23)).alloc (.cells #[.int .i64 0, .int .i64 0] 31)).alloc (.cells #[.slice A bs.length c, .int .i64 0, .int .i64 0, .int .i64 0, .int .i64 0] 89)).alloc (.cells #[.int .i64 0, .int .i64 0, .string ⟨#[]⟩, .int .i64 0, .int .i64 0, .int .i64 0] 23)) (w.heap.size + 1 + 1) (w.heap.size + 1 + 1 + 1) A c bs #[.int .i64 0, .int .i64 0, .string ⟨#[]⟩, .int .i64 0, .int .i64 0, .int .i64 0] ⟨0, 0, 0, 0⟩ from ⟨⟨q8, hr.below hb4, fun ad ea hn => by have := hfar ad ea hn; omega, Nat.zero_le _, hl, hby, hc⟩, q9, Fr.refl _ _⟩)
  have HFB : Aside0 (w.heap.size + 1 + 1 + 1 ≠ w.heap.size + 1 + 1 ∧ ∀ ad, A = some ad → 0 < bs.length → ad.block ≠ w.heap.size + 1 + 1 + 1) := ⟨⟨by omega, fun ad ea hn => by have := hfar ad ea hn; omega⟩⟩
  have HNE : Aside0 (w.heap.size + 1 + 1 + 1 ≠ w.heap.size + 1 + 1) := ⟨by omega⟩
  have HQ6 := Aside0.mk q6
  have HQ7 := Aside0.mk q7
  have HB4 := Aside0.mk hb4
  clear hb4 s1 s2 s3 q6 q7 q8 q9 hfar e0 e1 e2 e3 e4 e5 hr hby
  go_enter Try.func15, Try.ntmps15
  go_upto_region 3 with (fail)
  generalize ((((w.alloc (.cells #[.int .i64 0, .int .i64 0, .string ⟨#[]⟩, .int .i64 0, .int .i64 0, .int .i64 0] 23)).alloc (.cells #[.int .i64 0, .int .i64 0] 31)).alloc (.cells #[.slice A bs.length c, .int .i64 0, .int .i64 0, .int .i64 0, .int .i64 0] 89)).alloc (.cells #[.int .i64 0, .int .i64 0, .string ⟨#[]⟩, .int .i64 0, .int .i64 0, .int .i64 0] 23)) = W4 at *
  go_upto_region 9 with (first | (go_at_call 48; (with_reducible refine (C0.out _ H0.out.xr).mono ?_); rintro e w1 ⟨rfl, x1, f1⟩; have H1 := Aside0.mk (show OX W4 (w1.setCell ⟨w.heap.size + 1 + 1 + 1, 0, none⟩ (.int .i64 n0)) (w.heap.size + 1 + 1) (w.heap.size + 1 + 1 + 1) A c bs #[.int .i64 n0, .int .i64 0, .string ⟨#[]⟩, .int .i64 0, .int .i64 0, .int .i64 0] r1 from OX.step H0.out x1 f1 0 (.int .i64 n0) HFB.out rfl); have q1 := f1.blk H0.out.blk HNE.out; have cc1 := (blk_cell q1 0).trans rfl; have zz1 := blk_frozen q1 0; clear x1 f1 q1) | (go_at_call 48; (with_reducible refine (C1.out _ H1.out.xr).mono ?_); rintro e w2 ⟨rfl, x2, f2⟩; have H2 := Aside0.mk (show OX W4 (w2.setCell ⟨w.heap.size + 1 + 1 + 1, 1, none⟩ (.int .i64 n1)) (w.heap.size + 1 + 1) (w.heap.size + 1 + 1 + 1) A c bs #[.int .i64 n0, .int .i64 n1, .string ⟨#[]⟩, .int .i64 0, .int .i64 0, .int .i64 0] r2 from OX.step H1.out x2 f2 1 (.int .i64 n1) HFB.out rfl); have q2 := f2.blk H1.out.blk HNE.out; have cc2 := (blk_cell q2 1).trans rfl; have zz2 := blk_frozen q2 1; clear x2 f2 q2) | (go_at_call 49; (with_reducible refine (C2.out _ H2.out.xr).mono ?_); rintro e w3 ⟨rfl, x3, f3⟩; have H3 := Aside0.mk (show OX W4 (w3.setCell ⟨w.heap.size + 1 + 1 + 1, 2, none⟩ (.string (strOfNums my))) (w.heap.size + 1 + 1) (w.heap.size + 1 + 1 + 1) A c bs #[.int .i64 n0, .int .i64 n1, .string (strOfNums my), .int .i64 0, .int .i64 0, .int .i64 0] r3 from OX.step H2.out x3 f3 2 (.string (strOfNums my)) HFB.out rfl); have q3 := f3.blk H2.out.blk HNE.out; have cc3 := (blk_cell q3 2).trans rfl; have zz3 := blk_frozen q3 2; clear x3 f3 q3) | (go_at_call 48; (with_reducible refine (C3.out _ H3.out.xr).mono ?_); rintro e w4 ⟨rfl, x4, f4⟩; have H4 := Aside0.mk (show OX W4 (w4.setCell ⟨w.heap.size + 1 + 1 + 1, 3, none⟩ (.int .i64 n3)) (w.heap.size + 1 + 1) (w.heap.size + 1 + 1 + 1) A c bs #[.int .i64 n0, .int .i64 n1, .string (strOfNums my), .int .i64 n3, .int .i64 0, .int .i64 0] r4 from OX.step H3.out x4 f4 3 (.int .i64 n3) HFB.out rfl); have q4 := f4.blk H3.out.blk HNE.out; have cc4 := (blk_cell q4 3).trans rfl; have zz4 := blk_frozen q4 3; clear x4 f4 q4) | (go_at_call 48; (with_reducible refine (C4.out _ H4.out.xr).mono ?_); rintro e w5 ⟨rfl, x5, f5⟩; have H5 := Aside0.mk (show OX W4 (w5.setCell ⟨w.heap.size + 1 + 1 + 1, 4, none⟩ (.int .i64 n4)) (w.heap.size + 1 + 1) (w.heap.size + 1 + 1 + 1) A c bs #[.int .i64 n0, .int .i64 n1, .string (strOfNums my), .int .i64 n3, .int .i64 n4, .int .i64 0] r5 from OX.step H4.out x5 f5 4 (.int .i64 n4) HFB.out rfl); have q5 := f5.blk H4.out.blk HNE.out; have cc5 := (blk_cell q5 4).trans rfl; have zz5 := blk_frozen q5 4; clear x5 f5 q5) | (go_at_call 48; (with_reducible refine (C5.out _ H5.out.xr).mono ?_); rintro e w6 ⟨rfl, x6, f6⟩; have H6 := Aside0.mk (show OX W4 (w6.setCell ⟨w.heap.size + 1 + 1 + 1, 5, none⟩ (.int .i64 n5)) (w.heap.size + 1 + 1) (w.heap.size + 1 + 1 + 1) A c bs #[.int .i64 n0, .int .i64 n1, .string (strOfNums my), .int .i64 n3, .int .i64 n4, .int .i64 n5] r6 from OX.step H5.out x6 f6 5 (.int .i64 n5) HFB.out rfl); have q6 := f6.blk H5.out.blk HNE.out; have cc6 := (blk_cell q6 5).trans rfl; have zz6 := blk_frozen q6 5; clear x6 f6 q6))
  generalize w6.setCell ⟨w.heap.size + 1 + 1 + 1, 5, none⟩ (.int .i64 n5) = W6 at H6 ⊢
  have v0 : _ = some (Value.int .i64 n0) := blk_cell H6.out.blk 0
  have v1 : _ = some (Value.int .i64 n1) := blk_cell H6.out.blk 1
  have v2 : _ = some (Value.string (strOfNums my)) := blk_cell H6.out.blk 2
  have v3 : _ = some (Value.int .i64 n3) := blk_cell H6.out.blk 3
  have v4 : _ = some (Value.int .i64 n4) := blk_cell H6.out.blk 4
  have v5 : _ = some (Value.int .i64 n5) := blk_cell H6.out.blk 5
  have HT := Aside0.mk (fun W => rTapRight_calls ⟨n0, n1, strOfNums my, n3, n4, n5⟩ W)
  have hrt : readTap bs = (if (r6.end_ bs.length).code = 0 then (if (Tp.right ⟨n0, n1, strOfNums my, n3, n4, n5⟩) = true then (⟨n0, n1, strOfNums my, n3, n4, n5⟩, 0, (r6.end_ bs.length).fat) else (Tp.zero, 80, -1)) else (Tp.zero, (r6.end_ bs.length).code, (r6.end_ bs.length).fat)) := by
    unfold readTap
    rw [HTP.out]
    rfl
  obtain ⟨rr, hrr⟩ : ∃ rr, (Tp.right ⟨n0, n1, strOfNums my, n3, n4, n5⟩) = rr := ⟨_, rfl⟩
  obtain ⟨⟨code, fat⟩, hec⟩ : ∃ p, endC r6 bs.length rr = p := ⟨_, rfl⟩
  have HRT0 : Aside0 (readTap bs = if code = 0 then (⟨n0, n1, strOfNums my, n3, n4, n5⟩, code, fat) else (Tp.zero, code, fat)) := ⟨by
    rw [hrt, hrr]
    unfold endC at hec
    cases rr with
    | true =>
      rw [if_neg (by simp)] at hec
      injection hec with e1 e2
      by_cases h0 : code = 0
      · rw [if_pos h0, if_pos (by rw [e1, h0]), if_pos rfl, e2, h0]
      · rw [if_neg h0, if_neg (by rw [e1]; exact h0), e1, e2]
    | false =>
      by_cases h1 : (r6.end_ bs.length).code = 0
      · rw [if_pos ⟨h1, rfl⟩] at hec
        injection hec with e1 e2
        subst e1 e2
        rw [if_pos h1]
        simp
      · rw [if_neg (fun h => h1 h.1)] at hec
        injection hec with e1 e2
        rw [if_neg h1, if_neg (by rw [← e1]; exact h1), e1, e2]⟩
  have HEC := Aside0.mk (fun (W : World) (h : XR W (w.heap.size + 1 + 1) A c bs r6) => ended_calls rr h)
  rw [hec] at HEC
  rw [hrr] at HT
  unfold Tp.val at HT
  simp only at HT HEC
  clear hrt hrr hec HTP C0 C1 C2 C3 C4 C5
  go_upto_region 10 with (first
    | (go_at_call 46; refine (HT.out _).mono ?_; rintro e w7 ⟨rfl, hb7⟩; have HB7 := Aside0.mk hb7; clear hb7)
    | (go_at_call 50; refine (HEC.out _ (H6.out.xr.below HB7.out)).mono ?_; rintro e w8 ⟨rfl, x8, f8⟩; have HF8 := Aside0.mk f8; clear x8 f8))
  have hz : w.heap.size + 1 < W4.heap.size := blk_lt HQ7.out
  have hb9 := below1 (w := w8) (.cells #[.int .i64 code, .int .i64 fat] 31)
  have old : ∀ k (cs : Array Value) (T : TypeId), k ≠ w.heap.size + 1 + 1 → k ≠ w.heap.size + 1 + 1 + 1 → W4.heap[k]? = some (.cells cs T (0, 0)) → (w8.alloc (.cells #[.int .i64 code, .int .i64 fat] 31)).heap[k]? = some (.cells cs T (0, 0)) := fun k cs T h1 h2 h3 => blk_b (HF8.out.blk (blk_b (H6.out.fr.blk h3 (fun h => h.elim h1 h2)) HB7.out) h1) hb9
  have HG := Aside0.mk (And.intro (old _ _ _ (by omega) (by omega) HQ6.out) (And.intro (old _ _ _ (by omega) (by omega) HQ7.out) (And.intro (blk_b (HF8.out.blk (blk_b H6.out.blk HB7.out) HNE.out) hb9) (heap_alloc_new w8 (.cells #[.int .i64 code, .int .i64 fat] 31)))))
  have HW9 := Aside0.mk (show Below w.heap.size w (w8.alloc (.cells #[.int .i64 code, .int .i64 fat] 31)) from by
    have h1 := HB4.out.size
    have h2 := H6.out.fr.size
    have h3 := HB7.out.size
    have h4 := HF8.out.size
    exact below_alloc (((HB4.out.trans (H6.out.fr.below h1 (fun i hi => by rcases hi with e | e <;> omega))).trans ⟨HB7.out.os, HB7.out.tape, HB7.out.output, HB7.out.size, fun i hi => HB7.out.block i (by omega)⟩).trans (HF8.out.below (by omega) (fun i hi => by omega))) _)
  have hgf : w.heap.size + 1 + 1 + 1 < w8.heap.size := by
    have h1 := blk_lt H0.out.blk
    have h2 := H6.out.fr.size
    have h3 := HB7.out.size
    have h4 := HF8.out.size
    omega
  clear old hb9 hz v0 v1 v2 v3 v4 v5 H0 H1 H2 H3 H4 H5 H6 HF8 HB7 HQ6 HQ7 HB4
  generalize w8.alloc (.cells #[.int .i64 code, .int .i64 fat] 31) = w9 at *
  generalize w8.heap.size = gf at *
  have f0 : _ = some (Value.int .i64 code) := blk_cell HG.out.2.2.2 0
  have f1 : _ = some (Value.int .i64 fat) := blk_cell HG.out.2.2.2 1
  by_cases hc0 : code = 0
  case neg =>
    have hcn : (code != 0) = true := bne_iff_ne.2 hc0
    have HRT : Aside0 (readTap bs = (Tp.zero, code, fat)) := ⟨by rw [HRT0.out, if_neg hc0]⟩
    clear HRT0 hc0
    go_wp2
    have p0 : _ = some (Value.int .i64 0) := blk_cell HG.out.1 0
    have z0 := blk_frozen HG.out.1 0
    have p1 : _ = some (Value.int .i64 0) := blk_cell HG.out.1 1
    have z1 := blk_frozen HG.out.1 1
    have p2 : _ = some (Value.string ⟨#[]⟩) := blk_cell HG.out.1 2
    have z2 := blk_frozen HG.out.1 2
    have p3 : _ = some (Value.int .i64 0) := blk_cell HG.out.1 3
    have z3 := blk_frozen HG.out.1 3
    have p4 : _ = some (Value.int .i64 0) := blk_cell HG.out.1 4
    have z4 := blk_frozen HG.out.1 4
    have p5 : _ = some (Value.int .i64 0) := blk_cell HG.out.1 5
    have z5 := blk_frozen HG.out.1 5
    have t0 : _ = some (Value.int .i64 0) := blk_cell HG.out.2.1 0
    have y0 := blk_frozen HG.out.2.1 0
    have t1 : _ = some (Value.int .i64 0) := blk_cell HG.out.2.1 1
    have y1 := blk_frozen HG.out.2.1 1
    go_region
    generalize hWE : World.drew _ = WE
    obtain ⟨k0, k1, k2, k3, k4, k5, l0, l1, hbl⟩ := fin8 HG.out.1 HG.out.2.1 HW9.out (Nat.le_refl _) 0 0 ⟨#[]⟩ 0 0 0 code fat hWE.symm
    clear hWE
    go_wp2
    refine bodyPost_ret (v := .tuple #[.agg #[.int .i64 0, .int .i64 0, .string ⟨#[]⟩, .int .i64 0, .int .i64 0, .int .i64 0], .agg #[.int .i64 code, .int .i64 fat]]) (by simp [results, Try.results15, go_sem, k0, k1, k2, k3, k4, k5, l0, l1]) rfl ?_
    unfold TKPost
    rw [HRT.out]
    exact ⟨rfl, hbl⟩
  case pos =>
    subst hc0
    have HRT : Aside0 (readTap bs = (⟨n0, n1, strOfNums my, n3, n4, n5⟩, 0, fat)) := ⟨by rw [HRT0.out, if_pos rfl]⟩
    clear HRT0
    have v0 : _ = some (Value.int .i64 n0) := blk_cell HG.out.2.2.1 0
    have v1 : _ = some (Value.int .i64 n1) := blk_cell HG.out.2.2.1 1
    have v2 : _ = some (Value.string (strOfNums my)) := blk_cell HG.out.2.2.1 2
    have v3 : _ = some (Value.int .i64 n3) := blk_cell HG.out.2.2.1 3
    have v4 : _ = some (Value.int .i64 n4) := blk_cell HG.out.2.2.1 4
    have v5 : _ = some (Value.int .i64 n5) := blk_cell HG.out.2.2.1 5
    go_wp2
    have p0 : _ = some (Value.int .i64 0) := blk_cell HG.out.1 0
    have z0 := blk_frozen HG.out.1 0
    have p1 : _ = some (Value.int .i64 0) := blk_cell HG.out.1 1
    have z1 := blk_frozen HG.out.1 1
    have p2 : _ = some (Value.string ⟨#[]⟩) := blk_cell HG.out.1 2
    have z2 := blk_frozen HG.out.1 2
    have p3 : _ = some (Value.int .i64 0) := blk_cell HG.out.1 3
    have z3 := blk_frozen HG.out.1 3
    have p4 : _ = some (Value.int .i64 0) := blk_cell HG.out.1 4
    have z4 := blk_frozen HG.out.1 4
    have p5 : _ = some (Value.int .i64 0) := blk_cell HG.out.1 5
    have z5 := blk_frozen HG.out.1 5
    have t0 : _ = some (Value.int .i64 0) := blk_cell HG.out.2.1 0
    have y0 := blk_frozen HG.out.2.1 0
    have t1 : _ = some (Value.int .i64 0) := blk_cell HG.out.2.1 1
    have y1 := blk_frozen HG.out.2.1 1
    go_region
    generalize hWE : World.drew _ = WE
    obtain ⟨k0, k1, k2, k3, k4, k5, l0, l1, hbl⟩ := fin8 HG.out.1 HG.out.2.1 HW9.out (Nat.le_refl _) n0 n1 (strOfNums my) n3 n4 n5 0 fat hWE.symm
    clear hWE
    go_wp2
    refine bodyPost_ret (v := .tuple #[.agg #[.int .i64 n0, .int .i64 n1, .string (strOfNums my), .int .i64 n3, .int .i64 n4, .int .i64 n5], .agg #[.int .i64 0, .int .i64 fat]]) (by simp [results, Try.results15, go_sem, k0, k1, k2, k3, k4, k5, l0, l1]) rfl ?_
    unfold TKPost
    rw [HRT.out]
    exact ⟨rfl, hbl⟩
end Go.Proofs.Ytgmbfecfkdbfaaa.Wi
