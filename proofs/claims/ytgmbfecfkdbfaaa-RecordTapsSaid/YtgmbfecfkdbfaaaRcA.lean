/- A record's pieces: a token, numbers: put where the side writes, laid down where it reads. -/
import Derived.Test.YtgmbfecfkdbfaaaWiX3
import Derived.Test.YtgmbfecfkdbfaaaWiV3
set_option linter.unusedVariables false
set_option linter.unusedSimpArgs false
namespace Go.Proofs.Ytgmbfecfkdbfaaa.Wi
open Go Go.RowKit Go.Proofs.YtgmbfecfkdbfaaaW.PrintWords
section
variable {w : World} {B g : Nat} {ro : Option Nat} {s : WS} {bs : List Int} {r : RS}
set_option maxHeartbeats 3200000 in
set_option maxRecDepth 100000 in
theorem token_w (bt o : Nat) (y : ByteArray) (hy : y.size ≤ 9223372036854775807) (hp : w.cell? ⟨bt, o, none⟩ = some (.string y)) (hbg : bt ≠ g) (hbr : ro ≠ some bt) (hw : Wr w B g ro s) (hB : B ≤ w.heap.size) (hl : (s.put (pFixed y 8)).xs.length ≤ 140737488355328) :
    Calls Try.prog 53 #[.agg #[.pointer (some ⟨g, 0, none⟩), .pointer none], .pointer (some ⟨bt, o, none⟩)] w (WPost B g ro (s.put (pFixed y 8)) w) := by
  have hbt : bt < w.heap.size := World.block_lt_of_cell? w _ hp
  have hgl := hw.lt
  have hrl := hw.ro_lt
  have HW := Aside0.mk ((hw.below (below1 (.cells #[.pointer (some ⟨g, 0, none⟩), .pointer none] 97))).below (Below.refl _ _).drew)
  have HB := Aside0.mk (Nat.le_trans hB (below1 (w := w) (.cells #[.pointer (some ⟨g, 0, none⟩), .pointer none] 97)).size)
  have hp1 : (w.alloc (.cells #[.pointer (some ⟨g, 0, none⟩), .pointer none] 97)).cell? ⟨bt, o, none⟩ = some (.string y) := (World.cell?_alloc_lt w _ _ hbt).trans hp
  have hq := heap_alloc_new w (.cells #[.pointer (some ⟨g, 0, none⟩), .pointer none] 97)
  have HS0 := Aside0.mk (show (w.alloc (.cells #[.pointer (some ⟨g, 0, none⟩), .pointer none] 97)).drew.cell? ⟨w.heap.size, 0, none⟩ = some (.pointer (some ⟨g, 0, none⟩)) ∧ (w.alloc (.cells #[.pointer (some ⟨g, 0, none⟩), .pointer none] 97)).drew.cell? ⟨bt, o, none⟩ = some (.string y) from ⟨(blk_cell hq 0).trans rfl, hp1⟩)
  have HBL := Aside0.mk (show Below w.heap.size w (w.alloc (.cells #[.pointer (some ⟨g, 0, none⟩), .pointer none] 97)).drew from (below1 (.cells #[.pointer (some ⟨g, 0, none⟩), .pointer none] 97)).drew)
  have HK : Aside0 (∀ W, Fr (WrS g ro) (w.alloc (.cells #[.pointer (some ⟨g, 0, none⟩), .pointer none] 97)).drew W → W.cell? ⟨w.heap.size, 0, none⟩ = some (.pointer (some ⟨g, 0, none⟩)) ∧ W.cell? ⟨bt, o, none⟩ = some (.string y)) := ⟨fun W hf => by
    have e1 : ∀ k, k < (w.alloc (.cells #[.pointer (some ⟨g, 0, none⟩), .pointer none] 97)).drew.heap.size → ¬ WrS g ro k → ∀ p : Addr, p.block = k → W.cell? p = (w.alloc (.cells #[.pointer (some ⟨g, 0, none⟩), .pointer none] 97)).drew.cell? p := fun k hk hn p hpk => World.cell?_of_block (by rw [hpk]; exact hf.block k hk hn)
    have hsz := (below1 (w := w) (.cells #[.pointer (some ⟨g, 0, none⟩), .pointer none] 97)).size
    have hsz2 : w.heap.size < (w.alloc (.cells #[.pointer (some ⟨g, 0, none⟩), .pointer none] 97)).drew.heap.size := blk_lt hq
    refine ⟨(e1 _ hsz2 ?_ _ rfl).trans HS0.out.1, (e1 bt (by show bt < (w.alloc (.cells #[.pointer (some ⟨g, 0, none⟩), .pointer none] 97)).heap.size; omega) ?_ _ rfl).trans HS0.out.2⟩
    · rintro (e | e)
      · omega
      · have := (hrl _ e).2
        omega
    · rintro (e | e)
      · exact hbg e
      · exact hbr e⟩
  clear hw hB hp hp1 hq hbt hgl hrl
  go_enter Try.func53, Try.ntmps53
  go_wp2
  refine YtgmbfecfkdbfaaaG.wp_region_door 99 YtgmbfecfkdbfaaaG.keepT (fun _ _ => False) (fun W => W.cell? ⟨w.heap.size, 0, none⟩ = some (.pointer (some ⟨g, 0, none⟩)) ∧ W.cell? ⟨bt, o, none⟩ = some (.string y)) (by kernel_rfl) trivial (fun _ _ _ _ h => h.elim) ?_
  refine YtgmbfecfkdbfaaaG.wpAnyG_take 0 (v := .pointer (some ⟨w.heap.size, 0, none⟩)) rfl (by kernel_rfl) (by kernel_rfl) (by kernel_rfl) (by kernel_rfl) (by decide) (fun a u => YtgmbfecfkdbfaaaG.keepT_put a u) HS0.out trivial (by rfl) (by rintro W ⟨h0, h1⟩; go_simp; done) ?_
  try simp only [Act.put, List.getElem_toArray, List.getElem_cons_zero, List.getElem_cons_succ, List.setIfInBounds_toArray, List.set_cons_zero, List.set_cons_succ]
  refine YtgmbfecfkdbfaaaG.wpAnyG_take 1 (v := .pointer (some ⟨g, 0, none⟩)) rfl (by kernel_rfl) (by kernel_rfl) (by kernel_rfl) (by kernel_rfl) (by decide) (fun a u => YtgmbfecfkdbfaaaG.keepT_put a u) HS0.out trivial (by rfl) (by rintro W ⟨h0, h1⟩; go_simp; done) ?_
  try simp only [Act.put, List.getElem_toArray, List.getElem_cons_zero, List.getElem_cons_succ, List.setIfInBounds_toArray, List.set_cons_zero, List.set_cons_succ]
  refine YtgmbfecfkdbfaaaG.wpAnyG_take 2 (v := .pointer (some ⟨bt, o, none⟩)) rfl (by kernel_rfl) (by kernel_rfl) (by kernel_rfl) (by kernel_rfl) (by decide) (fun a u => YtgmbfecfkdbfaaaG.keepT_put a u) HS0.out trivial (by rfl) (by rintro W ⟨h0, h1⟩; go_simp; done) ?_
  try simp only [Act.put, List.getElem_toArray, List.getElem_cons_zero, List.getElem_cons_succ, List.setIfInBounds_toArray, List.set_cons_zero, List.set_cons_succ]
  refine YtgmbfecfkdbfaaaG.wpAnyG_take 3 (v := .pointer (some ⟨bt, o, none⟩)) rfl (by kernel_rfl) (by kernel_rfl) (by kernel_rfl) (by kernel_rfl) (by decide) (fun a u => YtgmbfecfkdbfaaaG.keepT_put a u) HS0.out trivial (by rfl) (by rintro W ⟨h0, h1⟩; go_simp; done) ?_
  try simp only [Act.put, List.getElem_toArray, List.getElem_cons_zero, List.getElem_cons_succ, List.setIfInBounds_toArray, List.set_cons_zero, List.set_cons_succ]
  refine YtgmbfecfkdbfaaaG.wpAnyG_take 4 (v := .string y) rfl (by kernel_rfl) (by kernel_rfl) (by kernel_rfl) (by kernel_rfl) (by decide) (fun a u => YtgmbfecfkdbfaaaG.keepT_put a u) HS0.out trivial (by rfl) (by rintro W ⟨h0, h1⟩; go_simp; done) ?_
  try simp only [Act.put, List.getElem_toArray, List.getElem_cons_zero, List.getElem_cons_succ, List.setIfInBounds_toArray, List.set_cons_zero, List.set_cons_succ]
  refine YtgmbfecfkdbfaaaG.wpAnyG_one 5 rfl (by kernel_rfl) (by rfl) (fun K hK => ?_)
  go_simp
  refine (wFixed_calls y 8 hy HW.out HB.out hl).mono ?_
  rintro e w5 ⟨rfl, hP⟩
  obtain ⟨ro', hw', hgr, hf⟩ := hP
  refine hK _ _ (HK.out _ hf) trivial ?_
  clear hK K
  refine YtgmbfecfkdbfaaaG.wpAnyG_done (by kernel_rfl) ?_ _
  go_wp2
  go_end0
  exact WPost.from (w1 := (w.alloc (.cells #[.pointer (some ⟨g, 0, none⟩), .pointer none] 97)).drew) ⟨rfl, ro', hw', hgr, hf⟩ HBL.out
end
section
variable {w : World} {B g : Nat} {ro : Option Nat} {s : WS} {bs : List Int} {r : RS}
/-- numbers, one behind the other -/
def putN (s : WS) (ns : List Int) (size : Int) : WS := ns.foldl (fun s n => s.put (pNumber n size)) s
theorem putN_snoc (s : WS) (ns : List Int) (n size : Int) : putN s (ns ++ [n]) size = (putN s ns size).put (pNumber n size) := by simp [putN]
theorem putN_len (s : WS) (ns : List Int) (size : Int) : (putN s ns size).xs.length ≤ s.xs.length + ns.length * 65537 := by
  induction ns generalizing s with
  | nil => simp [putN]
  | cons n r ih =>
    have h1 := ih (s.put (pNumber n size))
    have h2 := put_len s (pNumber n size) (fun ys h => Nat.le_trans (pNumber_len h) (by omega))
    show (putN (s.put (pNumber n size)) r size).xs.length ≤ _
    rw [List.length_cons, Nat.add_mul]
    omega
set_option maxHeartbeats 3200000 in
set_option maxRecDepth 100000 in
theorem number_w (size : Int) (ad : Addr) (c : Nat) (As : List Addr) (ns : List Int) (hlen : As.length = ns.length) (hns : ∀ n ∈ ns, n ≤ 9223372036854775807) (hcl : ns.length ≤ 1000)
    (hp : ∀ i, (hi : i < As.length) → w.cell? (ad.add i) = some (.pointer (some As[i])) ∧ ad.block ≠ g ∧ ro ≠ some ad.block) (hv : ∀ i, (hi : i < As.length) → (hj : i < ns.length) → w.cell? As[i] = some (.int .i64 ns[i]) ∧ (As[i]).block ≠ g ∧ ro ≠ some (As[i]).block)
    (hw : Wr w B g ro s) (hB : B ≤ w.heap.size) (hl : s.xs.length ≤ 100000000000) :
    Calls Try.prog 54 #[.agg #[.pointer (some ⟨g, 0, none⟩), .pointer none], .int .i64 size, .slice (some ad) ns.length c] w (WPost B g ro (putN s ns size) w) := by
  have hgl := hw.lt
  have hrl := hw.ro_lt
  have HW := Aside0.mk (hw.below (below1 (.cells #[.pointer (some ⟨g, 0, none⟩), .pointer none] 97)))
  have HB := Aside0.mk (Nat.le_trans hB (below1 (w := w) (.cells #[.pointer (some ⟨g, 0, none⟩), .pointer none] 97)).size)
  have hq := heap_alloc_new w (.cells #[.pointer (some ⟨g, 0, none⟩), .pointer none] 97)
  have HBL := Aside0.mk (below1 (w := w) (.cells #[.pointer (some ⟨g, 0, none⟩), .pointer none] 97))
  have hsz2 : w.heap.size < (w.alloc (.cells #[.pointer (some ⟨g, 0, none⟩), .pointer none] 97)).heap.size := blk_lt hq
  have HK : Aside0 (∀ W, Fr (WrS g ro) (w.alloc (.cells #[.pointer (some ⟨g, 0, none⟩), .pointer none] 97)) W → W.cell? ⟨w.heap.size, 0, none⟩ = some (.pointer (some ⟨g, 0, none⟩)) ∧ ∀ i, (hi : i < As.length) → (hj : i < ns.length) → W.cell? (ad.add i) = some (.pointer (some As[i])) ∧ W.cell? As[i] = some (.int .i64 ns[i])) := ⟨fun W hf => by
    have e1 : ∀ p : Addr, p.block < (w.alloc (.cells #[.pointer (some ⟨g, 0, none⟩), .pointer none] 97)).heap.size → ¬ WrS g ro p.block → W.cell? p = (w.alloc (.cells #[.pointer (some ⟨g, 0, none⟩), .pointer none] 97)).cell? p := fun p hk hn => World.cell?_of_block (hf.block _ hk hn)
    refine ⟨(e1 _ hsz2 ?_).trans ((blk_cell hq 0).trans rfl), fun i hi hj => ?_⟩
    · rintro (e | e)
      · simp only at e; omega
      · have := (hrl _ e).2
        simp only at this
        omega
    · obtain ⟨a1, a2, a3⟩ := hp i hi
      obtain ⟨b1, b2, b3⟩ := hv i hi hj
      have l1 := World.block_lt_of_cell? w _ a1
      have l2 := World.block_lt_of_cell? w _ b1
      rw [add_block] at l1
      refine ⟨(e1 _ (by rw [add_block]; omega) ?_).trans ((World.cell?_alloc_lt w _ _ (by rw [add_block]; exact l1)).trans a1), (e1 _ (by omega) ?_).trans ((World.cell?_alloc_lt w _ _ l2).trans b1)⟩
      · rw [add_block]
        rintro (e | e)
        · exact a2 e
        · exact a3 e
      · rintro (e | e)
        · exact b2 e
        · exact b3 e⟩
  have HNS := Aside0.mk hns
  have HLN := Aside0.mk (show ∀ k, (putN s (ns.take k) size).xs.length ≤ 140737488355328 from fun k => by
    have h1 := putN_len s (ns.take k) size
    have h2 : (ns.take k).length ≤ 1000 := by rw [List.length_take]; omega
    have h3 := Nat.mul_le_mul_right 65537 h2
    omega)
  clear hw hB hq hgl hrl hp hv hns hsz2
  go_enter Try.func54, Try.ntmps54
  go_wp2
  generalize hW1 : w.alloc (.cells #[.pointer (some ⟨g, 0, none⟩), .pointer none] 97) = W1 at *
  generalize hgb : w.heap.size = gb at HK ⊢
  clear hgb
  go_loopg [7, 10] ns.length (fun gg s7 s10 wr => ∃ (kk : Nat) (ro' : Option Nat), kk ≤ ns.length ∧ ns.length - kk ≤ gg ∧ s10 = .int .i64 kk ∧ Aside0 (Wr wr B g ro' (putN s (ns.take kk) size)) ∧ Aside0 (ro' = ro ∨ ∃ b, ro' = some b ∧ W1.heap.size ≤ b) ∧ Aside0 (Fr (WrS g ro) W1 wr))
  case atStart => exact ⟨0, ro, by omega, by omega, rfl, by simpa [putN] using HW, ⟨.inl rfl⟩, ⟨Fr.refl _ _⟩⟩
  case round =>
    obtain ⟨kk, ro', hkk, hgg, rfl, HW2, HR2, HF2⟩ := hrel
    clear HW
    by_cases hlt : kk < ns.length
    · have hltz : (kk : Int) < (ns.length : Int) := by omega
      obtain ⟨hbox, hcs⟩ := HK.out _ HF2.out
      obtain ⟨hc1, hc2⟩ := hcs kk (by omega) hlt
      clear hcs
      have hnn := HNS.out ns[kk] (List.getElem_mem hlt)
      have hln := HLN.out (kk + 1)
      have htk : ns.take (kk + 1) = ns.take kk ++ [ns[kk]] := List.take_succ_eq_append_getElem hlt
      have HKK : Aside0 (∀ W, Fr (WrS g ro) W1 W → W.cell? ⟨gb, 0, none⟩ = some (.pointer (some ⟨g, 0, none⟩)) ∧ W.cell? (As[kk]'(by omega)) = some (.int .i64 ns[kk])) := ⟨fun W hf => ⟨(HK.out W hf).1, ((HK.out W hf).2 kk (by omega) hlt).2⟩⟩
      have HTK := Aside0.mk htk
      rw [htk, putN_snoc] at hln
      clear htk
      generalize As[kk]'(by omega) = pa at *
      generalize ns[kk] = n at *
      obtain ⟨pb, po, ps⟩ := pa
      have HS0 := Aside0.mk (show wr.drew.cell? ⟨gb, 0, none⟩ = some (.pointer (some ⟨g, 0, none⟩)) ∧ wr.drew.cell? ⟨pb, po, ps⟩ = some (.int .i64 n) from ⟨hbox, hc2⟩)
      have HWD := Aside0.mk (HW2.out.below (Below.refl _ _).drew)
      have HBW := Aside0.mk (show B ≤ wr.drew.heap.size from Nat.le_trans HB.out HF2.out.size)
      go_wp2
      refine YtgmbfecfkdbfaaaG.wp_region_door 99 YtgmbfecfkdbfaaaG.keepT (fun _ _ => False) (fun W => W.cell? ⟨gb, 0, none⟩ = some (.pointer (some ⟨g, 0, none⟩)) ∧ W.cell? ⟨pb, po, ps⟩ = some (.int .i64 n)) (by kernel_rfl) trivial (fun _ _ _ _ h => h.elim) ?_
      refine YtgmbfecfkdbfaaaG.wpAnyG_take 0 (v := .pointer (some ⟨gb, 0, none⟩)) rfl (by kernel_rfl) (by kernel_rfl) (by kernel_rfl) (by kernel_rfl) (by decide) (fun a u => YtgmbfecfkdbfaaaG.keepT_put a u) HS0.out trivial (by rfl) (by rintro W ⟨h0, h1⟩; go_simp; done) ?_
      try simp only [Act.put, List.getElem_toArray, List.getElem_cons_zero, List.getElem_cons_succ, List.setIfInBounds_toArray, List.set_cons_zero, List.set_cons_succ]
      refine YtgmbfecfkdbfaaaG.wpAnyG_take 1 (v := .pointer (some ⟨g, 0, none⟩)) rfl (by kernel_rfl) (by kernel_rfl) (by kernel_rfl) (by kernel_rfl) (by decide) (fun a u => YtgmbfecfkdbfaaaG.keepT_put a u) HS0.out trivial (by rfl) (by rintro W ⟨h0, h1⟩; go_simp; done) ?_
      try simp only [Act.put, List.getElem_toArray, List.getElem_cons_zero, List.getElem_cons_succ, List.setIfInBounds_toArray, List.set_cons_zero, List.set_cons_succ]
      refine YtgmbfecfkdbfaaaG.wpAnyG_take 2 (v := .pointer (some ⟨pb, po, ps⟩)) rfl (by kernel_rfl) (by kernel_rfl) (by kernel_rfl) (by kernel_rfl) (by decide) (fun a u => YtgmbfecfkdbfaaaG.keepT_put a u) HS0.out trivial (by rfl) (by rintro W ⟨h0, h1⟩; go_simp; done) ?_
      try simp only [Act.put, List.getElem_toArray, List.getElem_cons_zero, List.getElem_cons_succ, List.setIfInBounds_toArray, List.set_cons_zero, List.set_cons_succ]
      refine YtgmbfecfkdbfaaaG.wpAnyG_take 3 (v := .pointer (some ⟨pb, po, ps⟩)) rfl (by kernel_rfl) (by kernel_rfl) (by kernel_rfl) (by kernel_rfl) (by decide) (fun a u => YtgmbfecfkdbfaaaG.keepT_put a u) HS0.out trivial (by rfl) (by rintro W ⟨h0, h1⟩; go_simp; done) ?_
      try simp only [Act.put, List.getElem_toArray, List.getElem_cons_zero, List.getElem_cons_succ, List.setIfInBounds_toArray, List.set_cons_zero, List.set_cons_succ]
      refine YtgmbfecfkdbfaaaG.wpAnyG_take 4 (v := .int .i64 n) rfl (by kernel_rfl) (by kernel_rfl) (by kernel_rfl) (by kernel_rfl) (by decide) (fun a u => YtgmbfecfkdbfaaaG.keepT_put a u) HS0.out trivial (by rfl) (by rintro W ⟨h0, h1⟩; go_simp; done) ?_
      try simp only [Act.put, List.getElem_toArray, List.getElem_cons_zero, List.getElem_cons_succ, List.setIfInBounds_toArray, List.set_cons_zero, List.set_cons_succ]
      refine YtgmbfecfkdbfaaaG.wpAnyG_take 5 (v := .int .i64 size) rfl (by kernel_rfl) (by kernel_rfl) (by kernel_rfl) (by kernel_rfl) (by decide) (fun a u => YtgmbfecfkdbfaaaG.keepT_put a u) HS0.out trivial (by rfl) (by rintro W ⟨h0, h1⟩; go_simp; done) ?_
      try simp only [Act.put, List.getElem_toArray, List.getElem_cons_zero, List.getElem_cons_succ, List.setIfInBounds_toArray, List.set_cons_zero, List.set_cons_succ]
      refine YtgmbfecfkdbfaaaG.wpAnyG_one 6 rfl (by kernel_rfl) (by rfl) (fun K hK => ?_)
      go_simp
      refine (wNumber_calls n size hnn HWD.out HBW.out hln).mono ?_
      rintro e w5 ⟨rfl, ro2, hw2, hgr2, hf2⟩
      have hf3 : Fr (WrS g ro) W1 w5 := (HF2.out.trans (Fr.of_below (S := WrS g ro) (Below.refl _ wr).drew) (fun _ _ h => h)).trans hf2 (fun i hi hs => by
        rcases hs with e | e
        · exact .inl e
        · rcases HR2.out with h | ⟨b, h, hb⟩
          · exact .inr (by rw [← h, e])
          · rw [h] at e
            obtain rfl := Option.some.inj e
            omega)
      have hr3 : ro2 = ro ∨ ∃ b, ro2 = some b ∧ W1.heap.size ≤ b := by
        rcases hgr2 with h | ⟨b, h, hb⟩
        · rw [h]; exact HR2.out
        · exact .inr ⟨b, h, Nat.le_trans HF2.out.size hb⟩
      have HW4 : Aside0 (Wr w5 B g ro2 (putN s (ns.take (kk + 1)) size)) := ⟨by rw [HTK.out, putN_snoc]; exact hw2⟩
      have HF4 := Aside0.mk hf3
      have HR4 := Aside0.mk hr3
      have hkk5 := HKK.out _ hf3
      clear hf3 hr3 hw2 hgr2 hf2
      refine hK _ _ hkk5 trivial ?_
      try simp only [Act.put, List.getElem_toArray, List.getElem_cons_zero, List.getElem_cons_succ, List.setIfInBounds_toArray, List.set_cons_zero, List.set_cons_succ]
      clear hK K hkk5
      refine YtgmbfecfkdbfaaaG.wpAnyG_done (by kernel_rfl) ?_ _
      go_wp2
      go_roundg (ns.length - (kk + 1))
      case measure => omega
      case rel => exact ⟨kk + 1, ro2, by omega, by omega, by go_num, HW4, HR4, HF4⟩
    · have hltz : ¬ (kk : Int) < (ns.length : Int) := by omega
      have hke : kk = ns.length := by omega
      have HW3 : Aside0 (Wr wr B g ro' (putN s ns size)) := ⟨by have := HW2.out; rwa [hke, List.take_length] at this⟩
      clear hke HW2
      go_wp2
      go_end0
      exact WPost.from (w1 := W1) ⟨rfl, ro', HW3.out, HR2.out, HF2.out⟩ HBL.out
end
end Go.Proofs.Ytgmbfecfkdbfaaa.Wi
