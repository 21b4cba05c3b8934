/- A record's pieces: any number, a truth; numbers by twos, threes and fours: both ways. -/
import Derived.Test.YtgmbfecfkdbfaaaMRecordMoney4
set_option linter.unusedVariables false
set_option linter.unusedSimpArgs false
namespace Go.Proofs.Ytgmbfecfkdbfaaa.Wi
open Go Go.RowKit Go.Proofs.YtgmbfecfkdbfaaaW.PrintWords
section
variable {w : World} {B g : Nat} {ro : Option Nat} {s : WS} {bs : List Int} {r : RS}
set_option maxHeartbeats 3200000 in
set_option maxRecDepth 100000 in
theorem whole_w (bt o : Nat) (n : Int) (hp : w.cell? ⟨bt, o, none⟩ = some (.int .i64 n)) (hbg : bt ≠ g) (hbr : ro ≠ some bt) (hw : Wr w B g ro s) (hB : B ≤ w.heap.size) (hl : (s.put (pInt n)).xs.length ≤ 140737488355328) :
    Calls Try.prog 113 #[.agg #[.pointer (some ⟨g, 0, none⟩), .pointer none], .pointer (some ⟨bt, o, none⟩)] w (WPost B g ro (s.put (pInt n)) w) := by
  have hbt : bt < w.heap.size := World.block_lt_of_cell? w _ hp
  have hgl := hw.lt
  have hrl := hw.ro_lt
  have HW := Aside0.mk ((hw.below (below1 (.cells #[.pointer (some ⟨g, 0, none⟩), .pointer none] 97))).below (Below.refl _ _).drew)
  have HB := Aside0.mk (Nat.le_trans hB (below1 (w := w) (.cells #[.pointer (some ⟨g, 0, none⟩), .pointer none] 97)).size)
  have hp1 : (w.alloc (.cells #[.pointer (some ⟨g, 0, none⟩), .pointer none] 97)).cell? ⟨bt, o, none⟩ = some (.int .i64 n) := (World.cell?_alloc_lt w _ _ hbt).trans hp
  have hq := heap_alloc_new w (.cells #[.pointer (some ⟨g, 0, none⟩), .pointer none] 97)
  have HS0 := Aside0.mk (show (w.alloc (.cells #[.pointer (some ⟨g, 0, none⟩), .pointer none] 97)).drew.cell? ⟨w.heap.size, 0, none⟩ = some (.pointer (some ⟨g, 0, none⟩)) ∧ (w.alloc (.cells #[.pointer (some ⟨g, 0, none⟩), .pointer none] 97)).drew.cell? ⟨bt, o, none⟩ = some (.int .i64 n) from ⟨(blk_cell hq 0).trans rfl, hp1⟩)
  have HBL := Aside0.mk (show Below w.heap.size w (w.alloc (.cells #[.pointer (some ⟨g, 0, none⟩), .pointer none] 97)).drew from (below1 (.cells #[.pointer (some ⟨g, 0, none⟩), .pointer none] 97)).drew)
  have HK : Aside0 (∀ W, Fr (WrS g ro) (w.alloc (.cells #[.pointer (some ⟨g, 0, none⟩), .pointer none] 97)).drew W → W.cell? ⟨w.heap.size, 0, none⟩ = some (.pointer (some ⟨g, 0, none⟩)) ∧ W.cell? ⟨bt, o, none⟩ = some (.int .i64 n)) := ⟨fun W hf => by
    have e1 : ∀ k, k < (w.alloc (.cells #[.pointer (some ⟨g, 0, none⟩), .pointer none] 97)).drew.heap.size → ¬ WrS g ro k → ∀ p : Addr, p.block = k → W.cell? p = (w.alloc (.cells #[.pointer (some ⟨g, 0, none⟩), .pointer none] 97)).drew.cell? p := fun k hk hn p hpk => World.cell?_of_block (by rw [hpk]; exact hf.block k hk hn)
    have hsz := (below1 (w := w) (.cells #[.pointer (some ⟨g, 0, none⟩), .pointer none] 97)).size
    have hsz2 : w.heap.size < (w.alloc (.cells #[.pointer (some ⟨g, 0, none⟩), .pointer none] 97)).drew.heap.size := blk_lt hq
    refine ⟨(e1 _ hsz2 ?_ _ rfl).trans HS0.out.1, (e1 bt (by show bt < (w.alloc (.cells #[.pointer (some ⟨g, 0, none⟩), .pointer none] 97)).heap.size; omega) ?_ _ rfl).trans HS0.out.2⟩
    · rintro (e | e)
      · omega
      · have := (hrl _ e).2
        omega
    · rintro (e | e)
      · exact hbg e
      · exact hbr e⟩
  clear hw hB hp hp1 hq hbt hgl hrl
  go_enter Try.func113, Try.ntmps113
  go_wp2
  refine YtgmbfecfkdbfaaaG.wp_region_door 99 YtgmbfecfkdbfaaaG.keepT (fun _ _ => False) (fun W => W.cell? ⟨w.heap.size, 0, none⟩ = some (.pointer (some ⟨g, 0, none⟩)) ∧ W.cell? ⟨bt, o, none⟩ = some (.int .i64 n)) (by kernel_rfl) trivial (fun _ _ _ _ h => h.elim) ?_
  refine YtgmbfecfkdbfaaaG.wpAnyG_take 0 (v := .pointer (some ⟨w.heap.size, 0, none⟩)) rfl (by kernel_rfl) (by kernel_rfl) (by kernel_rfl) (by kernel_rfl) (by decide) (fun a u => YtgmbfecfkdbfaaaG.keepT_put a u) HS0.out trivial (by rfl) (by rintro W ⟨h0, h1⟩; go_simp; done) ?_
  try simp only [Act.put, List.getElem_toArray, List.getElem_cons_zero, List.getElem_cons_succ, List.setIfInBounds_toArray, List.set_cons_zero, List.set_cons_succ]
  refine YtgmbfecfkdbfaaaG.wpAnyG_take 1 (v := .pointer (some ⟨g, 0, none⟩)) rfl (by kernel_rfl) (by kernel_rfl) (by kernel_rfl) (by kernel_rfl) (by decide) (fun a u => YtgmbfecfkdbfaaaG.keepT_put a u) HS0.out trivial (by rfl) (by rintro W ⟨h0, h1⟩; go_simp; done) ?_
  try simp only [Act.put, List.getElem_toArray, List.getElem_cons_zero, List.getElem_cons_succ, List.setIfInBounds_toArray, List.set_cons_zero, List.set_cons_succ]
  refine YtgmbfecfkdbfaaaG.wpAnyG_take 2 (v := .pointer (some ⟨bt, o, none⟩)) rfl (by kernel_rfl) (by kernel_rfl) (by kernel_rfl) (by kernel_rfl) (by decide) (fun a u => YtgmbfecfkdbfaaaG.keepT_put a u) HS0.out trivial (by rfl) (by rintro W ⟨h0, h1⟩; go_simp; done) ?_
  try simp only [Act.put, List.getElem_toArray, List.getElem_cons_zero, List.getElem_cons_succ, List.setIfInBounds_toArray, List.set_cons_zero, List.set_cons_succ]
  refine YtgmbfecfkdbfaaaG.wpAnyG_take 3 (v := .pointer (some ⟨bt, o, none⟩)) rfl (by kernel_rfl) (by kernel_rfl) (by kernel_rfl) (by kernel_rfl) (by decide) (fun a u => YtgmbfecfkdbfaaaG.keepT_put a u) HS0.out trivial (by rfl) (by rintro W ⟨h0, h1⟩; go_simp; done) ?_
  try simp only [Act.put, List.getElem_toArray, List.getElem_cons_zero, List.getElem_cons_succ, List.setIfInBounds_toArray, List.set_cons_zero, List.set_cons_succ]
  refine YtgmbfecfkdbfaaaG.wpAnyG_take 4 (v := .int .i64 n) rfl (by kernel_rfl) (by kernel_rfl) (by kernel_rfl) (by kernel_rfl) (by decide) (fun a u => YtgmbfecfkdbfaaaG.keepT_put a u) HS0.out trivial (by rfl) (by rintro W ⟨h0, h1⟩; go_simp; done) ?_
  try simp only [Act.put, List.getElem_toArray, List.getElem_cons_zero, List.getElem_cons_succ, List.setIfInBounds_toArray, List.set_cons_zero, List.set_cons_succ]
  refine YtgmbfecfkdbfaaaG.wpAnyG_one 5 rfl (by kernel_rfl) (by rfl) (fun K hK => ?_)
  go_simp
  refine (wInt_calls n HW.out HB.out hl).mono ?_
  rintro e w5 ⟨rfl, hP⟩
  obtain ⟨ro', hw', hgr, hf⟩ := hP
  refine hK _ _ (HK.out _ hf) trivial ?_
  clear hK K
  refine YtgmbfecfkdbfaaaG.wpAnyG_done (by kernel_rfl) ?_ _
  go_wp2
  go_end0
  exact WPost.from (w1 := (w.alloc (.cells #[.pointer (some ⟨g, 0, none⟩), .pointer none] 97)).drew) ⟨rfl, ro', hw', hgr, hf⟩ HBL.out
set_option maxHeartbeats 3200000 in
set_option maxRecDepth 100000 in
theorem truth_w (bt o : Nat) (is : Bool) (hp : w.cell? ⟨bt, o, none⟩ = some (.bool is)) (hbg : bt ≠ g) (hbr : ro ≠ some bt) (hw : Wr w B g ro s) (hB : B ≤ w.heap.size) (hl : (s.put (pBool is)).xs.length ≤ 140737488355328) :
    Calls Try.prog 114 #[.agg #[.pointer (some ⟨g, 0, none⟩), .pointer none], .pointer (some ⟨bt, o, none⟩)] w (WPost B g ro (s.put (pBool is)) w) := by
  have hbt : bt < w.heap.size := World.block_lt_of_cell? w _ hp
  have hgl := hw.lt
  have hrl := hw.ro_lt
  have HW := Aside0.mk ((hw.below (below1 (.cells #[.pointer (some ⟨g, 0, none⟩), .pointer none] 97))).below (Below.refl _ _).drew)
  have HB := Aside0.mk (Nat.le_trans hB (below1 (w := w) (.cells #[.pointer (some ⟨g, 0, none⟩), .pointer none] 97)).size)
  have hp1 : (w.alloc (.cells #[.pointer (some ⟨g, 0, none⟩), .pointer none] 97)).cell? ⟨bt, o, none⟩ = some (.bool is) := (World.cell?_alloc_lt w _ _ hbt).trans hp
  have hq := heap_alloc_new w (.cells #[.pointer (some ⟨g, 0, none⟩), .pointer none] 97)
  have HS0 := Aside0.mk (show (w.alloc (.cells #[.pointer (some ⟨g, 0, none⟩), .pointer none] 97)).drew.cell? ⟨w.heap.size, 0, none⟩ = some (.pointer (some ⟨g, 0, none⟩)) ∧ (w.alloc (.cells #[.pointer (some ⟨g, 0, none⟩), .pointer none] 97)).drew.cell? ⟨bt, o, none⟩ = some (.bool is) from ⟨(blk_cell hq 0).trans rfl, hp1⟩)
  have HBL := Aside0.mk (show Below w.heap.size w (w.alloc (.cells #[.pointer (some ⟨g, 0, none⟩), .pointer none] 97)).drew from (below1 (.cells #[.pointer (some ⟨g, 0, none⟩), .pointer none] 97)).drew)
  have HK : Aside0 (∀ W, Fr (WrS g ro) (w.alloc (.cells #[.pointer (some ⟨g, 0, none⟩), .pointer none] 97)).drew W → W.cell? ⟨w.heap.size, 0, none⟩ = some (.pointer (some ⟨g, 0, none⟩)) ∧ W.cell? ⟨bt, o, none⟩ = some (.bool is)) := ⟨fun W hf => by
    have e1 : ∀ k, k < (w.alloc (.cells #[.pointer (some ⟨g, 0, none⟩), .pointer none] 97)).drew.heap.size → ¬ WrS g ro k → ∀ p : Addr, p.block = k → W.cell? p = (w.alloc (.cells #[.pointer (some ⟨g, 0, none⟩), .pointer none] 97)).drew.cell? p := fun k hk hn p hpk => World.cell?_of_block (by rw [hpk]; exact hf.block k hk hn)
    have hsz := (below1 (w := w) (.cells #[.pointer (some ⟨g, 0, none⟩), .pointer none] 97)).size
    have hsz2 : w.heap.size < (w.alloc (.cells #[.pointer (some ⟨g, 0, none⟩), .pointer none] 97)).drew.heap.size := blk_lt hq
    refine ⟨(e1 _ hsz2 ?_ _ rfl).trans HS0.out.1, (e1 bt (by show bt < (w.alloc (.cells #[.pointer (some ⟨g, 0, none⟩), .pointer none] 97)).heap.size; omega) ?_ _ rfl).trans HS0.out.2⟩
    · rintro (e | e)
      · omega
      · have := (hrl _ e).2
        omega
    · rintro (e | e)
      · exact hbg e
      · exact hbr e⟩
  clear hw hB hp hp1 hq hbt hgl hrl
  go_enter Try.func114, Try.ntmps114
  go_wp2
  refine YtgmbfecfkdbfaaaG.wp_region_door 99 YtgmbfecfkdbfaaaG.keepT (fun _ _ => False) (fun W => W.cell? ⟨w.heap.size, 0, none⟩ = some (.pointer (some ⟨g, 0, none⟩)) ∧ W.cell? ⟨bt, o, none⟩ = some (.bool is)) (by kernel_rfl) trivial (fun _ _ _ _ h => h.elim) ?_
  refine YtgmbfecfkdbfaaaG.wpAnyG_take 0 (v := .pointer (some ⟨w.heap.size, 0, none⟩)) rfl (by kernel_rfl) (by kernel_rfl) (by kernel_rfl) (by kernel_rfl) (by decide) (fun a u => YtgmbfecfkdbfaaaG.keepT_put a u) HS0.out trivial (by rfl) (by rintro W ⟨h0, h1⟩; go_simp; done) ?_
  try simp only [Act.put, List.getElem_toArray, List.getElem_cons_zero, List.getElem_cons_succ, List.setIfInBounds_toArray, List.set_cons_zero, List.set_cons_succ]
  refine YtgmbfecfkdbfaaaG.wpAnyG_take 1 (v := .pointer (some ⟨g, 0, none⟩)) rfl (by kernel_rfl) (by kernel_rfl) (by kernel_rfl) (by kernel_rfl) (by decide) (fun a u => YtgmbfecfkdbfaaaG.keepT_put a u) HS0.out trivial (by rfl) (by rintro W ⟨h0, h1⟩; go_simp; done) ?_
  try simp only [Act.put, List.getElem_toArray, List.getElem_cons_zero, List.getElem_cons_succ, List.setIfInBounds_toArray, List.set_cons_zero, List.set_cons_succ]
  refine YtgmbfecfkdbfaaaG.wpAnyG_take 2 (v := .pointer (some ⟨bt, o, none⟩)) rfl (by kernel_rfl) (by kernel_rfl) (by kernel_rfl) (by kernel_rfl) (by decide) (fun a u => YtgmbfecfkdbfaaaG.keepT_put a u) HS0.out trivial (by rfl) (by rintro W ⟨h0, h1⟩; go_simp; done) ?_
  try simp only [Act.put, List.getElem_toArray, List.getElem_cons_zero, List.getElem_cons_succ, List.setIfInBounds_toArray, List.set_cons_zero, List.set_cons_succ]
  refine YtgmbfecfkdbfaaaG.wpAnyG_take 3 (v := .pointer (some ⟨bt, o, none⟩)) rfl (by kernel_rfl) (by kernel_rfl) (by kernel_rfl) (by kernel_rfl) (by decide) (fun a u => YtgmbfecfkdbfaaaG.keepT_put a u) HS0.out trivial (by rfl) (by rintro W ⟨h0, h1⟩; go_simp; done) ?_
  try simp only [Act.put, List.getElem_toArray, List.getElem_cons_zero, List.getElem_cons_succ, List.setIfInBounds_toArray, List.set_cons_zero, List.set_cons_succ]
  refine YtgmbfecfkdbfaaaG.wpAnyG_take 4 (v := .bool is) rfl (by kernel_rfl) (by kernel_rfl) (by kernel_rfl) (by kernel_rfl) (by decide) (fun a u => YtgmbfecfkdbfaaaG.keepT_put a u) HS0.out trivial (by rfl) (by rintro W ⟨h0, h1⟩; go_simp; done) ?_
  try simp only [Act.put, List.getElem_toArray, List.getElem_cons_zero, List.getElem_cons_succ, List.setIfInBounds_toArray, List.set_cons_zero, List.set_cons_succ]
  refine YtgmbfecfkdbfaaaG.wpAnyG_one 5 rfl (by kernel_rfl) (by rfl) (fun K hK => ?_)
  go_simp
  refine (wBool_calls is HW.out HB.out hl).mono ?_
  rintro e w5 ⟨rfl, hP⟩
  obtain ⟨ro', hw', hgr, hf⟩ := hP
  refine hK _ _ (HK.out _ hf) trivial ?_
  clear hK K
  refine YtgmbfecfkdbfaaaG.wpAnyG_done (by kernel_rfl) ?_ _
  go_wp2
  go_end0
  exact WPost.from (w1 := (w.alloc (.cells #[.pointer (some ⟨g, 0, none⟩), .pointer none] 97)).drew) ⟨rfl, ro', hw', hgr, hf⟩ HBL.out
end
section
variable {w : World} {B g : Nat} {ro : Option Nat} {bs : List Int} {r : RS} {bt : Nat} {cs : Array Value} {T : TypeId}
set_option maxHeartbeats 3200000 in
set_option maxRecDepth 100000 in
theorem whole_r (o : Nat) (ho : o < cs.size) (hq : w.heap[bt]? = some (.cells cs T (0, 0))) (h1 : T ≠ 202) (h2 : T ≠ 5) (hr : Rd w B g ro bs r) (hB : B ≤ w.heap.size) :
    Calls Try.prog 113 #[.agg #[.pointer none, .pointer (some ⟨g, 0, none⟩)], .pointer (some ⟨bt, o, none⟩)] w (SPost B g ro bs bt T (cs.setIfInBounds o (.int .i64 (rInt bs r).1)) (rInt bs r).2 w) := by
  obtain ⟨hbg, hbr⟩ := hr.ne_ hq h1 h2
  have HB1 := Aside0.mk (below1 (w := w) (.cells #[.pointer none, .pointer (some ⟨g, 0, none⟩)] 97))
  have HQ := Aside0.mk ((Fr.of_below (S := fun _ => False) HB1.out).blk hq (fun h => h))
  have C := Aside0.mk (rInt_calls (hr.below HB1.out) (Nat.le_trans hB HB1.out.size))
  have HBG := Aside0.mk hbg
  have HBR := Aside0.mk hbr
  have HO := Aside0.mk ho
  clear hq hr hB hbg hbr
  unfold rInt
  generalize hqq : r.take bs _ _ = qq at C ⊢
  obtain ⟨v, r2⟩ := qq
  simp only [encS] at C ⊢
  clear hqq
  go_enter Try.func113, Try.ntmps113
  go_wp2_with (go_at_call 155; refine C.out.mono ?_; rintro e w1 ⟨rfl, R1, f1⟩; have HR1 := Aside0.mk R1; have hq1 := f1.blk HQ.out HBG.out; have hc1 : _ = some (cs[o]'HO.out) := (blk_cell hq1 o).trans (Array.getElem?_eq_getElem HO.out); have hz1 := blk_frozen hq1 o; have HQ1 := Aside0.mk hq1; have HF1 := Aside0.mk f1; clear R1 hq1 f1)
  go_end0
  have hf2 := (Fr.refl (fun i => i = g ∨ i = bt) w1).set_ (p := ⟨bt, o, none⟩) (.inl (.inr rfl)) (.int .i64 v)
  refine ⟨rfl, HR1.out.keep ((Fr.refl (fun i => i = bt) w1).set_ (p := ⟨bt, o, none⟩) (.inl rfl) _) (fun e => HBG.out e.symm) (fun k hk e => HBR.out (by rw [hk, e])), blk_put HQ1.out o _ rfl, ((Fr.of_below HB1.out).trans (HF1.out.mono (S' := fun i => i = g ∨ i = bt) (fun i _ h => .inl h)) (fun _ _ h => h)).trans hf2 (fun _ _ h => h)⟩
set_option maxHeartbeats 3200000 in
set_option maxRecDepth 100000 in
theorem truth_r (o : Nat) (ho : o < cs.size) (hq : w.heap[bt]? = some (.cells cs T (0, 0))) (h1 : T ≠ 202) (h2 : T ≠ 5) (hr : Rd w B g ro bs r) (hB : B ≤ w.heap.size) :
    Calls Try.prog 114 #[.agg #[.pointer none, .pointer (some ⟨g, 0, none⟩)], .pointer (some ⟨bt, o, none⟩)] w (SPost B g ro bs bt T (cs.setIfInBounds o (.bool (rBoo bs r).1)) (rBoo bs r).2 w) := by
  obtain ⟨hbg, hbr⟩ := hr.ne_ hq h1 h2
  have HB1 := Aside0.mk (below1 (w := w) (.cells #[.pointer none, .pointer (some ⟨g, 0, none⟩)] 97))
  have HQ := Aside0.mk ((Fr.of_below (S := fun _ => False) HB1.out).blk hq (fun h => h))
  have C := Aside0.mk (rBool_calls (hr.below HB1.out) (Nat.le_trans hB HB1.out.size))
  have HBG := Aside0.mk hbg
  have HBR := Aside0.mk hbr
  have HO := Aside0.mk ho
  clear hq hr hB hbg hbr
  unfold rBoo
  generalize hqq : r.take bs _ _ = qq at C ⊢
  obtain ⟨v, r2⟩ := qq
  simp only [encS] at C ⊢
  clear hqq
  go_enter Try.func114, Try.ntmps114
  go_wp2_with (go_at_call 157; refine C.out.mono ?_; rintro e w1 ⟨rfl, R1, f1⟩; have HR1 := Aside0.mk R1; have hq1 := f1.blk HQ.out HBG.out; have hc1 : _ = some (cs[o]'HO.out) := (blk_cell hq1 o).trans (Array.getElem?_eq_getElem HO.out); have hz1 := blk_frozen hq1 o; have HQ1 := Aside0.mk hq1; have HF1 := Aside0.mk f1; clear R1 hq1 f1)
  go_end0
  have hf2 := (Fr.refl (fun i => i = g ∨ i = bt) w1).set_ (p := ⟨bt, o, none⟩) (.inl (.inr rfl)) (.bool v)
  refine ⟨rfl, HR1.out.keep ((Fr.refl (fun i => i = bt) w1).set_ (p := ⟨bt, o, none⟩) (.inl rfl) _) (fun e => HBG.out e.symm) (fun k hk e => HBR.out (by rw [hk, e])), blk_put HQ1.out o _ rfl, ((Fr.of_below HB1.out).trans (HF1.out.mono (S' := fun i => i = g ∨ i = bt) (fun i _ h => .inl h)) (fun _ _ h => h)).trans hf2 (fun _ _ h => h)⟩
end
section
variable {W1 W W' : World} {B g : Nat} {ro : Option Nat} {s : WS} {bs : List Int} {r : RS} {bt : Nat} {cs : Array Value} {T : TypeId}
theorem OW.whole (h : OW W1 W B g ro s) (k : Nat) (n : Int) (hk : W1.cell? ⟨bt, k, none⟩ = some (.int .i64 n)) (hg : bt ≠ g) (hr : ro ≠ some bt) (hl : (s.put (pInt n)).xs.length ≤ 140737488355328) :
    Calls Try.prog 113 #[.agg #[.pointer (some ⟨g, 0, none⟩), .pointer none], .pointer (some ⟨bt, k, none⟩)] W fun e W' => e = .returned (.tuple #[]) ∧ OW W1 W' B g ro (s.put (pInt n)) := by
  have hc := h.cell hk hg hr
  have h' := h
  have hbl : bt < W1.heap.size := World.block_lt_of_cell? W1 _ hk
  obtain ⟨h0, ro', hw', hr', hf'⟩ := h
  have hro : ro' ≠ some bt := by
    rintro rfl
    rcases hr' with h | ⟨b, h, h3⟩
    · exact hr h.symm
    · have := Option.some.inj h
      omega
  exact (whole_w bt k n hc hg hro hw' (Nat.le_trans h0 hf'.size) hl).mono fun e W' hP => OW.post h' ro' hr' hP
theorem OR_.whole (h : OR_ W1 W B g ro bs bt T cs r) (k : Nat) (hk : k < cs.size) (h1 : T ≠ 202) (h2 : T ≠ 5) :
    Calls Try.prog 113 #[.agg #[.pointer none, .pointer (some ⟨g, 0, none⟩)], .pointer (some ⟨bt, k, none⟩)] W fun e W' => e = .returned (.tuple #[]) ∧ OR_ W1 W' B g ro bs bt T (cs.setIfInBounds k (.int .i64 (rInt bs r).1)) (rInt bs r).2 :=
  (whole_r k hk h.blk h1 h2 h.rd_ (Nat.le_trans h.base h.fr.size)).mono fun e W' ⟨he, hr, hq, hf⟩ => ⟨he, h.base, hr, hq, h.fr.trans hf (fun _ _ h => h)⟩
theorem OW.truth (h : OW W1 W B g ro s) (k : Nat) (is : Bool) (hk : W1.cell? ⟨bt, k, none⟩ = some (.bool is)) (hg : bt ≠ g) (hr : ro ≠ some bt) (hl : (s.put (pBool is)).xs.length ≤ 140737488355328) :
    Calls Try.prog 114 #[.agg #[.pointer (some ⟨g, 0, none⟩), .pointer none], .pointer (some ⟨bt, k, none⟩)] W fun e W' => e = .returned (.tuple #[]) ∧ OW W1 W' B g ro (s.put (pBool is)) := by
  have hc := h.cell hk hg hr
  have h' := h
  have hbl : bt < W1.heap.size := World.block_lt_of_cell? W1 _ hk
  obtain ⟨h0, ro', hw', hr', hf'⟩ := h
  have hro : ro' ≠ some bt := by
    rintro rfl
    rcases hr' with h | ⟨b, h, h3⟩
    · exact hr h.symm
    · have := Option.some.inj h
      omega
  exact (truth_w bt k is hc hg hro hw' (Nat.le_trans h0 hf'.size) hl).mono fun e W' hP => OW.post h' ro' hr' hP
theorem OR_.truth (h : OR_ W1 W B g ro bs bt T cs r) (k : Nat) (hk : k < cs.size) (h1 : T ≠ 202) (h2 : T ≠ 5) :
    Calls Try.prog 114 #[.agg #[.pointer none, .pointer (some ⟨g, 0, none⟩)], .pointer (some ⟨bt, k, none⟩)] W fun e W' => e = .returned (.tuple #[]) ∧ OR_ W1 W' B g ro bs bt T (cs.setIfInBounds k (.bool (rBoo bs r).1)) (rBoo bs r).2 :=
  (truth_r k hk h.blk h1 h2 h.rd_ (Nat.le_trans h.base h.fr.size)).mono fun e W' ⟨he, hr, hq, hf⟩ => ⟨he, h.base, hr, hq, h.fr.trans hf (fun _ _ h => h)⟩
theorem OW.number2 (h : OW W1 W B g ro s) (k0 : Nat) (n0 : Int) (k1 : Nat) (n1 : Int) (size : Int) (hk0 : W1.cell? ⟨bt, k0, none⟩ = some (.int .i64 n0)) (hn0 : n0 ≤ 9223372036854775807) (hk1 : W1.cell? ⟨bt, k1, none⟩ = some (.int .i64 n1)) (hn1 : n1 ≤ 9223372036854775807) (hg : bt ≠ g) (hr : ro ≠ some bt) (hl : s.xs.length ≤ 100000000000) :
    Calls Try.prog 54 #[.agg #[.pointer (some ⟨g, 0, none⟩), .pointer none], .int .i64 size, .slice (some ⟨W.heap.size, 0, none⟩) 2 2] (W.alloc (.cells #[.pointer (some ⟨bt, k0, none⟩), .pointer (some ⟨bt, k1, none⟩)] 101)) fun e W' => e = .returned (.tuple #[]) ∧ OW W1 W' B g ro ((s.put (pNumber n0 size)).put (pNumber n1 size)) := by
  have hb := below1 (w := W) (.cells #[.pointer (some ⟨bt, k0, none⟩), .pointer (some ⟨bt, k1, none⟩)] 101)
  have h2 := h.then_ hb
  have hq := heap_alloc_new W (.cells #[.pointer (some ⟨bt, k0, none⟩), .pointer (some ⟨bt, k1, none⟩)] 101)
  have hc0 := h2.cell hk0 hg hr
  have hc1 := h2.cell hk1 hg hr
  have hbl : bt < W1.heap.size := World.block_lt_of_cell? W1 _ hk0
  obtain ⟨h0, ro', hw', hr', hf'⟩ := h
  have hw2 := hw'.below hb
  have hgl := hw'.lt
  have hrl := hw'.ro_lt
  have hro : ro' ≠ some bt := by
    rintro rfl
    rcases hr' with h | ⟨b, h, h3⟩
    · exact hr h.symm
    · have := Option.some.inj h
      omega
  have hng : W.heap.size ≠ g ∧ ro' ≠ some W.heap.size := ⟨by omega, fun e => by
    have := (hrl _ e).2
    omega⟩
  have C := number_w size ⟨W.heap.size, 0, none⟩ 2 [⟨bt, k0, none⟩, ⟨bt, k1, none⟩] [n0, n1] rfl (fun m hm => by
      simp only [List.mem_cons, List.not_mem_nil, or_false] at hm
      rcases hm with rfl | rfl
      · exact hn0
      · exact hn1) (by simp)
    (fun i hi => by
      match i, hi with
      | 0, _ => exact ⟨(blk_cell hq 0).trans rfl, hng⟩
      | 1, _ => exact ⟨(blk_cell hq 1).trans rfl, hng⟩
      | i + 2, hi => exact absurd hi (by simp))
    (fun i hi hj => by
      match i, hi, hj with
      | 0, _, _ => exact ⟨hc0, hg, hro⟩
      | 1, _, _ => exact ⟨hc1, hg, hro⟩
      | i + 2, hi, _ => exact absurd hi (by simp)) hw2 (Nat.le_trans h0 (Nat.le_trans hf'.size hb.size)) hl
  exact C.mono fun e W' hP => OW.post h2 ro' hr' hP
theorem OR_.number2 (h : OR_ W1 W B g ro bs bt T cs r) (k0 : Nat) (k1 : Nat) (size : Int) (hk0 : k0 < cs.size) (hk1 : k1 < cs.size) (h1 : T ≠ 202) (h2 : T ≠ 5) :
    Calls Try.prog 54 #[.agg #[.pointer none, .pointer (some ⟨g, 0, none⟩)], .int .i64 size, .slice (some ⟨W.heap.size, 0, none⟩) 2 2] (W.alloc (.cells #[.pointer (some ⟨bt, k0, none⟩), .pointer (some ⟨bt, k1, none⟩)] 101)) fun e W' => e = .returned (.tuple #[]) ∧ OR_ W1 W' B g ro bs bt T ((cs.setIfInBounds k0 (.int .i64 (rNum bs r size).1)).setIfInBounds k1 (.int .i64 (rNum bs (rNum bs r size).2 size).1)) (rNum bs (rNum bs r size).2 size).2 := by
  have hb := below1 (w := W) (.cells #[.pointer (some ⟨bt, k0, none⟩), .pointer (some ⟨bt, k1, none⟩)] 101)
  have hq := heap_alloc_new W (.cells #[.pointer (some ⟨bt, k0, none⟩), .pointer (some ⟨bt, k1, none⟩)] 101)
  have h3 := h.then_ hb
  have hgl := h.rd_.lt
  have hbl := blk_lt h.blk
  have C := number_r size ⟨W.heap.size, 0, none⟩ 2 [k0, k1] (fun m hm => by
      simp only [List.mem_cons, List.not_mem_nil, or_false] at hm
      rcases hm with rfl | rfl
      · exact hk0
      · exact hk1) (by simp)
    (fun i hi => by
      match i, hi with
      | 0, _ => exact ⟨(blk_cell hq 0).trans rfl, by show W.heap.size ≠ g; omega, by show W.heap.size ≠ bt; omega⟩
      | 1, _ => exact ⟨(blk_cell hq 1).trans rfl, by show W.heap.size ≠ g; omega, by show W.heap.size ≠ bt; omega⟩
      | i + 2, hi => exact absurd hi (by simp)) h3.blk h1 h2 h3.rd_ (Nat.le_trans h.base (Nat.le_trans h.fr.size hb.size))
  exact C.mono fun e W' ⟨he, hr, hq, hf⟩ => ⟨he, h.base, hr, hq, h3.fr.trans hf (fun _ _ h => h)⟩
theorem OW.number3 (h : OW W1 W B g ro s) (k0 : Nat) (n0 : Int) (k1 : Nat) (n1 : Int) (k2 : Nat) (n2 : Int) (size : Int) (hk0 : W1.cell? ⟨bt, k0, none⟩ = some (.int .i64 n0)) (hn0 : n0 ≤ 9223372036854775807) (hk1 : W1.cell? ⟨bt, k1, none⟩ = some (.int .i64 n1)) (hn1 : n1 ≤ 9223372036854775807) (hk2 : W1.cell? ⟨bt, k2, none⟩ = some (.int .i64 n2)) (hn2 : n2 ≤ 9223372036854775807) (hg : bt ≠ g) (hr : ro ≠ some bt) (hl : s.xs.length ≤ 100000000000) :
    Calls Try.prog 54 #[.agg #[.pointer (some ⟨g, 0, none⟩), .pointer none], .int .i64 size, .slice (some ⟨W.heap.size, 0, none⟩) 3 3] (W.alloc (.cells #[.pointer (some ⟨bt, k0, none⟩), .pointer (some ⟨bt, k1, none⟩), .pointer (some ⟨bt, k2, none⟩)] 101)) fun e W' => e = .returned (.tuple #[]) ∧ OW W1 W' B g ro (((s.put (pNumber n0 size)).put (pNumber n1 size)).put (pNumber n2 size)) := by
  have hb := below1 (w := W) (.cells #[.pointer (some ⟨bt, k0, none⟩), .pointer (some ⟨bt, k1, none⟩), .pointer (some ⟨bt, k2, none⟩)] 101)
  have h2 := h.then_ hb
  have hq := heap_alloc_new W (.cells #[.pointer (some ⟨bt, k0, none⟩), .pointer (some ⟨bt, k1, none⟩), .pointer (some ⟨bt, k2, none⟩)] 101)
  have hc0 := h2.cell hk0 hg hr
  have hc1 := h2.cell hk1 hg hr
  have hc2 := h2.cell hk2 hg hr
  have hbl : bt < W1.heap.size := World.block_lt_of_cell? W1 _ hk0
  obtain ⟨h0, ro', hw', hr', hf'⟩ := h
  have hw2 := hw'.below hb
  have hgl := hw'.lt
  have hrl := hw'.ro_lt
  have hro : ro' ≠ some bt := by
    rintro rfl
    rcases hr' with h | ⟨b, h, h3⟩
    · exact hr h.symm
    · have := Option.some.inj h
      omega
  have hng : W.heap.size ≠ g ∧ ro' ≠ some W.heap.size := ⟨by omega, fun e => by
    have := (hrl _ e).2
    omega⟩
  have C := number_w size ⟨W.heap.size, 0, none⟩ 3 [⟨bt, k0, none⟩, ⟨bt, k1, none⟩, ⟨bt, k2, none⟩] [n0, n1, n2] rfl (fun m hm => by
      simp only [List.mem_cons, List.not_mem_nil, or_false] at hm
      rcases hm with rfl | rfl | rfl
      · exact hn0
      · exact hn1
      · exact hn2) (by simp)
    (fun i hi => by
      match i, hi with
      | 0, _ => exact ⟨(blk_cell hq 0).trans rfl, hng⟩
      | 1, _ => exact ⟨(blk_cell hq 1).trans rfl, hng⟩
      | 2, _ => exact ⟨(blk_cell hq 2).trans rfl, hng⟩
      | i + 3, hi => exact absurd hi (by simp))
    (fun i hi hj => by
      match i, hi, hj with
      | 0, _, _ => exact ⟨hc0, hg, hro⟩
      | 1, _, _ => exact ⟨hc1, hg, hro⟩
      | 2, _, _ => exact ⟨hc2, hg, hro⟩
      | i + 3, hi, _ => exact absurd hi (by simp)) hw2 (Nat.le_trans h0 (Nat.le_trans hf'.size hb.size)) hl
  exact C.mono fun e W' hP => OW.post h2 ro' hr' hP
theorem OR_.number3 (h : OR_ W1 W B g ro bs bt T cs r) (k0 : Nat) (k1 : Nat) (k2 : Nat) (size : Int) (hk0 : k0 < cs.size) (hk1 : k1 < cs.size) (hk2 : k2 < cs.size) (h1 : T ≠ 202) (h2 : T ≠ 5) :
    Calls Try.prog 54 #[.agg #[.pointer none, .pointer (some ⟨g, 0, none⟩)], .int .i64 size, .slice (some ⟨W.heap.size, 0, none⟩) 3 3] (W.alloc (.cells #[.pointer (some ⟨bt, k0, none⟩), .pointer (some ⟨bt, k1, none⟩), .pointer (some ⟨bt, k2, none⟩)] 101)) fun e W' => e = .returned (.tuple #[]) ∧ OR_ W1 W' B g ro bs bt T (((cs.setIfInBounds k0 (.int .i64 (rNum bs r size).1)).setIfInBounds k1 (.int .i64 (rNum bs (rNum bs r size).2 size).1)).setIfInBounds k2 (.int .i64 (rNum bs (rNum bs (rNum bs r size).2 size).2 size).1)) (rNum bs (rNum bs (rNum bs r size).2 size).2 size).2 := by
  have hb := below1 (w := W) (.cells #[.pointer (some ⟨bt, k0, none⟩), .pointer (some ⟨bt, k1, none⟩), .pointer (some ⟨bt, k2, none⟩)] 101)
  have hq := heap_alloc_new W (.cells #[.pointer (some ⟨bt, k0, none⟩), .pointer (some ⟨bt, k1, none⟩), .pointer (some ⟨bt, k2, none⟩)] 101)
  have h3 := h.then_ hb
  have hgl := h.rd_.lt
  have hbl := blk_lt h.blk
  have C := number_r size ⟨W.heap.size, 0, none⟩ 3 [k0, k1, k2] (fun m hm => by
      simp only [List.mem_cons, List.not_mem_nil, or_false] at hm
      rcases hm with rfl | rfl | rfl
      · exact hk0
      · exact hk1
      · exact hk2) (by simp)
    (fun i hi => by
      match i, hi with
      | 0, _ => exact ⟨(blk_cell hq 0).trans rfl, by show W.heap.size ≠ g; omega, by show W.heap.size ≠ bt; omega⟩
      | 1, _ => exact ⟨(blk_cell hq 1).trans rfl, by show W.heap.size ≠ g; omega, by show W.heap.size ≠ bt; omega⟩
      | 2, _ => exact ⟨(blk_cell hq 2).trans rfl, by show W.heap.size ≠ g; omega, by show W.heap.size ≠ bt; omega⟩
      | i + 3, hi => exact absurd hi (by simp)) h3.blk h1 h2 h3.rd_ (Nat.le_trans h.base (Nat.le_trans h.fr.size hb.size))
  exact C.mono fun e W' ⟨he, hr, hq, hf⟩ => ⟨he, h.base, hr, hq, h3.fr.trans hf (fun _ _ h => h)⟩
theorem OW.number4 (h : OW W1 W B g ro s) (k0 : Nat) (n0 : Int) (k1 : Nat) (n1 : Int) (k2 : Nat) (n2 : Int) (k3 : Nat) (n3 : Int) (size : Int) (hk0 : W1.cell? ⟨bt, k0, none⟩ = some (.int .i64 n0)) (hn0 : n0 ≤ 9223372036854775807) (hk1 : W1.cell? ⟨bt, k1, none⟩ = some (.int .i64 n1)) (hn1 : n1 ≤ 9223372036854775807) (hk2 : W1.cell? ⟨bt, k2, none⟩ = some (.int .i64 n2)) (hn2 : n2 ≤ 9223372036854775807) (hk3 : W1.cell? ⟨bt, k3, none⟩ = some (.int .i64 n3)) (hn3 : n3 ≤ 9223372036854775807) (hg : bt ≠ g) (hr : ro ≠ some bt) (hl : s.xs.length ≤ 100000000000) :
    Calls Try.prog 54 #[.agg #[.pointer (some ⟨g, 0, none⟩), .pointer none], .int .i64 size, .slice (some ⟨W.heap.size, 0, none⟩) 4 4] (W.alloc (.cells #[.pointer (some ⟨bt, k0, none⟩), .pointer (some ⟨bt, k1, none⟩), .pointer (some ⟨bt, k2, none⟩), .pointer (some ⟨bt, k3, none⟩)] 101)) fun e W' => e = .returned (.tuple #[]) ∧ OW W1 W' B g ro ((((s.put (pNumber n0 size)).put (pNumber n1 size)).put (pNumber n2 size)).put (pNumber n3 size)) := by
  have hb := below1 (w := W) (.cells #[.pointer (some ⟨bt, k0, none⟩), .pointer (some ⟨bt, k1, none⟩), .pointer (some ⟨bt, k2, none⟩), .pointer (some ⟨bt, k3, none⟩)] 101)
  have h2 := h.then_ hb
  have hq := heap_alloc_new W (.cells #[.pointer (some ⟨bt, k0, none⟩), .pointer (some ⟨bt, k1, none⟩), .pointer (some ⟨bt, k2, none⟩), .pointer (some ⟨bt, k3, none⟩)] 101)
  have hc0 := h2.cell hk0 hg hr
  have hc1 := h2.cell hk1 hg hr
  have hc2 := h2.cell hk2 hg hr
  have hc3 := h2.cell hk3 hg hr
  have hbl : bt < W1.heap.size := World.block_lt_of_cell? W1 _ hk0
  obtain ⟨h0, ro', hw', hr', hf'⟩ := h
  have hw2 := hw'.below hb
  have hgl := hw'.lt
  have hrl := hw'.ro_lt
  have hro : ro' ≠ some bt := by
    rintro rfl
    rcases hr' with h | ⟨b, h, h3⟩
    · exact hr h.symm
    · have := Option.some.inj h
      omega
  have hng : W.heap.size ≠ g ∧ ro' ≠ some W.heap.size := ⟨by omega, fun e => by
    have := (hrl _ e).2
    omega⟩
  have C := number_w size ⟨W.heap.size, 0, none⟩ 4 [⟨bt, k0, none⟩, ⟨bt, k1, none⟩, ⟨bt, k2, none⟩, ⟨bt, k3, none⟩] [n0, n1, n2, n3] rfl (fun m hm => by
      simp only [List.mem_cons, List.not_mem_nil, or_false] at hm
      rcases hm with rfl | rfl | rfl | rfl
      · exact hn0
      · exact hn1
      · exact hn2
      · exact hn3) (by simp)
    (fun i hi => by
      match i, hi with
      | 0, _ => exact ⟨(blk_cell hq 0).trans rfl, hng⟩
      | 1, _ => exact ⟨(blk_cell hq 1).trans rfl, hng⟩
      | 2, _ => exact ⟨(blk_cell hq 2).trans rfl, hng⟩
      | 3, _ => exact ⟨(blk_cell hq 3).trans rfl, hng⟩
      | i + 4, hi => exact absurd hi (by simp))
    (fun i hi hj => by
      match i, hi, hj with
      | 0, _, _ => exact ⟨hc0, hg, hro⟩
      | 1, _, _ => exact ⟨hc1, hg, hro⟩
      | 2, _, _ => exact ⟨hc2, hg, hro⟩
      | 3, _, _ => exact ⟨hc3, hg, hro⟩
      | i + 4, hi, _ => exact absurd hi (by simp)) hw2 (Nat.le_trans h0 (Nat.le_trans hf'.size hb.size)) hl
  exact C.mono fun e W' hP => OW.post h2 ro' hr' hP
theorem OR_.number4 (h : OR_ W1 W B g ro bs bt T cs r) (k0 : Nat) (k1 : Nat) (k2 : Nat) (k3 : Nat) (size : Int) (hk0 : k0 < cs.size) (hk1 : k1 < cs.size) (hk2 : k2 < cs.size) (hk3 : k3 < cs.size) (h1 : T ≠ 202) (h2 : T ≠ 5) :
    Calls Try.prog 54 #[.agg #[.pointer none, .pointer (some ⟨g, 0, none⟩)], .int .i64 size, .slice (some ⟨W.heap.size, 0, none⟩) 4 4] (W.alloc (.cells #[.pointer (some ⟨bt, k0, none⟩), .pointer (some ⟨bt, k1, none⟩), .pointer (some ⟨bt, k2, none⟩), .pointer (some ⟨bt, k3, none⟩)] 101)) fun e W' => e = .returned (.tuple #[]) ∧ OR_ W1 W' B g ro bs bt T ((((cs.setIfInBounds k0 (.int .i64 (rNum bs r size).1)).setIfInBounds k1 (.int .i64 (rNum bs (rNum bs r size).2 size).1)).setIfInBounds k2 (.int .i64 (rNum bs (rNum bs (rNum bs r size).2 size).2 size).1)).setIfInBounds k3 (.int .i64 (rNum bs (rNum bs (rNum bs (rNum bs r size).2 size).2 size).2 size).1)) (rNum bs (rNum bs (rNum bs (rNum bs r size).2 size).2 size).2 size).2 := by
  have hb := below1 (w := W) (.cells #[.pointer (some ⟨bt, k0, none⟩), .pointer (some ⟨bt, k1, none⟩), .pointer (some ⟨bt, k2, none⟩), .pointer (some ⟨bt, k3, none⟩)] 101)
  have hq := heap_alloc_new W (.cells #[.pointer (some ⟨bt, k0, none⟩), .pointer (some ⟨bt, k1, none⟩), .pointer (some ⟨bt, k2, none⟩), .pointer (some ⟨bt, k3, none⟩)] 101)
  have h3 := h.then_ hb
  have hgl := h.rd_.lt
  have hbl := blk_lt h.blk
  have C := number_r size ⟨W.heap.size, 0, none⟩ 4 [k0, k1, k2, k3] (fun m hm => by
      simp only [List.mem_cons, List.not_mem_nil, or_false] at hm
      rcases hm with rfl | rfl | rfl | rfl
      · exact hk0
      · exact hk1
      · exact hk2
      · exact hk3) (by simp)
    (fun i hi => by
      match i, hi with
      | 0, _ => exact ⟨(blk_cell hq 0).trans rfl, by show W.heap.size ≠ g; omega, by show W.heap.size ≠ bt; omega⟩
      | 1, _ => exact ⟨(blk_cell hq 1).trans rfl, by show W.heap.size ≠ g; omega, by show W.heap.size ≠ bt; omega⟩
      | 2, _ => exact ⟨(blk_cell hq 2).trans rfl, by show W.heap.size ≠ g; omega, by show W.heap.size ≠ bt; omega⟩
      | 3, _ => exact ⟨(blk_cell hq 3).trans rfl, by show W.heap.size ≠ g; omega, by show W.heap.size ≠ bt; omega⟩
      | i + 4, hi => exact absurd hi (by simp)) h3.blk h1 h2 h3.rd_ (Nat.le_trans h.base (Nat.le_trans h.fr.size hb.size))
  exact C.mono fun e W' ⟨he, hr, hq, hf⟩ => ⟨he, h.base, hr, hq, h3.fr.trans hf (fun _ _ h => h)⟩
end
end Go.Proofs.Ytgmbfecfkdbfaaa.Wi
/- An entry's and an account's pieces, put and laid down. -/
set_option linter.unusedVariables false
set_option linter.unusedSimpArgs false
namespace Go.Proofs.Ytgmbfecfkdbfaaa.Wi
open Go Go.RowKit Go.Proofs.YtgmbfecfkdbfaaaW.PrintWords
theorem putInt_len (s : WS) (n : Int) : (s.put (pInt n)).xs.length ≤ s.xs.length + 65537 := put_len s _ (fun ys h => by
  obtain rfl := Option.some.inj h
  rw [be_length]
  omega)
theorem putBool_len (s : WS) (is : Bool) : (s.put (pBool is)).xs.length ≤ s.xs.length + 65537 := put_len s _ (fun ys h => Nat.le_trans (pNumber_len h) (by omega))
theorem BytesPost.from' {xs : List Int} {e2 : Int} {w w1 w' : World} {e : Ending} (h : BytesPost xs e2 w1 e w') (hb : Below w.heap.size w w1) : BytesPost xs e2 w e w' := by
  obtain ⟨v, he, ho, hb'⟩ := h
  exact ⟨v, he, own_upto ho (fun k hk => Nat.le_trans hb.size (own_base ho k hk)), below_then hb hb.size hb'⟩
structure Entry where
  n0 : Int
  n1 : ByteArray
  n2 : Int
  n3 : Bool
def Entry.val (t : Entry) : Value := .agg #[.int .i64 t.n0, .string t.n1, .int .i64 t.n2, .bool t.n3]
structure Entry.Ok (t : Entry) : Prop where
  n0 : I64 t.n0
  n1 : t.n1.size ≤ 9223372036854775807
  n2 : I64 t.n2
def Entry.putS (s : WS) (t : Entry) : WS := ((((s.put (pNumber t.n0 4)).put (pFixed t.n1 8)).put (pInt t.n2)).put (pBool t.n3))
def Entry.readS (bs : List Int) (r : RS) : Entry × RS :=
  let p0 := rNum bs r 4
  let p1 := rFix bs p0.2 8
  let p2 := rInt bs p1.2
  let p3 := rBoo bs p2.2
  (⟨p0.1, strOfNums p1.1, p2.1, p3.1⟩, p3.2)
def Entry.right (t : Entry) : Bool := inB t.n0 1 2147483648 && ((t.n1.size : Int) == 8) && inB t.n2 (-9007199254740992) 9007199254740992 && !(t.n2 == 0)
def Entry.zero : Entry := ⟨0, ⟨#[]⟩, 0, false⟩
def Entry.put (t : Entry) : WS := Entry.putS ⟨[], false⟩ t
def Entry.out (t : Entry) : List Int := if t.right = true then t.put.out else []
def Entry.err (t : Entry) : Int := if t.right = true then t.put.err else 80
theorem Entry.putS_len (s : WS) (t : Entry) : (Entry.putS s t).xs.length ≤ s.xs.length + 1000000 := by
  unfold Entry.putS
  have L0 := putNum_len s t.n0 4
  have L1 := putFix_len (s.put (pNumber t.n0 4)) t.n1
  have L2 := putInt_len ((s.put (pNumber t.n0 4)).put (pFixed t.n1 8)) t.n2
  have L3 := putBool_len (((s.put (pNumber t.n0 4)).put (pFixed t.n1 8)).put (pInt t.n2)) t.n3
  omega
theorem Entry.put_len (t : Entry) : t.put.xs.length ≤ 1000000 := by
  have h := Entry.putS_len ⟨[], false⟩ t
  have h0 : (⟨[], false⟩ : WS).xs.length = 0 := rfl
  unfold Entry.put
  omega
set_option maxHeartbeats 8000000 in
set_option maxRecDepth 100000 in
theorem overEntry_w {w : World} {B g : Nat} {ro : Option Nat} {s : WS} {bt : Nat} (t : Entry) (ht : t.Ok) (hq : w.heap[bt]? = some (.cells #[.int .i64 t.n0, .string t.n1, .int .i64 t.n2, .bool t.n3] 40 (0, 0)))
    (hg : bt ≠ g) (hr : ro ≠ some bt) (hw : Wr w B g ro s) (hB : B ≤ w.heap.size) (hl : s.xs.length ≤ 90000000000) :
    Calls Try.prog 58 #[.agg #[.pointer (some ⟨g, 0, none⟩), .pointer none], .pointer (some ⟨bt, 0, none⟩)] w (WPost B g ro (Entry.putS s t) w) := by
  unfold Entry.putS
  obtain ⟨⟨_, k_n0⟩, k_n1, ⟨_, k_n2⟩⟩ := ht
  obtain ⟨n0, n1, n2, n3⟩ := t
  simp only at hq k_n0 k_n1 k_n2 ⊢
  have HB1 := Aside0.mk (below1 (w := w) (.cells #[.pointer (some ⟨g, 0, none⟩), .pointer none] 97))
  have hbx := heap_alloc_new w (.cells #[.pointer (some ⟨g, 0, none⟩), .pointer none] 97)
  have hq1 := (Fr.of_below (S := fun _ => False) HB1.out).blk hq (fun h => h)
  have H0 := Aside0.mk (show OW (w.alloc (.cells #[.pointer (some ⟨g, 0, none⟩), .pointer none] 97)) (w.alloc (.cells #[.pointer (some ⟨g, 0, none⟩), .pointer none] 97)) B g ro s from ⟨Nat.le_trans hB HB1.out.size, ro, hw.below HB1.out, .inl rfl, Fr.refl _ _⟩)
  have hgl := hw.lt
  have hrl := hw.ro_lt
  have c0 : (w.alloc (.cells #[.pointer (some ⟨g, 0, none⟩), .pointer none] 97)).cell? ⟨bt, 0, none⟩ = some (Value.int .i64 n0) := blk_cell hq1 0
  have c1 : (w.alloc (.cells #[.pointer (some ⟨g, 0, none⟩), .pointer none] 97)).cell? ⟨bt, 1, none⟩ = some (Value.string n1) := blk_cell hq1 1
  have c2 : (w.alloc (.cells #[.pointer (some ⟨g, 0, none⟩), .pointer none] 97)).cell? ⟨bt, 2, none⟩ = some (Value.int .i64 n2) := blk_cell hq1 2
  have c3 : (w.alloc (.cells #[.pointer (some ⟨g, 0, none⟩), .pointer none] 97)).cell? ⟨bt, 3, none⟩ = some (Value.bool n3) := blk_cell hq1 3
  have HC := Aside0.mk (And.intro c0 (And.intro c1 (And.intro c2 c3)))
  have HK : Aside0 (∀ W, Fr (WrS g ro) (w.alloc (.cells #[.pointer (some ⟨g, 0, none⟩), .pointer none] 97)) W → W.cell? ⟨w.heap.size, 0, none⟩ = some (.pointer (some ⟨g, 0, none⟩)) ∧ W.cell? ⟨w.heap.size, 1, none⟩ = some (.pointer none)) := ⟨fun W hf => by
    have hx := hf.blk hbx (by
      rintro (e | e)
      · omega
      · have := (hrl _ e).2
        omega)
    exact ⟨(blk_cell hx 0).trans rfl, (blk_cell hx 1).trans rfl⟩⟩
  have L0 := putNum_len s n0 4
  have L1 := putFix_len (s.put (pNumber n0 4)) n1
  have L2 := putInt_len ((s.put (pNumber n0 4)).put (pFixed n1 8)) n2
  have L3 := putBool_len (((s.put (pNumber n0 4)).put (pFixed n1 8)).put (pInt n2)) n3
  have HL := Aside0.mk (And.intro hl (And.intro L0 (And.intro L1 (And.intro L2 L3))))
  clear hq hw hB hbx hq1 hgl hrl c0 c1 c2 c3 L0 L1 L2 L3 hl
  go_enter Try.func58, Try.ntmps58
  go_wp2
  generalize hW1 : w.alloc (.cells #[.pointer (some ⟨g, 0, none⟩), .pointer none] 97) = W1 at *
  generalize hgb : w.heap.size = gb at HK ⊢
  clear hgb
  have HS0 := Aside0.mk (HK.out _ H0.out.fr)
  have HS0 := Aside0.mk (show (W1).drew.cell? ⟨gb, 0, none⟩ = _ ∧ (W1).drew.cell? ⟨gb, 1, none⟩ = _ from HS0.out)
  refine YtgmbfecfkdbfaaaG.wp_region_door 99 YtgmbfecfkdbfaaaG.keepT (fun _ _ => False) (fun W => W.cell? ⟨gb, 0, none⟩ = some (.pointer (some ⟨g, 0, none⟩)) ∧ W.cell? ⟨gb, 1, none⟩ = some (.pointer none)) (by kernel_rfl) trivial (fun _ _ _ _ h => h.elim) ?_
  refine YtgmbfecfkdbfaaaG.wpAnyG_take 0 (v := .agg #[.pointer (some ⟨g, 0, none⟩), .pointer none]) rfl (by kernel_rfl) (by kernel_rfl) (by kernel_rfl) (by kernel_rfl) (by decide) (fun a u => YtgmbfecfkdbfaaaG.keepT_put a u) HS0.out trivial (by rfl) (by rintro W ⟨h0, h1⟩; go_simp; done) ?_
  try simp only [Act.put, List.getElem_toArray, List.getElem_cons_zero, List.getElem_cons_succ, List.setIfInBounds_toArray, List.set_cons_zero, List.set_cons_succ]
  refine YtgmbfecfkdbfaaaG.wpAnyG_take 1 (v := .pointer (some ⟨bt, 0, none⟩)) rfl (by kernel_rfl) (by kernel_rfl) (by kernel_rfl) (by kernel_rfl) (by decide) (fun a u => YtgmbfecfkdbfaaaG.keepT_put a u) HS0.out trivial (by rfl) (by rintro W ⟨h0, h1⟩; go_simp; done) ?_
  try simp only [Act.put, List.getElem_toArray, List.getElem_cons_zero, List.getElem_cons_succ, List.setIfInBounds_toArray, List.set_cons_zero, List.set_cons_succ]
  refine YtgmbfecfkdbfaaaG.wpAnyG_take 2 (v := .pointer (some ⟨bt, 0, none⟩)) rfl (by kernel_rfl) (by kernel_rfl) (by kernel_rfl) (by kernel_rfl) (by decide) (fun a u => YtgmbfecfkdbfaaaG.keepT_put a u) HS0.out trivial (by rfl) (by rintro W ⟨h0, h1⟩; go_simp; done) ?_
  try simp only [Act.put, List.getElem_toArray, List.getElem_cons_zero, List.getElem_cons_succ, List.setIfInBounds_toArray, List.set_cons_zero, List.set_cons_succ]
  refine YtgmbfecfkdbfaaaG.wpAnyG_take 3 (v := .pointer (some ⟨bt, 0, none⟩)) rfl (by kernel_rfl) (by kernel_rfl) (by kernel_rfl) (by kernel_rfl) (by decide) (fun a u => YtgmbfecfkdbfaaaG.keepT_put a u) HS0.out trivial (by rfl) (by rintro W ⟨h0, h1⟩; go_simp; done) ?_
  try simp only [Act.put, List.getElem_toArray, List.getElem_cons_zero, List.getElem_cons_succ, List.setIfInBounds_toArray, List.set_cons_zero, List.set_cons_succ]
  have HD0 := Aside0.mk (H0.out.then_ (Below.refl _ _).drew)
  refine YtgmbfecfkdbfaaaG.wpAnyG_one 4 rfl (by kernel_rfl) (by rfl) (fun K hK => ?_)
  go_simp
  refine hK _ _ (HK.out _ (HD0.out.then_ (below1 _)).fr) trivial ?_
  try simp only [Act.put, List.getElem_toArray, List.getElem_cons_zero, List.getElem_cons_succ, List.setIfInBounds_toArray, List.set_cons_zero, List.set_cons_succ]
  clear hK K
  refine YtgmbfecfkdbfaaaG.wpAnyG_one 5 rfl (by kernel_rfl) (by rfl) (fun K hK => ?_)
  go_simp
  refine (OW.number HD0.out 0 n0 4 HC.out.1 k_n0 hg hr (by have := HL.out; omega)).mono ?_
  rintro e w1 ⟨rfl, H1'⟩
  have H1 := Aside0.mk H1'
  clear H1'
  refine hK _ _ (HK.out _ H1.out.fr) trivial ?_
  try simp only [Act.put, List.getElem_toArray, List.getElem_cons_zero, List.getElem_cons_succ, List.setIfInBounds_toArray, List.set_cons_zero, List.set_cons_succ]
  clear hK K HS0
  refine YtgmbfecfkdbfaaaG.wpAnyG_done (by kernel_rfl) ?_ _
  go_wp2
  have HS0 := Aside0.mk (HK.out _ H1.out.fr)
  have HS0 := Aside0.mk (show (w1).drew.cell? ⟨gb, 0, none⟩ = _ ∧ (w1).drew.cell? ⟨gb, 1, none⟩ = _ from HS0.out)
  refine YtgmbfecfkdbfaaaG.wp_region_door 99 YtgmbfecfkdbfaaaG.keepT (fun _ _ => False) (fun W => W.cell? ⟨gb, 0, none⟩ = some (.pointer (some ⟨g, 0, none⟩)) ∧ W.cell? ⟨gb, 1, none⟩ = some (.pointer none)) (by kernel_rfl) trivial (fun _ _ _ _ h => h.elim) ?_
  refine YtgmbfecfkdbfaaaG.wpAnyG_take 0 (v := .agg #[.pointer (some ⟨g, 0, none⟩), .pointer none]) rfl (by kernel_rfl) (by kernel_rfl) (by kernel_rfl) (by kernel_rfl) (by decide) (fun a u => YtgmbfecfkdbfaaaG.keepT_put a u) HS0.out trivial (by rfl) (by rintro W ⟨h0, h1⟩; go_simp; done) ?_
  try simp only [Act.put, List.getElem_toArray, List.getElem_cons_zero, List.getElem_cons_succ, List.setIfInBounds_toArray, List.set_cons_zero, List.set_cons_succ]
  refine YtgmbfecfkdbfaaaG.wpAnyG_take 1 (v := .pointer (some ⟨bt, 0, none⟩)) rfl (by kernel_rfl) (by kernel_rfl) (by kernel_rfl) (by kernel_rfl) (by decide) (fun a u => YtgmbfecfkdbfaaaG.keepT_put a u) HS0.out trivial (by rfl) (by rintro W ⟨h0, h1⟩; go_simp; done) ?_
  try simp only [Act.put, List.getElem_toArray, List.getElem_cons_zero, List.getElem_cons_succ, List.setIfInBounds_toArray, List.set_cons_zero, List.set_cons_succ]
  refine YtgmbfecfkdbfaaaG.wpAnyG_take 2 (v := .pointer (some ⟨bt, 0, none⟩)) rfl (by kernel_rfl) (by kernel_rfl) (by kernel_rfl) (by kernel_rfl) (by decide) (fun a u => YtgmbfecfkdbfaaaG.keepT_put a u) HS0.out trivial (by rfl) (by rintro W ⟨h0, h1⟩; go_simp; done) ?_
  try simp only [Act.put, List.getElem_toArray, List.getElem_cons_zero, List.getElem_cons_succ, List.setIfInBounds_toArray, List.set_cons_zero, List.set_cons_succ]
  refine YtgmbfecfkdbfaaaG.wpAnyG_take 3 (v := .pointer (some ⟨bt, 1, none⟩)) rfl (by kernel_rfl) (by kernel_rfl) (by kernel_rfl) (by kernel_rfl) (by decide) (fun a u => YtgmbfecfkdbfaaaG.keepT_put a u) HS0.out trivial (by rfl) (by rintro W ⟨h0, h1⟩; go_simp; done) ?_
  try simp only [Act.put, List.getElem_toArray, List.getElem_cons_zero, List.getElem_cons_succ, List.setIfInBounds_toArray, List.set_cons_zero, List.set_cons_succ]
  have HD1 := Aside0.mk (H1.out.then_ (Below.refl _ _).drew)
  refine YtgmbfecfkdbfaaaG.wpAnyG_one 4 rfl (by kernel_rfl) (by rfl) (fun K hK => ?_)
  go_simp
  refine (OW.token HD1.out 1 n1 HC.out.2.1 k_n1 hg hr (by have := HL.out; omega)).mono ?_
  rintro e w2 ⟨rfl, H2'⟩
  have H2 := Aside0.mk H2'
  clear H2'
  refine hK _ _ (HK.out _ H2.out.fr) trivial ?_
  try simp only [Act.put, List.getElem_toArray, List.getElem_cons_zero, List.getElem_cons_succ, List.setIfInBounds_toArray, List.set_cons_zero, List.set_cons_succ]
  clear hK K HS0
  refine YtgmbfecfkdbfaaaG.wpAnyG_done (by kernel_rfl) ?_ _
  go_wp2
  have HS0 := Aside0.mk (HK.out _ H2.out.fr)
  have HS0 := Aside0.mk (show (w2).drew.cell? ⟨gb, 0, none⟩ = _ ∧ (w2).drew.cell? ⟨gb, 1, none⟩ = _ from HS0.out)
  refine YtgmbfecfkdbfaaaG.wp_region_door 99 YtgmbfecfkdbfaaaG.keepT (fun _ _ => False) (fun W => W.cell? ⟨gb, 0, none⟩ = some (.pointer (some ⟨g, 0, none⟩)) ∧ W.cell? ⟨gb, 1, none⟩ = some (.pointer none)) (by kernel_rfl) trivial (fun _ _ _ _ h => h.elim) ?_
  refine YtgmbfecfkdbfaaaG.wpAnyG_take 0 (v := .agg #[.pointer (some ⟨g, 0, none⟩), .pointer none]) rfl (by kernel_rfl) (by kernel_rfl) (by kernel_rfl) (by kernel_rfl) (by decide) (fun a u => YtgmbfecfkdbfaaaG.keepT_put a u) HS0.out trivial (by rfl) (by rintro W ⟨h0, h1⟩; go_simp; done) ?_
  try simp only [Act.put, List.getElem_toArray, List.getElem_cons_zero, List.getElem_cons_succ, List.setIfInBounds_toArray, List.set_cons_zero, List.set_cons_succ]
  refine YtgmbfecfkdbfaaaG.wpAnyG_take 1 (v := .pointer (some ⟨bt, 0, none⟩)) rfl (by kernel_rfl) (by kernel_rfl) (by kernel_rfl) (by kernel_rfl) (by decide) (fun a u => YtgmbfecfkdbfaaaG.keepT_put a u) HS0.out trivial (by rfl) (by rintro W ⟨h0, h1⟩; go_simp; done) ?_
  try simp only [Act.put, List.getElem_toArray, List.getElem_cons_zero, List.getElem_cons_succ, List.setIfInBounds_toArray, List.set_cons_zero, List.set_cons_succ]
  refine YtgmbfecfkdbfaaaG.wpAnyG_take 2 (v := .pointer (some ⟨bt, 0, none⟩)) rfl (by kernel_rfl) (by kernel_rfl) (by kernel_rfl) (by kernel_rfl) (by decide) (fun a u => YtgmbfecfkdbfaaaG.keepT_put a u) HS0.out trivial (by rfl) (by rintro W ⟨h0, h1⟩; go_simp; done) ?_
  try simp only [Act.put, List.getElem_toArray, List.getElem_cons_zero, List.getElem_cons_succ, List.setIfInBounds_toArray, List.set_cons_zero, List.set_cons_succ]
  refine YtgmbfecfkdbfaaaG.wpAnyG_take 3 (v := .pointer (some ⟨bt, 2, none⟩)) rfl (by kernel_rfl) (by kernel_rfl) (by kernel_rfl) (by kernel_rfl) (by decide) (fun a u => YtgmbfecfkdbfaaaG.keepT_put a u) HS0.out trivial (by rfl) (by rintro W ⟨h0, h1⟩; go_simp; done) ?_
  try simp only [Act.put, List.getElem_toArray, List.getElem_cons_zero, List.getElem_cons_succ, List.setIfInBounds_toArray, List.set_cons_zero, List.set_cons_succ]
  have HD2 := Aside0.mk (H2.out.then_ (Below.refl _ _).drew)
  refine YtgmbfecfkdbfaaaG.wpAnyG_one 4 rfl (by kernel_rfl) (by rfl) (fun K hK => ?_)
  go_simp
  refine (OW.whole HD2.out 2 n2 HC.out.2.2.1 hg hr (by have := HL.out; omega)).mono ?_
  rintro e w3 ⟨rfl, H3'⟩
  have H3 := Aside0.mk H3'
  clear H3'
  refine hK _ _ (HK.out _ H3.out.fr) trivial ?_
  try simp only [Act.put, List.getElem_toArray, List.getElem_cons_zero, List.getElem_cons_succ, List.setIfInBounds_toArray, List.set_cons_zero, List.set_cons_succ]
  clear hK K HS0
  refine YtgmbfecfkdbfaaaG.wpAnyG_done (by kernel_rfl) ?_ _
  go_wp2
  have HS0 := Aside0.mk (HK.out _ H3.out.fr)
  have HS0 := Aside0.mk (show (w3).drew.cell? ⟨gb, 0, none⟩ = _ ∧ (w3).drew.cell? ⟨gb, 1, none⟩ = _ from HS0.out)
  refine YtgmbfecfkdbfaaaG.wp_region_door 99 YtgmbfecfkdbfaaaG.keepT (fun _ _ => False) (fun W => W.cell? ⟨gb, 0, none⟩ = some (.pointer (some ⟨g, 0, none⟩)) ∧ W.cell? ⟨gb, 1, none⟩ = some (.pointer none)) (by kernel_rfl) trivial (fun _ _ _ _ h => h.elim) ?_
  refine YtgmbfecfkdbfaaaG.wpAnyG_take 0 (v := .agg #[.pointer (some ⟨g, 0, none⟩), .pointer none]) rfl (by kernel_rfl) (by kernel_rfl) (by kernel_rfl) (by kernel_rfl) (by decide) (fun a u => YtgmbfecfkdbfaaaG.keepT_put a u) HS0.out trivial (by rfl) (by rintro W ⟨h0, h1⟩; go_simp; done) ?_
  try simp only [Act.put, List.getElem_toArray, List.getElem_cons_zero, List.getElem_cons_succ, List.setIfInBounds_toArray, List.set_cons_zero, List.set_cons_succ]
  refine YtgmbfecfkdbfaaaG.wpAnyG_take 1 (v := .pointer (some ⟨bt, 0, none⟩)) rfl (by kernel_rfl) (by kernel_rfl) (by kernel_rfl) (by kernel_rfl) (by decide) (fun a u => YtgmbfecfkdbfaaaG.keepT_put a u) HS0.out trivial (by rfl) (by rintro W ⟨h0, h1⟩; go_simp; done) ?_
  try simp only [Act.put, List.getElem_toArray, List.getElem_cons_zero, List.getElem_cons_succ, List.setIfInBounds_toArray, List.set_cons_zero, List.set_cons_succ]
  refine YtgmbfecfkdbfaaaG.wpAnyG_take 2 (v := .pointer (some ⟨bt, 0, none⟩)) rfl (by kernel_rfl) (by kernel_rfl) (by kernel_rfl) (by kernel_rfl) (by decide) (fun a u => YtgmbfecfkdbfaaaG.keepT_put a u) HS0.out trivial (by rfl) (by rintro W ⟨h0, h1⟩; go_simp; done) ?_
  try simp only [Act.put, List.getElem_toArray, List.getElem_cons_zero, List.getElem_cons_succ, List.setIfInBounds_toArray, List.set_cons_zero, List.set_cons_succ]
  refine YtgmbfecfkdbfaaaG.wpAnyG_take 3 (v := .pointer (some ⟨bt, 3, none⟩)) rfl (by kernel_rfl) (by kernel_rfl) (by kernel_rfl) (by kernel_rfl) (by decide) (fun a u => YtgmbfecfkdbfaaaG.keepT_put a u) HS0.out trivial (by rfl) (by rintro W ⟨h0, h1⟩; go_simp; done) ?_
  try simp only [Act.put, List.getElem_toArray, List.getElem_cons_zero, List.getElem_cons_succ, List.setIfInBounds_toArray, List.set_cons_zero, List.set_cons_succ]
  have HD3 := Aside0.mk (H3.out.then_ (Below.refl _ _).drew)
  refine YtgmbfecfkdbfaaaG.wpAnyG_one 4 rfl (by kernel_rfl) (by rfl) (fun K hK => ?_)
  go_simp
  refine (OW.truth HD3.out 3 n3 HC.out.2.2.2 hg hr (by have := HL.out; omega)).mono ?_
  rintro e w4 ⟨rfl, H4'⟩
  have H4 := Aside0.mk H4'
  clear H4'
  refine hK _ _ (HK.out _ H4.out.fr) trivial ?_
  try simp only [Act.put, List.getElem_toArray, List.getElem_cons_zero, List.getElem_cons_succ, List.setIfInBounds_toArray, List.set_cons_zero, List.set_cons_succ]
  clear hK K HS0
  refine YtgmbfecfkdbfaaaG.wpAnyG_done (by kernel_rfl) ?_ _
  go_wp2
  go_end0
  obtain ⟨_, ro', hw', hr', hf'⟩ := H4.out
  exact WPost.from (w1 := W1) ⟨rfl, ro', hw', hr', hf'⟩ HB1.out
set_option maxHeartbeats 8000000 in
set_option maxRecDepth 100000 in
theorem overEntry_r {w : World} {B g : Nat} {ro : Option Nat} {bs : List Int} {r : RS} {bt : Nat} (t : Entry) (hq : w.heap[bt]? = some (.cells #[.int .i64 t.n0, .string t.n1, .int .i64 t.n2, .bool t.n3] 40 (0, 0)))
    (hr : Rd w B g ro bs r) (hB : B ≤ w.heap.size) :
    Calls Try.prog 58 #[.agg #[.pointer none, .pointer (some ⟨g, 0, none⟩)], .pointer (some ⟨bt, 0, none⟩)] w (SPost B g ro bs bt 40 #[.int .i64 (Entry.readS bs r).1.n0, .string (Entry.readS bs r).1.n1, .int .i64 (Entry.readS bs r).1.n2, .bool (Entry.readS bs r).1.n3] (Entry.readS bs r).2 w) := by
  unfold Entry.readS
  obtain ⟨n0, n1, n2, n3⟩ := t
  simp only at hq ⊢
  have HB1 := Aside0.mk (below1 (w := w) (.cells #[.pointer none, .pointer (some ⟨g, 0, none⟩)] 97))
  have hbx := heap_alloc_new w (.cells #[.pointer none, .pointer (some ⟨g, 0, none⟩)] 97)
  have hq1 := (Fr.of_below (S := fun _ => False) HB1.out).blk hq (fun h => h)
  have H0 := Aside0.mk (show OR_ (w.alloc (.cells #[.pointer none, .pointer (some ⟨g, 0, none⟩)] 97)) (w.alloc (.cells #[.pointer none, .pointer (some ⟨g, 0, none⟩)] 97)) B g ro bs bt 40 _ r from ⟨Nat.le_trans hB HB1.out.size, hr.below HB1.out, hq1, Fr.refl _ _⟩)
  have hgl := hr.lt
  have hbl := blk_lt hq
  have HK : Aside0 (∀ W, Fr (fun i => i = g ∨ i = bt) (w.alloc (.cells #[.pointer none, .pointer (some ⟨g, 0, none⟩)] 97)) W → W.cell? ⟨w.heap.size, 0, none⟩ = some (.pointer none) ∧ W.cell? ⟨w.heap.size, 1, none⟩ = some (.pointer (some ⟨g, 0, none⟩))) := ⟨fun W hf => by
    have hx := hf.blk hbx (by rintro (e | e) <;> omega)
    exact ⟨(blk_cell hx 0).trans rfl, (blk_cell hx 1).trans rfl⟩⟩
  clear hq hr hB hbx hq1 hgl hbl
  go_enter Try.func58, Try.ntmps58
  go_wp2
  generalize hW1 : w.alloc (.cells #[.pointer none, .pointer (some ⟨g, 0, none⟩)] 97) = W1 at *
  generalize hgb : w.heap.size = gb at HK ⊢
  clear hgb
  have HS0 := Aside0.mk (HK.out _ H0.out.fr)
  have HS0 := Aside0.mk (show (W1).drew.cell? ⟨gb, 0, none⟩ = _ ∧ (W1).drew.cell? ⟨gb, 1, none⟩ = _ from HS0.out)
  refine YtgmbfecfkdbfaaaG.wp_region_door 99 YtgmbfecfkdbfaaaG.keepT (fun _ _ => False) (fun W => W.cell? ⟨gb, 0, none⟩ = some (.pointer none) ∧ W.cell? ⟨gb, 1, none⟩ = some (.pointer (some ⟨g, 0, none⟩))) (by kernel_rfl) trivial (fun _ _ _ _ h => h.elim) ?_
  refine YtgmbfecfkdbfaaaG.wpAnyG_take 0 (v := .agg #[.pointer none, .pointer (some ⟨g, 0, none⟩)]) rfl (by kernel_rfl) (by kernel_rfl) (by kernel_rfl) (by kernel_rfl) (by decide) (fun a u => YtgmbfecfkdbfaaaG.keepT_put a u) HS0.out trivial (by rfl) (by rintro W ⟨h0, h1⟩; go_simp; done) ?_
  try simp only [Act.put, List.getElem_toArray, List.getElem_cons_zero, List.getElem_cons_succ, List.setIfInBounds_toArray, List.set_cons_zero, List.set_cons_succ]
  refine YtgmbfecfkdbfaaaG.wpAnyG_take 1 (v := .pointer (some ⟨bt, 0, none⟩)) rfl (by kernel_rfl) (by kernel_rfl) (by kernel_rfl) (by kernel_rfl) (by decide) (fun a u => YtgmbfecfkdbfaaaG.keepT_put a u) HS0.out trivial (by rfl) (by rintro W ⟨h0, h1⟩; go_simp; done) ?_
  try simp only [Act.put, List.getElem_toArray, List.getElem_cons_zero, List.getElem_cons_succ, List.setIfInBounds_toArray, List.set_cons_zero, List.set_cons_succ]
  refine YtgmbfecfkdbfaaaG.wpAnyG_take 2 (v := .pointer (some ⟨bt, 0, none⟩)) rfl (by kernel_rfl) (by kernel_rfl) (by kernel_rfl) (by kernel_rfl) (by decide) (fun a u => YtgmbfecfkdbfaaaG.keepT_put a u) HS0.out trivial (by rfl) (by rintro W ⟨h0, h1⟩; go_simp; done) ?_
  try simp only [Act.put, List.getElem_toArray, List.getElem_cons_zero, List.getElem_cons_succ, List.setIfInBounds_toArray, List.set_cons_zero, List.set_cons_succ]
  refine YtgmbfecfkdbfaaaG.wpAnyG_take 3 (v := .pointer (some ⟨bt, 0, none⟩)) rfl (by kernel_rfl) (by kernel_rfl) (by kernel_rfl) (by kernel_rfl) (by decide) (fun a u => YtgmbfecfkdbfaaaG.keepT_put a u) HS0.out trivial (by rfl) (by rintro W ⟨h0, h1⟩; go_simp; done) ?_
  try simp only [Act.put, List.getElem_toArray, List.getElem_cons_zero, List.getElem_cons_succ, List.setIfInBounds_toArray, List.set_cons_zero, List.set_cons_succ]
  have HD0 := Aside0.mk (H0.out.then_ (Below.refl _ _).drew)
  refine YtgmbfecfkdbfaaaG.wpAnyG_one 4 rfl (by kernel_rfl) (by rfl) (fun K hK => ?_)
  go_simp
  refine hK _ _ (HK.out _ (HD0.out.then_ (below1 _)).fr) trivial ?_
  try simp only [Act.put, List.getElem_toArray, List.getElem_cons_zero, List.getElem_cons_succ, List.setIfInBounds_toArray, List.set_cons_zero, List.set_cons_succ]
  clear hK K
  refine YtgmbfecfkdbfaaaG.wpAnyG_one 5 rfl (by kernel_rfl) (by rfl) (fun K hK => ?_)
  go_simp
  refine (OR_.number HD0.out 0 4 (by simp) (by decide) (by decide)).mono ?_
  rintro e w1 ⟨rfl, H1'⟩
  have H1 := Aside0.mk H1'
  clear H1'
  refine hK _ _ (HK.out _ H1.out.fr) trivial ?_
  try simp only [Act.put, List.getElem_toArray, List.getElem_cons_zero, List.getElem_cons_succ, List.setIfInBounds_toArray, List.set_cons_zero, List.set_cons_succ]
  clear hK K HS0
  refine YtgmbfecfkdbfaaaG.wpAnyG_done (by kernel_rfl) ?_ _
  go_wp2
  have HS0 := Aside0.mk (HK.out _ H1.out.fr)
  have HS0 := Aside0.mk (show (w1).drew.cell? ⟨gb, 0, none⟩ = _ ∧ (w1).drew.cell? ⟨gb, 1, none⟩ = _ from HS0.out)
  refine YtgmbfecfkdbfaaaG.wp_region_door 99 YtgmbfecfkdbfaaaG.keepT (fun _ _ => False) (fun W => W.cell? ⟨gb, 0, none⟩ = some (.pointer none) ∧ W.cell? ⟨gb, 1, none⟩ = some (.pointer (some ⟨g, 0, none⟩))) (by kernel_rfl) trivial (fun _ _ _ _ h => h.elim) ?_
  refine YtgmbfecfkdbfaaaG.wpAnyG_take 0 (v := .agg #[.pointer none, .pointer (some ⟨g, 0, none⟩)]) rfl (by kernel_rfl) (by kernel_rfl) (by kernel_rfl) (by kernel_rfl) (by decide) (fun a u => YtgmbfecfkdbfaaaG.keepT_put a u) HS0.out trivial (by rfl) (by rintro W ⟨h0, h1⟩; go_simp; done) ?_
  try simp only [Act.put, List.getElem_toArray, List.getElem_cons_zero, List.getElem_cons_succ, List.setIfInBounds_toArray, List.set_cons_zero, List.set_cons_succ]
  refine YtgmbfecfkdbfaaaG.wpAnyG_take 1 (v := .pointer (some ⟨bt, 0, none⟩)) rfl (by kernel_rfl) (by kernel_rfl) (by kernel_rfl) (by kernel_rfl) (by decide) (fun a u => YtgmbfecfkdbfaaaG.keepT_put a u) HS0.out trivial (by rfl) (by rintro W ⟨h0, h1⟩; go_simp; done) ?_
  try simp only [Act.put, List.getElem_toArray, List.getElem_cons_zero, List.getElem_cons_succ, List.setIfInBounds_toArray, List.set_cons_zero, List.set_cons_succ]
  refine YtgmbfecfkdbfaaaG.wpAnyG_take 2 (v := .pointer (some ⟨bt, 0, none⟩)) rfl (by kernel_rfl) (by kernel_rfl) (by kernel_rfl) (by kernel_rfl) (by decide) (fun a u => YtgmbfecfkdbfaaaG.keepT_put a u) HS0.out trivial (by rfl) (by rintro W ⟨h0, h1⟩; go_simp; done) ?_
  try simp only [Act.put, List.getElem_toArray, List.getElem_cons_zero, List.getElem_cons_succ, List.setIfInBounds_toArray, List.set_cons_zero, List.set_cons_succ]
  refine YtgmbfecfkdbfaaaG.wpAnyG_take 3 (v := .pointer (some ⟨bt, 1, none⟩)) rfl (by kernel_rfl) (by kernel_rfl) (by kernel_rfl) (by kernel_rfl) (by decide) (fun a u => YtgmbfecfkdbfaaaG.keepT_put a u) HS0.out trivial (by rfl) (by rintro W ⟨h0, h1⟩; go_simp; done) ?_
  try simp only [Act.put, List.getElem_toArray, List.getElem_cons_zero, List.getElem_cons_succ, List.setIfInBounds_toArray, List.set_cons_zero, List.set_cons_succ]
  have HD1 := Aside0.mk (H1.out.then_ (Below.refl _ _).drew)
  refine YtgmbfecfkdbfaaaG.wpAnyG_one 4 rfl (by kernel_rfl) (by rfl) (fun K hK => ?_)
  go_simp
  refine (OR_.token HD1.out 1 (by simp) (by decide) (by decide)).mono ?_
  rintro e w2 ⟨rfl, H2'⟩
  have H2 := Aside0.mk H2'
  clear H2'
  refine hK _ _ (HK.out _ H2.out.fr) trivial ?_
  try simp only [Act.put, List.getElem_toArray, List.getElem_cons_zero, List.getElem_cons_succ, List.setIfInBounds_toArray, List.set_cons_zero, List.set_cons_succ]
  clear hK K HS0
  refine YtgmbfecfkdbfaaaG.wpAnyG_done (by kernel_rfl) ?_ _
  go_wp2
  have HS0 := Aside0.mk (HK.out _ H2.out.fr)
  have HS0 := Aside0.mk (show (w2).drew.cell? ⟨gb, 0, none⟩ = _ ∧ (w2).drew.cell? ⟨gb, 1, none⟩ = _ from HS0.out)
  refine YtgmbfecfkdbfaaaG.wp_region_door 99 YtgmbfecfkdbfaaaG.keepT (fun _ _ => False) (fun W => W.cell? ⟨gb, 0, none⟩ = some (.pointer none) ∧ W.cell? ⟨gb, 1, none⟩ = some (.pointer (some ⟨g, 0, none⟩))) (by kernel_rfl) trivial (fun _ _ _ _ h => h.elim) ?_
  refine YtgmbfecfkdbfaaaG.wpAnyG_take 0 (v := .agg #[.pointer none, .pointer (some ⟨g, 0, none⟩)]) rfl (by kernel_rfl) (by kernel_rfl) (by kernel_rfl) (by kernel_rfl) (by decide) (fun a u => YtgmbfecfkdbfaaaG.keepT_put a u) HS0.out trivial (by rfl) (by rintro W ⟨h0, h1⟩; go_simp; done) ?_
  try simp only [Act.put, List.getElem_toArray, List.getElem_cons_zero, List.getElem_cons_succ, List.setIfInBounds_toArray, List.set_cons_zero, List.set_cons_succ]
  refine YtgmbfecfkdbfaaaG.wpAnyG_take 1 (v := .pointer (some ⟨bt, 0, none⟩)) rfl (by kernel_rfl) (by kernel_rfl) (by kernel_rfl) (by kernel_rfl) (by decide) (fun a u => YtgmbfecfkdbfaaaG.keepT_put a u) HS0.out trivial (by rfl) (by rintro W ⟨h0, h1⟩; go_simp; done) ?_
  try simp only [Act.put, List.getElem_toArray, List.getElem_cons_zero, List.getElem_cons_succ, List.setIfInBounds_toArray, List.set_cons_zero, List.set_cons_succ]
  refine YtgmbfecfkdbfaaaG.wpAnyG_take 2 (v := .pointer (some ⟨bt, 0, none⟩)) rfl (by kernel_rfl) (by kernel_rfl) (by kernel_rfl) (by kernel_rfl) (by decide) (fun a u => YtgmbfecfkdbfaaaG.keepT_put a u) HS0.out trivial (by rfl) (by rintro W ⟨h0, h1⟩; go_simp; done) ?_
  try simp only [Act.put, List.getElem_toArray, List.getElem_cons_zero, List.getElem_cons_succ, List.setIfInBounds_toArray, List.set_cons_zero, List.set_cons_succ]
  refine YtgmbfecfkdbfaaaG.wpAnyG_take 3 (v := .pointer (some ⟨bt, 2, none⟩)) rfl (by kernel_rfl) (by kernel_rfl) (by kernel_rfl) (by kernel_rfl) (by decide) (fun a u => YtgmbfecfkdbfaaaG.keepT_put a u) HS0.out trivial (by rfl) (by rintro W ⟨h0, h1⟩; go_simp; done) ?_
  try simp only [Act.put, List.getElem_toArray, List.getElem_cons_zero, List.getElem_cons_succ, List.setIfInBounds_toArray, List.set_cons_zero, List.set_cons_succ]
  have HD2 := Aside0.mk (H2.out.then_ (Below.refl _ _).drew)
  refine YtgmbfecfkdbfaaaG.wpAnyG_one 4 rfl (by kernel_rfl) (by rfl) (fun K hK => ?_)
  go_simp
  refine (OR_.whole HD2.out 2 (by simp) (by decide) (by decide)).mono ?_
  rintro e w3 ⟨rfl, H3'⟩
  have H3 := Aside0.mk H3'
  clear H3'
  refine hK _ _ (HK.out _ H3.out.fr) trivial ?_
  try simp only [Act.put, List.getElem_toArray, List.getElem_cons_zero, List.getElem_cons_succ, List.setIfInBounds_toArray, List.set_cons_zero, List.set_cons_succ]
  clear hK K HS0
  refine YtgmbfecfkdbfaaaG.wpAnyG_done (by kernel_rfl) ?_ _
  go_wp2
  have HS0 := Aside0.mk (HK.out _ H3.out.fr)
  have HS0 := Aside0.mk (show (w3).drew.cell? ⟨gb, 0, none⟩ = _ ∧ (w3).drew.cell? ⟨gb, 1, none⟩ = _ from HS0.out)
  refine YtgmbfecfkdbfaaaG.wp_region_door 99 YtgmbfecfkdbfaaaG.keepT (fun _ _ => False) (fun W => W.cell? ⟨gb, 0, none⟩ = some (.pointer none) ∧ W.cell? ⟨gb, 1, none⟩ = some (.pointer (some ⟨g, 0, none⟩))) (by kernel_rfl) trivial (fun _ _ _ _ h => h.elim) ?_
  refine YtgmbfecfkdbfaaaG.wpAnyG_take 0 (v := .agg #[.pointer none, .pointer (some ⟨g, 0, none⟩)]) rfl (by kernel_rfl) (by kernel_rfl) (by kernel_rfl) (by kernel_rfl) (by decide) (fun a u => YtgmbfecfkdbfaaaG.keepT_put a u) HS0.out trivial (by rfl) (by rintro W ⟨h0, h1⟩; go_simp; done) ?_
  try simp only [Act.put, List.getElem_toArray, List.getElem_cons_zero, List.getElem_cons_succ, List.setIfInBounds_toArray, List.set_cons_zero, List.set_cons_succ]
  refine YtgmbfecfkdbfaaaG.wpAnyG_take 1 (v := .pointer (some ⟨bt, 0, none⟩)) rfl (by kernel_rfl) (by kernel_rfl) (by kernel_rfl) (by kernel_rfl) (by decide) (fun a u => YtgmbfecfkdbfaaaG.keepT_put a u) HS0.out trivial (by rfl) (by rintro W ⟨h0, h1⟩; go_simp; done) ?_
  try simp only [Act.put, List.getElem_toArray, List.getElem_cons_zero, List.getElem_cons_succ, List.setIfInBounds_toArray, List.set_cons_zero, List.set_cons_succ]
  refine YtgmbfecfkdbfaaaG.wpAnyG_take 2 (v := .pointer (some ⟨bt, 0, none⟩)) rfl (by kernel_rfl) (by kernel_rfl) (by kernel_rfl) (by kernel_rfl) (by decide) (fun a u => YtgmbfecfkdbfaaaG.keepT_put a u) HS0.out trivial (by rfl) (by rintro W ⟨h0, h1⟩; go_simp; done) ?_
  try simp only [Act.put, List.getElem_toArray, List.getElem_cons_zero, List.getElem_cons_succ, List.setIfInBounds_toArray, List.set_cons_zero, List.set_cons_succ]
  refine YtgmbfecfkdbfaaaG.wpAnyG_take 3 (v := .pointer (some ⟨bt, 3, none⟩)) rfl (by kernel_rfl) (by kernel_rfl) (by kernel_rfl) (by kernel_rfl) (by decide) (fun a u => YtgmbfecfkdbfaaaG.keepT_put a u) HS0.out trivial (by rfl) (by rintro W ⟨h0, h1⟩; go_simp; done) ?_
  try simp only [Act.put, List.getElem_toArray, List.getElem_cons_zero, List.getElem_cons_succ, List.setIfInBounds_toArray, List.set_cons_zero, List.set_cons_succ]
  have HD3 := Aside0.mk (H3.out.then_ (Below.refl _ _).drew)
  refine YtgmbfecfkdbfaaaG.wpAnyG_one 4 rfl (by kernel_rfl) (by rfl) (fun K hK => ?_)
  go_simp
  refine (OR_.truth HD3.out 3 (by simp) (by decide) (by decide)).mono ?_
  rintro e w4 ⟨rfl, H4'⟩
  have H4 := Aside0.mk H4'
  clear H4'
  refine hK _ _ (HK.out _ H4.out.fr) trivial ?_
  try simp only [Act.put, List.getElem_toArray, List.getElem_cons_zero, List.getElem_cons_succ, List.setIfInBounds_toArray, List.set_cons_zero, List.set_cons_succ]
  clear hK K HS0
  refine YtgmbfecfkdbfaaaG.wpAnyG_done (by kernel_rfl) ?_ _
  go_wp2
  go_end0
  have hb := H4.out.blk
  simp at hb
  exact ⟨rfl, H4.out.rd_, hb, (Fr.of_below HB1.out).trans H4.out.fr (fun _ _ h => h)⟩
structure Account where
  n0 : ByteArray
  n1 : Int
  n2 : Int
def Account.val (t : Account) : Value := .agg #[.string t.n0, .int .i64 t.n1, .int .i64 t.n2]
structure Account.Ok (t : Account) : Prop where
  n0 : t.n0.size ≤ 9223372036854775807
  n1 : I64 t.n1
  n2 : I64 t.n2
def Account.putS (s : WS) (t : Account) : WS := (((s.put (pFixed t.n0 8)).put (pNumber t.n1 8)).put (pNumber t.n2 8))
def Account.readS (bs : List Int) (r : RS) : Account × RS :=
  let p0 := rFix bs r 8
  let p1 := rNum bs p0.2 8
  let p2 := rNum bs p1.2 8
  (⟨strOfNums p0.1, p1.1, p2.1⟩, p2.2)
def Account.right (t : Account) : Bool := ((t.n0.size : Int) == 8) && inB t.n1 (-9007199254740992) 9007199254740992 && inB t.n2 0 t.n1
def Account.zero : Account := ⟨⟨#[]⟩, 0, 0⟩
def Account.put (t : Account) : WS := Account.putS ⟨[], false⟩ t
def Account.out (t : Account) : List Int := if t.right = true then t.put.out else []
def Account.err (t : Account) : Int := if t.right = true then t.put.err else 80
theorem Account.putS_len (s : WS) (t : Account) : (Account.putS s t).xs.length ≤ s.xs.length + 1000000 := by
  unfold Account.putS
  have L0 := putFix_len s t.n0
  have L1 := putNum_len (s.put (pFixed t.n0 8)) t.n1 8
  have L2 := putNum_len ((s.put (pFixed t.n0 8)).put (pNumber t.n1 8)) t.n2 8
  omega
theorem Account.put_len (t : Account) : t.put.xs.length ≤ 1000000 := by
  have h := Account.putS_len ⟨[], false⟩ t
  have h0 : (⟨[], false⟩ : WS).xs.length = 0 := rfl
  unfold Account.put
  omega
set_option maxHeartbeats 8000000 in
set_option maxRecDepth 100000 in
theorem overAccount_w {w : World} {B g : Nat} {ro : Option Nat} {s : WS} {bt : Nat} (t : Account) (ht : t.Ok) (hq : w.heap[bt]? = some (.cells #[.string t.n0, .int .i64 t.n1, .int .i64 t.n2] 42 (0, 0)))
    (hg : bt ≠ g) (hr : ro ≠ some bt) (hw : Wr w B g ro s) (hB : B ≤ w.heap.size) (hl : s.xs.length ≤ 90000000000) :
    Calls Try.prog 61 #[.agg #[.pointer (some ⟨g, 0, none⟩), .pointer none], .pointer (some ⟨bt, 0, none⟩)] w (WPost B g ro (Account.putS s t) w) := by
  unfold Account.putS
  obtain ⟨k_n0, ⟨_, k_n1⟩, ⟨_, k_n2⟩⟩ := ht
  obtain ⟨n0, n1, n2⟩ := t
  simp only at hq k_n0 k_n1 k_n2 ⊢
  have HB1 := Aside0.mk (below1 (w := w) (.cells #[.pointer (some ⟨g, 0, none⟩), .pointer none] 97))
  have hbx := heap_alloc_new w (.cells #[.pointer (some ⟨g, 0, none⟩), .pointer none] 97)
  have hq1 := (Fr.of_below (S := fun _ => False) HB1.out).blk hq (fun h => h)
  have H0 := Aside0.mk (show OW (w.alloc (.cells #[.pointer (some ⟨g, 0, none⟩), .pointer none] 97)) (w.alloc (.cells #[.pointer (some ⟨g, 0, none⟩), .pointer none] 97)) B g ro s from ⟨Nat.le_trans hB HB1.out.size, ro, hw.below HB1.out, .inl rfl, Fr.refl _ _⟩)
  have hgl := hw.lt
  have hrl := hw.ro_lt
  have c0 : (w.alloc (.cells #[.pointer (some ⟨g, 0, none⟩), .pointer none] 97)).cell? ⟨bt, 0, none⟩ = some (Value.string n0) := blk_cell hq1 0
  have c1 : (w.alloc (.cells #[.pointer (some ⟨g, 0, none⟩), .pointer none] 97)).cell? ⟨bt, 1, none⟩ = some (Value.int .i64 n1) := blk_cell hq1 1
  have c2 : (w.alloc (.cells #[.pointer (some ⟨g, 0, none⟩), .pointer none] 97)).cell? ⟨bt, 2, none⟩ = some (Value.int .i64 n2) := blk_cell hq1 2
  have HC := Aside0.mk (And.intro c0 (And.intro c1 c2))
  have HK : Aside0 (∀ W, Fr (WrS g ro) (w.alloc (.cells #[.pointer (some ⟨g, 0, none⟩), .pointer none] 97)) W → W.cell? ⟨w.heap.size, 0, none⟩ = some (.pointer (some ⟨g, 0, none⟩)) ∧ W.cell? ⟨w.heap.size, 1, none⟩ = some (.pointer none)) := ⟨fun W hf => by
    have hx := hf.blk hbx (by
      rintro (e | e)
      · omega
      · have := (hrl _ e).2
        omega)
    exact ⟨(blk_cell hx 0).trans rfl, (blk_cell hx 1).trans rfl⟩⟩
  have L0 := putFix_len s n0
  have L1 := putNum_len (s.put (pFixed n0 8)) n1 8
  have L2 := putNum_len ((s.put (pFixed n0 8)).put (pNumber n1 8)) n2 8
  have HL := Aside0.mk (And.intro hl (And.intro L0 (And.intro L1 L2)))
  clear hq hw hB hbx hq1 hgl hrl c0 c1 c2 L0 L1 L2 hl
  go_enter Try.func61, Try.ntmps61
  go_wp2
  generalize hW1 : w.alloc (.cells #[.pointer (some ⟨g, 0, none⟩), .pointer none] 97) = W1 at *
  generalize hgb : w.heap.size = gb at HK ⊢
  clear hgb
  have HS0 := Aside0.mk (HK.out _ H0.out.fr)
  have HS0 := Aside0.mk (show (W1).drew.cell? ⟨gb, 0, none⟩ = _ ∧ (W1).drew.cell? ⟨gb, 1, none⟩ = _ from HS0.out)
  refine YtgmbfecfkdbfaaaG.wp_region_door 99 YtgmbfecfkdbfaaaG.keepT (fun _ _ => False) (fun W => W.cell? ⟨gb, 0, none⟩ = some (.pointer (some ⟨g, 0, none⟩)) ∧ W.cell? ⟨gb, 1, none⟩ = some (.pointer none)) (by kernel_rfl) trivial (fun _ _ _ _ h => h.elim) ?_
  refine YtgmbfecfkdbfaaaG.wpAnyG_take 0 (v := .agg #[.pointer (some ⟨g, 0, none⟩), .pointer none]) rfl (by kernel_rfl) (by kernel_rfl) (by kernel_rfl) (by kernel_rfl) (by decide) (fun a u => YtgmbfecfkdbfaaaG.keepT_put a u) HS0.out trivial (by rfl) (by rintro W ⟨h0, h1⟩; go_simp; done) ?_
  try simp only [Act.put, List.getElem_toArray, List.getElem_cons_zero, List.getElem_cons_succ, List.setIfInBounds_toArray, List.set_cons_zero, List.set_cons_succ]
  refine YtgmbfecfkdbfaaaG.wpAnyG_take 1 (v := .pointer (some ⟨bt, 0, none⟩)) rfl (by kernel_rfl) (by kernel_rfl) (by kernel_rfl) (by kernel_rfl) (by decide) (fun a u => YtgmbfecfkdbfaaaG.keepT_put a u) HS0.out trivial (by rfl) (by rintro W ⟨h0, h1⟩; go_simp; done) ?_
  try simp only [Act.put, List.getElem_toArray, List.getElem_cons_zero, List.getElem_cons_succ, List.setIfInBounds_toArray, List.set_cons_zero, List.set_cons_succ]
  refine YtgmbfecfkdbfaaaG.wpAnyG_take 2 (v := .pointer (some ⟨bt, 0, none⟩)) rfl (by kernel_rfl) (by kernel_rfl) (by kernel_rfl) (by kernel_rfl) (by decide) (fun a u => YtgmbfecfkdbfaaaG.keepT_put a u) HS0.out trivial (by rfl) (by rintro W ⟨h0, h1⟩; go_simp; done) ?_
  try simp only [Act.put, List.getElem_toArray, List.getElem_cons_zero, List.getElem_cons_succ, List.setIfInBounds_toArray, List.set_cons_zero, List.set_cons_succ]
  refine YtgmbfecfkdbfaaaG.wpAnyG_take 3 (v := .pointer (some ⟨bt, 0, none⟩)) rfl (by kernel_rfl) (by kernel_rfl) (by kernel_rfl) (by kernel_rfl) (by decide) (fun a u => YtgmbfecfkdbfaaaG.keepT_put a u) HS0.out trivial (by rfl) (by rintro W ⟨h0, h1⟩; go_simp; done) ?_
  try simp only [Act.put, List.getElem_toArray, List.getElem_cons_zero, List.getElem_cons_succ, List.setIfInBounds_toArray, List.set_cons_zero, List.set_cons_succ]
  have HD0 := Aside0.mk (H0.out.then_ (Below.refl _ _).drew)
  refine YtgmbfecfkdbfaaaG.wpAnyG_one 4 rfl (by kernel_rfl) (by rfl) (fun K hK => ?_)
  go_simp
  refine (OW.token HD0.out 0 n0 HC.out.1 k_n0 hg hr (by have := HL.out; omega)).mono ?_
  rintro e w1 ⟨rfl, H1'⟩
  have H1 := Aside0.mk H1'
  clear H1'
  refine hK _ _ (HK.out _ H1.out.fr) trivial ?_
  try simp only [Act.put, List.getElem_toArray, List.getElem_cons_zero, List.getElem_cons_succ, List.setIfInBounds_toArray, List.set_cons_zero, List.set_cons_succ]
  clear hK K HS0
  refine YtgmbfecfkdbfaaaG.wpAnyG_done (by kernel_rfl) ?_ _
  go_wp2
  have HS0 := Aside0.mk (HK.out _ H1.out.fr)
  have HS0 := Aside0.mk (show (w1).drew.cell? ⟨gb, 0, none⟩ = _ ∧ (w1).drew.cell? ⟨gb, 1, none⟩ = _ from HS0.out)
  refine YtgmbfecfkdbfaaaG.wp_region_door 99 YtgmbfecfkdbfaaaG.keepT (fun _ _ => False) (fun W => W.cell? ⟨gb, 0, none⟩ = some (.pointer (some ⟨g, 0, none⟩)) ∧ W.cell? ⟨gb, 1, none⟩ = some (.pointer none)) (by kernel_rfl) trivial (fun _ _ _ _ h => h.elim) ?_
  refine YtgmbfecfkdbfaaaG.wpAnyG_take 0 (v := .agg #[.pointer (some ⟨g, 0, none⟩), .pointer none]) rfl (by kernel_rfl) (by kernel_rfl) (by kernel_rfl) (by kernel_rfl) (by decide) (fun a u => YtgmbfecfkdbfaaaG.keepT_put a u) HS0.out trivial (by rfl) (by rintro W ⟨h0, h1⟩; go_simp; done) ?_
  try simp only [Act.put, List.getElem_toArray, List.getElem_cons_zero, List.getElem_cons_succ, List.setIfInBounds_toArray, List.set_cons_zero, List.set_cons_succ]
  refine YtgmbfecfkdbfaaaG.wpAnyG_take 1 (v := .pointer (some ⟨bt, 0, none⟩)) rfl (by kernel_rfl) (by kernel_rfl) (by kernel_rfl) (by kernel_rfl) (by decide) (fun a u => YtgmbfecfkdbfaaaG.keepT_put a u) HS0.out trivial (by rfl) (by rintro W ⟨h0, h1⟩; go_simp; done) ?_
  try simp only [Act.put, List.getElem_toArray, List.getElem_cons_zero, List.getElem_cons_succ, List.setIfInBounds_toArray, List.set_cons_zero, List.set_cons_succ]
  refine YtgmbfecfkdbfaaaG.wpAnyG_take 2 (v := .pointer (some ⟨bt, 0, none⟩)) rfl (by kernel_rfl) (by kernel_rfl) (by kernel_rfl) (by kernel_rfl) (by decide) (fun a u => YtgmbfecfkdbfaaaG.keepT_put a u) HS0.out trivial (by rfl) (by rintro W ⟨h0, h1⟩; go_simp; done) ?_
  try simp only [Act.put, List.getElem_toArray, List.getElem_cons_zero, List.getElem_cons_succ, List.setIfInBounds_toArray, List.set_cons_zero, List.set_cons_succ]
  refine YtgmbfecfkdbfaaaG.wpAnyG_take 3 (v := .pointer (some ⟨bt, 1, none⟩)) rfl (by kernel_rfl) (by kernel_rfl) (by kernel_rfl) (by kernel_rfl) (by decide) (fun a u => YtgmbfecfkdbfaaaG.keepT_put a u) HS0.out trivial (by rfl) (by rintro W ⟨h0, h1⟩; go_simp; done) ?_
  try simp only [Act.put, List.getElem_toArray, List.getElem_cons_zero, List.getElem_cons_succ, List.setIfInBounds_toArray, List.set_cons_zero, List.set_cons_succ]
  refine YtgmbfecfkdbfaaaG.wpAnyG_take 4 (v := .pointer (some ⟨bt, 0, none⟩)) rfl (by kernel_rfl) (by kernel_rfl) (by kernel_rfl) (by kernel_rfl) (by decide) (fun a u => YtgmbfecfkdbfaaaG.keepT_put a u) HS0.out trivial (by rfl) (by rintro W ⟨h0, h1⟩; go_simp; done) ?_
  try simp only [Act.put, List.getElem_toArray, List.getElem_cons_zero, List.getElem_cons_succ, List.setIfInBounds_toArray, List.set_cons_zero, List.set_cons_succ]
  refine YtgmbfecfkdbfaaaG.wpAnyG_take 5 (v := .pointer (some ⟨bt, 0, none⟩)) rfl (by kernel_rfl) (by kernel_rfl) (by kernel_rfl) (by kernel_rfl) (by decide) (fun a u => YtgmbfecfkdbfaaaG.keepT_put a u) HS0.out trivial (by rfl) (by rintro W ⟨h0, h1⟩; go_simp; done) ?_
  try simp only [Act.put, List.getElem_toArray, List.getElem_cons_zero, List.getElem_cons_succ, List.setIfInBounds_toArray, List.set_cons_zero, List.set_cons_succ]
  refine YtgmbfecfkdbfaaaG.wpAnyG_take 6 (v := .pointer (some ⟨bt, 2, none⟩)) rfl (by kernel_rfl) (by kernel_rfl) (by kernel_rfl) (by kernel_rfl) (by decide) (fun a u => YtgmbfecfkdbfaaaG.keepT_put a u) HS0.out trivial (by rfl) (by rintro W ⟨h0, h1⟩; go_simp; done) ?_
  try simp only [Act.put, List.getElem_toArray, List.getElem_cons_zero, List.getElem_cons_succ, List.setIfInBounds_toArray, List.set_cons_zero, List.set_cons_succ]
  have HD1 := Aside0.mk (H1.out.then_ (Below.refl _ _).drew)
  refine YtgmbfecfkdbfaaaG.wpAnyG_one 7 rfl (by kernel_rfl) (by rfl) (fun K hK => ?_)
  go_simp
  refine hK _ _ (HK.out _ (HD1.out.then_ (below1 _)).fr) trivial ?_
  try simp only [Act.put, List.getElem_toArray, List.getElem_cons_zero, List.getElem_cons_succ, List.setIfInBounds_toArray, List.set_cons_zero, List.set_cons_succ]
  clear hK K
  refine YtgmbfecfkdbfaaaG.wpAnyG_one 8 rfl (by kernel_rfl) (by rfl) (fun K hK => ?_)
  go_simp
  refine (OW.number2 HD1.out 1 n1 2 n2 8 HC.out.2.1 k_n1 HC.out.2.2 k_n2 hg hr (by have := HL.out; omega)).mono ?_
  rintro e w2 ⟨rfl, H2'⟩
  have H2 := Aside0.mk H2'
  clear H2'
  refine hK _ _ (HK.out _ H2.out.fr) trivial ?_
  try simp only [Act.put, List.getElem_toArray, List.getElem_cons_zero, List.getElem_cons_succ, List.setIfInBounds_toArray, List.set_cons_zero, List.set_cons_succ]
  clear hK K HS0
  refine YtgmbfecfkdbfaaaG.wpAnyG_done (by kernel_rfl) ?_ _
  go_wp2
  go_end0
  obtain ⟨_, ro', hw', hr', hf'⟩ := H2.out
  exact WPost.from (w1 := W1) ⟨rfl, ro', hw', hr', hf'⟩ HB1.out
set_option maxHeartbeats 8000000 in
set_option maxRecDepth 100000 in
theorem overAccount_r {w : World} {B g : Nat} {ro : Option Nat} {bs : List Int} {r : RS} {bt : Nat} (t : Account) (hq : w.heap[bt]? = some (.cells #[.string t.n0, .int .i64 t.n1, .int .i64 t.n2] 42 (0, 0)))
    (hr : Rd w B g ro bs r) (hB : B ≤ w.heap.size) :
    Calls Try.prog 61 #[.agg #[.pointer none, .pointer (some ⟨g, 0, none⟩)], .pointer (some ⟨bt, 0, none⟩)] w (SPost B g ro bs bt 42 #[.string (Account.readS bs r).1.n0, .int .i64 (Account.readS bs r).1.n1, .int .i64 (Account.readS bs r).1.n2] (Account.readS bs r).2 w) := by
  unfold Account.readS
  obtain ⟨n0, n1, n2⟩ := t
  simp only at hq ⊢
  have HB1 := Aside0.mk (below1 (w := w) (.cells #[.pointer none, .pointer (some ⟨g, 0, none⟩)] 97))
  have hbx := heap_alloc_new w (.cells #[.pointer none, .pointer (some ⟨g, 0, none⟩)] 97)
  have hq1 := (Fr.of_below (S := fun _ => False) HB1.out).blk hq (fun h => h)
  have H0 := Aside0.mk (show OR_ (w.alloc (.cells #[.pointer none, .pointer (some ⟨g, 0, none⟩)] 97)) (w.alloc (.cells #[.pointer none, .pointer (some ⟨g, 0, none⟩)] 97)) B g ro bs bt 42 _ r from ⟨Nat.le_trans hB HB1.out.size, hr.below HB1.out, hq1, Fr.refl _ _⟩)
  have hgl := hr.lt
  have hbl := blk_lt hq
  have HK : Aside0 (∀ W, Fr (fun i => i = g ∨ i = bt) (w.alloc (.cells #[.pointer none, .pointer (some ⟨g, 0, none⟩)] 97)) W → W.cell? ⟨w.heap.size, 0, none⟩ = some (.pointer none) ∧ W.cell? ⟨w.heap.size, 1, none⟩ = some (.pointer (some ⟨g, 0, none⟩))) := ⟨fun W hf => by
    have hx := hf.blk hbx (by rintro (e | e) <;> omega)
    exact ⟨(blk_cell hx 0).trans rfl, (blk_cell hx 1).trans rfl⟩⟩
  clear hq hr hB hbx hq1 hgl hbl
  go_enter Try.func61, Try.ntmps61
  go_wp2
  generalize hW1 : w.alloc (.cells #[.pointer none, .pointer (some ⟨g, 0, none⟩)] 97) = W1 at *
  generalize hgb : w.heap.size = gb at HK ⊢
  clear hgb
  have HS0 := Aside0.mk (HK.out _ H0.out.fr)
  have HS0 := Aside0.mk (show (W1).drew.cell? ⟨gb, 0, none⟩ = _ ∧ (W1).drew.cell? ⟨gb, 1, none⟩ = _ from HS0.out)
  refine YtgmbfecfkdbfaaaG.wp_region_door 99 YtgmbfecfkdbfaaaG.keepT (fun _ _ => False) (fun W => W.cell? ⟨gb, 0, none⟩ = some (.pointer none) ∧ W.cell? ⟨gb, 1, none⟩ = some (.pointer (some ⟨g, 0, none⟩))) (by kernel_rfl) trivial (fun _ _ _ _ h => h.elim) ?_
  refine YtgmbfecfkdbfaaaG.wpAnyG_take 0 (v := .agg #[.pointer none, .pointer (some ⟨g, 0, none⟩)]) rfl (by kernel_rfl) (by kernel_rfl) (by kernel_rfl) (by kernel_rfl) (by decide) (fun a u => YtgmbfecfkdbfaaaG.keepT_put a u) HS0.out trivial (by rfl) (by rintro W ⟨h0, h1⟩; go_simp; done) ?_
  try simp only [Act.put, List.getElem_toArray, List.getElem_cons_zero, List.getElem_cons_succ, List.setIfInBounds_toArray, List.set_cons_zero, List.set_cons_succ]
  refine YtgmbfecfkdbfaaaG.wpAnyG_take 1 (v := .pointer (some ⟨bt, 0, none⟩)) rfl (by kernel_rfl) (by kernel_rfl) (by kernel_rfl) (by kernel_rfl) (by decide) (fun a u => YtgmbfecfkdbfaaaG.keepT_put a u) HS0.out trivial (by rfl) (by rintro W ⟨h0, h1⟩; go_simp; done) ?_
  try simp only [Act.put, List.getElem_toArray, List.getElem_cons_zero, List.getElem_cons_succ, List.setIfInBounds_toArray, List.set_cons_zero, List.set_cons_succ]
  refine YtgmbfecfkdbfaaaG.wpAnyG_take 2 (v := .pointer (some ⟨bt, 0, none⟩)) rfl (by kernel_rfl) (by kernel_rfl) (by kernel_rfl) (by kernel_rfl) (by decide) (fun a u => YtgmbfecfkdbfaaaG.keepT_put a u) HS0.out trivial (by rfl) (by rintro W ⟨h0, h1⟩; go_simp; done) ?_
  try simp only [Act.put, List.getElem_toArray, List.getElem_cons_zero, List.getElem_cons_succ, List.setIfInBounds_toArray, List.set_cons_zero, List.set_cons_succ]
  refine YtgmbfecfkdbfaaaG.wpAnyG_take 3 (v := .pointer (some ⟨bt, 0, none⟩)) rfl (by kernel_rfl) (by kernel_rfl) (by kernel_rfl) (by kernel_rfl) (by decide) (fun a u => YtgmbfecfkdbfaaaG.keepT_put a u) HS0.out trivial (by rfl) (by rintro W ⟨h0, h1⟩; go_simp; done) ?_
  try simp only [Act.put, List.getElem_toArray, List.getElem_cons_zero, List.getElem_cons_succ, List.setIfInBounds_toArray, List.set_cons_zero, List.set_cons_succ]
  have HD0 := Aside0.mk (H0.out.then_ (Below.refl _ _).drew)
  refine YtgmbfecfkdbfaaaG.wpAnyG_one 4 rfl (by kernel_rfl) (by rfl) (fun K hK => ?_)
  go_simp
  refine (OR_.token HD0.out 0 (by simp) (by decide) (by decide)).mono ?_
  rintro e w1 ⟨rfl, H1'⟩
  have H1 := Aside0.mk H1'
  clear H1'
  refine hK _ _ (HK.out _ H1.out.fr) trivial ?_
  try simp only [Act.put, List.getElem_toArray, List.getElem_cons_zero, List.getElem_cons_succ, List.setIfInBounds_toArray, List.set_cons_zero, List.set_cons_succ]
  clear hK K HS0
  refine YtgmbfecfkdbfaaaG.wpAnyG_done (by kernel_rfl) ?_ _
  go_wp2
  have HS0 := Aside0.mk (HK.out _ H1.out.fr)
  have HS0 := Aside0.mk (show (w1).drew.cell? ⟨gb, 0, none⟩ = _ ∧ (w1).drew.cell? ⟨gb, 1, none⟩ = _ from HS0.out)
  refine YtgmbfecfkdbfaaaG.wp_region_door 99 YtgmbfecfkdbfaaaG.keepT (fun _ _ => False) (fun W => W.cell? ⟨gb, 0, none⟩ = some (.pointer none) ∧ W.cell? ⟨gb, 1, none⟩ = some (.pointer (some ⟨g, 0, none⟩))) (by kernel_rfl) trivial (fun _ _ _ _ h => h.elim) ?_
  refine YtgmbfecfkdbfaaaG.wpAnyG_take 0 (v := .agg #[.pointer none, .pointer (some ⟨g, 0, none⟩)]) rfl (by kernel_rfl) (by kernel_rfl) (by kernel_rfl) (by kernel_rfl) (by decide) (fun a u => YtgmbfecfkdbfaaaG.keepT_put a u) HS0.out trivial (by rfl) (by rintro W ⟨h0, h1⟩; go_simp; done) ?_
  try simp only [Act.put, List.getElem_toArray, List.getElem_cons_zero, List.getElem_cons_succ, List.setIfInBounds_toArray, List.set_cons_zero, List.set_cons_succ]
  refine YtgmbfecfkdbfaaaG.wpAnyG_take 1 (v := .pointer (some ⟨bt, 0, none⟩)) rfl (by kernel_rfl) (by kernel_rfl) (by kernel_rfl) (by kernel_rfl) (by decide) (fun a u => YtgmbfecfkdbfaaaG.keepT_put a u) HS0.out trivial (by rfl) (by rintro W ⟨h0, h1⟩; go_simp; done) ?_
  try simp only [Act.put, List.getElem_toArray, List.getElem_cons_zero, List.getElem_cons_succ, List.setIfInBounds_toArray, List.set_cons_zero, List.set_cons_succ]
  refine YtgmbfecfkdbfaaaG.wpAnyG_take 2 (v := .pointer (some ⟨bt, 0, none⟩)) rfl (by kernel_rfl) (by kernel_rfl) (by kernel_rfl) (by kernel_rfl) (by decide) (fun a u => YtgmbfecfkdbfaaaG.keepT_put a u) HS0.out trivial (by rfl) (by rintro W ⟨h0, h1⟩; go_simp; done) ?_
  try simp only [Act.put, List.getElem_toArray, List.getElem_cons_zero, List.getElem_cons_succ, List.setIfInBounds_toArray, List.set_cons_zero, List.set_cons_succ]
  refine YtgmbfecfkdbfaaaG.wpAnyG_take 3 (v := .pointer (some ⟨bt, 1, none⟩)) rfl (by kernel_rfl) (by kernel_rfl) (by kernel_rfl) (by kernel_rfl) (by decide) (fun a u => YtgmbfecfkdbfaaaG.keepT_put a u) HS0.out trivial (by rfl) (by rintro W ⟨h0, h1⟩; go_simp; done) ?_
  try simp only [Act.put, List.getElem_toArray, List.getElem_cons_zero, List.getElem_cons_succ, List.setIfInBounds_toArray, List.set_cons_zero, List.set_cons_succ]
  refine YtgmbfecfkdbfaaaG.wpAnyG_take 4 (v := .pointer (some ⟨bt, 0, none⟩)) rfl (by kernel_rfl) (by kernel_rfl) (by kernel_rfl) (by kernel_rfl) (by decide) (fun a u => YtgmbfecfkdbfaaaG.keepT_put a u) HS0.out trivial (by rfl) (by rintro W ⟨h0, h1⟩; go_simp; done) ?_
  try simp only [Act.put, List.getElem_toArray, List.getElem_cons_zero, List.getElem_cons_succ, List.setIfInBounds_toArray, List.set_cons_zero, List.set_cons_succ]
  refine YtgmbfecfkdbfaaaG.wpAnyG_take 5 (v := .pointer (some ⟨bt, 0, none⟩)) rfl (by kernel_rfl) (by kernel_rfl) (by kernel_rfl) (by kernel_rfl) (by decide) (fun a u => YtgmbfecfkdbfaaaG.keepT_put a u) HS0.out trivial (by rfl) (by rintro W ⟨h0, h1⟩; go_simp; done) ?_
  try simp only [Act.put, List.getElem_toArray, List.getElem_cons_zero, List.getElem_cons_succ, List.setIfInBounds_toArray, List.set_cons_zero, List.set_cons_succ]
  refine YtgmbfecfkdbfaaaG.wpAnyG_take 6 (v := .pointer (some ⟨bt, 2, none⟩)) rfl (by kernel_rfl) (by kernel_rfl) (by kernel_rfl) (by kernel_rfl) (by decide) (fun a u => YtgmbfecfkdbfaaaG.keepT_put a u) HS0.out trivial (by rfl) (by rintro W ⟨h0, h1⟩; go_simp; done) ?_
  try simp only [Act.put, List.getElem_toArray, List.getElem_cons_zero, List.getElem_cons_succ, List.setIfInBounds_toArray, List.set_cons_zero, List.set_cons_succ]
  have HD1 := Aside0.mk (H1.out.then_ (Below.refl _ _).drew)
  refine YtgmbfecfkdbfaaaG.wpAnyG_one 7 rfl (by kernel_rfl) (by rfl) (fun K hK => ?_)
  go_simp
  refine hK _ _ (HK.out _ (HD1.out.then_ (below1 _)).fr) trivial ?_
  try simp only [Act.put, List.getElem_toArray, List.getElem_cons_zero, List.getElem_cons_succ, List.setIfInBounds_toArray, List.set_cons_zero, List.set_cons_succ]
  clear hK K
  refine YtgmbfecfkdbfaaaG.wpAnyG_one 8 rfl (by kernel_rfl) (by rfl) (fun K hK => ?_)
  go_simp
  refine (OR_.number2 HD1.out 1 2 8 (by simp) (by simp) (by decide) (by decide)).mono ?_
  rintro e w2 ⟨rfl, H2'⟩
  have H2 := Aside0.mk H2'
  clear H2'
  refine hK _ _ (HK.out _ H2.out.fr) trivial ?_
  try simp only [Act.put, List.getElem_toArray, List.getElem_cons_zero, List.getElem_cons_succ, List.setIfInBounds_toArray, List.set_cons_zero, List.set_cons_succ]
  clear hK K HS0
  refine YtgmbfecfkdbfaaaG.wpAnyG_done (by kernel_rfl) ?_ _
  go_wp2
  go_end0
  have hb := H2.out.blk
  simp at hb
  exact ⟨rfl, H2.out.rd_, hb, (Fr.of_below HB1.out).trans H2.out.fr (fun _ _ h => h)⟩
end Go.Proofs.Ytgmbfecfkdbfaaa.Wi
/- Which entries and accounts may be. -/
set_option linter.unusedVariables false
set_option linter.unusedSimpArgs false
namespace Go.Proofs.Ytgmbfecfkdbfaaa.Wi
open Go Go.RowKit Go.Proofs.YtgmbfecfkdbfaaaW.PrintWords
set_option maxHeartbeats 1600000 in
set_option maxRecDepth 100000 in
theorem money_calls (n : Int) (w : World) : Calls Try.prog 115 #[.int .i64 n] w fun e w' => e = .returned (.bool (inB n (-9007199254740992) 9007199254740992)) ∧ w = w' := by
  unfold inB
  by_cases h : -9007199254740992 ≤ n
  · rw [decide_eq_true h, Bool.true_and]
    go_enter Try.func115, Try.ntmps115
    go_wp2
    go_ret
    exact ⟨rfl, rfl⟩
  · rw [decide_eq_false h, Bool.false_and]
    go_enter Try.func115, Try.ntmps115
    go_wp2
    go_ret
    exact ⟨rfl, rfl⟩
set_option maxHeartbeats 1600000 in
set_option maxRecDepth 100000 in
theorem rmoney_calls (n : Int) (w : World) : Calls Try.prog 116 #[.int .i64 n] w fun e w' => e = .returned (.bool (inB n (-9007199254740992) 9007199254740992)) ∧ w = w' := by
  unfold inB
  by_cases h : -9007199254740992 ≤ n
  · rw [decide_eq_true h, Bool.true_and]
    go_enter Try.func116, Try.ntmps116
    go_wp2
    go_ret
    exact ⟨rfl, rfl⟩
  · rw [decide_eq_false h, Bool.false_and]
    go_enter Try.func116, Try.ntmps116
    go_wp2
    go_ret
    exact ⟨rfl, rfl⟩
set_option maxHeartbeats 8000000 in
set_option maxRecDepth 100000 in
theorem rightEntry_calls (t : Entry) (w : World) : Calls Try.prog 59 #[t.val] w fun e w' => e = .returned (.int .i64 (if t.right = true then 0 else 80)) ∧ Below w.heap.size w w' := by
  obtain ⟨n0, n1, n2, n3⟩ := t
  have HB := Aside0.mk (below1 (w := w) (.cells #[.int .i64 n0, .string n1, .int .i64 n2, .bool n3] 40))
  unfold Entry.val Entry.right
  simp only
  have HW0 := Aside0.mk (fun W => within_calls n0 1 2147483648 W)
  have HW2 := Aside0.mk (fun W => money_calls n2 W)
  generalize inB n0 1 2147483648 = b0 at *
  generalize inB n2 (-9007199254740992) 9007199254740992 = b2 at *
  cases b0 with
  | false =>
    try simp only [Bool.true_and, Bool.false_and, Bool.and_false, Bool.and_true, Bool.not_true, Bool.not_false, if_true, if_false, Bool.false_eq_true, ↓reduceIte, *]
    go_enter Try.func59, Try.ntmps59
    go_wp2_with (first | (go_at_call 93; first | ((with_reducible refine (HW0.out _).mono ?_); rintro e w1 ⟨rfl, rfl⟩)) | (go_at_call 115; first | ((with_reducible refine (HW2.out _).mono ?_); rintro e w1 ⟨rfl, rfl⟩)) | (go_at_call 92; refine (when_calls _ _).mono ?_; rintro e w1 ⟨rfl, rfl⟩))
    go_ret
    exact ⟨by first | rfl | (simp; done) | (simp [*]; done), below1 _⟩
  | true =>
    by_cases hy1 : (n1.size : Int) = 8
    case neg =>
      have hyb1 : ((n1.size : Int) == 8) = false := beq_eq_false_iff_ne.2 hy1
      have hyd1 : decide (n1.size = 8) = false := decide_eq_false (by omega)
      try simp only [Bool.true_and, Bool.false_and, Bool.and_false, Bool.and_true, Bool.not_true, Bool.not_false, if_true, if_false, Bool.false_eq_true, ↓reduceIte, *]
      go_enter Try.func59, Try.ntmps59
      go_wp2_with (first | (go_at_call 93; first | ((with_reducible refine (HW0.out _).mono ?_); rintro e w1 ⟨rfl, rfl⟩)) | (go_at_call 115; first | ((with_reducible refine (HW2.out _).mono ?_); rintro e w1 ⟨rfl, rfl⟩)) | (go_at_call 92; refine (when_calls _ _).mono ?_; rintro e w1 ⟨rfl, rfl⟩))
      go_ret
      exact ⟨by first | rfl | (simp; done) | (simp [*]; done), below1 _⟩
    have hyb1 : ((n1.size : Int) == 8) = true := beq_iff_eq.2 hy1
    cases b2 with
    | false =>
      try simp only [Bool.true_and, Bool.false_and, Bool.and_false, Bool.and_true, Bool.not_true, Bool.not_false, if_true, if_false, Bool.false_eq_true, ↓reduceIte, *]
      go_enter Try.func59, Try.ntmps59
      go_wp2_with (first | (go_at_call 93; first | ((with_reducible refine (HW0.out _).mono ?_); rintro e w1 ⟨rfl, rfl⟩)) | (go_at_call 115; first | ((with_reducible refine (HW2.out _).mono ?_); rintro e w1 ⟨rfl, rfl⟩)) | (go_at_call 92; refine (when_calls _ _).mono ?_; rintro e w1 ⟨rfl, rfl⟩))
      go_ret
      exact ⟨by first | rfl | (simp; done) | (simp [*]; done), below1 _⟩
    | true =>
      by_cases hz3 : n2 = 0
      case pos =>
        subst hz3
        try simp only [Bool.true_and, Bool.false_and, Bool.and_false, Bool.and_true, Bool.not_true, Bool.not_false, if_true, if_false, Bool.false_eq_true, ↓reduceIte, *]
        go_enter Try.func59, Try.ntmps59
        go_wp2_with (first | (go_at_call 93; first | ((with_reducible refine (HW0.out _).mono ?_); rintro e w1 ⟨rfl, rfl⟩)) | (go_at_call 115; first | ((with_reducible refine (HW2.out _).mono ?_); rintro e w1 ⟨rfl, rfl⟩)) | (go_at_call 92; refine (when_calls _ _).mono ?_; rintro e w1 ⟨rfl, rfl⟩))
        go_ret
        exact ⟨by first | rfl | (simp; done) | (simp [*]; done), below1 _⟩
      have hzb3 : (n2 == 0) = false := beq_eq_false_iff_ne.2 hz3
      try simp only [Bool.true_and, Bool.false_and, Bool.and_false, Bool.and_true, Bool.not_true, Bool.not_false, if_true, if_false, Bool.false_eq_true, ↓reduceIte, *]
      go_enter Try.func59, Try.ntmps59
      go_wp2_with (first | (go_at_call 93; first | ((with_reducible refine (HW0.out _).mono ?_); rintro e w1 ⟨rfl, rfl⟩)) | (go_at_call 115; first | ((with_reducible refine (HW2.out _).mono ?_); rintro e w1 ⟨rfl, rfl⟩)) | (go_at_call 92; refine (when_calls _ _).mono ?_; rintro e w1 ⟨rfl, rfl⟩))
      go_ret
      exact ⟨by first | rfl | (simp; done) | (simp [*]; done), below1 _⟩
set_option maxHeartbeats 8000000 in
set_option maxRecDepth 100000 in
theorem rEntryRight_calls (t : Entry) (w : World) : Calls Try.prog 65 #[t.val] w fun e w' => e = .returned (.bool t.right) ∧ Below w.heap.size w w' := by
  obtain ⟨n0, n1, n2, n3⟩ := t
  have HB := Aside0.mk (below1 (w := w) (.cells #[.int .i64 n0, .string n1, .int .i64 n2, .bool n3] 40))
  unfold Entry.val Entry.right
  simp only
  have HW0 := Aside0.mk (fun W => rwithin_calls n0 1 2147483648 W)
  have HW2 := Aside0.mk (fun W => rmoney_calls n2 W)
  generalize inB n0 1 2147483648 = b0 at *
  generalize inB n2 (-9007199254740992) 9007199254740992 = b2 at *
  cases b0 with
  | false =>
    try simp only [Bool.true_and, Bool.false_and, Bool.and_false, Bool.and_true, Bool.not_true, Bool.not_false, if_true, if_false, Bool.false_eq_true, ↓reduceIte, *]
    go_enter Try.func65, Try.ntmps65
    go_wp2_with (first | (go_at_call 99; first | ((with_reducible refine (HW0.out _).mono ?_); rintro e w1 ⟨rfl, rfl⟩)) | (go_at_call 116; first | ((with_reducible refine (HW2.out _).mono ?_); rintro e w1 ⟨rfl, rfl⟩)))
    go_ret
    exact ⟨by first | rfl | (simp; done) | (simp [*]; done), below1 _⟩
  | true =>
    by_cases hy1 : (n1.size : Int) = 8
    case neg =>
      have hyb1 : ((n1.size : Int) == 8) = false := beq_eq_false_iff_ne.2 hy1
      have hyd1 : decide (n1.size = 8) = false := decide_eq_false (by omega)
      try simp only [Bool.true_and, Bool.false_and, Bool.and_false, Bool.and_true, Bool.not_true, Bool.not_false, if_true, if_false, Bool.false_eq_true, ↓reduceIte, *]
      go_enter Try.func65, Try.ntmps65
      go_wp2_with (first | (go_at_call 99; first | ((with_reducible refine (HW0.out _).mono ?_); rintro e w1 ⟨rfl, rfl⟩)) | (go_at_call 116; first | ((with_reducible refine (HW2.out _).mono ?_); rintro e w1 ⟨rfl, rfl⟩)))
      go_ret
      exact ⟨by first | rfl | (simp; done) | (simp [*]; done), below1 _⟩
    have hyb1 : ((n1.size : Int) == 8) = true := beq_iff_eq.2 hy1
    cases b2 with
    | false =>
      try simp only [Bool.true_and, Bool.false_and, Bool.and_false, Bool.and_true, Bool.not_true, Bool.not_false, if_true, if_false, Bool.false_eq_true, ↓reduceIte, *]
      go_enter Try.func65, Try.ntmps65
      go_wp2_with (first | (go_at_call 99; first | ((with_reducible refine (HW0.out _).mono ?_); rintro e w1 ⟨rfl, rfl⟩)) | (go_at_call 116; first | ((with_reducible refine (HW2.out _).mono ?_); rintro e w1 ⟨rfl, rfl⟩)))
      go_ret
      exact ⟨by first | rfl | (simp; done) | (simp [*]; done), below1 _⟩
    | true =>
      by_cases hz3 : n2 = 0
      case pos =>
        subst hz3
        try simp only [Bool.true_and, Bool.false_and, Bool.and_false, Bool.and_true, Bool.not_true, Bool.not_false, if_true, if_false, Bool.false_eq_true, ↓reduceIte, *]
        go_enter Try.func65, Try.ntmps65
        go_wp2_with (first | (go_at_call 99; first | ((with_reducible refine (HW0.out _).mono ?_); rintro e w1 ⟨rfl, rfl⟩)) | (go_at_call 116; first | ((with_reducible refine (HW2.out _).mono ?_); rintro e w1 ⟨rfl, rfl⟩)))
        go_ret
        exact ⟨by first | rfl | (simp; done) | (simp [*]; done), below1 _⟩
      have hzb3 : (n2 == 0) = false := beq_eq_false_iff_ne.2 hz3
      try simp only [Bool.true_and, Bool.false_and, Bool.and_false, Bool.and_true, Bool.not_true, Bool.not_false, if_true, if_false, Bool.false_eq_true, ↓reduceIte, *]
      go_enter Try.func65, Try.ntmps65
      go_wp2_with (first | (go_at_call 99; first | ((with_reducible refine (HW0.out _).mono ?_); rintro e w1 ⟨rfl, rfl⟩)) | (go_at_call 116; first | ((with_reducible refine (HW2.out _).mono ?_); rintro e w1 ⟨rfl, rfl⟩)))
      go_ret
      exact ⟨by first | rfl | (simp; done) | (simp [*]; done), below1 _⟩
set_option maxHeartbeats 8000000 in
set_option maxRecDepth 100000 in
theorem rightAccount_calls (t : Account) (w : World) : Calls Try.prog 62 #[t.val] w fun e w' => e = .returned (.int .i64 (if t.right = true then 0 else 80)) ∧ Below w.heap.size w w' := by
  obtain ⟨n0, n1, n2⟩ := t
  have HB := Aside0.mk (below1 (w := w) (.cells #[.string n0, .int .i64 n1, .int .i64 n2] 42))
  unfold Account.val Account.right
  simp only
  have HW1 := Aside0.mk (fun W => money_calls n1 W)
  have HW2 := Aside0.mk (fun W => within_calls n2 0 n1 W)
  generalize inB n1 (-9007199254740992) 9007199254740992 = b1 at *
  generalize inB n2 0 n1 = b2 at *
  by_cases hy0 : (n0.size : Int) = 8
  case neg =>
    have hyb0 : ((n0.size : Int) == 8) = false := beq_eq_false_iff_ne.2 hy0
    have hyd0 : decide (n0.size = 8) = false := decide_eq_false (by omega)
    try simp only [Bool.true_and, Bool.false_and, Bool.and_false, Bool.and_true, Bool.not_true, Bool.not_false, if_true, if_false, Bool.false_eq_true, ↓reduceIte, *]
    go_enter Try.func62, Try.ntmps62
    go_wp2_with (first | (go_at_call 93; first | ((with_reducible refine (HW2.out _).mono ?_); rintro e w1 ⟨rfl, rfl⟩)) | (go_at_call 115; first | ((with_reducible refine (HW1.out _).mono ?_); rintro e w1 ⟨rfl, rfl⟩)) | (go_at_call 92; refine (when_calls _ _).mono ?_; rintro e w1 ⟨rfl, rfl⟩))
    go_ret
    exact ⟨by first | rfl | (simp; done) | (simp [*]; done), below1 _⟩
  have hyb0 : ((n0.size : Int) == 8) = true := beq_iff_eq.2 hy0
  cases b1 with
  | false =>
    try simp only [Bool.true_and, Bool.false_and, Bool.and_false, Bool.and_true, Bool.not_true, Bool.not_false, if_true, if_false, Bool.false_eq_true, ↓reduceIte, *]
    go_enter Try.func62, Try.ntmps62
    go_wp2_with (first | (go_at_call 93; first | ((with_reducible refine (HW2.out _).mono ?_); rintro e w1 ⟨rfl, rfl⟩)) | (go_at_call 115; first | ((with_reducible refine (HW1.out _).mono ?_); rintro e w1 ⟨rfl, rfl⟩)) | (go_at_call 92; refine (when_calls _ _).mono ?_; rintro e w1 ⟨rfl, rfl⟩))
    go_ret
    exact ⟨by first | rfl | (simp; done) | (simp [*]; done), below1 _⟩
  | true =>
    cases b2 with
    | false =>
      try simp only [Bool.true_and, Bool.false_and, Bool.and_false, Bool.and_true, Bool.not_true, Bool.not_false, if_true, if_false, Bool.false_eq_true, ↓reduceIte, *]
      go_enter Try.func62, Try.ntmps62
      go_wp2_with (first | (go_at_call 93; first | ((with_reducible refine (HW2.out _).mono ?_); rintro e w1 ⟨rfl, rfl⟩)) | (go_at_call 115; first | ((with_reducible refine (HW1.out _).mono ?_); rintro e w1 ⟨rfl, rfl⟩)) | (go_at_call 92; refine (when_calls _ _).mono ?_; rintro e w1 ⟨rfl, rfl⟩))
      go_ret
      exact ⟨by first | rfl | (simp; done) | (simp [*]; done), below1 _⟩
    | true =>
      try simp only [Bool.true_and, Bool.false_and, Bool.and_false, Bool.and_true, Bool.not_true, Bool.not_false, if_true, if_false, Bool.false_eq_true, ↓reduceIte, *]
      go_enter Try.func62, Try.ntmps62
      go_wp2_with (first | (go_at_call 93; first | ((with_reducible refine (HW2.out _).mono ?_); rintro e w1 ⟨rfl, rfl⟩)) | (go_at_call 115; first | ((with_reducible refine (HW1.out _).mono ?_); rintro e w1 ⟨rfl, rfl⟩)) | (go_at_call 92; refine (when_calls _ _).mono ?_; rintro e w1 ⟨rfl, rfl⟩))
      go_ret
      exact ⟨by first | rfl | (simp; done) | (simp [*]; done), below1 _⟩
set_option maxHeartbeats 8000000 in
set_option maxRecDepth 100000 in
theorem rAccountRight_calls (t : Account) (w : World) : Calls Try.prog 66 #[t.val] w fun e w' => e = .returned (.bool t.right) ∧ Below w.heap.size w w' := by
  obtain ⟨n0, n1, n2⟩ := t
  have HB := Aside0.mk (below1 (w := w) (.cells #[.string n0, .int .i64 n1, .int .i64 n2] 42))
  unfold Account.val Account.right
  simp only
  have HW1 := Aside0.mk (fun W => rmoney_calls n1 W)
  have HW2 := Aside0.mk (fun W => rwithin_calls n2 0 n1 W)
  generalize inB n1 (-9007199254740992) 9007199254740992 = b1 at *
  generalize inB n2 0 n1 = b2 at *
  by_cases hy0 : (n0.size : Int) = 8
  case neg =>
    have hyb0 : ((n0.size : Int) == 8) = false := beq_eq_false_iff_ne.2 hy0
    have hyd0 : decide (n0.size = 8) = false := decide_eq_false (by omega)
    try simp only [Bool.true_and, Bool.false_and, Bool.and_false, Bool.and_true, Bool.not_true, Bool.not_false, if_true, if_false, Bool.false_eq_true, ↓reduceIte, *]
    go_enter Try.func66, Try.ntmps66
    go_wp2_with (first | (go_at_call 99; first | ((with_reducible refine (HW2.out _).mono ?_); rintro e w1 ⟨rfl, rfl⟩)) | (go_at_call 116; first | ((with_reducible refine (HW1.out _).mono ?_); rintro e w1 ⟨rfl, rfl⟩)))
    go_ret
    exact ⟨by first | rfl | (simp; done) | (simp [*]; done), below1 _⟩
  have hyb0 : ((n0.size : Int) == 8) = true := beq_iff_eq.2 hy0
  cases b1 with
  | false =>
    try simp only [Bool.true_and, Bool.false_and, Bool.and_false, Bool.and_true, Bool.not_true, Bool.not_false, if_true, if_false, Bool.false_eq_true, ↓reduceIte, *]
    go_enter Try.func66, Try.ntmps66
    go_wp2_with (first | (go_at_call 99; first | ((with_reducible refine (HW2.out _).mono ?_); rintro e w1 ⟨rfl, rfl⟩)) | (go_at_call 116; first | ((with_reducible refine (HW1.out _).mono ?_); rintro e w1 ⟨rfl, rfl⟩)))
    go_ret
    exact ⟨by first | rfl | (simp; done) | (simp [*]; done), below1 _⟩
  | true =>
    cases b2 with
    | false =>
      try simp only [Bool.true_and, Bool.false_and, Bool.and_false, Bool.and_true, Bool.not_true, Bool.not_false, if_true, if_false, Bool.false_eq_true, ↓reduceIte, *]
      go_enter Try.func66, Try.ntmps66
      go_wp2_with (first | (go_at_call 99; first | ((with_reducible refine (HW2.out _).mono ?_); rintro e w1 ⟨rfl, rfl⟩)) | (go_at_call 116; first | ((with_reducible refine (HW1.out _).mono ?_); rintro e w1 ⟨rfl, rfl⟩)))
      go_ret
      exact ⟨by first | rfl | (simp; done) | (simp [*]; done), below1 _⟩
    | true =>
      try simp only [Bool.true_and, Bool.false_and, Bool.and_false, Bool.and_true, Bool.not_true, Bool.not_false, if_true, if_false, Bool.false_eq_true, ↓reduceIte, *]
      go_enter Try.func66, Try.ntmps66
      go_wp2_with (first | (go_at_call 99; first | ((with_reducible refine (HW2.out _).mono ?_); rintro e w1 ⟨rfl, rfl⟩)) | (go_at_call 116; first | ((with_reducible refine (HW1.out _).mono ?_); rintro e w1 ⟨rfl, rfl⟩)))
      go_ret
      exact ⟨by first | rfl | (simp; done) | (simp [*]; done), below1 _⟩
end Go.Proofs.Ytgmbfecfkdbfaaa.Wi
/- Entries and accounts as bytes. -/
set_option linter.unusedVariables false
set_option linter.unusedSimpArgs false
namespace Go.Proofs.Ytgmbfecfkdbfaaa.Wi
open Go Go.RowKit Go.Proofs.YtgmbfecfkdbfaaaW.PrintWords
set_option maxHeartbeats 8000000 in
set_option maxRecDepth 100000 in
theorem writtenEntry_calls (t : Entry) (ht : t.Ok) (w : World) : Calls Try.prog 57 #[t.val, .func (.func 58) #[] #[], .func (.func 59) #[] #[]] w (BytesPost t.out t.err w) := by
  have HT := Aside0.mk (fun W => rightEntry_calls t W)
  have HSL := Aside0.mk (show t.put.xs.length ≤ 140737488355328 by have := t.put_len; omega)
  have HO5 := Aside0.mk (fun (W : World) (g : Nat) (hq : W.heap[w.heap.size]? = _) (hg : w.heap.size ≠ g) (hw : Wr W g g none ⟨[], false⟩) (hB : g ≤ W.heap.size) => overEntry_w t ht hq hg (by simp) hw hB (by simp))
  have HQ := Aside0.mk (show (w.alloc (.cells #[.int .i64 t.n0, .string t.n1, .int .i64 t.n2, .bool t.n3] 40)).heap[w.heap.size]? = _ from heap_alloc_new w _)
  have HB0 := Aside0.mk (below1 (w := w) (.cells #[.int .i64 t.n0, .string t.n1, .int .i64 t.n2, .bool t.n3] 40))
  unfold BytesPost
  cases hr : t.right with
  | false =>
    have HO : Aside0 (t.out = [] ∧ t.err = 80) := ⟨by simp [Entry.out, Entry.err, hr]⟩
    rw [hr] at HT
    simp only [Bool.false_eq_true, ↓reduceIte] at HT
    unfold Entry.val at HT ⊢
    clear HQ hr HO5 HSL
    rw [HO.out.1, HO.out.2]
    go_enter Try.func57, Try.ntmps57
    go_wp2_with (go_at_call 59; refine (HT.out _).mono ?_; rintro e w1 ⟨rfl, hb1⟩)
    go_ret2
    exact ⟨_, rfl, own_nil _ _ _ _, below_then HB0.out HB0.out.size hb1⟩
  | true =>
    have HO : Aside0 (t.out = t.put.out ∧ t.err = t.put.err) := ⟨by simp [Entry.out, Entry.err, hr]⟩
    rw [hr] at HT
    simp only [↓reduceIte] at HT
    unfold Entry.val at HT ⊢
    rw [HO.out.1, HO.out.2]
    unfold Entry.put at HSL ⊢
    clear hr HO ht
    generalize Entry.putS ⟨[], false⟩ t = s' at *
    go_enter Try.func57, Try.ntmps57
    go_wp2_with (first
      | (go_at_call 59; refine (HT.out _).mono ?_; rintro e w1 ⟨rfl, hb1⟩; have HB1 := Aside0.mk (below_then HB0.out HB0.out.size hb1); have HQ1 := Aside0.mk ((Fr.of_below (S := fun _ => False) hb1).blk HQ.out (fun h => h)); clear hb1)
      | (go_at_call 51; refine (newWriter_calls _).mono ?_; rintro e w2 ⟨rfl, S0, hb2⟩; have HS0 := Aside0.mk S0; have HB2 := Aside0.mk hb2; have HB2' := Aside0.mk (below1 (w := w2) (.cells #[.pointer (some ⟨w1.heap.size, 0, none⟩), .pointer none] 97)); have HBX := Aside0.mk (heap_alloc_new w2 (.cells #[.pointer (some ⟨w1.heap.size, 0, none⟩), .pointer none] 97)); clear S0 hb2)
      | (go_at_call 58; refine (HO5.out _ w1.heap.size ((Fr.of_below (S := fun _ => False) HB2'.out).blk ((Fr.of_below (S := fun _ => False) HB2.out).blk HQ1.out (fun h => h)) (fun h => h)) (by have := blk_lt HQ1.out; omega) (HS0.out.below HB2'.out) (Nat.le_trans HB2.out.size HB2'.out.size)).mono ?_; rintro e w3 ⟨rfl, ro3, hw3, _, hf3⟩; have HW3 := Aside0.mk hw3; have HF3 := Aside0.mk hf3; have hx3 := hf3.blk HBX.out (fun h => h.elim (fun e => by have := HS0.out.lt; omega) (fun e => nomatch e)); have c0 : _ = some (Value.pointer (some ⟨w1.heap.size, 0, none⟩)) := blk_cell hx3 0; clear hw3 hf3 hx3)
      | (go_at_call 55; refine (wBytes_calls HW3.out HSL.out).mono ?_; rintro e w4 ⟨v4, rfl, hv4, hb4⟩; have HV4 := Aside0.mk hv4; have HB4 := Aside0.mk hb4; clear hv4 hb4))
    go_ret2
    have hbw : Below w.heap.size w w3 := (below_then (below_then HB1.out HB1.out.size HB2.out) (Nat.le_trans HB1.out.size HB2.out.size) HB2'.out).trans (HF3.out.below (Nat.le_trans (Nat.le_trans HB1.out.size HB2.out.size) HB2'.out.size) (fun i hi => by
      rcases hi with rfl | e
      · exact HB1.out.size
      · cases e))
    exact ⟨_, rfl, own_upto HV4.out (fun k hk => Nat.le_trans hbw.size (own_base HV4.out k hk)), below_then hbw hbw.size HB4.out⟩
set_option maxHeartbeats 1600000 in
set_option maxRecDepth 100000 in
theorem recEntry_calls (t : Entry) (ht : t.Ok) (w : World) : Calls Try.prog 20 #[t.val] w (BytesPost t.out t.err w) := by
  have HW := Aside0.mk (fun W => writtenEntry_calls t ht W)
  unfold Entry.val at HW ⊢
  go_enter Try.func20, Try.ntmps20
  go_wp2_with (go_at_call 57; refine (HW.out _).mono ?_; rintro e w1 ⟨v, rfl, ho, hb⟩)
  go_ret2
  exact BytesPost.from' (w1 := w.alloc (.cells #[.int .i64 t.n0, .string t.n1, .int .i64 t.n2, .bool t.n3] 40)) ⟨v, rfl, ho, hb⟩ (below1 _)
set_option maxHeartbeats 8000000 in
set_option maxRecDepth 100000 in
theorem writtenAccount_calls (t : Account) (ht : t.Ok) (w : World) : Calls Try.prog 60 #[t.val, .func (.func 61) #[] #[], .func (.func 62) #[] #[]] w (BytesPost t.out t.err w) := by
  have HT := Aside0.mk (fun W => rightAccount_calls t W)
  have HSL := Aside0.mk (show t.put.xs.length ≤ 140737488355328 by have := t.put_len; omega)
  have HO5 := Aside0.mk (fun (W : World) (g : Nat) (hq : W.heap[w.heap.size]? = _) (hg : w.heap.size ≠ g) (hw : Wr W g g none ⟨[], false⟩) (hB : g ≤ W.heap.size) => overAccount_w t ht hq hg (by simp) hw hB (by simp))
  have HQ := Aside0.mk (show (w.alloc (.cells #[.string t.n0, .int .i64 t.n1, .int .i64 t.n2] 42)).heap[w.heap.size]? = _ from heap_alloc_new w _)
  have HB0 := Aside0.mk (below1 (w := w) (.cells #[.string t.n0, .int .i64 t.n1, .int .i64 t.n2] 42))
  unfold BytesPost
  cases hr : t.right with
  | false =>
    have HO : Aside0 (t.out = [] ∧ t.err = 80) := ⟨by simp [Account.out, Account.err, hr]⟩
    rw [hr] at HT
    simp only [Bool.false_eq_true, ↓reduceIte] at HT
    unfold Account.val at HT ⊢
    clear HQ hr HO5 HSL
    rw [HO.out.1, HO.out.2]
    go_enter Try.func60, Try.ntmps60
    go_wp2_with (go_at_call 62; refine (HT.out _).mono ?_; rintro e w1 ⟨rfl, hb1⟩)
    go_ret2
    exact ⟨_, rfl, own_nil _ _ _ _, below_then HB0.out HB0.out.size hb1⟩
  | true =>
    have HO : Aside0 (t.out = t.put.out ∧ t.err = t.put.err) := ⟨by simp [Account.out, Account.err, hr]⟩
    rw [hr] at HT
    simp only [↓reduceIte] at HT
    unfold Account.val at HT ⊢
    rw [HO.out.1, HO.out.2]
    unfold Account.put at HSL ⊢
    clear hr HO ht
    generalize Account.putS ⟨[], false⟩ t = s' at *
    go_enter Try.func60, Try.ntmps60
    go_wp2_with (first
      | (go_at_call 62; refine (HT.out _).mono ?_; rintro e w1 ⟨rfl, hb1⟩; have HB1 := Aside0.mk (below_then HB0.out HB0.out.size hb1); have HQ1 := Aside0.mk ((Fr.of_below (S := fun _ => False) hb1).blk HQ.out (fun h => h)); clear hb1)
      | (go_at_call 51; refine (newWriter_calls _).mono ?_; rintro e w2 ⟨rfl, S0, hb2⟩; have HS0 := Aside0.mk S0; have HB2 := Aside0.mk hb2; have HB2' := Aside0.mk (below1 (w := w2) (.cells #[.pointer (some ⟨w1.heap.size, 0, none⟩), .pointer none] 97)); have HBX := Aside0.mk (heap_alloc_new w2 (.cells #[.pointer (some ⟨w1.heap.size, 0, none⟩), .pointer none] 97)); clear S0 hb2)
      | (go_at_call 61; refine (HO5.out _ w1.heap.size ((Fr.of_below (S := fun _ => False) HB2'.out).blk ((Fr.of_below (S := fun _ => False) HB2.out).blk HQ1.out (fun h => h)) (fun h => h)) (by have := blk_lt HQ1.out; omega) (HS0.out.below HB2'.out) (Nat.le_trans HB2.out.size HB2'.out.size)).mono ?_; rintro e w3 ⟨rfl, ro3, hw3, _, hf3⟩; have HW3 := Aside0.mk hw3; have HF3 := Aside0.mk hf3; have hx3 := hf3.blk HBX.out (fun h => h.elim (fun e => by have := HS0.out.lt; omega) (fun e => nomatch e)); have c0 : _ = some (Value.pointer (some ⟨w1.heap.size, 0, none⟩)) := blk_cell hx3 0; clear hw3 hf3 hx3)
      | (go_at_call 55; refine (wBytes_calls HW3.out HSL.out).mono ?_; rintro e w4 ⟨v4, rfl, hv4, hb4⟩; have HV4 := Aside0.mk hv4; have HB4 := Aside0.mk hb4; clear hv4 hb4))
    go_ret2
    have hbw : Below w.heap.size w w3 := (below_then (below_then HB1.out HB1.out.size HB2.out) (Nat.le_trans HB1.out.size HB2.out.size) HB2'.out).trans (HF3.out.below (Nat.le_trans (Nat.le_trans HB1.out.size HB2.out.size) HB2'.out.size) (fun i hi => by
      rcases hi with rfl | e
      · exact HB1.out.size
      · cases e))
    exact ⟨_, rfl, own_upto HV4.out (fun k hk => Nat.le_trans hbw.size (own_base HV4.out k hk)), below_then hbw hbw.size HB4.out⟩
set_option maxHeartbeats 1600000 in
set_option maxRecDepth 100000 in
theorem recAccount_calls (t : Account) (ht : t.Ok) (w : World) : Calls Try.prog 21 #[t.val] w (BytesPost t.out t.err w) := by
  have HW := Aside0.mk (fun W => writtenAccount_calls t ht W)
  unfold Account.val at HW ⊢
  go_enter Try.func21, Try.ntmps21
  go_wp2_with (go_at_call 60; refine (HW.out _).mono ?_; rintro e w1 ⟨v, rfl, ho, hb⟩)
  go_ret2
  exact BytesPost.from' (w1 := w.alloc (.cells #[.string t.n0, .int .i64 t.n1, .int .i64 t.n2] 42)) ⟨v, rfl, ho, hb⟩ (below1 _)
end Go.Proofs.Ytgmbfecfkdbfaaa.Wi
/- Entries out of bytes. -/
set_option linter.unusedVariables false
set_option linter.unusedSimpArgs false
namespace Go.Proofs.Ytgmbfecfkdbfaaa.Wi
open Go Go.RowKit Go.Proofs.YtgmbfecfkdbfaaaW.PrintWords
/-- out of bytes; the fault's code and place -/
def Entry.ofBytes (bs : List Int) : Entry × Int × Int :=
  let p := Entry.readS bs ⟨0, 0, 0, 0⟩
  let r := p.2.end_ bs.length
  if r.code = 0 then (if p.1.right = true then (p.1, 0, r.fat) else (Entry.zero, 80, -1)) else (Entry.zero, r.code, r.fat)
def Entry.RPost (bs : List Int) (w : World) (e : Ending) (w' : World) : Prop := e = .returned (.tuple #[(Entry.ofBytes bs).1.val, .agg #[.int .i64 (Entry.ofBytes bs).2.1, .int .i64 (Entry.ofBytes bs).2.2]]) ∧ Below w.heap.size w w'
theorem Entry.fin {w W5 : World} {b : Nat} (h1 : W5.heap[b]? = some (.cells #[.int .i64 0, .string ⟨#[]⟩, .int .i64 0, .bool false] 40 (0, 0))) (h2 : W5.heap[b + 1]? = some (.cells #[.int .i64 0, .int .i64 0] 31 (0, 0))) (hw : Below w.heap.size w W5) (hb : w.heap.size ≤ b) (a0 : Int) (a1 : ByteArray) (a2 : Int) (a3 : Bool) (c0 c1 : Int) {W' : World}
    (e : W' = ((((((W5.setCell ⟨b, 0, none⟩ (.int .i64 a0)).setCell ⟨b, 1, none⟩ (.string a1)).setCell ⟨b, 2, none⟩ (.int .i64 a2)).setCell ⟨b, 3, none⟩ (.bool a3)).setCell ⟨b + 1, 0, none⟩ (.int .i64 c0)).setCell ⟨b + 1, 1, none⟩ (.int .i64 c1)).drew) :
    W'.cell? ⟨b, 0, none⟩ = some (.int .i64 a0) ∧ W'.cell? ⟨b, 1, none⟩ = some (.string a1) ∧ W'.cell? ⟨b, 2, none⟩ = some (.int .i64 a2) ∧ W'.cell? ⟨b, 3, none⟩ = some (.bool a3) ∧ W'.cell? ⟨b + 1, 0, none⟩ = some (.int .i64 c0) ∧ W'.cell? ⟨b + 1, 1, none⟩ = some (.int .i64 c1) ∧ Below w.heap.size w W' := by
  have hne : b ≠ b + 1 := by omega
  have q := blk_far (blk_far (blk_set (blk_set (blk_set (blk_set h1 0 (.int .i64 a0)) 1 (.string a1)) 2 (.int .i64 a2)) 3 (.bool a3)) (p := ⟨b + 1, 0, none⟩) hne (.int .i64 c0)) (p := ⟨b + 1, 1, none⟩) hne (.int .i64 c1)
  have q1 := blk_set (blk_set (blk_far (blk_far (blk_far (blk_far h2 (p := ⟨b, 0, none⟩) hne.symm (.int .i64 a0)) (p := ⟨b, 1, none⟩) hne.symm (.string a1)) (p := ⟨b, 2, none⟩) hne.symm (.int .i64 a2)) (p := ⟨b, 3, none⟩) hne.symm (.bool a3)) 0 (.int .i64 c0)) 1 (.int .i64 c1)
  have hw2 : Below w.heap.size w W' := by
    rw [e]
    exact ((((((hw.setCell hb _).setCell hb _).setCell hb _).setCell hb _).setCell (by show w.heap.size ≤ b + 1; omega) _).setCell (by show w.heap.size ≤ b + 1; omega) _).drew
  generalize hW : ((((((W5.setCell ⟨b, 0, none⟩ (.int .i64 a0)).setCell ⟨b, 1, none⟩ (.string a1)).setCell ⟨b, 2, none⟩ (.int .i64 a2)).setCell ⟨b, 3, none⟩ (.bool a3)).setCell ⟨b + 1, 0, none⟩ (.int .i64 c0)).setCell ⟨b + 1, 1, none⟩ (.int .i64 c1)) = W6 at *
  subst e
  have q' : W6.drew.heap[b]? = some (.cells _ 40 (0, 0)) := q
  have q1' : W6.drew.heap[b + 1]? = some (.cells _ 31 (0, 0)) := q1
  exact ⟨(blk_cell q' 0).trans (by simp), (blk_cell q' 1).trans (by simp), (blk_cell q' 2).trans (by simp), (blk_cell q' 3).trans (by simp), (blk_cell q1' 0).trans (by simp), (blk_cell q1' 1).trans (by simp), hw2⟩
theorem Entry.fin' {w W5 : World} {b : Nat} (h1 : W5.heap[b]? = some (.cells #[.int .i64 0, .string ⟨#[]⟩, .int .i64 0, .bool false] 40 (0, 0))) (h2 : W5.heap[b + 1]? = some (.cells #[.int .i64 0, .int .i64 0] 31 (0, 0))) (hw : Below w.heap.size w W5) (hb : w.heap.size ≤ b) (a0 : Int) (a1 : ByteArray) (a2 : Int) (a3 : Bool) (c0 c1 : Int) {W' : World}
    (e : W' = ((((((W5.setCell ⟨b, 0, none⟩ (.int .i64 a0)).setCell ⟨b, 1, none⟩ (.string a1)).setCell ⟨b, 2, none⟩ (.int .i64 a2)).setCell ⟨b, 3, none⟩ (.bool a3)).setCell ⟨b + 1, 0, none⟩ (.int .i64 c0)).setCell ⟨b + 1, 1, none⟩ (.int .i64 c1))) :
    W'.cell? ⟨b, 0, none⟩ = some (.int .i64 a0) ∧ W'.cell? ⟨b, 1, none⟩ = some (.string a1) ∧ W'.cell? ⟨b, 2, none⟩ = some (.int .i64 a2) ∧ W'.cell? ⟨b, 3, none⟩ = some (.bool a3) ∧ W'.cell? ⟨b + 1, 0, none⟩ = some (.int .i64 c0) ∧ W'.cell? ⟨b + 1, 1, none⟩ = some (.int .i64 c1) ∧ Below w.heap.size w W' := by
  obtain ⟨k0, k1, k2, k3, l0, l1, hbl⟩ := Entry.fin h1 h2 hw hb a0 a1 a2 a3 c0 c1 rfl
  rw [← e] at k0 k1 k2 k3 l0 l1 hbl
  exact ⟨k0, k1, k2, k3, l0, l1, ⟨hbl.os, hbl.tape, hbl.output, hbl.size, hbl.block⟩⟩
set_option maxHeartbeats 8000000 in
set_option maxRecDepth 100000 in
theorem takenEntry_calls (A : Option Addr) (c : Nat) (bs : List Int) (w : World) (hr : ReadsInt w .u8 A bs.length bs) (hby : Bytes bs) (hl : bs.length ≤ 140737488355328) :
    Calls Try.prog 67 #[.slice A bs.length c, .func (.func 58) #[] #[], .func (.func 59) #[] #[]] w (Entry.RPost bs w) := by
  have HR := Aside0.mk hr
  have HBY := Aside0.mk hby
  clear hr hby
  go_enter Try.func67, Try.ntmps67
  go_upto_region 2 with (fail)
  have hb4 : Below w.heap.size w ((((w.alloc (.cells #[.int .i64 0, .string ⟨#[]⟩, .int .i64 0, .bool false] 40)).alloc (.cells #[.int .i64 0, .int .i64 0] 31)).alloc (.cells #[.int .i64 0, .string ⟨#[]⟩, .int .i64 0, .bool false] 40)).alloc (.cells #[.int .i64 0, .string ⟨#[]⟩, .int .i64 0, .bool false] 40)) := below_alloc (below_alloc (below_alloc (below_alloc (Below.refl _ _) _) _) _) _
  have s1 : (w.alloc (.cells #[.int .i64 0, .string ⟨#[]⟩, .int .i64 0, .bool false] 40)).heap.size = w.heap.size + 1 := by simp
  have s2 : ((w.alloc (.cells #[.int .i64 0, .string ⟨#[]⟩, .int .i64 0, .bool false] 40)).alloc (.cells #[.int .i64 0, .int .i64 0] 31)).heap.size = w.heap.size + 1 + 1 := by simp
  have s3 : (((w.alloc (.cells #[.int .i64 0, .string ⟨#[]⟩, .int .i64 0, .bool false] 40)).alloc (.cells #[.int .i64 0, .int .i64 0] 31)).alloc (.cells #[.int .i64 0, .string ⟨#[]⟩, .int .i64 0, .bool false] 40)).heap.size = w.heap.size + 1 + 1 + 1 := by simp
  have q6 : ((((w.alloc (.cells #[.int .i64 0, .string ⟨#[]⟩, .int .i64 0, .bool false] 40)).alloc (.cells #[.int .i64 0, .int .i64 0] 31)).alloc (.cells #[.int .i64 0, .string ⟨#[]⟩, .int .i64 0, .bool false] 40)).alloc (.cells #[.int .i64 0, .string ⟨#[]⟩, .int .i64 0, .bool false] 40)).heap[w.heap.size]? = some _ := blk_b (blk_b (blk_b (heap_alloc_new w (.cells #[.int .i64 0, .string ⟨#[]⟩, .int .i64 0, .bool false] 40)) (below1 (.cells #[.int .i64 0, .int .i64 0] 31))) (below1 (.cells #[.int .i64 0, .string ⟨#[]⟩, .int .i64 0, .bool false] 40))) (below1 (.cells #[.int .i64 0, .string ⟨#[]⟩, .int .i64 0, .bool false] 40))
  have q7 : ((((w.alloc (.cells #[.int .i64 0, .string ⟨#[]⟩, .int .i64 0, .bool false] 40)).alloc (.cells #[.int .i64 0, .int .i64 0] 31)).alloc (.cells #[.int .i64 0, .string ⟨#[]⟩, .int .i64 0, .bool false] 40)).alloc (.cells #[.int .i64 0, .string ⟨#[]⟩, .int .i64 0, .bool false] 40)).heap[w.heap.size + 1]? = some _ := s1 ▸ blk_b (blk_b (heap_alloc_new (w.alloc (.cells #[.int .i64 0, .string ⟨#[]⟩, .int .i64 0, .bool false] 40)) (.cells #[.int .i64 0, .int .i64 0] 31)) (below1 (.cells #[.int .i64 0, .string ⟨#[]⟩, .int .i64 0, .bool false] 40))) (below1 (.cells #[.int .i64 0, .string ⟨#[]⟩, .int .i64 0, .bool false] 40))
  have q8 : ((((w.alloc (.cells #[.int .i64 0, .string ⟨#[]⟩, .int .i64 0, .bool false] 40)).alloc (.cells #[.int .i64 0, .int .i64 0] 31)).alloc (.cells #[.int .i64 0, .string ⟨#[]⟩, .int .i64 0, .bool false] 40)).alloc (.cells #[.int .i64 0, .string ⟨#[]⟩, .int .i64 0, .bool false] 40)).heap[w.heap.size + 1 + 1]? = some _ := s2 ▸ blk_b (heap_alloc_new ((w.alloc (.cells #[.int .i64 0, .string ⟨#[]⟩, .int .i64 0, .bool false] 40)).alloc (.cells #[.int .i64 0, .int .i64 0] 31)) (.cells #[.int .i64 0, .string ⟨#[]⟩, .int .i64 0, .bool false] 40)) (below1 (.cells #[.int .i64 0, .string ⟨#[]⟩, .int .i64 0, .bool false] 40))
  have q9 : ((((w.alloc (.cells #[.int .i64 0, .string ⟨#[]⟩, .int .i64 0, .bool false] 40)).alloc (.cells #[.int .i64 0, .int .i64 0] 31)).alloc (.cells #[.int .i64 0, .string ⟨#[]⟩, .int .i64 0, .bool false] 40)).alloc (.cells #[.int .i64 0, .string ⟨#[]⟩, .int .i64 0, .bool false] 40)).heap[w.heap.size + 1 + 1 + 1]? = some _ := s3 ▸ heap_alloc_new (((w.alloc (.cells #[.int .i64 0, .string ⟨#[]⟩, .int .i64 0, .bool false] 40)).alloc (.cells #[.int .i64 0, .int .i64 0] 31)).alloc (.cells #[.int .i64 0, .string ⟨#[]⟩, .int .i64 0, .bool false] 40)) (.cells #[.int .i64 0, .string ⟨#[]⟩, .int .i64 0, .bool false] 40)
  have HB4 := Aside0.mk hb4
  have HQ6 := Aside0.mk q6
  have HQ7 := Aside0.mk q7
  have HQ8 := Aside0.mk q8
  have HQ9 := Aside0.mk q9
  clear hb4 s1 s2 s3 q6 q7 q8 q9
  generalize ((((w.alloc (.cells #[.int .i64 0, .string ⟨#[]⟩, .int .i64 0, .bool false] 40)).alloc (.cells #[.int .i64 0, .int .i64 0] 31)).alloc (.cells #[.int .i64 0, .string ⟨#[]⟩, .int .i64 0, .bool false] 40)).alloc (.cells #[.int .i64 0, .string ⟨#[]⟩, .int .i64 0, .bool false] 40)) = W4 at *
  obtain ⟨b, hb⟩ : ∃ b, w.heap.size = b := ⟨_, rfl⟩
  rw [hb] at HQ6 HQ7 HQ8 HQ9
  rw [show (some (⟨w.heap.size, 0, none⟩ : Addr)) = some ⟨b, 0, none⟩ by rw [hb], show (some (⟨w.heap.size + 1, 0, none⟩ : Addr)) = some ⟨b + 1, 0, none⟩ by rw [hb], show (some (⟨w.heap.size + 1 + 1, 0, none⟩ : Addr)) = some ⟨b + 1 + 1, 0, none⟩ by rw [hb], show (some (⟨w.heap.size + 1 + 1 + 1, 0, none⟩ : Addr)) = some ⟨b + 1 + 1 + 1, 0, none⟩ by rw [hb]]
  have HBE := Aside0.mk hb
  clear hb
  have hlb : b + 1 + 1 + 1 < W4.heap.size := blk_lt HQ9.out
  have HLB := Aside0.mk hlb
  clear hlb
  go_upto_region 5 with (first
    | (go_at_call 100; refine (newReader_calls A c bs _ (HR.out.below HB4.out) HBY.out hl).mono ?_; rintro e w2 ⟨g, ro, rfl, R2, hb2⟩; have HR2 := Aside0.mk (R2.below (below1 (.cells #[.pointer none, .pointer (some ⟨g, 0, none⟩)] 97))); have HG2 := Aside0.mk (And.intro R2.lt R2.base); have HBX := Aside0.mk (heap_alloc_new w2 (.cells #[.pointer none, .pointer (some ⟨g, 0, none⟩)] 97)); have HB2 := Aside0.mk (show Below W4.heap.size W4 (w2.alloc (.cells #[.pointer none, .pointer (some ⟨g, 0, none⟩)] 97)) from below_then hb2 hb2.size (below1 _)); clear R2 hb2)
    | (go_at_call 58; refine (overEntry_r Entry.zero (blk_b HQ8.out HB2.out) HR2.out HB2.out.size).mono ?_; rintro e w3 ⟨rfl, R3, hq3, f3⟩; have HR3 := Aside0.mk R3; have HQ3 := Aside0.mk hq3; have HF3 := Aside0.mk f3; have hx3 := f3.blk HBX.out (by have := HG2.out; have := HLB.out; omega); have c1 : _ = some (Value.pointer (some ⟨g, 0, none⟩)) := blk_cell hx3 1; clear R3 hq3 f3 hx3)
    | (go_at_call 101; refine (rEnd_calls HR3.out).mono ?_; rintro e w4 ⟨rfl, R4, f4⟩; have HF4 := Aside0.mk f4; clear R4 f4))
  have hrt : Entry.ofBytes bs = (let p := Entry.readS bs ⟨0, 0, 0, 0⟩; let r := p.2.end_ bs.length; if r.code = 0 then (if p.1.right = true then (p.1, 0, r.fat) else (Entry.zero, 80, -1)) else (Entry.zero, r.code, r.fat)) := rfl
  simp only at hrt
  have HRT := Aside0.mk hrt
  clear hrt c1 HBX
  have HWB := Aside0.mk (show Below w.heap.size w w4 from by
    have h1 := HB4.out.size
    have h2 := HB2.out.size
    have h3 := HF3.out.size
    have h5 := HG2.out.2
    exact ((below_then HB4.out h1 HB2.out).trans (HF3.out.below (by omega) (fun i hi => by rcases hi with e | e <;> (have := HBE.out; omega)))).trans (HF4.out.below (by omega) (fun i hi => by subst hi; omega)))
  have hsz4 : b + 1 + 1 + 1 < w4.heap.size := by have := HLB.out; have := HB2.out.size; have := HF3.out.size; have := HF4.out.size; omega
  have hng : ∀ k, k ≤ b + 1 + 1 + 1 → k ≠ g := fun k hk e => by have := HLB.out; have := HG2.out.2; omega
  have hq8 := HF4.out.blk HQ3.out (hng _ (by omega))
  have old : ∀ k o, k ≤ b + 1 + 1 + 1 → k ≠ b + 1 + 1 → W4.heap[k]? = some o → w4.heap[k]? = some o := fun k o h1 h2 h3 => HF4.out.blk (HF3.out.blk (blk_b h3 HB2.out) (fun h => h.elim (hng k h1) h2)) (hng k h1)
  have hq6 := old b _ (by omega) (by omega) HQ6.out
  have hq7 := old (b + 1) _ (by omega) (by omega) HQ7.out
  have hq9 := old (b + 1 + 1 + 1) _ (by omega) (by omega) HQ9.out
  clear old hng HF3 HF4 HR3 HQ3 HQ6 HQ7 HQ8 HQ9 HR2 HB2 HG2 HB4 HLB HR HBY
  generalize Entry.readS bs ⟨0, 0, 0, 0⟩ = p at *
  obtain ⟨v, r1⟩ := p
  simp only at HRT hq8 ⊢
  generalize r1.end_ bs.length = r2 at *
  obtain ⟨at_, last, code, fat⟩ := r2
  simp only at HRT ⊢
  obtain ⟨m0, m1, m2, m3⟩ := v
  simp only at HRT hq8
  have h5 := below1 (w := w4) (.cells #[.int .i64 code, .int .i64 fat] 31)
  have HW5 := Aside0.mk (below_then HWB.out HWB.out.size h5)
  have g6 := blk_b hq6 h5
  have g7 := blk_b hq7 h5
  have g8 := blk_b hq8 h5
  have g9 := blk_b hq9 h5
  have gf := heap_alloc_new w4 (.cells #[.int .i64 code, .int .i64 fat] 31)
  clear hq6 hq7 hq8 hq9 h5 HWB
  generalize w4.alloc (.cells #[.int .i64 code, .int .i64 fat] 31) = W5 at *
  generalize w4.heap.size = f at *
  have HG := Aside0.mk (And.intro g6 (And.intro g7 (And.intro g8 (And.intro g9 gf))))
  clear g6 g7 g8 g9 gf
  have f0 : _ = some (Value.int .i64 code) := blk_cell HG.out.2.2.2.2 0
  have f1 : _ = some (Value.int .i64 fat) := blk_cell HG.out.2.2.2.2 1
  by_cases hc : code = 0
  case neg =>
    have hcb : (code == 0) = false := beq_eq_false_iff_ne.2 hc
    have hcn : (code != 0) = true := bne_iff_ne.2 hc
    have n0 : _ = some (Value.int .i64 0) := blk_cell HG.out.2.2.2.1 0
    have n1 : _ = some (Value.string ⟨#[]⟩) := blk_cell HG.out.2.2.2.1 1
    have n2 : _ = some (Value.int .i64 0) := blk_cell HG.out.2.2.2.1 2
    have n3 : _ = some (Value.bool false) := blk_cell HG.out.2.2.2.1 3
    go_wp2
    have p0 : _ = some (Value.int .i64 0) := blk_cell HG.out.1 0
    have z0 := blk_frozen HG.out.1 0
    have p1 : _ = some (Value.string ⟨#[]⟩) := blk_cell HG.out.1 1
    have z1 := blk_frozen HG.out.1 1
    have p2 : _ = some (Value.int .i64 0) := blk_cell HG.out.1 2
    have z2 := blk_frozen HG.out.1 2
    have p3 : _ = some (Value.bool false) := blk_cell HG.out.1 3
    have z3 := blk_frozen HG.out.1 3
    have t0 : _ = some (Value.int .i64 0) := blk_cell HG.out.2.1 0
    have y0 := blk_frozen HG.out.2.1 0
    have t1 : _ = some (Value.int .i64 0) := blk_cell HG.out.2.1 1
    have y1 := blk_frozen HG.out.2.1 1
    go_region
    generalize hWE : World.drew _ = WE
    obtain ⟨k0, k1, k2, k3, l0, l1, hbl⟩ := Entry.fin HG.out.1 HG.out.2.1 HW5.out (by have := HBE.out; omega) 0 ⟨#[]⟩ 0 false code fat hWE.symm
    clear hWE
    go_wp2
    refine bodyPost_ret (v := .tuple #[.agg #[.int .i64 0, .string ⟨#[]⟩, .int .i64 0, .bool false], .agg #[.int .i64 code, .int .i64 fat]]) (by simp [results, Try.results67, go_sem, k0, k1, k2, k3, l0, l1]) rfl ?_
    unfold Entry.RPost
    rw [HRT.out, if_neg hc]
    exact ⟨rfl, hbl⟩
  case pos =>
    subst hc
    rw [if_pos rfl] at HRT
    have v0 : _ = some (Value.int .i64 m0) := blk_cell HG.out.2.2.1 0
    have v1 : _ = some (Value.string m1) := blk_cell HG.out.2.2.1 1
    have v2 : _ = some (Value.int .i64 m2) := blk_cell HG.out.2.2.1 2
    have v3 : _ = some (Value.bool m3) := blk_cell HG.out.2.2.1 3
    have HT := Aside0.mk (fun W => rightEntry_calls ⟨m0, m1, m2, m3⟩ W)
    unfold Entry.val at HT
    obtain ⟨rr, hrr⟩ : ∃ rr, (Entry.right ⟨m0, m1, m2, m3⟩) = rr := ⟨_, rfl⟩
    cases rr with
    | true =>
      simp only [hrr, ↓reduceIte] at HT HRT
      clear hrr
      go_upto_region 7 with (go_at_call 59; refine (HT.out _).mono ?_; rintro e w6 ⟨rfl, hb6⟩)
      have HG6 := Aside0.mk (And.intro (blk_b HG.out.1 hb6) (And.intro (blk_b HG.out.2.1 hb6) (And.intro (blk_b HG.out.2.2.1 hb6) (And.intro (blk_b HG.out.2.2.2.1 hb6) (blk_b HG.out.2.2.2.2 hb6)))))
      have HW6 := Aside0.mk (below_then HW5.out HW5.out.size hb6)
      clear HG HW5 hb6 f0 f1 v0 v1 v2 v3
      have f0 : _ = some (Value.int .i64 0) := blk_cell HG6.out.2.2.2.2 0
      have f1 : _ = some (Value.int .i64 fat) := blk_cell HG6.out.2.2.2.2 1
      have v0 : _ = some (Value.int .i64 m0) := blk_cell HG6.out.2.2.1 0
      have v1 : _ = some (Value.string m1) := blk_cell HG6.out.2.2.1 1
      have v2 : _ = some (Value.int .i64 m2) := blk_cell HG6.out.2.2.1 2
      have v3 : _ = some (Value.bool m3) := blk_cell HG6.out.2.2.1 3
      go_wp2
      have p0 : _ = some (Value.int .i64 0) := blk_cell HG6.out.1 0
      have z0 := blk_frozen HG6.out.1 0
      have p1 : _ = some (Value.string ⟨#[]⟩) := blk_cell HG6.out.1 1
      have z1 := blk_frozen HG6.out.1 1
      have p2 : _ = some (Value.int .i64 0) := blk_cell HG6.out.1 2
      have z2 := blk_frozen HG6.out.1 2
      have p3 : _ = some (Value.bool false) := blk_cell HG6.out.1 3
      have z3 := blk_frozen HG6.out.1 3
      have t0 : _ = some (Value.int .i64 0) := blk_cell HG6.out.2.1 0
      have y0 := blk_frozen HG6.out.2.1 0
      have t1 : _ = some (Value.int .i64 0) := blk_cell HG6.out.2.1 1
      have y1 := blk_frozen HG6.out.2.1 1
      go_region
      generalize hWE : World.drew _ = WE
      obtain ⟨k0, k1, k2, k3, l0, l1, hbl⟩ := Entry.fin HG6.out.1 HG6.out.2.1 HW6.out (by have := HBE.out; omega) m0 m1 m2 m3 0 fat hWE.symm
      clear hWE
      go_wp2
      refine bodyPost_ret (v := .tuple #[.agg #[.int .i64 m0, .string m1, .int .i64 m2, .bool m3], .agg #[.int .i64 0, .int .i64 fat]]) (by simp [results, Try.results67, go_sem, k0, k1, k2, k3, l0, l1]) rfl ?_
      unfold Entry.RPost
      rw [HRT.out]
      exact ⟨rfl, hbl⟩
    | false =>
      simp only [hrr, ↓reduceIte, Bool.false_eq_true] at HT HRT
      clear hrr
      go_upto_region 7 with (go_at_call 59; refine (HT.out _).mono ?_; rintro e w6 ⟨rfl, hb6⟩)
      have HG6 := Aside0.mk (And.intro (blk_b HG.out.1 hb6) (And.intro (blk_b HG.out.2.1 hb6) (And.intro (blk_b HG.out.2.2.1 hb6) (And.intro (blk_b HG.out.2.2.2.1 hb6) (blk_b HG.out.2.2.2.2 hb6)))))
      have HW6 := Aside0.mk (below_then HW5.out HW5.out.size hb6)
      clear HG HW5 hb6 f0 f1 v0 v1 v2 v3
      have f0 : _ = some (Value.int .i64 0) := blk_cell HG6.out.2.2.2.2 0
      have f1 : _ = some (Value.int .i64 fat) := blk_cell HG6.out.2.2.2.2 1
      have f2 := blk_frozen HG6.out.2.2.2.2 0
      have f3 := blk_frozen HG6.out.2.2.2.2 1
      go_upto_region 9 with (fail)
      have far : ∀ k (cs : Array Value) (T : TypeId), k ≤ b + 1 + 1 + 1 → w6.heap[k]? = some (.cells cs T (0, 0)) → ((w6.setCell ⟨f, 0, none⟩ (.int .i64 80)).setCell ⟨f, 1, none⟩ (.int .i64 (-1))).heap[k]? = some (.cells cs T (0, 0)) := fun k cs T hk h => blk_far (blk_far h (p := ⟨f, 0, none⟩) (by show k ≠ f; omega) _) (p := ⟨f, 1, none⟩) (by show k ≠ f; omega) _
      have HG7 := Aside0.mk (And.intro (far _ _ _ (by omega) HG6.out.1) (And.intro (far _ _ _ (by omega) HG6.out.2.1) (And.intro (far _ _ _ (by omega) HG6.out.2.2.2.1) (blk_set (blk_set HG6.out.2.2.2.2 0 (.int .i64 80)) 1 (.int .i64 (-1))))))
      have HW7 := Aside0.mk (show Below w.heap.size w ((w6.setCell ⟨f, 0, none⟩ (.int .i64 80)).setCell ⟨f, 1, none⟩ (.int .i64 (-1))) from (HW6.out.setCell (by have := HBE.out; show w.heap.size ≤ f; omega) _).setCell (by have := HBE.out; show w.heap.size ≤ f; omega) _)
      clear far HG6 HW6 f0 f1 f2 f3
      generalize (w6.setCell ⟨f, 0, none⟩ (.int .i64 80)).setCell ⟨f, 1, none⟩ (.int .i64 (-1)) = w7 at *
      have f0 : w7.cell? ⟨f, 0, none⟩ = some (Value.int .i64 80) := (blk_cell HG7.out.2.2.2 0).trans (by simp)
      have f1 : w7.cell? ⟨f, 1, none⟩ = some (Value.int .i64 (-1)) := (blk_cell HG7.out.2.2.2 1).trans (by simp)
      have n0 : _ = some (Value.int .i64 0) := blk_cell HG7.out.2.2.1 0
      have n1 : _ = some (Value.string ⟨#[]⟩) := blk_cell HG7.out.2.2.1 1
      have n2 : _ = some (Value.int .i64 0) := blk_cell HG7.out.2.2.1 2
      have n3 : _ = some (Value.bool false) := blk_cell HG7.out.2.2.1 3
      go_wp2
      have p0 : _ = some (Value.int .i64 0) := blk_cell HG7.out.1 0
      have z0 := blk_frozen HG7.out.1 0
      have p1 : _ = some (Value.string ⟨#[]⟩) := blk_cell HG7.out.1 1
      have z1 := blk_frozen HG7.out.1 1
      have p2 : _ = some (Value.int .i64 0) := blk_cell HG7.out.1 2
      have z2 := blk_frozen HG7.out.1 2
      have p3 : _ = some (Value.bool false) := blk_cell HG7.out.1 3
      have z3 := blk_frozen HG7.out.1 3
      have t0 : _ = some (Value.int .i64 0) := blk_cell HG7.out.2.1 0
      have y0 := blk_frozen HG7.out.2.1 0
      have t1 : _ = some (Value.int .i64 0) := blk_cell HG7.out.2.1 1
      have y1 := blk_frozen HG7.out.2.1 1
      go_region
      generalize hWE : World.drew _ = WE
      obtain ⟨k0, k1, k2, k3, l0, l1, hbl⟩ := Entry.fin HG7.out.1 HG7.out.2.1 HW7.out (by have := HBE.out; omega) 0 ⟨#[]⟩ 0 false 80 (-1) hWE.symm
      clear hWE
      go_wp2
      refine bodyPost_ret (v := .tuple #[.agg #[.int .i64 0, .string ⟨#[]⟩, .int .i64 0, .bool false], .agg #[.int .i64 80, .int .i64 (-1)]]) (by simp [results, Try.results67, go_sem, k0, k1, k2, k3, l0, l1]) rfl ?_
      unfold Entry.RPost
      rw [HRT.out]
      exact ⟨rfl, hbl⟩
set_option maxHeartbeats 8000000 in
set_option maxRecDepth 100000 in
theorem recReadEntry_calls (A : Option Addr) (c : Nat) (bs : List Int) (w : World) (hr : ReadsInt w .u8 A bs.length bs) (hby : Bytes bs) (hl : bs.length ≤ 140737488355328) :
    Calls Try.prog 24 #[.slice A bs.length c] w (Entry.RPost bs w) := by
  have hb2 : Below w.heap.size w ((w.alloc (.cells #[.int .i64 0, .string ⟨#[]⟩, .int .i64 0, .bool false] 40)).alloc (.cells #[.int .i64 0, .int .i64 0] 31)) := below2 _ _
  have HC := Aside0.mk (takenEntry_calls A c bs _ (hr.below hb2) hby hl)
  have HQ6 := Aside0.mk (two_0 w (.cells #[.int .i64 0, .string ⟨#[]⟩, .int .i64 0, .bool false] 40) (.cells #[.int .i64 0, .int .i64 0] 31))
  have HQ7 := Aside0.mk (two_1 w (.cells #[.int .i64 0, .string ⟨#[]⟩, .int .i64 0, .bool false] 40) (.cells #[.int .i64 0, .int .i64 0] 31))
  have HB2 := Aside0.mk hb2
  have HRT : Aside0 (∀ e w', Entry.RPost bs ((w.alloc (.cells #[.int .i64 0, .string ⟨#[]⟩, .int .i64 0, .bool false] 40)).alloc (.cells #[.int .i64 0, .int .i64 0] 31)) e w' → ∃ m0 m1 m2 m3 c0 c1, e = .returned (.tuple #[.agg #[.int .i64 m0, .string m1, .int .i64 m2, .bool m3], .agg #[.int .i64 c0, .int .i64 c1]]) ∧ Below w.heap.size w w' ∧ Below ((w.alloc (.cells #[.int .i64 0, .string ⟨#[]⟩, .int .i64 0, .bool false] 40)).alloc (.cells #[.int .i64 0, .int .i64 0] 31)).heap.size ((w.alloc (.cells #[.int .i64 0, .string ⟨#[]⟩, .int .i64 0, .bool false] 40)).alloc (.cells #[.int .i64 0, .int .i64 0] 31)) w' ∧ ∀ W, Below w.heap.size w W → Entry.RPost bs w (.returned (.tuple #[.agg #[.int .i64 m0, .string m1, .int .i64 m2, .bool m3], .agg #[.int .i64 c0, .int .i64 c1]])) W) := ⟨fun e w' h => by
    unfold Entry.RPost at *
    exact ⟨_, _, _, _, _, _, h.1, below_then hb2 hb2.size h.2, h.2, fun W hW => ⟨rfl, hW⟩⟩⟩
  clear hb2 hr hby
  go_enter Try.func24, Try.ntmps24
  go_wp2_with (go_at_call 67; refine HC.out.mono ?_; intro e w1 hP; obtain ⟨m0, m1, m2, m3, c0, c1, rfl, hbw, hb1, hfin⟩ := HRT.out e w1 hP; have HW1 := Aside0.mk hbw; have HFN := Aside0.mk hfin; have g6 := blk_b HQ6.out hb1; have g7 := blk_b HQ7.out hb1; have HG6 := Aside0.mk g6; have HG7 := Aside0.mk g7; have p0 : _ = some (Value.int .i64 0) := blk_cell g6 0; have z0 := blk_frozen g6 0; have p1 : _ = some (Value.string ⟨#[]⟩) := blk_cell g6 1; have z1 := blk_frozen g6 1; have p2 : _ = some (Value.int .i64 0) := blk_cell g6 2; have z2 := blk_frozen g6 2; have p3 : _ = some (Value.bool false) := blk_cell g6 3; have z3 := blk_frozen g6 3; have t0 : _ = some (Value.int .i64 0) := blk_cell g7 0; have y0 := blk_frozen g7 0; have t1 : _ = some (Value.int .i64 0) := blk_cell g7 1; have y1 := blk_frozen g7 1; clear hP hbw hb1 hfin g6 g7)
  clear p0 z0 p1 z1 p2 z2 p3 z3 t0 t1 y0 y1
  obtain ⟨k0, k1, k2, k3, l0, l1, hbl⟩ := Entry.fin' HG6.out HG7.out HW1.out (Nat.le_refl _) m0 m1 m2 m3 c0 c1 rfl
  generalize ((((((w1.setCell ⟨w.heap.size, 0, none⟩ (.int .i64 m0)).setCell ⟨w.heap.size, 1, none⟩ (.string m1)).setCell ⟨w.heap.size, 2, none⟩ (.int .i64 m2)).setCell ⟨w.heap.size, 3, none⟩ (.bool m3)).setCell ⟨w.heap.size + 1, 0, none⟩ (.int .i64 c0)).setCell ⟨w.heap.size + 1, 1, none⟩ (.int .i64 c1)) = WE at *
  refine bodyPost_ret (v := .tuple #[.agg #[.int .i64 m0, .string m1, .int .i64 m2, .bool m3], .agg #[.int .i64 c0, .int .i64 c1]]) (by simp [results, Try.results24, go_sem, k0, k1, k2, k3, l0, l1]) rfl ?_
  exact HFN.out _ hbl
end Go.Proofs.Ytgmbfecfkdbfaaa.Wi
/- Accounts out of bytes. -/
set_option linter.unusedVariables false
set_option linter.unusedSimpArgs false
namespace Go.Proofs.Ytgmbfecfkdbfaaa.Wi
open Go Go.RowKit Go.Proofs.YtgmbfecfkdbfaaaW.PrintWords
/-- out of bytes; the fault's code and place -/
def Account.ofBytes (bs : List Int) : Account × Int × Int :=
  let p := Account.readS bs ⟨0, 0, 0, 0⟩
  let r := p.2.end_ bs.length
  if r.code = 0 then (if p.1.right = true then (p.1, 0, r.fat) else (Account.zero, 80, -1)) else (Account.zero, r.code, r.fat)
def Account.RPost (bs : List Int) (w : World) (e : Ending) (w' : World) : Prop := e = .returned (.tuple #[(Account.ofBytes bs).1.val, .agg #[.int .i64 (Account.ofBytes bs).2.1, .int .i64 (Account.ofBytes bs).2.2]]) ∧ Below w.heap.size w w'
theorem Account.fin {w W5 : World} {b : Nat} (h1 : W5.heap[b]? = some (.cells #[.string ⟨#[]⟩, .int .i64 0, .int .i64 0] 42 (0, 0))) (h2 : W5.heap[b + 1]? = some (.cells #[.int .i64 0, .int .i64 0] 31 (0, 0))) (hw : Below w.heap.size w W5) (hb : w.heap.size ≤ b) (a0 : ByteArray) (a1 : Int) (a2 : Int) (c0 c1 : Int) {W' : World}
    (e : W' = (((((W5.setCell ⟨b, 0, none⟩ (.string a0)).setCell ⟨b, 1, none⟩ (.int .i64 a1)).setCell ⟨b, 2, none⟩ (.int .i64 a2)).setCell ⟨b + 1, 0, none⟩ (.int .i64 c0)).setCell ⟨b + 1, 1, none⟩ (.int .i64 c1)).drew) :
    W'.cell? ⟨b, 0, none⟩ = some (.string a0) ∧ W'.cell? ⟨b, 1, none⟩ = some (.int .i64 a1) ∧ W'.cell? ⟨b, 2, none⟩ = some (.int .i64 a2) ∧ W'.cell? ⟨b + 1, 0, none⟩ = some (.int .i64 c0) ∧ W'.cell? ⟨b + 1, 1, none⟩ = some (.int .i64 c1) ∧ Below w.heap.size w W' := by
  have hne : b ≠ b + 1 := by omega
  have q := blk_far (blk_far (blk_set (blk_set (blk_set h1 0 (.string a0)) 1 (.int .i64 a1)) 2 (.int .i64 a2)) (p := ⟨b + 1, 0, none⟩) hne (.int .i64 c0)) (p := ⟨b + 1, 1, none⟩) hne (.int .i64 c1)
  have q1 := blk_set (blk_set (blk_far (blk_far (blk_far h2 (p := ⟨b, 0, none⟩) hne.symm (.string a0)) (p := ⟨b, 1, none⟩) hne.symm (.int .i64 a1)) (p := ⟨b, 2, none⟩) hne.symm (.int .i64 a2)) 0 (.int .i64 c0)) 1 (.int .i64 c1)
  have hw2 : Below w.heap.size w W' := by
    rw [e]
    exact (((((hw.setCell hb _).setCell hb _).setCell hb _).setCell (by show w.heap.size ≤ b + 1; omega) _).setCell (by show w.heap.size ≤ b + 1; omega) _).drew
  generalize hW : (((((W5.setCell ⟨b, 0, none⟩ (.string a0)).setCell ⟨b, 1, none⟩ (.int .i64 a1)).setCell ⟨b, 2, none⟩ (.int .i64 a2)).setCell ⟨b + 1, 0, none⟩ (.int .i64 c0)).setCell ⟨b + 1, 1, none⟩ (.int .i64 c1)) = W6 at *
  subst e
  have q' : W6.drew.heap[b]? = some (.cells _ 42 (0, 0)) := q
  have q1' : W6.drew.heap[b + 1]? = some (.cells _ 31 (0, 0)) := q1
  exact ⟨(blk_cell q' 0).trans (by simp), (blk_cell q' 1).trans (by simp), (blk_cell q' 2).trans (by simp), (blk_cell q1' 0).trans (by simp), (blk_cell q1' 1).trans (by simp), hw2⟩
theorem Account.fin' {w W5 : World} {b : Nat} (h1 : W5.heap[b]? = some (.cells #[.string ⟨#[]⟩, .int .i64 0, .int .i64 0] 42 (0, 0))) (h2 : W5.heap[b + 1]? = some (.cells #[.int .i64 0, .int .i64 0] 31 (0, 0))) (hw : Below w.heap.size w W5) (hb : w.heap.size ≤ b) (a0 : ByteArray) (a1 : Int) (a2 : Int) (c0 c1 : Int) {W' : World}
    (e : W' = (((((W5.setCell ⟨b, 0, none⟩ (.string a0)).setCell ⟨b, 1, none⟩ (.int .i64 a1)).setCell ⟨b, 2, none⟩ (.int .i64 a2)).setCell ⟨b + 1, 0, none⟩ (.int .i64 c0)).setCell ⟨b + 1, 1, none⟩ (.int .i64 c1))) :
    W'.cell? ⟨b, 0, none⟩ = some (.string a0) ∧ W'.cell? ⟨b, 1, none⟩ = some (.int .i64 a1) ∧ W'.cell? ⟨b, 2, none⟩ = some (.int .i64 a2) ∧ W'.cell? ⟨b + 1, 0, none⟩ = some (.int .i64 c0) ∧ W'.cell? ⟨b + 1, 1, none⟩ = some (.int .i64 c1) ∧ Below w.heap.size w W' := by
  obtain ⟨k0, k1, k2, l0, l1, hbl⟩ := Account.fin h1 h2 hw hb a0 a1 a2 c0 c1 rfl
  rw [← e] at k0 k1 k2 l0 l1 hbl
  exact ⟨k0, k1, k2, l0, l1, ⟨hbl.os, hbl.tape, hbl.output, hbl.size, hbl.block⟩⟩
set_option maxHeartbeats 8000000 in
set_option maxRecDepth 100000 in
theorem takenAccount_calls (A : Option Addr) (c : Nat) (bs : List Int) (w : World) (hr : ReadsInt w .u8 A bs.length bs) (hby : Bytes bs) (hl : bs.length ≤ 140737488355328) :
    Calls Try.prog 68 #[.slice A bs.length c, .func (.func 61) #[] #[], .func (.func 62) #[] #[]] w (Account.RPost bs w) := by
  have HR := Aside0.mk hr
  have HBY := Aside0.mk hby
  clear hr hby
  go_enter Try.func68, Try.ntmps68
  go_upto_region 2 with (fail)
  have hb4 : Below w.heap.size w ((((w.alloc (.cells #[.string ⟨#[]⟩, .int .i64 0, .int .i64 0] 42)).alloc (.cells #[.int .i64 0, .int .i64 0] 31)).alloc (.cells #[.string ⟨#[]⟩, .int .i64 0, .int .i64 0] 42)).alloc (.cells #[.string ⟨#[]⟩, .int .i64 0, .int .i64 0] 42)) := below_alloc (below_alloc (below_alloc (below_alloc (Below.refl _ _) _) _) _) _
  have s1 : (w.alloc (.cells #[.string ⟨#[]⟩, .int .i64 0, .int .i64 0] 42)).heap.size = w.heap.size + 1 := by simp
  have s2 : ((w.alloc (.cells #[.string ⟨#[]⟩, .int .i64 0, .int .i64 0] 42)).alloc (.cells #[.int .i64 0, .int .i64 0] 31)).heap.size = w.heap.size + 1 + 1 := by simp
  have s3 : (((w.alloc (.cells #[.string ⟨#[]⟩, .int .i64 0, .int .i64 0] 42)).alloc (.cells #[.int .i64 0, .int .i64 0] 31)).alloc (.cells #[.string ⟨#[]⟩, .int .i64 0, .int .i64 0] 42)).heap.size = w.heap.size + 1 + 1 + 1 := by simp
  have q6 : ((((w.alloc (.cells #[.string ⟨#[]⟩, .int .i64 0, .int .i64 0] 42)).alloc (.cells #[.int .i64 0, .int .i64 0] 31)).alloc (.cells #[.string ⟨#[]⟩, .int .i64 0, .int .i64 0] 42)).alloc (.cells #[.string ⟨#[]⟩, .int .i64 0, .int .i64 0] 42)).heap[w.heap.size]? = some _ := blk_b (blk_b (blk_b (heap_alloc_new w (.cells #[.string ⟨#[]⟩, .int .i64 0, .int .i64 0] 42)) (below1 (.cells #[.int .i64 0, .int .i64 0] 31))) (below1 (.cells #[.string ⟨#[]⟩, .int .i64 0, .int .i64 0] 42))) (below1 (.cells #[.string ⟨#[]⟩, .int .i64 0, .int .i64 0] 42))
  have q7 : ((((w.alloc (.cells #[.string ⟨#[]⟩, .int .i64 0, .int .i64 0] 42)).alloc (.cells #[.int .i64 0, .int .i64 0] 31)).alloc (.cells #[.string ⟨#[]⟩, .int .i64 0, .int .i64 0] 42)).alloc (.cells #[.string ⟨#[]⟩, .int .i64 0, .int .i64 0] 42)).heap[w.heap.size + 1]? = some _ := s1 ▸ blk_b (blk_b (heap_alloc_new (w.alloc (.cells #[.string ⟨#[]⟩, .int .i64 0, .int .i64 0] 42)) (.cells #[.int .i64 0, .int .i64 0] 31)) (below1 (.cells #[.string ⟨#[]⟩, .int .i64 0, .int .i64 0] 42))) (below1 (.cells #[.string ⟨#[]⟩, .int .i64 0, .int .i64 0] 42))
  have q8 : ((((w.alloc (.cells #[.string ⟨#[]⟩, .int .i64 0, .int .i64 0] 42)).alloc (.cells #[.int .i64 0, .int .i64 0] 31)).alloc (.cells #[.string ⟨#[]⟩, .int .i64 0, .int .i64 0] 42)).alloc (.cells #[.string ⟨#[]⟩, .int .i64 0, .int .i64 0] 42)).heap[w.heap.size + 1 + 1]? = some _ := s2 ▸ blk_b (heap_alloc_new ((w.alloc (.cells #[.string ⟨#[]⟩, .int .i64 0, .int .i64 0] 42)).alloc (.cells #[.int .i64 0, .int .i64 0] 31)) (.cells #[.string ⟨#[]⟩, .int .i64 0, .int .i64 0] 42)) (below1 (.cells #[.string ⟨#[]⟩, .int .i64 0, .int .i64 0] 42))
  have q9 : ((((w.alloc (.cells #[.string ⟨#[]⟩, .int .i64 0, .int .i64 0] 42)).alloc (.cells #[.int .i64 0, .int .i64 0] 31)).alloc (.cells #[.string ⟨#[]⟩, .int .i64 0, .int .i64 0] 42)).alloc (.cells #[.string ⟨#[]⟩, .int .i64 0, .int .i64 0] 42)).heap[w.heap.size + 1 + 1 + 1]? = some _ := s3 ▸ heap_alloc_new (((w.alloc (.cells #[.string ⟨#[]⟩, .int .i64 0, .int .i64 0] 42)).alloc (.cells #[.int .i64 0, .int .i64 0] 31)).alloc (.cells #[.string ⟨#[]⟩, .int .i64 0, .int .i64 0] 42)) (.cells #[.string ⟨#[]⟩, .int .i64 0, .int .i64 0] 42)
  have HB4 := Aside0.mk hb4
  have HQ6 := Aside0.mk q6
  have HQ7 := Aside0.mk q7
  have HQ8 := Aside0.mk q8
  have HQ9 := Aside0.mk q9
  clear hb4 s1 s2 s3 q6 q7 q8 q9
  generalize ((((w.alloc (.cells #[.string ⟨#[]⟩, .int .i64 0, .int .i64 0] 42)).alloc (.cells #[.int .i64 0, .int .i64 0] 31)).alloc (.cells #[.string ⟨#[]⟩, .int .i64 0, .int .i64 0] 42)).alloc (.cells #[.string ⟨#[]⟩, .int .i64 0, .int .i64 0] 42)) = W4 at *
  obtain ⟨b, hb⟩ : ∃ b, w.heap.size = b := ⟨_, rfl⟩
  rw [hb] at HQ6 HQ7 HQ8 HQ9
  rw [show (some (⟨w.heap.size, 0, none⟩ : Addr)) = some ⟨b, 0, none⟩ by rw [hb], show (some (⟨w.heap.size + 1, 0, none⟩ : Addr)) = some ⟨b + 1, 0, none⟩ by rw [hb], show (some (⟨w.heap.size + 1 + 1, 0, none⟩ : Addr)) = some ⟨b + 1 + 1, 0, none⟩ by rw [hb], show (some (⟨w.heap.size + 1 + 1 + 1, 0, none⟩ : Addr)) = some ⟨b + 1 + 1 + 1, 0, none⟩ by rw [hb]]
  have HBE := Aside0.mk hb
  clear hb
  have hlb : b + 1 + 1 + 1 < W4.heap.size := blk_lt HQ9.out
  have HLB := Aside0.mk hlb
  clear hlb
  go_upto_region 5 with (first
    | (go_at_call 100; refine (newReader_calls A c bs _ (HR.out.below HB4.out) HBY.out hl).mono ?_; rintro e w2 ⟨g, ro, rfl, R2, hb2⟩; have HR2 := Aside0.mk (R2.below (below1 (.cells #[.pointer none, .pointer (some ⟨g, 0, none⟩)] 97))); have HG2 := Aside0.mk (And.intro R2.lt R2.base); have HBX := Aside0.mk (heap_alloc_new w2 (.cells #[.pointer none, .pointer (some ⟨g, 0, none⟩)] 97)); have HB2 := Aside0.mk (show Below W4.heap.size W4 (w2.alloc (.cells #[.pointer none, .pointer (some ⟨g, 0, none⟩)] 97)) from below_then hb2 hb2.size (below1 _)); clear R2 hb2)
    | (go_at_call 61; refine (overAccount_r Account.zero (blk_b HQ8.out HB2.out) HR2.out HB2.out.size).mono ?_; rintro e w3 ⟨rfl, R3, hq3, f3⟩; have HR3 := Aside0.mk R3; have HQ3 := Aside0.mk hq3; have HF3 := Aside0.mk f3; have hx3 := f3.blk HBX.out (by have := HG2.out; have := HLB.out; omega); have c1 : _ = some (Value.pointer (some ⟨g, 0, none⟩)) := blk_cell hx3 1; clear R3 hq3 f3 hx3)
    | (go_at_call 101; refine (rEnd_calls HR3.out).mono ?_; rintro e w4 ⟨rfl, R4, f4⟩; have HF4 := Aside0.mk f4; clear R4 f4))
  have hrt : Account.ofBytes bs = (let p := Account.readS bs ⟨0, 0, 0, 0⟩; let r := p.2.end_ bs.length; if r.code = 0 then (if p.1.right = true then (p.1, 0, r.fat) else (Account.zero, 80, -1)) else (Account.zero, r.code, r.fat)) := rfl
  simp only at hrt
  have HRT := Aside0.mk hrt
  clear hrt c1 HBX
  have HWB := Aside0.mk (show Below w.heap.size w w4 from by
    have h1 := HB4.out.size
    have h2 := HB2.out.size
    have h3 := HF3.out.size
    have h5 := HG2.out.2
    exact ((below_then HB4.out h1 HB2.out).trans (HF3.out.below (by omega) (fun i hi => by rcases hi with e | e <;> (have := HBE.out; omega)))).trans (HF4.out.below (by omega) (fun i hi => by subst hi; omega)))
  have hsz4 : b + 1 + 1 + 1 < w4.heap.size := by have := HLB.out; have := HB2.out.size; have := HF3.out.size; have := HF4.out.size; omega
  have hng : ∀ k, k ≤ b + 1 + 1 + 1 → k ≠ g := fun k hk e => by have := HLB.out; have := HG2.out.2; omega
  have hq8 := HF4.out.blk HQ3.out (hng _ (by omega))
  have old : ∀ k o, k ≤ b + 1 + 1 + 1 → k ≠ b + 1 + 1 → W4.heap[k]? = some o → w4.heap[k]? = some o := fun k o h1 h2 h3 => HF4.out.blk (HF3.out.blk (blk_b h3 HB2.out) (fun h => h.elim (hng k h1) h2)) (hng k h1)
  have hq6 := old b _ (by omega) (by omega) HQ6.out
  have hq7 := old (b + 1) _ (by omega) (by omega) HQ7.out
  have hq9 := old (b + 1 + 1 + 1) _ (by omega) (by omega) HQ9.out
  clear old hng HF3 HF4 HR3 HQ3 HQ6 HQ7 HQ8 HQ9 HR2 HB2 HG2 HB4 HLB HR HBY
  generalize Account.readS bs ⟨0, 0, 0, 0⟩ = p at *
  obtain ⟨v, r1⟩ := p
  simp only at HRT hq8 ⊢
  generalize r1.end_ bs.length = r2 at *
  obtain ⟨at_, last, code, fat⟩ := r2
  simp only at HRT ⊢
  obtain ⟨m0, m1, m2⟩ := v
  simp only at HRT hq8
  have h5 := below1 (w := w4) (.cells #[.int .i64 code, .int .i64 fat] 31)
  have HW5 := Aside0.mk (below_then HWB.out HWB.out.size h5)
  have g6 := blk_b hq6 h5
  have g7 := blk_b hq7 h5
  have g8 := blk_b hq8 h5
  have g9 := blk_b hq9 h5
  have gf := heap_alloc_new w4 (.cells #[.int .i64 code, .int .i64 fat] 31)
  clear hq6 hq7 hq8 hq9 h5 HWB
  generalize w4.alloc (.cells #[.int .i64 code, .int .i64 fat] 31) = W5 at *
  generalize w4.heap.size = f at *
  have HG := Aside0.mk (And.intro g6 (And.intro g7 (And.intro g8 (And.intro g9 gf))))
  clear g6 g7 g8 g9 gf
  have f0 : _ = some (Value.int .i64 code) := blk_cell HG.out.2.2.2.2 0
  have f1 : _ = some (Value.int .i64 fat) := blk_cell HG.out.2.2.2.2 1
  by_cases hc : code = 0
  case neg =>
    have hcb : (code == 0) = false := beq_eq_false_iff_ne.2 hc
    have hcn : (code != 0) = true := bne_iff_ne.2 hc
    have n0 : _ = some (Value.string ⟨#[]⟩) := blk_cell HG.out.2.2.2.1 0
    have n1 : _ = some (Value.int .i64 0) := blk_cell HG.out.2.2.2.1 1
    have n2 : _ = some (Value.int .i64 0) := blk_cell HG.out.2.2.2.1 2
    go_wp2
    have p0 : _ = some (Value.string ⟨#[]⟩) := blk_cell HG.out.1 0
    have z0 := blk_frozen HG.out.1 0
    have p1 : _ = some (Value.int .i64 0) := blk_cell HG.out.1 1
    have z1 := blk_frozen HG.out.1 1
    have p2 : _ = some (Value.int .i64 0) := blk_cell HG.out.1 2
    have z2 := blk_frozen HG.out.1 2
    have t0 : _ = some (Value.int .i64 0) := blk_cell HG.out.2.1 0
    have y0 := blk_frozen HG.out.2.1 0
    have t1 : _ = some (Value.int .i64 0) := blk_cell HG.out.2.1 1
    have y1 := blk_frozen HG.out.2.1 1
    go_region
    generalize hWE : World.drew _ = WE
    obtain ⟨k0, k1, k2, l0, l1, hbl⟩ := Account.fin HG.out.1 HG.out.2.1 HW5.out (by have := HBE.out; omega) ⟨#[]⟩ 0 0 code fat hWE.symm
    clear hWE
    go_wp2
    refine bodyPost_ret (v := .tuple #[.agg #[.string ⟨#[]⟩, .int .i64 0, .int .i64 0], .agg #[.int .i64 code, .int .i64 fat]]) (by simp [results, Try.results68, go_sem, k0, k1, k2, l0, l1]) rfl ?_
    unfold Account.RPost
    rw [HRT.out, if_neg hc]
    exact ⟨rfl, hbl⟩
  case pos =>
    subst hc
    rw [if_pos rfl] at HRT
    have v0 : _ = some (Value.string m0) := blk_cell HG.out.2.2.1 0
    have v1 : _ = some (Value.int .i64 m1) := blk_cell HG.out.2.2.1 1
    have v2 : _ = some (Value.int .i64 m2) := blk_cell HG.out.2.2.1 2
    have HT := Aside0.mk (fun W => rightAccount_calls ⟨m0, m1, m2⟩ W)
    unfold Account.val at HT
    obtain ⟨rr, hrr⟩ : ∃ rr, (Account.right ⟨m0, m1, m2⟩) = rr := ⟨_, rfl⟩
    cases rr with
    | true =>
      simp only [hrr, ↓reduceIte] at HT HRT
      clear hrr
      go_upto_region 7 with (go_at_call 62; refine (HT.out _).mono ?_; rintro e w6 ⟨rfl, hb6⟩)
      have HG6 := Aside0.mk (And.intro (blk_b HG.out.1 hb6) (And.intro (blk_b HG.out.2.1 hb6) (And.intro (blk_b HG.out.2.2.1 hb6) (And.intro (blk_b HG.out.2.2.2.1 hb6) (blk_b HG.out.2.2.2.2 hb6)))))
      have HW6 := Aside0.mk (below_then HW5.out HW5.out.size hb6)
      clear HG HW5 hb6 f0 f1 v0 v1 v2
      have f0 : _ = some (Value.int .i64 0) := blk_cell HG6.out.2.2.2.2 0
      have f1 : _ = some (Value.int .i64 fat) := blk_cell HG6.out.2.2.2.2 1
      have v0 : _ = some (Value.string m0) := blk_cell HG6.out.2.2.1 0
      have v1 : _ = some (Value.int .i64 m1) := blk_cell HG6.out.2.2.1 1
      have v2 : _ = some (Value.int .i64 m2) := blk_cell HG6.out.2.2.1 2
      go_wp2
      have p0 : _ = some (Value.string ⟨#[]⟩) := blk_cell HG6.out.1 0
      have z0 := blk_frozen HG6.out.1 0
      have p1 : _ = some (Value.int .i64 0) := blk_cell HG6.out.1 1
      have z1 := blk_frozen HG6.out.1 1
      have p2 : _ = some (Value.int .i64 0) := blk_cell HG6.out.1 2
      have z2 := blk_frozen HG6.out.1 2
      have t0 : _ = some (Value.int .i64 0) := blk_cell HG6.out.2.1 0
      have y0 := blk_frozen HG6.out.2.1 0
      have t1 : _ = some (Value.int .i64 0) := blk_cell HG6.out.2.1 1
      have y1 := blk_frozen HG6.out.2.1 1
      go_region
      generalize hWE : World.drew _ = WE
      obtain ⟨k0, k1, k2, l0, l1, hbl⟩ := Account.fin HG6.out.1 HG6.out.2.1 HW6.out (by have := HBE.out; omega) m0 m1 m2 0 fat hWE.symm
      clear hWE
      go_wp2
      refine bodyPost_ret (v := .tuple #[.agg #[.string m0, .int .i64 m1, .int .i64 m2], .agg #[.int .i64 0, .int .i64 fat]]) (by simp [results, Try.results68, go_sem, k0, k1, k2, l0, l1]) rfl ?_
      unfold Account.RPost
      rw [HRT.out]
      exact ⟨rfl, hbl⟩
    | false =>
      simp only [hrr, ↓reduceIte, Bool.false_eq_true] at HT HRT
      clear hrr
      go_upto_region 7 with (go_at_call 62; refine (HT.out _).mono ?_; rintro e w6 ⟨rfl, hb6⟩)
      have HG6 := Aside0.mk (And.intro (blk_b HG.out.1 hb6) (And.intro (blk_b HG.out.2.1 hb6) (And.intro (blk_b HG.out.2.2.1 hb6) (And.intro (blk_b HG.out.2.2.2.1 hb6) (blk_b HG.out.2.2.2.2 hb6)))))
      have HW6 := Aside0.mk (below_then HW5.out HW5.out.size hb6)
      clear HG HW5 hb6 f0 f1 v0 v1 v2
      have f0 : _ = some (Value.int .i64 0) := blk_cell HG6.out.2.2.2.2 0
      have f1 : _ = some (Value.int .i64 fat) := blk_cell HG6.out.2.2.2.2 1
      have f2 := blk_frozen HG6.out.2.2.2.2 0
      have f3 := blk_frozen HG6.out.2.2.2.2 1
      go_upto_region 9 with (fail)
      have far : ∀ k (cs : Array Value) (T : TypeId), k ≤ b + 1 + 1 + 1 → w6.heap[k]? = some (.cells cs T (0, 0)) → ((w6.setCell ⟨f, 0, none⟩ (.int .i64 80)).setCell ⟨f, 1, none⟩ (.int .i64 (-1))).heap[k]? = some (.cells cs T (0, 0)) := fun k cs T hk h => blk_far (blk_far h (p := ⟨f, 0, none⟩) (by show k ≠ f; omega) _) (p := ⟨f, 1, none⟩) (by show k ≠ f; omega) _
      have HG7 := Aside0.mk (And.intro (far _ _ _ (by omega) HG6.out.1) (And.intro (far _ _ _ (by omega) HG6.out.2.1) (And.intro (far _ _ _ (by omega) HG6.out.2.2.2.1) (blk_set (blk_set HG6.out.2.2.2.2 0 (.int .i64 80)) 1 (.int .i64 (-1))))))
      have HW7 := Aside0.mk (show Below w.heap.size w ((w6.setCell ⟨f, 0, none⟩ (.int .i64 80)).setCell ⟨f, 1, none⟩ (.int .i64 (-1))) from (HW6.out.setCell (by have := HBE.out; show w.heap.size ≤ f; omega) _).setCell (by have := HBE.out; show w.heap.size ≤ f; omega) _)
      clear far HG6 HW6 f0 f1 f2 f3
      generalize (w6.setCell ⟨f, 0, none⟩ (.int .i64 80)).setCell ⟨f, 1, none⟩ (.int .i64 (-1)) = w7 at *
      have f0 : w7.cell? ⟨f, 0, none⟩ = some (Value.int .i64 80) := (blk_cell HG7.out.2.2.2 0).trans (by simp)
      have f1 : w7.cell? ⟨f, 1, none⟩ = some (Value.int .i64 (-1)) := (blk_cell HG7.out.2.2.2 1).trans (by simp)
      have n0 : _ = some (Value.string ⟨#[]⟩) := blk_cell HG7.out.2.2.1 0
      have n1 : _ = some (Value.int .i64 0) := blk_cell HG7.out.2.2.1 1
      have n2 : _ = some (Value.int .i64 0) := blk_cell HG7.out.2.2.1 2
      go_wp2
      have p0 : _ = some (Value.string ⟨#[]⟩) := blk_cell HG7.out.1 0
      have z0 := blk_frozen HG7.out.1 0
      have p1 : _ = some (Value.int .i64 0) := blk_cell HG7.out.1 1
      have z1 := blk_frozen HG7.out.1 1
      have p2 : _ = some (Value.int .i64 0) := blk_cell HG7.out.1 2
      have z2 := blk_frozen HG7.out.1 2
      have t0 : _ = some (Value.int .i64 0) := blk_cell HG7.out.2.1 0
      have y0 := blk_frozen HG7.out.2.1 0
      have t1 : _ = some (Value.int .i64 0) := blk_cell HG7.out.2.1 1
      have y1 := blk_frozen HG7.out.2.1 1
      go_region
      generalize hWE : World.drew _ = WE
      obtain ⟨k0, k1, k2, l0, l1, hbl⟩ := Account.fin HG7.out.1 HG7.out.2.1 HW7.out (by have := HBE.out; omega) ⟨#[]⟩ 0 0 80 (-1) hWE.symm
      clear hWE
      go_wp2
      refine bodyPost_ret (v := .tuple #[.agg #[.string ⟨#[]⟩, .int .i64 0, .int .i64 0], .agg #[.int .i64 80, .int .i64 (-1)]]) (by simp [results, Try.results68, go_sem, k0, k1, k2, l0, l1]) rfl ?_
      unfold Account.RPost
      rw [HRT.out]
      exact ⟨rfl, hbl⟩
set_option maxHeartbeats 8000000 in
set_option maxRecDepth 100000 in
theorem recReadAccount_calls (A : Option Addr) (c : Nat) (bs : List Int) (w : World) (hr : ReadsInt w .u8 A bs.length bs) (hby : Bytes bs) (hl : bs.length ≤ 140737488355328) :
    Calls Try.prog 25 #[.slice A bs.length c] w (Account.RPost bs w) := by
  have hb2 : Below w.heap.size w ((w.alloc (.cells #[.string ⟨#[]⟩, .int .i64 0, .int .i64 0] 42)).alloc (.cells #[.int .i64 0, .int .i64 0] 31)) := below2 _ _
  have HC := Aside0.mk (takenAccount_calls A c bs _ (hr.below hb2) hby hl)
  have HQ6 := Aside0.mk (two_0 w (.cells #[.string ⟨#[]⟩, .int .i64 0, .int .i64 0] 42) (.cells #[.int .i64 0, .int .i64 0] 31))
  have HQ7 := Aside0.mk (two_1 w (.cells #[.string ⟨#[]⟩, .int .i64 0, .int .i64 0] 42) (.cells #[.int .i64 0, .int .i64 0] 31))
  have HB2 := Aside0.mk hb2
  have HRT : Aside0 (∀ e w', Account.RPost bs ((w.alloc (.cells #[.string ⟨#[]⟩, .int .i64 0, .int .i64 0] 42)).alloc (.cells #[.int .i64 0, .int .i64 0] 31)) e w' → ∃ m0 m1 m2 c0 c1, e = .returned (.tuple #[.agg #[.string m0, .int .i64 m1, .int .i64 m2], .agg #[.int .i64 c0, .int .i64 c1]]) ∧ Below w.heap.size w w' ∧ Below ((w.alloc (.cells #[.string ⟨#[]⟩, .int .i64 0, .int .i64 0] 42)).alloc (.cells #[.int .i64 0, .int .i64 0] 31)).heap.size ((w.alloc (.cells #[.string ⟨#[]⟩, .int .i64 0, .int .i64 0] 42)).alloc (.cells #[.int .i64 0, .int .i64 0] 31)) w' ∧ ∀ W, Below w.heap.size w W → Account.RPost bs w (.returned (.tuple #[.agg #[.string m0, .int .i64 m1, .int .i64 m2], .agg #[.int .i64 c0, .int .i64 c1]])) W) := ⟨fun e w' h => by
    unfold Account.RPost at *
    exact ⟨_, _, _, _, _, h.1, below_then hb2 hb2.size h.2, h.2, fun W hW => ⟨rfl, hW⟩⟩⟩
  clear hb2 hr hby
  go_enter Try.func25, Try.ntmps25
  go_wp2_with (go_at_call 68; refine HC.out.mono ?_; intro e w1 hP; obtain ⟨m0, m1, m2, c0, c1, rfl, hbw, hb1, hfin⟩ := HRT.out e w1 hP; have HW1 := Aside0.mk hbw; have HFN := Aside0.mk hfin; have g6 := blk_b HQ6.out hb1; have g7 := blk_b HQ7.out hb1; have HG6 := Aside0.mk g6; have HG7 := Aside0.mk g7; have p0 : _ = some (Value.string ⟨#[]⟩) := blk_cell g6 0; have z0 := blk_frozen g6 0; have p1 : _ = some (Value.int .i64 0) := blk_cell g6 1; have z1 := blk_frozen g6 1; have p2 : _ = some (Value.int .i64 0) := blk_cell g6 2; have z2 := blk_frozen g6 2; have t0 : _ = some (Value.int .i64 0) := blk_cell g7 0; have y0 := blk_frozen g7 0; have t1 : _ = some (Value.int .i64 0) := blk_cell g7 1; have y1 := blk_frozen g7 1; clear hP hbw hb1 hfin g6 g7)
  clear p0 z0 p1 z1 p2 z2 t0 t1 y0 y1
  obtain ⟨k0, k1, k2, l0, l1, hbl⟩ := Account.fin' HG6.out HG7.out HW1.out (Nat.le_refl _) m0 m1 m2 c0 c1 rfl
  generalize (((((w1.setCell ⟨w.heap.size, 0, none⟩ (.string m0)).setCell ⟨w.heap.size, 1, none⟩ (.int .i64 m1)).setCell ⟨w.heap.size, 2, none⟩ (.int .i64 m2)).setCell ⟨w.heap.size + 1, 0, none⟩ (.int .i64 c0)).setCell ⟨w.heap.size + 1, 1, none⟩ (.int .i64 c1)) = WE at *
  refine bodyPost_ret (v := .tuple #[.agg #[.string m0, .int .i64 m1, .int .i64 m2], .agg #[.int .i64 c0, .int .i64 c1]]) (by simp [results, Try.results25, go_sem, k0, k1, k2, l0, l1]) rfl ?_
  exact HFN.out _ hbl
end Go.Proofs.Ytgmbfecfkdbfaaa.Wi
