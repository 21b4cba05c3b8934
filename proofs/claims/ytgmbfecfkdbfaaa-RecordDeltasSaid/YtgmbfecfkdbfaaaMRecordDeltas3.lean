/- A record's pieces, laid down where the side reads. -/
import Derived.Test.YtgmbfecfkdbfaaaMRecordDeltas2
set_option linter.unusedVariables false
set_option linter.unusedSimpArgs false
namespace Go.Proofs.Ytgmbfecfkdbfaaa.Wi
open Go Go.RowKit Go.Proofs.YtgmbfecfkdbfaaaW.PrintWords
section
variable {w : World} {B g : Nat} {ro : Option Nat} {bs : List Int} {r : RS} {bt : Nat} {cs : Array Value} {T : TypeId}
/-- what a piece that is laid down leaves -/
def SPost (B g : Nat) (ro : Option Nat) (bs : List Int) (bt : Nat) (T : TypeId) (cs : Array Value) (r : RS) (w : World) (e : Ending) (w' : World) : Prop :=
  e = .returned (.tuple #[]) ∧ Rd w' B g ro bs r ∧ w'.heap[bt]? = some (.cells cs T (0, 0)) ∧ Fr (fun i => i = g ∨ i = bt) w w'
theorem Rd.ne_ (hr : Rd w B g ro bs r) (hq : w.heap[bt]? = some (.cells cs T (0, 0))) (h1 : T ≠ 202) (h2 : T ≠ 5) : bt ≠ g ∧ ro ≠ some bt := by
  obtain ⟨v, hb, ho, hro⟩ := hr.at_
  exact ⟨blk_ne hq hb h1, fun e => own_ne ho hq (fun e => h2 e.symm) (by rw [hro, e])⟩
set_option maxHeartbeats 3200000 in
set_option maxRecDepth 100000 in
theorem token_r (o : Nat) (ho : o < cs.size) (hq : w.heap[bt]? = some (.cells cs T (0, 0))) (h1 : T ≠ 202) (h2 : T ≠ 5) (hr : Rd w B g ro bs r) (hB : B ≤ w.heap.size) :
    Calls Try.prog 53 #[.agg #[.pointer none, .pointer (some ⟨g, 0, none⟩)], .pointer (some ⟨bt, o, none⟩)] w (SPost B g ro bs bt T (cs.setIfInBounds o (.string (strOfNums (rFix bs r 8).1))) (rFix bs r 8).2 w) := by
  obtain ⟨hbg, hbr⟩ := hr.ne_ hq h1 h2
  have HB1 := Aside0.mk (below1 (w := w) (.cells #[.pointer none, .pointer (some ⟨g, 0, none⟩)] 97))
  have HQ := Aside0.mk ((Fr.of_below (S := fun _ => False) HB1.out).blk hq (fun h => h))
  have C := Aside0.mk (rFixed_calls 8 (hr.below HB1.out) (Nat.le_trans hB HB1.out.size))
  have HBG := Aside0.mk hbg
  have HBR := Aside0.mk hbr
  have HO := Aside0.mk ho
  clear hq hr hB hbg hbr
  unfold rFix
  generalize hqq : r.take bs _ _ = qq at C ⊢
  obtain ⟨v, r2⟩ := qq
  simp only [encS] at C ⊢
  clear hqq
  go_enter Try.func53, Try.ntmps53
  go_wp2_with (go_at_call 110; refine C.out.mono ?_; rintro e w1 ⟨rfl, R1, f1⟩; have HR1 := Aside0.mk R1; have hq1 := f1.blk HQ.out HBG.out; have hc1 : _ = some (cs[o]'HO.out) := (blk_cell hq1 o).trans (Array.getElem?_eq_getElem HO.out); have hz1 := blk_frozen hq1 o; have HQ1 := Aside0.mk hq1; have HF1 := Aside0.mk f1; clear R1 hq1 f1)
  go_end0
  have hf2 := (Fr.refl (fun i => i = g ∨ i = bt) w1).set_ (p := ⟨bt, o, none⟩) (.inl (.inr rfl)) (.string (strOfNums v))
  refine ⟨rfl, HR1.out.keep ((Fr.refl (fun i => i = bt) w1).set_ (p := ⟨bt, o, none⟩) (.inl rfl) _) (fun e => HBG.out e.symm) (fun k hk e => HBR.out (by rw [hk, e])), blk_put HQ1.out o _ rfl, ((Fr.of_below HB1.out).trans (HF1.out.mono (S' := fun i => i = g ∨ i = bt) (fun i _ h => .inl h)) (fun _ _ h => h)).trans hf2 (fun _ _ h => h)⟩
/-- numbers, laid down one behind the other -/
def readN (bs : List Int) (r : RS) (cs : Array Value) (os : List Nat) (size : Int) : RS × Array Value := os.foldl (fun p o => ((rNum bs p.1 size).2, p.2.setIfInBounds o (.int .i64 (rNum bs p.1 size).1))) (r, cs)
theorem readN_snoc (os : List Nat) (o : Nat) (size : Int) : readN bs r cs (os ++ [o]) size = ((rNum bs (readN bs r cs os size).1 size).2, (readN bs r cs os size).2.setIfInBounds o (.int .i64 (rNum bs (readN bs r cs os size).1 size).1)) := by simp [readN]
theorem readN_size (os : List Nat) (size : Int) : (readN bs r cs os size).2.size = cs.size := by
  unfold readN
  suffices h : ∀ (p : RS × Array Value), (os.foldl (fun p o => ((rNum bs p.1 size).2, p.2.setIfInBounds o (.int .i64 (rNum bs p.1 size).1))) p).2.size = p.2.size from h (r, cs)
  induction os with
  | nil => intro p; rfl
  | cons o l ih => intro p; rw [List.foldl_cons, ih]; simp
set_option maxHeartbeats 3200000 in
set_option maxRecDepth 100000 in
theorem number_r (size : Int) (ad : Addr) (c : Nat) (os : List Nat) (hos : ∀ o ∈ os, o < cs.size) (hcl : os.length ≤ 1000)
    (hp : ∀ i, (hi : i < os.length) → w.cell? (ad.add i) = some (.pointer (some ⟨bt, os[i], none⟩)) ∧ ad.block ≠ g ∧ ad.block ≠ bt)
    (hq : w.heap[bt]? = some (.cells cs T (0, 0))) (h1 : T ≠ 202) (h2 : T ≠ 5) (hr : Rd w B g ro bs r) (hB : B ≤ w.heap.size) :
    Calls Try.prog 54 #[.agg #[.pointer none, .pointer (some ⟨g, 0, none⟩)], .int .i64 size, .slice (some ad) os.length c] w (SPost B g ro bs bt T (readN bs r cs os size).2 (readN bs r cs os size).1 w) := by
  obtain ⟨hbg, hbr⟩ := hr.ne_ hq h1 h2
  have HB1 := Aside0.mk (below1 (w := w) (.cells #[.pointer none, .pointer (some ⟨g, 0, none⟩)] 97))
  have HQ := Aside0.mk ((Fr.of_below (S := fun _ => False) HB1.out).blk hq (fun h => h))
  have HR := Aside0.mk (hr.below HB1.out)
  have HB := Aside0.mk (Nat.le_trans hB HB1.out.size)
  have HBG := Aside0.mk hbg
  have HBR := Aside0.mk hbr
  have HOS := Aside0.mk hos
  have hbx := heap_alloc_new w (.cells #[.pointer none, .pointer (some ⟨g, 0, none⟩)] 97)
  have hgl := hr.lt
  have hbl := blk_lt hq
  have HK : Aside0 (∀ W, Fr (fun i => i = g ∨ i = bt) (w.alloc (.cells #[.pointer none, .pointer (some ⟨g, 0, none⟩)] 97)) W → W.cell? ⟨w.heap.size, 1, none⟩ = some (.pointer (some ⟨g, 0, none⟩)) ∧ W.cell? ⟨w.heap.size, 0, none⟩ = some (.pointer none) ∧ ∀ i, (hi : i < os.length) → W.cell? (ad.add i) = some (.pointer (some ⟨bt, os[i], none⟩))) := ⟨fun W hf => by
    have hx := hf.blk hbx (by rintro (e | e) <;> omega)
    refine ⟨(blk_cell hx 1).trans rfl, (blk_cell hx 0).trans rfl, fun i hi => ?_⟩
    obtain ⟨a1, a2, a3⟩ := hp i hi
    have l1 := World.block_lt_of_cell? w _ a1
    rw [add_block] at l1
    have hsz := HB1.out.size
    rw [World.cell?_of_block (w := w.alloc (.cells #[.pointer none, .pointer (some ⟨g, 0, none⟩)] 97)) (by rw [add_block]; exact hf.block _ (by omega) (by rintro (e | e) <;> contradiction))]
    exact (World.cell?_alloc_lt w _ _ (by rw [add_block]; exact l1)).trans a1⟩
  clear hq hr hB hbg hbr hp hos hbx hgl hbl
  go_enter Try.func54, Try.ntmps54
  go_wp2
  generalize hW1 : w.alloc (.cells #[.pointer none, .pointer (some ⟨g, 0, none⟩)] 97) = W1 at *
  generalize hgb : w.heap.size = gb at HK ⊢
  clear hgb
  go_loopg [7, 10] os.length (fun gg s7 s10 wr => ∃ kk : Nat, kk ≤ os.length ∧ os.length - kk ≤ gg ∧ s10 = .int .i64 kk ∧ Aside0 (Rd wr B g ro bs (readN bs r cs (os.take kk) size).1) ∧ Aside0 (wr.heap[bt]? = some (.cells (readN bs r cs (os.take kk) size).2 T (0, 0))) ∧ Aside0 (Fr (fun i => i = g ∨ i = bt) W1 wr))
  case atStart => exact ⟨0, by omega, by omega, rfl, HR, HQ, ⟨Fr.refl _ _⟩⟩
  case round =>
    obtain ⟨kk, hkk, hgg, rfl, HR2, HQ2, HF2⟩ := hrel
    clear HR HQ
    by_cases hlt : kk < os.length
    · have hltz : (kk : Int) < (os.length : Int) := by omega
      obtain ⟨hbox, hbox0, hcs⟩ := HK.out _ HF2.out
      have hc1 := hcs kk hlt
      clear hcs
      have hon := HOS.out os[kk] (List.getElem_mem hlt)
      have hsz := readN_size (bs := bs) (r := r) (cs := cs) (os.take kk) size
      have HTK := Aside0.mk (show readN bs r cs (os.take (kk + 1)) size = _ from by rw [List.take_succ_eq_append_getElem hlt, readN_snoc])
      have C := Aside0.mk (rNumber_calls size HR2.out (Nat.le_trans HB.out HF2.out.size))
      rw [← hsz] at hon
      have HON := Aside0.mk hon
      clear hon hsz
      unfold rNum at HTK
      generalize os[kk] = o at *
      generalize hrn : readN bs r cs (os.take kk) size = p at C HTK HQ2 HR2 HON
      clear hrn
      obtain ⟨r1, cs1⟩ := p
      simp only at C HTK HQ2 HR2 HON
      generalize r1.take bs _ _ = qq at C HTK
      obtain ⟨v, r2⟩ := qq
      simp only at C HTK
      go_wp2_with (go_at_call 112; refine C.out.mono ?_; rintro e w1 ⟨rfl, R1, f1⟩; have HR1 := Aside0.mk R1; have hq1 := f1.blk HQ2.out HBG.out; have hcc : _ = some (cs1[o]'HON.out) := (blk_cell hq1 o).trans (Array.getElem?_eq_getElem HON.out); have hz1 := blk_frozen hq1 o; have HQ1 := Aside0.mk hq1; have HF1 := Aside0.mk f1; clear R1 hq1 f1)
      go_roundg (os.length - (kk + 1))
      case measure => omega
      case rel =>
        refine ⟨kk + 1, by omega, by omega, by go_num, ⟨?_⟩, ⟨?_⟩, ⟨?_⟩⟩
        · rw [HTK.out]
          exact HR1.out.keep ((Fr.refl (fun i => i = bt) w1).set_ (p := ⟨bt, o, none⟩) (.inl rfl) _) (fun e => HBG.out e.symm) (fun k hk e => HBR.out (by rw [hk, e]))
        · rw [HTK.out]
          exact blk_put HQ1.out o _ rfl
        · exact ((HF2.out.trans (HF1.out.mono (S' := fun i => i = g ∨ i = bt) (fun i _ h => .inl h)) (fun _ _ h => h))).set_ (p := ⟨bt, o, none⟩) (.inl (.inr rfl)) _
    · have hltz : ¬ (kk : Int) < (os.length : Int) := by omega
      have hke : os.take kk = os := List.take_of_length_le (by omega)
      rw [hke] at HR2 HQ2
      clear hke
      go_wp2
      go_end0
      exact ⟨rfl, HR2.out, HQ2.out, (Fr.of_below HB1.out).trans HF2.out (fun _ _ h => h)⟩
end
end Go.Proofs.Ytgmbfecfkdbfaaa.Wi
/- A tap's pieces in their order: both ways. -/
set_option linter.unusedVariables false
set_option linter.unusedSimpArgs false
namespace Go.Proofs.Ytgmbfecfkdbfaaa.Wi
open Go Go.RowKit Go.Proofs.YtgmbfecfkdbfaaaW.PrintWords
section
variable {W1 W W' : World} {B g : Nat} {ro : Option Nat} {s : WS} {bs : List Int} {r : RS} {bt : Nat} {cs : Array Value} {T : TypeId}
/-- a record half put -/
def OW (W1 W : World) (B g : Nat) (ro : Option Nat) (s : WS) : Prop := B ≤ W1.heap.size ∧ ∃ ro', Wr W B g ro' s ∧ (ro' = ro ∨ ∃ b, ro' = some b ∧ W1.heap.size ≤ b) ∧ Fr (WrS g ro) W1 W
theorem OW.then_ (h : OW W1 W B g ro s) (hb : Below W.heap.size W W') : OW W1 W' B g ro s := by
  obtain ⟨h0, ro', h1, h2, h3⟩ := h
  exact ⟨h0, ro', h1.below hb, h2, h3.then_below hb⟩
theorem OW.fr (h : OW W1 W B g ro s) : Fr (WrS g ro) W1 W := by
  obtain ⟨_, ro', h1, h2, h3⟩ := h
  exact h3
theorem OW.post (h : OW W1 W B g ro s) {s' : WS} {e : Ending} (ro' : Option Nat) (hr : ro' = ro ∨ ∃ b, ro' = some b ∧ W1.heap.size ≤ b) (hP : WPost B g ro' s' W e W') : e = .returned (.tuple #[]) ∧ OW W1 W' B g ro s' := by
  obtain ⟨he, ro2, hw2, hgr2, hf2⟩ := hP
  have hf := h.fr
  refine ⟨he, h.1, ro2, hw2, ?_, hf.trans hf2 (fun i hi hs => ?_)⟩
  · rcases hgr2 with h | ⟨b, h, hb⟩
    · rw [h]; exact hr
    · exact .inr ⟨b, h, Nat.le_trans hf.size hb⟩
  · rcases hs with e | e
    · exact .inl e
    · rcases hr with h | ⟨b, h, hb⟩
      · exact .inr (by rw [← h, e])
      · rw [h] at e
        obtain rfl := Option.some.inj e
        omega
theorem OW.cell (h : OW W1 W B g ro s) {p : Addr} {v : Value} (hp : W1.cell? p = some v) (hg : p.block ≠ g) (hr : ro ≠ some p.block) : W.cell? p = some v := by
  rw [World.cell?_of_block (w := W1) (h.fr.block _ (World.block_lt_of_cell? W1 _ hp) (fun hs => hs.elim hg hr))]
  exact hp
theorem OW.number (h : OW W1 W B g ro s) (k : Nat) (n size : Int) (hk : W1.cell? ⟨bt, k, none⟩ = some (.int .i64 n)) (hn : n ≤ 9223372036854775807) (hg : bt ≠ g) (hr : ro ≠ some bt) (hl : s.xs.length ≤ 100000000000) :
    Calls Try.prog 54 #[.agg #[.pointer (some ⟨g, 0, none⟩), .pointer none], .int .i64 size, .slice (some ⟨W.heap.size, 0, none⟩) 1 1] (W.alloc (.cells #[.pointer (some ⟨bt, k, none⟩)] 101)) fun e W' => e = .returned (.tuple #[]) ∧ OW W1 W' B g ro (s.put (pNumber n size)) := by
  have hb := below1 (w := W) (.cells #[.pointer (some ⟨bt, k, none⟩)] 101)
  have h2 := h.then_ hb
  have hq := heap_alloc_new W (.cells #[.pointer (some ⟨bt, k, none⟩)] 101)
  have hc := h2.cell hk hg hr
  have hbl : bt < W1.heap.size := World.block_lt_of_cell? W1 _ hk
  obtain ⟨h0, ro', hw', hr', hf'⟩ := h
  have hw2 := hw'.below hb
  have hgl := hw'.lt
  have hrl := hw'.ro_lt
  have hro : ro' ≠ some bt := by
    rintro rfl
    rcases hr' with h | ⟨b, h, h3⟩
    · exact hr h.symm
    · have := Option.some.inj h
      omega
  have C := number_w size ⟨W.heap.size, 0, none⟩ 1 [⟨bt, k, none⟩] [n] rfl (fun m hm => by rw [List.mem_singleton.1 hm]; exact hn) (by simp)
    (fun i hi => by
      have hi0 : i = 0 := by simp at hi; exact hi
      subst hi0
      refine ⟨(blk_cell hq 0).trans rfl, by show W.heap.size ≠ g; omega, fun e => ?_⟩
      have := (hrl _ e).2
      simp only at this
      omega)
    (fun i hi hj => by
      have hi0 : i = 0 := by simp at hi; exact hi
      subst hi0
      exact ⟨hc, hg, hro⟩) hw2 (Nat.le_trans h0 (Nat.le_trans hf'.size hb.size)) hl
  exact C.mono fun e W' hP => OW.post h2 ro' hr' hP
theorem OW.token (h : OW W1 W B g ro s) (k : Nat) (y : ByteArray) (hk : W1.cell? ⟨bt, k, none⟩ = some (.string y)) (hy : y.size ≤ 9223372036854775807) (hg : bt ≠ g) (hr : ro ≠ some bt) (hl : (s.put (pFixed y 8)).xs.length ≤ 140737488355328) :
    Calls Try.prog 53 #[.agg #[.pointer (some ⟨g, 0, none⟩), .pointer none], .pointer (some ⟨bt, k, none⟩)] W fun e W' => e = .returned (.tuple #[]) ∧ OW W1 W' B g ro (s.put (pFixed y 8)) := by
  have hc := h.cell hk hg hr
  have h' := h
  have hbl : bt < W1.heap.size := World.block_lt_of_cell? W1 _ hk
  obtain ⟨h0, ro', hw', hr', hf'⟩ := h
  have hro : ro' ≠ some bt := by
    rintro rfl
    rcases hr' with h | ⟨b, h, h3⟩
    · exact hr h.symm
    · have := Option.some.inj h
      omega
  exact (token_w bt k y hy hc hg hro hw' (Nat.le_trans h0 hf'.size) hl).mono fun e W' hP => OW.post h' ro' hr' hP
/-- a record half read -/
structure OR_ (W1 W : World) (B g : Nat) (ro : Option Nat) (bs : List Int) (bt : Nat) (T : TypeId) (cs : Array Value) (r : RS) : Prop where
  base : B ≤ W1.heap.size
  rd_ : Rd W B g ro bs r
  blk : W.heap[bt]? = some (.cells cs T (0, 0))
  fr : Fr (fun i => i = g ∨ i = bt) W1 W
theorem OR_.then_ (h : OR_ W1 W B g ro bs bt T cs r) (hb : Below W.heap.size W W') : OR_ W1 W' B g ro bs bt T cs r :=
  ⟨h.base, h.rd_.below hb, (Fr.of_below (S := fun _ => False) hb).blk h.blk (fun h => h), h.fr.then_below hb⟩
theorem OR_.number (h : OR_ W1 W B g ro bs bt T cs r) (k : Nat) (size : Int) (hk : k < cs.size) (h1 : T ≠ 202) (h2 : T ≠ 5) :
    Calls Try.prog 54 #[.agg #[.pointer none, .pointer (some ⟨g, 0, none⟩)], .int .i64 size, .slice (some ⟨W.heap.size, 0, none⟩) 1 1] (W.alloc (.cells #[.pointer (some ⟨bt, k, none⟩)] 101)) fun e W' => e = .returned (.tuple #[]) ∧ OR_ W1 W' B g ro bs bt T (cs.setIfInBounds k (.int .i64 (rNum bs r size).1)) (rNum bs r size).2 := by
  have hb := below1 (w := W) (.cells #[.pointer (some ⟨bt, k, none⟩)] 101)
  have hq := heap_alloc_new W (.cells #[.pointer (some ⟨bt, k, none⟩)] 101)
  have h3 := h.then_ hb
  have hgl := h.rd_.lt
  have hbl := blk_lt h.blk
  have C := number_r size ⟨W.heap.size, 0, none⟩ 1 [k] (fun o ho => by rw [List.mem_singleton.1 ho]; exact hk) (by simp)
    (fun i hi => by
      have hi0 : i = 0 := by simp at hi; exact hi
      subst hi0
      exact ⟨(blk_cell hq 0).trans rfl, by show W.heap.size ≠ g; omega, by show W.heap.size ≠ bt; omega⟩) h3.blk h1 h2 h3.rd_ (Nat.le_trans h.base (Nat.le_trans h.fr.size hb.size))
  exact C.mono fun e W' ⟨he, hr, hq, hf⟩ => ⟨he, h.base, hr, hq, h3.fr.trans hf (fun _ _ h => h)⟩
theorem OR_.token (h : OR_ W1 W B g ro bs bt T cs r) (k : Nat) (hk : k < cs.size) (h1 : T ≠ 202) (h2 : T ≠ 5) :
    Calls Try.prog 53 #[.agg #[.pointer none, .pointer (some ⟨g, 0, none⟩)], .pointer (some ⟨bt, k, none⟩)] W fun e W' => e = .returned (.tuple #[]) ∧ OR_ W1 W' B g ro bs bt T (cs.setIfInBounds k (.string (strOfNums (rFix bs r 8).1))) (rFix bs r 8).2 :=
  (token_r k hk h.blk h1 h2 h.rd_ (Nat.le_trans h.base h.fr.size)).mono fun e W' ⟨he, hr, hq, hf⟩ => ⟨he, h.base, hr, hq, h.fr.trans hf (fun _ _ h => h)⟩
end
end Go.Proofs.Ytgmbfecfkdbfaaa.Wi
/- A tap's pieces in their order, put. -/
set_option linter.unusedVariables false
set_option linter.unusedSimpArgs false
namespace Go.Proofs.Ytgmbfecfkdbfaaa.Wi
open Go Go.RowKit Go.Proofs.YtgmbfecfkdbfaaaW.PrintWords
/-- what a tap is put as -/
def tapW (s : WS) (n0 n1 : Int) (y : ByteArray) (n3 n4 n5 : Int) : WS := (((((s.put (pNumber n0 2)).put (pNumber n1 4)).put (pFixed y 8)).put (pNumber n3 1)).put (pNumber n4 2)).put (pNumber n5 4)
theorem putNum_len (s : WS) (n size : Int) : (s.put (pNumber n size)).xs.length ≤ s.xs.length + 65537 := put_len s _ (fun ys h => Nat.le_trans (pNumber_len h) (by omega))
theorem putFix_len (s : WS) (y : ByteArray) : (s.put (pFixed y 8)).xs.length ≤ s.xs.length + 65537 := put_len s _ (fun ys h => by
  unfold pFixed at h
  split at h
  · rename_i hc
    obtain rfl := Option.some.inj h
    rw [strBytes_length]
    unfold fixedB at hc
    simp only [Bool.and_eq_true, decide_eq_true_eq, beq_iff_eq] at hc
    omega
  · cases h)
set_option maxHeartbeats 8000000 in
set_option maxRecDepth 100000 in
theorem overTap_w {w : World} {B g : Nat} {ro : Option Nat} {s : WS} {bt : Nat} (n0 n1 : Int) (y : ByteArray) (n3 n4 n5 : Int) (hq : w.heap[bt]? = some (.cells #[.int .i64 n0, .int .i64 n1, .string y, .int .i64 n3, .int .i64 n4, .int .i64 n5] 23 (0, 0)))
    (h0 : n0 ≤ 9223372036854775807) (h1 : n1 ≤ 9223372036854775807) (hy : y.size ≤ 9223372036854775807) (h3 : n3 ≤ 9223372036854775807) (h4 : n4 ≤ 9223372036854775807) (h5 : n5 ≤ 9223372036854775807)
    (hg : bt ≠ g) (hr : ro ≠ some bt) (hw : Wr w B g ro s) (hB : B ≤ w.heap.size) (hl : s.xs.length ≤ 90000000000) :
    Calls Try.prog 41 #[.agg #[.pointer (some ⟨g, 0, none⟩), .pointer none], .pointer (some ⟨bt, 0, none⟩)] w (WPost B g ro (tapW s n0 n1 y n3 n4 n5) w) := by
  have HB1 := Aside0.mk (below1 (w := w) (.cells #[.pointer (some ⟨g, 0, none⟩), .pointer none] 97))
  have hbx := heap_alloc_new w (.cells #[.pointer (some ⟨g, 0, none⟩), .pointer none] 97)
  have hq1 := (Fr.of_below (S := fun _ => False) HB1.out).blk hq (fun h => h)
  have H0 := Aside0.mk (show OW (w.alloc (.cells #[.pointer (some ⟨g, 0, none⟩), .pointer none] 97)) (w.alloc (.cells #[.pointer (some ⟨g, 0, none⟩), .pointer none] 97)) B g ro s from ⟨Nat.le_trans hB HB1.out.size, ro, hw.below HB1.out, .inl rfl, Fr.refl _ _⟩)
  have hgl := hw.lt
  have hrl := hw.ro_lt
  have c0 : (w.alloc (.cells #[.pointer (some ⟨g, 0, none⟩), .pointer none] 97)).cell? ⟨bt, 0, none⟩ = some (Value.int .i64 n0) := blk_cell hq1 0
  have c1 : (w.alloc (.cells #[.pointer (some ⟨g, 0, none⟩), .pointer none] 97)).cell? ⟨bt, 1, none⟩ = some (Value.int .i64 n1) := blk_cell hq1 1
  have c2 : (w.alloc (.cells #[.pointer (some ⟨g, 0, none⟩), .pointer none] 97)).cell? ⟨bt, 2, none⟩ = some (Value.string y) := blk_cell hq1 2
  have c3 : (w.alloc (.cells #[.pointer (some ⟨g, 0, none⟩), .pointer none] 97)).cell? ⟨bt, 3, none⟩ = some (Value.int .i64 n3) := blk_cell hq1 3
  have c4 : (w.alloc (.cells #[.pointer (some ⟨g, 0, none⟩), .pointer none] 97)).cell? ⟨bt, 4, none⟩ = some (Value.int .i64 n4) := blk_cell hq1 4
  have c5 : (w.alloc (.cells #[.pointer (some ⟨g, 0, none⟩), .pointer none] 97)).cell? ⟨bt, 5, none⟩ = some (Value.int .i64 n5) := blk_cell hq1 5
  have HC := Aside0.mk (And.intro c0 (And.intro c1 (And.intro c2 (And.intro c3 (And.intro c4 c5)))))
  have HK : Aside0 (∀ W, Fr (WrS g ro) (w.alloc (.cells #[.pointer (some ⟨g, 0, none⟩), .pointer none] 97)) W → W.cell? ⟨w.heap.size, 0, none⟩ = some (.pointer (some ⟨g, 0, none⟩)) ∧ W.cell? ⟨w.heap.size, 1, none⟩ = some (.pointer none)) := ⟨fun W hf => by
    have hx := hf.blk hbx (by
      rintro (e | e)
      · omega
      · have := (hrl _ e).2
        omega)
    exact ⟨(blk_cell hx 0).trans rfl, (blk_cell hx 1).trans rfl⟩⟩
  have L0 := putNum_len s n0 2
  have L1 := putNum_len (s.put (pNumber n0 2)) n1 4
  have L2 := putFix_len ((s.put (pNumber n0 2)).put (pNumber n1 4)) y
  have L3 := putNum_len (((s.put (pNumber n0 2)).put (pNumber n1 4)).put (pFixed y 8)) n3 1
  have L4 := putNum_len ((((s.put (pNumber n0 2)).put (pNumber n1 4)).put (pFixed y 8)).put (pNumber n3 1)) n4 2
  have HL := Aside0.mk (And.intro hl (And.intro L0 (And.intro L1 (And.intro L2 (And.intro L3 L4)))))
  unfold tapW
  clear hq hw hB hbx hq1 hgl hrl c0 c1 c2 c3 c4 c5 L0 L1 L2 L3 L4 hl
  go_enter Try.func41, Try.ntmps41
  go_wp2
  generalize hW1 : w.alloc (.cells #[.pointer (some ⟨g, 0, none⟩), .pointer none] 97) = W1 at *
  generalize hgb : w.heap.size = gb at HK ⊢
  clear hgb
  have HS0 := Aside0.mk (HK.out _ H0.out.fr)
  have HS0 := Aside0.mk (show (W1).drew.cell? ⟨gb, 0, none⟩ = _ ∧ (W1).drew.cell? ⟨gb, 1, none⟩ = _ from HS0.out)
  refine YtgmbfecfkdbfaaaG.wp_region_door 99 YtgmbfecfkdbfaaaG.keepT (fun _ _ => False) (fun W => W.cell? ⟨gb, 0, none⟩ = some (.pointer (some ⟨g, 0, none⟩)) ∧ W.cell? ⟨gb, 1, none⟩ = some (.pointer none)) (by kernel_rfl) trivial (fun _ _ _ _ h => h.elim) ?_
  refine YtgmbfecfkdbfaaaG.wpAnyG_take 0 (v := .agg #[.pointer (some ⟨g, 0, none⟩), .pointer none]) rfl (by kernel_rfl) (by kernel_rfl) (by kernel_rfl) (by kernel_rfl) (by decide) (fun a u => YtgmbfecfkdbfaaaG.keepT_put a u) HS0.out trivial (by rfl) (by rintro W ⟨h0, h1⟩; go_simp; done) ?_
  try simp only [Act.put, List.getElem_toArray, List.getElem_cons_zero, List.getElem_cons_succ, List.setIfInBounds_toArray, List.set_cons_zero, List.set_cons_succ]
  refine YtgmbfecfkdbfaaaG.wpAnyG_take 1 (v := .pointer (some ⟨bt, 0, none⟩)) rfl (by kernel_rfl) (by kernel_rfl) (by kernel_rfl) (by kernel_rfl) (by decide) (fun a u => YtgmbfecfkdbfaaaG.keepT_put a u) HS0.out trivial (by rfl) (by rintro W ⟨h0, h1⟩; go_simp; done) ?_
  try simp only [Act.put, List.getElem_toArray, List.getElem_cons_zero, List.getElem_cons_succ, List.setIfInBounds_toArray, List.set_cons_zero, List.set_cons_succ]
  refine YtgmbfecfkdbfaaaG.wpAnyG_take 2 (v := .pointer (some ⟨bt, 0, none⟩)) rfl (by kernel_rfl) (by kernel_rfl) (by kernel_rfl) (by kernel_rfl) (by decide) (fun a u => YtgmbfecfkdbfaaaG.keepT_put a u) HS0.out trivial (by rfl) (by rintro W ⟨h0, h1⟩; go_simp; done) ?_
  try simp only [Act.put, List.getElem_toArray, List.getElem_cons_zero, List.getElem_cons_succ, List.setIfInBounds_toArray, List.set_cons_zero, List.set_cons_succ]
  refine YtgmbfecfkdbfaaaG.wpAnyG_take 3 (v := .pointer (some ⟨bt, 0, none⟩)) rfl (by kernel_rfl) (by kernel_rfl) (by kernel_rfl) (by kernel_rfl) (by decide) (fun a u => YtgmbfecfkdbfaaaG.keepT_put a u) HS0.out trivial (by rfl) (by rintro W ⟨h0, h1⟩; go_simp; done) ?_
  try simp only [Act.put, List.getElem_toArray, List.getElem_cons_zero, List.getElem_cons_succ, List.setIfInBounds_toArray, List.set_cons_zero, List.set_cons_succ]
  have HD0 := Aside0.mk (H0.out.then_ (Below.refl _ _).drew)
  refine YtgmbfecfkdbfaaaG.wpAnyG_one 4 rfl (by kernel_rfl) (by rfl) (fun K hK => ?_)
  go_simp
  refine hK _ _ (HK.out _ (HD0.out.then_ (below1 _)).fr) trivial ?_
  try simp only [Act.put, List.getElem_toArray, List.getElem_cons_zero, List.getElem_cons_succ, List.setIfInBounds_toArray, List.set_cons_zero, List.set_cons_succ]
  clear hK K
  refine YtgmbfecfkdbfaaaG.wpAnyG_one 5 rfl (by kernel_rfl) (by rfl) (fun K hK => ?_)
  go_simp
  refine (OW.number HD0.out 0 n0 2 HC.out.1 h0 hg hr (by have := HL.out; omega)).mono ?_
  rintro e w1 ⟨rfl, H1'⟩
  have H1 := Aside0.mk H1'
  clear H1'
  refine hK _ _ (HK.out _ H1.out.fr) trivial ?_
  try simp only [Act.put, List.getElem_toArray, List.getElem_cons_zero, List.getElem_cons_succ, List.setIfInBounds_toArray, List.set_cons_zero, List.set_cons_succ]
  clear hK K HS0
  refine YtgmbfecfkdbfaaaG.wpAnyG_done (by kernel_rfl) ?_ _
  go_wp2
  have HS0 := Aside0.mk (HK.out _ H1.out.fr)
  have HS0 := Aside0.mk (show (w1).drew.cell? ⟨gb, 0, none⟩ = _ ∧ (w1).drew.cell? ⟨gb, 1, none⟩ = _ from HS0.out)
  refine YtgmbfecfkdbfaaaG.wp_region_door 99 YtgmbfecfkdbfaaaG.keepT (fun _ _ => False) (fun W => W.cell? ⟨gb, 0, none⟩ = some (.pointer (some ⟨g, 0, none⟩)) ∧ W.cell? ⟨gb, 1, none⟩ = some (.pointer none)) (by kernel_rfl) trivial (fun _ _ _ _ h => h.elim) ?_
  refine YtgmbfecfkdbfaaaG.wpAnyG_take 0 (v := .agg #[.pointer (some ⟨g, 0, none⟩), .pointer none]) rfl (by kernel_rfl) (by kernel_rfl) (by kernel_rfl) (by kernel_rfl) (by decide) (fun a u => YtgmbfecfkdbfaaaG.keepT_put a u) HS0.out trivial (by rfl) (by rintro W ⟨h0, h1⟩; go_simp; done) ?_
  try simp only [Act.put, List.getElem_toArray, List.getElem_cons_zero, List.getElem_cons_succ, List.setIfInBounds_toArray, List.set_cons_zero, List.set_cons_succ]
  refine YtgmbfecfkdbfaaaG.wpAnyG_take 1 (v := .pointer (some ⟨bt, 0, none⟩)) rfl (by kernel_rfl) (by kernel_rfl) (by kernel_rfl) (by kernel_rfl) (by decide) (fun a u => YtgmbfecfkdbfaaaG.keepT_put a u) HS0.out trivial (by rfl) (by rintro W ⟨h0, h1⟩; go_simp; done) ?_
  try simp only [Act.put, List.getElem_toArray, List.getElem_cons_zero, List.getElem_cons_succ, List.setIfInBounds_toArray, List.set_cons_zero, List.set_cons_succ]
  refine YtgmbfecfkdbfaaaG.wpAnyG_take 2 (v := .pointer (some ⟨bt, 0, none⟩)) rfl (by kernel_rfl) (by kernel_rfl) (by kernel_rfl) (by kernel_rfl) (by decide) (fun a u => YtgmbfecfkdbfaaaG.keepT_put a u) HS0.out trivial (by rfl) (by rintro W ⟨h0, h1⟩; go_simp; done) ?_
  try simp only [Act.put, List.getElem_toArray, List.getElem_cons_zero, List.getElem_cons_succ, List.setIfInBounds_toArray, List.set_cons_zero, List.set_cons_succ]
  refine YtgmbfecfkdbfaaaG.wpAnyG_take 3 (v := .pointer (some ⟨bt, 1, none⟩)) rfl (by kernel_rfl) (by kernel_rfl) (by kernel_rfl) (by kernel_rfl) (by decide) (fun a u => YtgmbfecfkdbfaaaG.keepT_put a u) HS0.out trivial (by rfl) (by rintro W ⟨h0, h1⟩; go_simp; done) ?_
  try simp only [Act.put, List.getElem_toArray, List.getElem_cons_zero, List.getElem_cons_succ, List.setIfInBounds_toArray, List.set_cons_zero, List.set_cons_succ]
  have HD1 := Aside0.mk (H1.out.then_ (Below.refl _ _).drew)
  refine YtgmbfecfkdbfaaaG.wpAnyG_one 4 rfl (by kernel_rfl) (by rfl) (fun K hK => ?_)
  go_simp
  refine hK _ _ (HK.out _ (HD1.out.then_ (below1 _)).fr) trivial ?_
  try simp only [Act.put, List.getElem_toArray, List.getElem_cons_zero, List.getElem_cons_succ, List.setIfInBounds_toArray, List.set_cons_zero, List.set_cons_succ]
  clear hK K
  refine YtgmbfecfkdbfaaaG.wpAnyG_one 5 rfl (by kernel_rfl) (by rfl) (fun K hK => ?_)
  go_simp
  refine (OW.number HD1.out 1 n1 4 HC.out.2.1 h1 hg hr (by have := HL.out; omega)).mono ?_
  rintro e w2 ⟨rfl, H2'⟩
  have H2 := Aside0.mk H2'
  clear H2'
  refine hK _ _ (HK.out _ H2.out.fr) trivial ?_
  try simp only [Act.put, List.getElem_toArray, List.getElem_cons_zero, List.getElem_cons_succ, List.setIfInBounds_toArray, List.set_cons_zero, List.set_cons_succ]
  clear hK K HS0
  refine YtgmbfecfkdbfaaaG.wpAnyG_done (by kernel_rfl) ?_ _
  go_wp2
  have HS0 := Aside0.mk (HK.out _ H2.out.fr)
  have HS0 := Aside0.mk (show (w2).drew.cell? ⟨gb, 0, none⟩ = _ ∧ (w2).drew.cell? ⟨gb, 1, none⟩ = _ from HS0.out)
  refine YtgmbfecfkdbfaaaG.wp_region_door 99 YtgmbfecfkdbfaaaG.keepT (fun _ _ => False) (fun W => W.cell? ⟨gb, 0, none⟩ = some (.pointer (some ⟨g, 0, none⟩)) ∧ W.cell? ⟨gb, 1, none⟩ = some (.pointer none)) (by kernel_rfl) trivial (fun _ _ _ _ h => h.elim) ?_
  refine YtgmbfecfkdbfaaaG.wpAnyG_take 0 (v := .agg #[.pointer (some ⟨g, 0, none⟩), .pointer none]) rfl (by kernel_rfl) (by kernel_rfl) (by kernel_rfl) (by kernel_rfl) (by decide) (fun a u => YtgmbfecfkdbfaaaG.keepT_put a u) HS0.out trivial (by rfl) (by rintro W ⟨h0, h1⟩; go_simp; done) ?_
  try simp only [Act.put, List.getElem_toArray, List.getElem_cons_zero, List.getElem_cons_succ, List.setIfInBounds_toArray, List.set_cons_zero, List.set_cons_succ]
  refine YtgmbfecfkdbfaaaG.wpAnyG_take 1 (v := .pointer (some ⟨bt, 0, none⟩)) rfl (by kernel_rfl) (by kernel_rfl) (by kernel_rfl) (by kernel_rfl) (by decide) (fun a u => YtgmbfecfkdbfaaaG.keepT_put a u) HS0.out trivial (by rfl) (by rintro W ⟨h0, h1⟩; go_simp; done) ?_
  try simp only [Act.put, List.getElem_toArray, List.getElem_cons_zero, List.getElem_cons_succ, List.setIfInBounds_toArray, List.set_cons_zero, List.set_cons_succ]
  refine YtgmbfecfkdbfaaaG.wpAnyG_take 2 (v := .pointer (some ⟨bt, 0, none⟩)) rfl (by kernel_rfl) (by kernel_rfl) (by kernel_rfl) (by kernel_rfl) (by decide) (fun a u => YtgmbfecfkdbfaaaG.keepT_put a u) HS0.out trivial (by rfl) (by rintro W ⟨h0, h1⟩; go_simp; done) ?_
  try simp only [Act.put, List.getElem_toArray, List.getElem_cons_zero, List.getElem_cons_succ, List.setIfInBounds_toArray, List.set_cons_zero, List.set_cons_succ]
  refine YtgmbfecfkdbfaaaG.wpAnyG_take 3 (v := .pointer (some ⟨bt, 2, none⟩)) rfl (by kernel_rfl) (by kernel_rfl) (by kernel_rfl) (by kernel_rfl) (by decide) (fun a u => YtgmbfecfkdbfaaaG.keepT_put a u) HS0.out trivial (by rfl) (by rintro W ⟨h0, h1⟩; go_simp; done) ?_
  try simp only [Act.put, List.getElem_toArray, List.getElem_cons_zero, List.getElem_cons_succ, List.setIfInBounds_toArray, List.set_cons_zero, List.set_cons_succ]
  have HD2 := Aside0.mk (H2.out.then_ (Below.refl _ _).drew)
  refine YtgmbfecfkdbfaaaG.wpAnyG_one 4 rfl (by kernel_rfl) (by rfl) (fun K hK => ?_)
  go_simp
  refine (OW.token HD2.out 2 y HC.out.2.2.1 hy hg hr (by have := HL.out; omega)).mono ?_
  rintro e w3 ⟨rfl, H3'⟩
  have H3 := Aside0.mk H3'
  clear H3'
  refine hK _ _ (HK.out _ H3.out.fr) trivial ?_
  try simp only [Act.put, List.getElem_toArray, List.getElem_cons_zero, List.getElem_cons_succ, List.setIfInBounds_toArray, List.set_cons_zero, List.set_cons_succ]
  clear hK K HS0
  refine YtgmbfecfkdbfaaaG.wpAnyG_done (by kernel_rfl) ?_ _
  go_wp2
  have HS0 := Aside0.mk (HK.out _ H3.out.fr)
  have HS0 := Aside0.mk (show (w3).drew.cell? ⟨gb, 0, none⟩ = _ ∧ (w3).drew.cell? ⟨gb, 1, none⟩ = _ from HS0.out)
  refine YtgmbfecfkdbfaaaG.wp_region_door 99 YtgmbfecfkdbfaaaG.keepT (fun _ _ => False) (fun W => W.cell? ⟨gb, 0, none⟩ = some (.pointer (some ⟨g, 0, none⟩)) ∧ W.cell? ⟨gb, 1, none⟩ = some (.pointer none)) (by kernel_rfl) trivial (fun _ _ _ _ h => h.elim) ?_
  refine YtgmbfecfkdbfaaaG.wpAnyG_take 0 (v := .agg #[.pointer (some ⟨g, 0, none⟩), .pointer none]) rfl (by kernel_rfl) (by kernel_rfl) (by kernel_rfl) (by kernel_rfl) (by decide) (fun a u => YtgmbfecfkdbfaaaG.keepT_put a u) HS0.out trivial (by rfl) (by rintro W ⟨h0, h1⟩; go_simp; done) ?_
  try simp only [Act.put, List.getElem_toArray, List.getElem_cons_zero, List.getElem_cons_succ, List.setIfInBounds_toArray, List.set_cons_zero, List.set_cons_succ]
  refine YtgmbfecfkdbfaaaG.wpAnyG_take 1 (v := .pointer (some ⟨bt, 0, none⟩)) rfl (by kernel_rfl) (by kernel_rfl) (by kernel_rfl) (by kernel_rfl) (by decide) (fun a u => YtgmbfecfkdbfaaaG.keepT_put a u) HS0.out trivial (by rfl) (by rintro W ⟨h0, h1⟩; go_simp; done) ?_
  try simp only [Act.put, List.getElem_toArray, List.getElem_cons_zero, List.getElem_cons_succ, List.setIfInBounds_toArray, List.set_cons_zero, List.set_cons_succ]
  refine YtgmbfecfkdbfaaaG.wpAnyG_take 2 (v := .pointer (some ⟨bt, 0, none⟩)) rfl (by kernel_rfl) (by kernel_rfl) (by kernel_rfl) (by kernel_rfl) (by decide) (fun a u => YtgmbfecfkdbfaaaG.keepT_put a u) HS0.out trivial (by rfl) (by rintro W ⟨h0, h1⟩; go_simp; done) ?_
  try simp only [Act.put, List.getElem_toArray, List.getElem_cons_zero, List.getElem_cons_succ, List.setIfInBounds_toArray, List.set_cons_zero, List.set_cons_succ]
  refine YtgmbfecfkdbfaaaG.wpAnyG_take 3 (v := .pointer (some ⟨bt, 3, none⟩)) rfl (by kernel_rfl) (by kernel_rfl) (by kernel_rfl) (by kernel_rfl) (by decide) (fun a u => YtgmbfecfkdbfaaaG.keepT_put a u) HS0.out trivial (by rfl) (by rintro W ⟨h0, h1⟩; go_simp; done) ?_
  try simp only [Act.put, List.getElem_toArray, List.getElem_cons_zero, List.getElem_cons_succ, List.setIfInBounds_toArray, List.set_cons_zero, List.set_cons_succ]
  have HD3 := Aside0.mk (H3.out.then_ (Below.refl _ _).drew)
  refine YtgmbfecfkdbfaaaG.wpAnyG_one 4 rfl (by kernel_rfl) (by rfl) (fun K hK => ?_)
  go_simp
  refine hK _ _ (HK.out _ (HD3.out.then_ (below1 _)).fr) trivial ?_
  try simp only [Act.put, List.getElem_toArray, List.getElem_cons_zero, List.getElem_cons_succ, List.setIfInBounds_toArray, List.set_cons_zero, List.set_cons_succ]
  clear hK K
  refine YtgmbfecfkdbfaaaG.wpAnyG_one 5 rfl (by kernel_rfl) (by rfl) (fun K hK => ?_)
  go_simp
  refine (OW.number HD3.out 3 n3 1 HC.out.2.2.2.1 h3 hg hr (by have := HL.out; omega)).mono ?_
  rintro e w4 ⟨rfl, H4'⟩
  have H4 := Aside0.mk H4'
  clear H4'
  refine hK _ _ (HK.out _ H4.out.fr) trivial ?_
  try simp only [Act.put, List.getElem_toArray, List.getElem_cons_zero, List.getElem_cons_succ, List.setIfInBounds_toArray, List.set_cons_zero, List.set_cons_succ]
  clear hK K HS0
  refine YtgmbfecfkdbfaaaG.wpAnyG_done (by kernel_rfl) ?_ _
  go_wp2
  have HS0 := Aside0.mk (HK.out _ H4.out.fr)
  have HS0 := Aside0.mk (show (w4).drew.cell? ⟨gb, 0, none⟩ = _ ∧ (w4).drew.cell? ⟨gb, 1, none⟩ = _ from HS0.out)
  refine YtgmbfecfkdbfaaaG.wp_region_door 99 YtgmbfecfkdbfaaaG.keepT (fun _ _ => False) (fun W => W.cell? ⟨gb, 0, none⟩ = some (.pointer (some ⟨g, 0, none⟩)) ∧ W.cell? ⟨gb, 1, none⟩ = some (.pointer none)) (by kernel_rfl) trivial (fun _ _ _ _ h => h.elim) ?_
  refine YtgmbfecfkdbfaaaG.wpAnyG_take 0 (v := .agg #[.pointer (some ⟨g, 0, none⟩), .pointer none]) rfl (by kernel_rfl) (by kernel_rfl) (by kernel_rfl) (by kernel_rfl) (by decide) (fun a u => YtgmbfecfkdbfaaaG.keepT_put a u) HS0.out trivial (by rfl) (by rintro W ⟨h0, h1⟩; go_simp; done) ?_
  try simp only [Act.put, List.getElem_toArray, List.getElem_cons_zero, List.getElem_cons_succ, List.setIfInBounds_toArray, List.set_cons_zero, List.set_cons_succ]
  refine YtgmbfecfkdbfaaaG.wpAnyG_take 1 (v := .pointer (some ⟨bt, 0, none⟩)) rfl (by kernel_rfl) (by kernel_rfl) (by kernel_rfl) (by kernel_rfl) (by decide) (fun a u => YtgmbfecfkdbfaaaG.keepT_put a u) HS0.out trivial (by rfl) (by rintro W ⟨h0, h1⟩; go_simp; done) ?_
  try simp only [Act.put, List.getElem_toArray, List.getElem_cons_zero, List.getElem_cons_succ, List.setIfInBounds_toArray, List.set_cons_zero, List.set_cons_succ]
  refine YtgmbfecfkdbfaaaG.wpAnyG_take 2 (v := .pointer (some ⟨bt, 0, none⟩)) rfl (by kernel_rfl) (by kernel_rfl) (by kernel_rfl) (by kernel_rfl) (by decide) (fun a u => YtgmbfecfkdbfaaaG.keepT_put a u) HS0.out trivial (by rfl) (by rintro W ⟨h0, h1⟩; go_simp; done) ?_
  try simp only [Act.put, List.getElem_toArray, List.getElem_cons_zero, List.getElem_cons_succ, List.setIfInBounds_toArray, List.set_cons_zero, List.set_cons_succ]
  refine YtgmbfecfkdbfaaaG.wpAnyG_take 3 (v := .pointer (some ⟨bt, 4, none⟩)) rfl (by kernel_rfl) (by kernel_rfl) (by kernel_rfl) (by kernel_rfl) (by decide) (fun a u => YtgmbfecfkdbfaaaG.keepT_put a u) HS0.out trivial (by rfl) (by rintro W ⟨h0, h1⟩; go_simp; done) ?_
  try simp only [Act.put, List.getElem_toArray, List.getElem_cons_zero, List.getElem_cons_succ, List.setIfInBounds_toArray, List.set_cons_zero, List.set_cons_succ]
  have HD4 := Aside0.mk (H4.out.then_ (Below.refl _ _).drew)
  refine YtgmbfecfkdbfaaaG.wpAnyG_one 4 rfl (by kernel_rfl) (by rfl) (fun K hK => ?_)
  go_simp
  refine hK _ _ (HK.out _ (HD4.out.then_ (below1 _)).fr) trivial ?_
  try simp only [Act.put, List.getElem_toArray, List.getElem_cons_zero, List.getElem_cons_succ, List.setIfInBounds_toArray, List.set_cons_zero, List.set_cons_succ]
  clear hK K
  refine YtgmbfecfkdbfaaaG.wpAnyG_one 5 rfl (by kernel_rfl) (by rfl) (fun K hK => ?_)
  go_simp
  refine (OW.number HD4.out 4 n4 2 HC.out.2.2.2.2.1 h4 hg hr (by have := HL.out; omega)).mono ?_
  rintro e w5 ⟨rfl, H5'⟩
  have H5 := Aside0.mk H5'
  clear H5'
  refine hK _ _ (HK.out _ H5.out.fr) trivial ?_
  try simp only [Act.put, List.getElem_toArray, List.getElem_cons_zero, List.getElem_cons_succ, List.setIfInBounds_toArray, List.set_cons_zero, List.set_cons_succ]
  clear hK K HS0
  refine YtgmbfecfkdbfaaaG.wpAnyG_done (by kernel_rfl) ?_ _
  go_wp2
  have HS0 := Aside0.mk (HK.out _ H5.out.fr)
  have HS0 := Aside0.mk (show (w5).drew.cell? ⟨gb, 0, none⟩ = _ ∧ (w5).drew.cell? ⟨gb, 1, none⟩ = _ from HS0.out)
  refine YtgmbfecfkdbfaaaG.wp_region_door 99 YtgmbfecfkdbfaaaG.keepT (fun _ _ => False) (fun W => W.cell? ⟨gb, 0, none⟩ = some (.pointer (some ⟨g, 0, none⟩)) ∧ W.cell? ⟨gb, 1, none⟩ = some (.pointer none)) (by kernel_rfl) trivial (fun _ _ _ _ h => h.elim) ?_
  refine YtgmbfecfkdbfaaaG.wpAnyG_take 0 (v := .agg #[.pointer (some ⟨g, 0, none⟩), .pointer none]) rfl (by kernel_rfl) (by kernel_rfl) (by kernel_rfl) (by kernel_rfl) (by decide) (fun a u => YtgmbfecfkdbfaaaG.keepT_put a u) HS0.out trivial (by rfl) (by rintro W ⟨h0, h1⟩; go_simp; done) ?_
  try simp only [Act.put, List.getElem_toArray, List.getElem_cons_zero, List.getElem_cons_succ, List.setIfInBounds_toArray, List.set_cons_zero, List.set_cons_succ]
  refine YtgmbfecfkdbfaaaG.wpAnyG_take 1 (v := .pointer (some ⟨bt, 0, none⟩)) rfl (by kernel_rfl) (by kernel_rfl) (by kernel_rfl) (by kernel_rfl) (by decide) (fun a u => YtgmbfecfkdbfaaaG.keepT_put a u) HS0.out trivial (by rfl) (by rintro W ⟨h0, h1⟩; go_simp; done) ?_
  try simp only [Act.put, List.getElem_toArray, List.getElem_cons_zero, List.getElem_cons_succ, List.setIfInBounds_toArray, List.set_cons_zero, List.set_cons_succ]
  refine YtgmbfecfkdbfaaaG.wpAnyG_take 2 (v := .pointer (some ⟨bt, 0, none⟩)) rfl (by kernel_rfl) (by kernel_rfl) (by kernel_rfl) (by kernel_rfl) (by decide) (fun a u => YtgmbfecfkdbfaaaG.keepT_put a u) HS0.out trivial (by rfl) (by rintro W ⟨h0, h1⟩; go_simp; done) ?_
  try simp only [Act.put, List.getElem_toArray, List.getElem_cons_zero, List.getElem_cons_succ, List.setIfInBounds_toArray, List.set_cons_zero, List.set_cons_succ]
  refine YtgmbfecfkdbfaaaG.wpAnyG_take 3 (v := .pointer (some ⟨bt, 5, none⟩)) rfl (by kernel_rfl) (by kernel_rfl) (by kernel_rfl) (by kernel_rfl) (by decide) (fun a u => YtgmbfecfkdbfaaaG.keepT_put a u) HS0.out trivial (by rfl) (by rintro W ⟨h0, h1⟩; go_simp; done) ?_
  try simp only [Act.put, List.getElem_toArray, List.getElem_cons_zero, List.getElem_cons_succ, List.setIfInBounds_toArray, List.set_cons_zero, List.set_cons_succ]
  have HD5 := Aside0.mk (H5.out.then_ (Below.refl _ _).drew)
  refine YtgmbfecfkdbfaaaG.wpAnyG_one 4 rfl (by kernel_rfl) (by rfl) (fun K hK => ?_)
  go_simp
  refine hK _ _ (HK.out _ (HD5.out.then_ (below1 _)).fr) trivial ?_
  try simp only [Act.put, List.getElem_toArray, List.getElem_cons_zero, List.getElem_cons_succ, List.setIfInBounds_toArray, List.set_cons_zero, List.set_cons_succ]
  clear hK K
  refine YtgmbfecfkdbfaaaG.wpAnyG_one 5 rfl (by kernel_rfl) (by rfl) (fun K hK => ?_)
  go_simp
  refine (OW.number HD5.out 5 n5 4 HC.out.2.2.2.2.2 h5 hg hr (by have := HL.out; omega)).mono ?_
  rintro e w6 ⟨rfl, H6'⟩
  have H6 := Aside0.mk H6'
  clear H6'
  refine hK _ _ (HK.out _ H6.out.fr) trivial ?_
  try simp only [Act.put, List.getElem_toArray, List.getElem_cons_zero, List.getElem_cons_succ, List.setIfInBounds_toArray, List.set_cons_zero, List.set_cons_succ]
  clear hK K HS0
  refine YtgmbfecfkdbfaaaG.wpAnyG_done (by kernel_rfl) ?_ _
  go_wp2
  go_end0
  obtain ⟨_, ro', hw', hr', hf'⟩ := H6.out
  exact WPost.from (w1 := W1) ⟨rfl, ro', hw', hr', hf'⟩ HB1.out
end Go.Proofs.Ytgmbfecfkdbfaaa.Wi
/- A tap's pieces in their order, laid down. -/
set_option linter.unusedVariables false
set_option linter.unusedSimpArgs false
namespace Go.Proofs.Ytgmbfecfkdbfaaa.Wi
open Go Go.RowKit Go.Proofs.YtgmbfecfkdbfaaaW.PrintWords
/-- what is laid down of a tap, and where the reader is then -/
structure TapV where
  n0 : Int
  n1 : Int
  y : List Int
  n3 : Int
  n4 : Int
  n5 : Int
def tapR (bs : List Int) (r : RS) : TapV × RS :=
  let p0 := rNum bs r 2
  let p1 := rNum bs p0.2 4
  let p2 := rFix bs p1.2 8
  let p3 := rNum bs p2.2 1
  let p4 := rNum bs p3.2 2
  let p5 := rNum bs p4.2 4
  (⟨p0.1, p1.1, p2.1, p3.1, p4.1, p5.1⟩, p5.2)
def TapV.cells (t : TapV) : Array Value := #[.int .i64 t.n0, .int .i64 t.n1, .string (strOfNums t.y), .int .i64 t.n3, .int .i64 t.n4, .int .i64 t.n5]
set_option maxHeartbeats 8000000 in
set_option maxRecDepth 100000 in
theorem overTap_r {w : World} {B g : Nat} {ro : Option Nat} {bs : List Int} {r : RS} {bt : Nat} (n0 n1 : Int) (y : ByteArray) (n3 n4 n5 : Int) (hq : w.heap[bt]? = some (.cells #[.int .i64 n0, .int .i64 n1, .string y, .int .i64 n3, .int .i64 n4, .int .i64 n5] 23 (0, 0)))
    (hr : Rd w B g ro bs r) (hB : B ≤ w.heap.size) :
    Calls Try.prog 41 #[.agg #[.pointer none, .pointer (some ⟨g, 0, none⟩)], .pointer (some ⟨bt, 0, none⟩)] w (SPost B g ro bs bt 23 (tapR bs r).1.cells (tapR bs r).2 w) := by
  have HB1 := Aside0.mk (below1 (w := w) (.cells #[.pointer none, .pointer (some ⟨g, 0, none⟩)] 97))
  have hbx := heap_alloc_new w (.cells #[.pointer none, .pointer (some ⟨g, 0, none⟩)] 97)
  have hq1 := (Fr.of_below (S := fun _ => False) HB1.out).blk hq (fun h => h)
  have H0 := Aside0.mk (show OR_ (w.alloc (.cells #[.pointer none, .pointer (some ⟨g, 0, none⟩)] 97)) (w.alloc (.cells #[.pointer none, .pointer (some ⟨g, 0, none⟩)] 97)) B g ro bs bt 23 _ r from ⟨Nat.le_trans hB HB1.out.size, hr.below HB1.out, hq1, Fr.refl _ _⟩)
  have hgl := hr.lt
  have hbl := blk_lt hq
  have HK : Aside0 (∀ W, Fr (fun i => i = g ∨ i = bt) (w.alloc (.cells #[.pointer none, .pointer (some ⟨g, 0, none⟩)] 97)) W → W.cell? ⟨w.heap.size, 0, none⟩ = some (.pointer none) ∧ W.cell? ⟨w.heap.size, 1, none⟩ = some (.pointer (some ⟨g, 0, none⟩))) := ⟨fun W hf => by
    have hx := hf.blk hbx (by rintro (e | e) <;> omega)
    exact ⟨(blk_cell hx 0).trans rfl, (blk_cell hx 1).trans rfl⟩⟩
  clear hq hr hB hbx hq1 hgl hbl
  go_enter Try.func41, Try.ntmps41
  go_wp2
  generalize hW1 : w.alloc (.cells #[.pointer none, .pointer (some ⟨g, 0, none⟩)] 97) = W1 at *
  generalize hgb : w.heap.size = gb at HK ⊢
  clear hgb
  have HS0 := Aside0.mk (HK.out _ H0.out.fr)
  have HS0 := Aside0.mk (show (W1).drew.cell? ⟨gb, 0, none⟩ = _ ∧ (W1).drew.cell? ⟨gb, 1, none⟩ = _ from HS0.out)
  refine YtgmbfecfkdbfaaaG.wp_region_door 99 YtgmbfecfkdbfaaaG.keepT (fun _ _ => False) (fun W => W.cell? ⟨gb, 0, none⟩ = some (.pointer none) ∧ W.cell? ⟨gb, 1, none⟩ = some (.pointer (some ⟨g, 0, none⟩))) (by kernel_rfl) trivial (fun _ _ _ _ h => h.elim) ?_
  refine YtgmbfecfkdbfaaaG.wpAnyG_take 0 (v := .agg #[.pointer none, .pointer (some ⟨g, 0, none⟩)]) rfl (by kernel_rfl) (by kernel_rfl) (by kernel_rfl) (by kernel_rfl) (by decide) (fun a u => YtgmbfecfkdbfaaaG.keepT_put a u) HS0.out trivial (by rfl) (by rintro W ⟨h0, h1⟩; go_simp; done) ?_
  try simp only [Act.put, List.getElem_toArray, List.getElem_cons_zero, List.getElem_cons_succ, List.setIfInBounds_toArray, List.set_cons_zero, List.set_cons_succ]
  refine YtgmbfecfkdbfaaaG.wpAnyG_take 1 (v := .pointer (some ⟨bt, 0, none⟩)) rfl (by kernel_rfl) (by kernel_rfl) (by kernel_rfl) (by kernel_rfl) (by decide) (fun a u => YtgmbfecfkdbfaaaG.keepT_put a u) HS0.out trivial (by rfl) (by rintro W ⟨h0, h1⟩; go_simp; done) ?_
  try simp only [Act.put, List.getElem_toArray, List.getElem_cons_zero, List.getElem_cons_succ, List.setIfInBounds_toArray, List.set_cons_zero, List.set_cons_succ]
  refine YtgmbfecfkdbfaaaG.wpAnyG_take 2 (v := .pointer (some ⟨bt, 0, none⟩)) rfl (by kernel_rfl) (by kernel_rfl) (by kernel_rfl) (by kernel_rfl) (by decide) (fun a u => YtgmbfecfkdbfaaaG.keepT_put a u) HS0.out trivial (by rfl) (by rintro W ⟨h0, h1⟩; go_simp; done) ?_
  try simp only [Act.put, List.getElem_toArray, List.getElem_cons_zero, List.getElem_cons_succ, List.setIfInBounds_toArray, List.set_cons_zero, List.set_cons_succ]
  refine YtgmbfecfkdbfaaaG.wpAnyG_take 3 (v := .pointer (some ⟨bt, 0, none⟩)) rfl (by kernel_rfl) (by kernel_rfl) (by kernel_rfl) (by kernel_rfl) (by decide) (fun a u => YtgmbfecfkdbfaaaG.keepT_put a u) HS0.out trivial (by rfl) (by rintro W ⟨h0, h1⟩; go_simp; done) ?_
  try simp only [Act.put, List.getElem_toArray, List.getElem_cons_zero, List.getElem_cons_succ, List.setIfInBounds_toArray, List.set_cons_zero, List.set_cons_succ]
  have HD0 := Aside0.mk (H0.out.then_ (Below.refl _ _).drew)
  refine YtgmbfecfkdbfaaaG.wpAnyG_one 4 rfl (by kernel_rfl) (by rfl) (fun K hK => ?_)
  go_simp
  refine hK _ _ (HK.out _ (HD0.out.then_ (below1 _)).fr) trivial ?_
  try simp only [Act.put, List.getElem_toArray, List.getElem_cons_zero, List.getElem_cons_succ, List.setIfInBounds_toArray, List.set_cons_zero, List.set_cons_succ]
  clear hK K
  refine YtgmbfecfkdbfaaaG.wpAnyG_one 5 rfl (by kernel_rfl) (by rfl) (fun K hK => ?_)
  go_simp
  refine (OR_.number HD0.out 0 2 (by simp) (by decide) (by decide)).mono ?_
  rintro e w1 ⟨rfl, H1'⟩
  have H1 := Aside0.mk H1'
  clear H1'
  refine hK _ _ (HK.out _ H1.out.fr) trivial ?_
  try simp only [Act.put, List.getElem_toArray, List.getElem_cons_zero, List.getElem_cons_succ, List.setIfInBounds_toArray, List.set_cons_zero, List.set_cons_succ]
  clear hK K HS0
  refine YtgmbfecfkdbfaaaG.wpAnyG_done (by kernel_rfl) ?_ _
  go_wp2
  have HS0 := Aside0.mk (HK.out _ H1.out.fr)
  have HS0 := Aside0.mk (show (w1).drew.cell? ⟨gb, 0, none⟩ = _ ∧ (w1).drew.cell? ⟨gb, 1, none⟩ = _ from HS0.out)
  refine YtgmbfecfkdbfaaaG.wp_region_door 99 YtgmbfecfkdbfaaaG.keepT (fun _ _ => False) (fun W => W.cell? ⟨gb, 0, none⟩ = some (.pointer none) ∧ W.cell? ⟨gb, 1, none⟩ = some (.pointer (some ⟨g, 0, none⟩))) (by kernel_rfl) trivial (fun _ _ _ _ h => h.elim) ?_
  refine YtgmbfecfkdbfaaaG.wpAnyG_take 0 (v := .agg #[.pointer none, .pointer (some ⟨g, 0, none⟩)]) rfl (by kernel_rfl) (by kernel_rfl) (by kernel_rfl) (by kernel_rfl) (by decide) (fun a u => YtgmbfecfkdbfaaaG.keepT_put a u) HS0.out trivial (by rfl) (by rintro W ⟨h0, h1⟩; go_simp; done) ?_
  try simp only [Act.put, List.getElem_toArray, List.getElem_cons_zero, List.getElem_cons_succ, List.setIfInBounds_toArray, List.set_cons_zero, List.set_cons_succ]
  refine YtgmbfecfkdbfaaaG.wpAnyG_take 1 (v := .pointer (some ⟨bt, 0, none⟩)) rfl (by kernel_rfl) (by kernel_rfl) (by kernel_rfl) (by kernel_rfl) (by decide) (fun a u => YtgmbfecfkdbfaaaG.keepT_put a u) HS0.out trivial (by rfl) (by rintro W ⟨h0, h1⟩; go_simp; done) ?_
  try simp only [Act.put, List.getElem_toArray, List.getElem_cons_zero, List.getElem_cons_succ, List.setIfInBounds_toArray, List.set_cons_zero, List.set_cons_succ]
  refine YtgmbfecfkdbfaaaG.wpAnyG_take 2 (v := .pointer (some ⟨bt, 0, none⟩)) rfl (by kernel_rfl) (by kernel_rfl) (by kernel_rfl) (by kernel_rfl) (by decide) (fun a u => YtgmbfecfkdbfaaaG.keepT_put a u) HS0.out trivial (by rfl) (by rintro W ⟨h0, h1⟩; go_simp; done) ?_
  try simp only [Act.put, List.getElem_toArray, List.getElem_cons_zero, List.getElem_cons_succ, List.setIfInBounds_toArray, List.set_cons_zero, List.set_cons_succ]
  refine YtgmbfecfkdbfaaaG.wpAnyG_take 3 (v := .pointer (some ⟨bt, 1, none⟩)) rfl (by kernel_rfl) (by kernel_rfl) (by kernel_rfl) (by kernel_rfl) (by decide) (fun a u => YtgmbfecfkdbfaaaG.keepT_put a u) HS0.out trivial (by rfl) (by rintro W ⟨h0, h1⟩; go_simp; done) ?_
  try simp only [Act.put, List.getElem_toArray, List.getElem_cons_zero, List.getElem_cons_succ, List.setIfInBounds_toArray, List.set_cons_zero, List.set_cons_succ]
  have HD1 := Aside0.mk (H1.out.then_ (Below.refl _ _).drew)
  refine YtgmbfecfkdbfaaaG.wpAnyG_one 4 rfl (by kernel_rfl) (by rfl) (fun K hK => ?_)
  go_simp
  refine hK _ _ (HK.out _ (HD1.out.then_ (below1 _)).fr) trivial ?_
  try simp only [Act.put, List.getElem_toArray, List.getElem_cons_zero, List.getElem_cons_succ, List.setIfInBounds_toArray, List.set_cons_zero, List.set_cons_succ]
  clear hK K
  refine YtgmbfecfkdbfaaaG.wpAnyG_one 5 rfl (by kernel_rfl) (by rfl) (fun K hK => ?_)
  go_simp
  refine (OR_.number HD1.out 1 4 (by simp) (by decide) (by decide)).mono ?_
  rintro e w2 ⟨rfl, H2'⟩
  have H2 := Aside0.mk H2'
  clear H2'
  refine hK _ _ (HK.out _ H2.out.fr) trivial ?_
  try simp only [Act.put, List.getElem_toArray, List.getElem_cons_zero, List.getElem_cons_succ, List.setIfInBounds_toArray, List.set_cons_zero, List.set_cons_succ]
  clear hK K HS0
  refine YtgmbfecfkdbfaaaG.wpAnyG_done (by kernel_rfl) ?_ _
  go_wp2
  have HS0 := Aside0.mk (HK.out _ H2.out.fr)
  have HS0 := Aside0.mk (show (w2).drew.cell? ⟨gb, 0, none⟩ = _ ∧ (w2).drew.cell? ⟨gb, 1, none⟩ = _ from HS0.out)
  refine YtgmbfecfkdbfaaaG.wp_region_door 99 YtgmbfecfkdbfaaaG.keepT (fun _ _ => False) (fun W => W.cell? ⟨gb, 0, none⟩ = some (.pointer none) ∧ W.cell? ⟨gb, 1, none⟩ = some (.pointer (some ⟨g, 0, none⟩))) (by kernel_rfl) trivial (fun _ _ _ _ h => h.elim) ?_
  refine YtgmbfecfkdbfaaaG.wpAnyG_take 0 (v := .agg #[.pointer none, .pointer (some ⟨g, 0, none⟩)]) rfl (by kernel_rfl) (by kernel_rfl) (by kernel_rfl) (by kernel_rfl) (by decide) (fun a u => YtgmbfecfkdbfaaaG.keepT_put a u) HS0.out trivial (by rfl) (by rintro W ⟨h0, h1⟩; go_simp; done) ?_
  try simp only [Act.put, List.getElem_toArray, List.getElem_cons_zero, List.getElem_cons_succ, List.setIfInBounds_toArray, List.set_cons_zero, List.set_cons_succ]
  refine YtgmbfecfkdbfaaaG.wpAnyG_take 1 (v := .pointer (some ⟨bt, 0, none⟩)) rfl (by kernel_rfl) (by kernel_rfl) (by kernel_rfl) (by kernel_rfl) (by decide) (fun a u => YtgmbfecfkdbfaaaG.keepT_put a u) HS0.out trivial (by rfl) (by rintro W ⟨h0, h1⟩; go_simp; done) ?_
  try simp only [Act.put, List.getElem_toArray, List.getElem_cons_zero, List.getElem_cons_succ, List.setIfInBounds_toArray, List.set_cons_zero, List.set_cons_succ]
  refine YtgmbfecfkdbfaaaG.wpAnyG_take 2 (v := .pointer (some ⟨bt, 0, none⟩)) rfl (by kernel_rfl) (by kernel_rfl) (by kernel_rfl) (by kernel_rfl) (by decide) (fun a u => YtgmbfecfkdbfaaaG.keepT_put a u) HS0.out trivial (by rfl) (by rintro W ⟨h0, h1⟩; go_simp; done) ?_
  try simp only [Act.put, List.getElem_toArray, List.getElem_cons_zero, List.getElem_cons_succ, List.setIfInBounds_toArray, List.set_cons_zero, List.set_cons_succ]
  refine YtgmbfecfkdbfaaaG.wpAnyG_take 3 (v := .pointer (some ⟨bt, 2, none⟩)) rfl (by kernel_rfl) (by kernel_rfl) (by kernel_rfl) (by kernel_rfl) (by decide) (fun a u => YtgmbfecfkdbfaaaG.keepT_put a u) HS0.out trivial (by rfl) (by rintro W ⟨h0, h1⟩; go_simp; done) ?_
  try simp only [Act.put, List.getElem_toArray, List.getElem_cons_zero, List.getElem_cons_succ, List.setIfInBounds_toArray, List.set_cons_zero, List.set_cons_succ]
  have HD2 := Aside0.mk (H2.out.then_ (Below.refl _ _).drew)
  refine YtgmbfecfkdbfaaaG.wpAnyG_one 4 rfl (by kernel_rfl) (by rfl) (fun K hK => ?_)
  go_simp
  refine (OR_.token HD2.out 2 (by simp) (by decide) (by decide)).mono ?_
  rintro e w3 ⟨rfl, H3'⟩
  have H3 := Aside0.mk H3'
  clear H3'
  refine hK _ _ (HK.out _ H3.out.fr) trivial ?_
  try simp only [Act.put, List.getElem_toArray, List.getElem_cons_zero, List.getElem_cons_succ, List.setIfInBounds_toArray, List.set_cons_zero, List.set_cons_succ]
  clear hK K HS0
  refine YtgmbfecfkdbfaaaG.wpAnyG_done (by kernel_rfl) ?_ _
  go_wp2
  have HS0 := Aside0.mk (HK.out _ H3.out.fr)
  have HS0 := Aside0.mk (show (w3).drew.cell? ⟨gb, 0, none⟩ = _ ∧ (w3).drew.cell? ⟨gb, 1, none⟩ = _ from HS0.out)
  refine YtgmbfecfkdbfaaaG.wp_region_door 99 YtgmbfecfkdbfaaaG.keepT (fun _ _ => False) (fun W => W.cell? ⟨gb, 0, none⟩ = some (.pointer none) ∧ W.cell? ⟨gb, 1, none⟩ = some (.pointer (some ⟨g, 0, none⟩))) (by kernel_rfl) trivial (fun _ _ _ _ h => h.elim) ?_
  refine YtgmbfecfkdbfaaaG.wpAnyG_take 0 (v := .agg #[.pointer none, .pointer (some ⟨g, 0, none⟩)]) rfl (by kernel_rfl) (by kernel_rfl) (by kernel_rfl) (by kernel_rfl) (by decide) (fun a u => YtgmbfecfkdbfaaaG.keepT_put a u) HS0.out trivial (by rfl) (by rintro W ⟨h0, h1⟩; go_simp; done) ?_
  try simp only [Act.put, List.getElem_toArray, List.getElem_cons_zero, List.getElem_cons_succ, List.setIfInBounds_toArray, List.set_cons_zero, List.set_cons_succ]
  refine YtgmbfecfkdbfaaaG.wpAnyG_take 1 (v := .pointer (some ⟨bt, 0, none⟩)) rfl (by kernel_rfl) (by kernel_rfl) (by kernel_rfl) (by kernel_rfl) (by decide) (fun a u => YtgmbfecfkdbfaaaG.keepT_put a u) HS0.out trivial (by rfl) (by rintro W ⟨h0, h1⟩; go_simp; done) ?_
  try simp only [Act.put, List.getElem_toArray, List.getElem_cons_zero, List.getElem_cons_succ, List.setIfInBounds_toArray, List.set_cons_zero, List.set_cons_succ]
  refine YtgmbfecfkdbfaaaG.wpAnyG_take 2 (v := .pointer (some ⟨bt, 0, none⟩)) rfl (by kernel_rfl) (by kernel_rfl) (by kernel_rfl) (by kernel_rfl) (by decide) (fun a u => YtgmbfecfkdbfaaaG.keepT_put a u) HS0.out trivial (by rfl) (by rintro W ⟨h0, h1⟩; go_simp; done) ?_
  try simp only [Act.put, List.getElem_toArray, List.getElem_cons_zero, List.getElem_cons_succ, List.setIfInBounds_toArray, List.set_cons_zero, List.set_cons_succ]
  refine YtgmbfecfkdbfaaaG.wpAnyG_take 3 (v := .pointer (some ⟨bt, 3, none⟩)) rfl (by kernel_rfl) (by kernel_rfl) (by kernel_rfl) (by kernel_rfl) (by decide) (fun a u => YtgmbfecfkdbfaaaG.keepT_put a u) HS0.out trivial (by rfl) (by rintro W ⟨h0, h1⟩; go_simp; done) ?_
  try simp only [Act.put, List.getElem_toArray, List.getElem_cons_zero, List.getElem_cons_succ, List.setIfInBounds_toArray, List.set_cons_zero, List.set_cons_succ]
  have HD3 := Aside0.mk (H3.out.then_ (Below.refl _ _).drew)
  refine YtgmbfecfkdbfaaaG.wpAnyG_one 4 rfl (by kernel_rfl) (by rfl) (fun K hK => ?_)
  go_simp
  refine hK _ _ (HK.out _ (HD3.out.then_ (below1 _)).fr) trivial ?_
  try simp only [Act.put, List.getElem_toArray, List.getElem_cons_zero, List.getElem_cons_succ, List.setIfInBounds_toArray, List.set_cons_zero, List.set_cons_succ]
  clear hK K
  refine YtgmbfecfkdbfaaaG.wpAnyG_one 5 rfl (by kernel_rfl) (by rfl) (fun K hK => ?_)
  go_simp
  refine (OR_.number HD3.out 3 1 (by simp) (by decide) (by decide)).mono ?_
  rintro e w4 ⟨rfl, H4'⟩
  have H4 := Aside0.mk H4'
  clear H4'
  refine hK _ _ (HK.out _ H4.out.fr) trivial ?_
  try simp only [Act.put, List.getElem_toArray, List.getElem_cons_zero, List.getElem_cons_succ, List.setIfInBounds_toArray, List.set_cons_zero, List.set_cons_succ]
  clear hK K HS0
  refine YtgmbfecfkdbfaaaG.wpAnyG_done (by kernel_rfl) ?_ _
  go_wp2
  have HS0 := Aside0.mk (HK.out _ H4.out.fr)
  have HS0 := Aside0.mk (show (w4).drew.cell? ⟨gb, 0, none⟩ = _ ∧ (w4).drew.cell? ⟨gb, 1, none⟩ = _ from HS0.out)
  refine YtgmbfecfkdbfaaaG.wp_region_door 99 YtgmbfecfkdbfaaaG.keepT (fun _ _ => False) (fun W => W.cell? ⟨gb, 0, none⟩ = some (.pointer none) ∧ W.cell? ⟨gb, 1, none⟩ = some (.pointer (some ⟨g, 0, none⟩))) (by kernel_rfl) trivial (fun _ _ _ _ h => h.elim) ?_
  refine YtgmbfecfkdbfaaaG.wpAnyG_take 0 (v := .agg #[.pointer none, .pointer (some ⟨g, 0, none⟩)]) rfl (by kernel_rfl) (by kernel_rfl) (by kernel_rfl) (by kernel_rfl) (by decide) (fun a u => YtgmbfecfkdbfaaaG.keepT_put a u) HS0.out trivial (by rfl) (by rintro W ⟨h0, h1⟩; go_simp; done) ?_
  try simp only [Act.put, List.getElem_toArray, List.getElem_cons_zero, List.getElem_cons_succ, List.setIfInBounds_toArray, List.set_cons_zero, List.set_cons_succ]
  refine YtgmbfecfkdbfaaaG.wpAnyG_take 1 (v := .pointer (some ⟨bt, 0, none⟩)) rfl (by kernel_rfl) (by kernel_rfl) (by kernel_rfl) (by kernel_rfl) (by decide) (fun a u => YtgmbfecfkdbfaaaG.keepT_put a u) HS0.out trivial (by rfl) (by rintro W ⟨h0, h1⟩; go_simp; done) ?_
  try simp only [Act.put, List.getElem_toArray, List.getElem_cons_zero, List.getElem_cons_succ, List.setIfInBounds_toArray, List.set_cons_zero, List.set_cons_succ]
  refine YtgmbfecfkdbfaaaG.wpAnyG_take 2 (v := .pointer (some ⟨bt, 0, none⟩)) rfl (by kernel_rfl) (by kernel_rfl) (by kernel_rfl) (by kernel_rfl) (by decide) (fun a u => YtgmbfecfkdbfaaaG.keepT_put a u) HS0.out trivial (by rfl) (by rintro W ⟨h0, h1⟩; go_simp; done) ?_
  try simp only [Act.put, List.getElem_toArray, List.getElem_cons_zero, List.getElem_cons_succ, List.setIfInBounds_toArray, List.set_cons_zero, List.set_cons_succ]
  refine YtgmbfecfkdbfaaaG.wpAnyG_take 3 (v := .pointer (some ⟨bt, 4, none⟩)) rfl (by kernel_rfl) (by kernel_rfl) (by kernel_rfl) (by kernel_rfl) (by decide) (fun a u => YtgmbfecfkdbfaaaG.keepT_put a u) HS0.out trivial (by rfl) (by rintro W ⟨h0, h1⟩; go_simp; done) ?_
  try simp only [Act.put, List.getElem_toArray, List.getElem_cons_zero, List.getElem_cons_succ, List.setIfInBounds_toArray, List.set_cons_zero, List.set_cons_succ]
  have HD4 := Aside0.mk (H4.out.then_ (Below.refl _ _).drew)
  refine YtgmbfecfkdbfaaaG.wpAnyG_one 4 rfl (by kernel_rfl) (by rfl) (fun K hK => ?_)
  go_simp
  refine hK _ _ (HK.out _ (HD4.out.then_ (below1 _)).fr) trivial ?_
  try simp only [Act.put, List.getElem_toArray, List.getElem_cons_zero, List.getElem_cons_succ, List.setIfInBounds_toArray, List.set_cons_zero, List.set_cons_succ]
  clear hK K
  refine YtgmbfecfkdbfaaaG.wpAnyG_one 5 rfl (by kernel_rfl) (by rfl) (fun K hK => ?_)
  go_simp
  refine (OR_.number HD4.out 4 2 (by simp) (by decide) (by decide)).mono ?_
  rintro e w5 ⟨rfl, H5'⟩
  have H5 := Aside0.mk H5'
  clear H5'
  refine hK _ _ (HK.out _ H5.out.fr) trivial ?_
  try simp only [Act.put, List.getElem_toArray, List.getElem_cons_zero, List.getElem_cons_succ, List.setIfInBounds_toArray, List.set_cons_zero, List.set_cons_succ]
  clear hK K HS0
  refine YtgmbfecfkdbfaaaG.wpAnyG_done (by kernel_rfl) ?_ _
  go_wp2
  have HS0 := Aside0.mk (HK.out _ H5.out.fr)
  have HS0 := Aside0.mk (show (w5).drew.cell? ⟨gb, 0, none⟩ = _ ∧ (w5).drew.cell? ⟨gb, 1, none⟩ = _ from HS0.out)
  refine YtgmbfecfkdbfaaaG.wp_region_door 99 YtgmbfecfkdbfaaaG.keepT (fun _ _ => False) (fun W => W.cell? ⟨gb, 0, none⟩ = some (.pointer none) ∧ W.cell? ⟨gb, 1, none⟩ = some (.pointer (some ⟨g, 0, none⟩))) (by kernel_rfl) trivial (fun _ _ _ _ h => h.elim) ?_
  refine YtgmbfecfkdbfaaaG.wpAnyG_take 0 (v := .agg #[.pointer none, .pointer (some ⟨g, 0, none⟩)]) rfl (by kernel_rfl) (by kernel_rfl) (by kernel_rfl) (by kernel_rfl) (by decide) (fun a u => YtgmbfecfkdbfaaaG.keepT_put a u) HS0.out trivial (by rfl) (by rintro W ⟨h0, h1⟩; go_simp; done) ?_
  try simp only [Act.put, List.getElem_toArray, List.getElem_cons_zero, List.getElem_cons_succ, List.setIfInBounds_toArray, List.set_cons_zero, List.set_cons_succ]
  refine YtgmbfecfkdbfaaaG.wpAnyG_take 1 (v := .pointer (some ⟨bt, 0, none⟩)) rfl (by kernel_rfl) (by kernel_rfl) (by kernel_rfl) (by kernel_rfl) (by decide) (fun a u => YtgmbfecfkdbfaaaG.keepT_put a u) HS0.out trivial (by rfl) (by rintro W ⟨h0, h1⟩; go_simp; done) ?_
  try simp only [Act.put, List.getElem_toArray, List.getElem_cons_zero, List.getElem_cons_succ, List.setIfInBounds_toArray, List.set_cons_zero, List.set_cons_succ]
  refine YtgmbfecfkdbfaaaG.wpAnyG_take 2 (v := .pointer (some ⟨bt, 0, none⟩)) rfl (by kernel_rfl) (by kernel_rfl) (by kernel_rfl) (by kernel_rfl) (by decide) (fun a u => YtgmbfecfkdbfaaaG.keepT_put a u) HS0.out trivial (by rfl) (by rintro W ⟨h0, h1⟩; go_simp; done) ?_
  try simp only [Act.put, List.getElem_toArray, List.getElem_cons_zero, List.getElem_cons_succ, List.setIfInBounds_toArray, List.set_cons_zero, List.set_cons_succ]
  refine YtgmbfecfkdbfaaaG.wpAnyG_take 3 (v := .pointer (some ⟨bt, 5, none⟩)) rfl (by kernel_rfl) (by kernel_rfl) (by kernel_rfl) (by kernel_rfl) (by decide) (fun a u => YtgmbfecfkdbfaaaG.keepT_put a u) HS0.out trivial (by rfl) (by rintro W ⟨h0, h1⟩; go_simp; done) ?_
  try simp only [Act.put, List.getElem_toArray, List.getElem_cons_zero, List.getElem_cons_succ, List.setIfInBounds_toArray, List.set_cons_zero, List.set_cons_succ]
  have HD5 := Aside0.mk (H5.out.then_ (Below.refl _ _).drew)
  refine YtgmbfecfkdbfaaaG.wpAnyG_one 4 rfl (by kernel_rfl) (by rfl) (fun K hK => ?_)
  go_simp
  refine hK _ _ (HK.out _ (HD5.out.then_ (below1 _)).fr) trivial ?_
  try simp only [Act.put, List.getElem_toArray, List.getElem_cons_zero, List.getElem_cons_succ, List.setIfInBounds_toArray, List.set_cons_zero, List.set_cons_succ]
  clear hK K
  refine YtgmbfecfkdbfaaaG.wpAnyG_one 5 rfl (by kernel_rfl) (by rfl) (fun K hK => ?_)
  go_simp
  refine (OR_.number HD5.out 5 4 (by simp) (by decide) (by decide)).mono ?_
  rintro e w6 ⟨rfl, H6'⟩
  have H6 := Aside0.mk H6'
  clear H6'
  refine hK _ _ (HK.out _ H6.out.fr) trivial ?_
  try simp only [Act.put, List.getElem_toArray, List.getElem_cons_zero, List.getElem_cons_succ, List.setIfInBounds_toArray, List.set_cons_zero, List.set_cons_succ]
  clear hK K HS0
  refine YtgmbfecfkdbfaaaG.wpAnyG_done (by kernel_rfl) ?_ _
  go_wp2
  go_end0
  have hb := H6.out.blk
  simp at hb
  exact ⟨rfl, H6.out.rd_, hb, (Fr.of_below HB1.out).trans H6.out.fr (fun _ _ h => h)⟩
end Go.Proofs.Ytgmbfecfkdbfaaa.Wi
/- A tap as bytes, and out of bytes. -/
set_option linter.unusedVariables false
set_option linter.unusedSimpArgs false
namespace Go.Proofs.Ytgmbfecfkdbfaaa.Wi
open Go Go.RowKit Go.Proofs.YtgmbfecfkdbfaaaW.PrintWords
/-- a tap -/
structure Tp where
  n0 : Int
  n1 : Int
  y : ByteArray
  n3 : Int
  n4 : Int
  n5 : Int
def Tp.val (t : Tp) : Value := .agg #[.int .i64 t.n0, .int .i64 t.n1, .string t.y, .int .i64 t.n3, .int .i64 t.n4, .int .i64 t.n5]
def Tp.cells (t : Tp) : Array Value := #[.int .i64 t.n0, .int .i64 t.n1, .string t.y, .int .i64 t.n3, .int .i64 t.n4, .int .i64 t.n5]
structure Tp.Ok (t : Tp) : Prop where
  n0 : I64 t.n0
  n1 : I64 t.n1
  y : t.y.size ≤ 9223372036854775807
  n3 : I64 t.n3
  n4 : I64 t.n4
  n5 : I64 t.n5
def inB (n lo hi : Int) : Bool := decide (lo ≤ n) && decide (n ≤ hi)
def Tp.right (t : Tp) : Bool := inB t.n0 1 65535 && inB t.n1 1 4294967295 && ((t.y.size : Int) == 8) && inB t.n3 1 3 && inB t.n4 1 (if t.n3 = 3 then 1000 else 65535) && inB t.n5 0 2147483648
def Tp.put (t : Tp) : WS := tapW ⟨[], false⟩ t.n0 t.n1 t.y t.n3 t.n4 t.n5
def Tp.out (t : Tp) : List Int := if t.right = true then t.put.out else []
def Tp.err (t : Tp) : Int := if t.right = true then t.put.err else 80
def RTPost (t : Tp) (w : World) (e : Ending) (w' : World) : Prop :=
  ∃ v, e = .returned (.tuple #[v, .int .i64 t.err]) ∧ w'.ownsRow w.heap.size 5 1 v t.out.length (nums .u8 t.out) ∧ Below w.heap.size w w'
theorem tput_len (t : Tp) : t.put.xs.length ≤ 1000000 := by
  unfold Tp.put tapW
  have L0 := putNum_len ⟨[], false⟩ t.n0 2
  have L1 := putNum_len ((⟨[], false⟩ : WS).put (pNumber t.n0 2)) t.n1 4
  have L2 := putFix_len (((⟨[], false⟩ : WS).put (pNumber t.n0 2)).put (pNumber t.n1 4)) t.y
  have L3 := putNum_len ((((⟨[], false⟩ : WS).put (pNumber t.n0 2)).put (pNumber t.n1 4)).put (pFixed t.y 8)) t.n3 1
  have L4 := putNum_len (((((⟨[], false⟩ : WS).put (pNumber t.n0 2)).put (pNumber t.n1 4)).put (pFixed t.y 8)).put (pNumber t.n3 1)) t.n4 2
  have L5 := putNum_len ((((((⟨[], false⟩ : WS).put (pNumber t.n0 2)).put (pNumber t.n1 4)).put (pFixed t.y 8)).put (pNumber t.n3 1)).put (pNumber t.n4 2)) t.n5 4
  have L6 : (⟨[], false⟩ : WS).xs.length = 0 := rfl
  omega
set_option maxHeartbeats 1600000 in
set_option maxRecDepth 100000 in
theorem when_calls (b : Bool) (w : World) : Calls Try.prog 92 #[.bool b] w fun e w' => e = .returned (.int .i64 (if b = true then 0 else 80)) ∧ w = w' := by
  cases b with
  | true =>
    go_enter Try.func92, Try.ntmps92
    go_wp2
    go_ret
    exact ⟨rfl, rfl⟩
  | false =>
    go_enter Try.func92, Try.ntmps92
    go_wp2
    go_ret
    exact ⟨rfl, rfl⟩
set_option maxHeartbeats 1600000 in
set_option maxRecDepth 100000 in
theorem within_calls (n lo hi : Int) (w : World) : Calls Try.prog 93 #[.int .i64 n, .int .i64 lo, .int .i64 hi] w fun e w' => e = .returned (.bool (inB n lo hi)) ∧ w = w' := by
  unfold inB
  by_cases h : lo ≤ n
  · rw [decide_eq_true h, Bool.true_and]
    go_enter Try.func93, Try.ntmps93
    go_wp2
    go_ret
    exact ⟨rfl, rfl⟩
  · rw [decide_eq_false h, Bool.false_and]
    go_enter Try.func93, Try.ntmps93
    go_wp2
    go_ret
    exact ⟨rfl, rfl⟩
set_option maxHeartbeats 1600000 in
set_option maxRecDepth 100000 in
theorem cright_calls (n : Int) (w : World) : Calls Try.prog 94 #[.int .i64 n] w fun e w' => e = .returned (.bool (inB n 0 2147483648)) ∧ w = w' := by
  unfold inB
  by_cases h : 0 ≤ n
  · rw [decide_eq_true h, Bool.true_and]
    go_enter Try.func94, Try.ntmps94
    go_wp2
    go_ret
    exact ⟨rfl, rfl⟩
  · rw [decide_eq_false h, Bool.false_and]
    go_enter Try.func94, Try.ntmps94
    go_wp2
    go_ret
    exact ⟨rfl, rfl⟩
set_option maxHeartbeats 3200000 in
set_option maxRecDepth 100000 in
theorem rightTap_calls (t : Tp) (w : World) : Calls Try.prog 42 #[t.val] w fun e w' => e = .returned (.int .i64 (if t.right = true then 0 else 80)) ∧ Below w.heap.size w w' := by
  obtain ⟨n0, n1, y, n3, n4, n5⟩ := t
  have HB := Aside0.mk (below1 (w := w) (.cells #[.int .i64 n0, .int .i64 n1, .string y, .int .i64 n3, .int .i64 n4, .int .i64 n5] 23))
  unfold Tp.val Tp.right
  simp only
  have HW0 := Aside0.mk (fun W => within_calls n0 1 65535 W)
  have HW1 := Aside0.mk (fun W => within_calls n1 1 4294967295 W)
  have HW3 := Aside0.mk (fun W => within_calls n3 1 3 W)
  have HW4 := Aside0.mk (fun hi W => within_calls n4 1 hi W)
  have HW5 := Aside0.mk (fun W => cright_calls n5 W)
  generalize inB n0 1 65535 = b0 at *
  generalize inB n1 1 4294967295 = b1 at *
  generalize inB n3 1 3 = b3 at *
  generalize inB n5 0 2147483648 = b5 at *
  by_cases h3 : n3 = 3
  · have h3b : (n3 == 3) = true := beq_iff_eq.2 h3
    rw [if_pos h3]
    subst h3
    clear h3b
    have HW4' := Aside0.mk (fun W => HW4.out 1000 W)
    clear HW4
    have HW4 := HW4'
    clear HW4'
    generalize inB n4 1 1000 = b4 at *
    cases b0 with
    | false =>
      try simp only [hyb]
      try simp only [Bool.true_and, Bool.false_and, Bool.and_false, Bool.and_true, if_true, if_false, Bool.false_eq_true, ↓reduceIte]
      go_enter Try.func42, Try.ntmps42
      go_wp2_with (first | (go_at_call 93; first | ((with_reducible refine (HW0.out _).mono ?_); rintro e w1 ⟨rfl, rfl⟩) | ((with_reducible refine (HW1.out _).mono ?_); rintro e w1 ⟨rfl, rfl⟩) | ((with_reducible refine (HW3.out _).mono ?_); rintro e w1 ⟨rfl, rfl⟩) | ((with_reducible refine (HW4.out _).mono ?_); rintro e w1 ⟨rfl, rfl⟩)) | (go_at_call 94; ((with_reducible refine (HW5.out _).mono ?_); rintro e w1 ⟨rfl, rfl⟩)) | (go_at_call 92; refine (when_calls _ _).mono ?_; rintro e w1 ⟨rfl, rfl⟩))
      go_ret
      exact ⟨by first | rfl | (simp; done) | (simp [hy8]; done), below1 _⟩
    | true =>
      cases b1 with
      | false =>
        try simp only [hyb]
        try simp only [Bool.true_and, Bool.false_and, Bool.and_false, Bool.and_true, if_true, if_false, Bool.false_eq_true, ↓reduceIte]
        go_enter Try.func42, Try.ntmps42
        go_wp2_with (first | (go_at_call 93; first | ((with_reducible refine (HW0.out _).mono ?_); rintro e w1 ⟨rfl, rfl⟩) | ((with_reducible refine (HW1.out _).mono ?_); rintro e w1 ⟨rfl, rfl⟩) | ((with_reducible refine (HW3.out _).mono ?_); rintro e w1 ⟨rfl, rfl⟩) | ((with_reducible refine (HW4.out _).mono ?_); rintro e w1 ⟨rfl, rfl⟩)) | (go_at_call 94; ((with_reducible refine (HW5.out _).mono ?_); rintro e w1 ⟨rfl, rfl⟩)) | (go_at_call 92; refine (when_calls _ _).mono ?_; rintro e w1 ⟨rfl, rfl⟩))
        go_ret
        exact ⟨by first | rfl | (simp; done) | (simp [hy8]; done), below1 _⟩
      | true =>
        by_cases hy8 : (y.size : Int) = 8
        case neg =>
          have hyb : ((y.size : Int) == 8) = false := beq_eq_false_iff_ne.2 hy8
          have hyd : decide (y.size = 8) = false := decide_eq_false (by omega)
          try simp only [hyb]
          try simp only [Bool.true_and, Bool.false_and, Bool.and_false, Bool.and_true, if_true, if_false, Bool.false_eq_true, ↓reduceIte]
          go_enter Try.func42, Try.ntmps42
          go_wp2_with (first | (go_at_call 93; first | ((with_reducible refine (HW0.out _).mono ?_); rintro e w1 ⟨rfl, rfl⟩) | ((with_reducible refine (HW1.out _).mono ?_); rintro e w1 ⟨rfl, rfl⟩) | ((with_reducible refine (HW3.out _).mono ?_); rintro e w1 ⟨rfl, rfl⟩) | ((with_reducible refine (HW4.out _).mono ?_); rintro e w1 ⟨rfl, rfl⟩)) | (go_at_call 94; ((with_reducible refine (HW5.out _).mono ?_); rintro e w1 ⟨rfl, rfl⟩)) | (go_at_call 92; refine (when_calls _ _).mono ?_; rintro e w1 ⟨rfl, rfl⟩))
          go_ret
          exact ⟨by first | rfl | (simp; done) | (simp [hy8]; done), below1 _⟩
        have hyb : ((y.size : Int) == 8) = true := beq_iff_eq.2 hy8
        cases b3 with
        | false =>
          try simp only [hyb]
          try simp only [Bool.true_and, Bool.false_and, Bool.and_false, Bool.and_true, if_true, if_false, Bool.false_eq_true, ↓reduceIte]
          go_enter Try.func42, Try.ntmps42
          go_wp2_with (first | (go_at_call 93; first | ((with_reducible refine (HW0.out _).mono ?_); rintro e w1 ⟨rfl, rfl⟩) | ((with_reducible refine (HW1.out _).mono ?_); rintro e w1 ⟨rfl, rfl⟩) | ((with_reducible refine (HW3.out _).mono ?_); rintro e w1 ⟨rfl, rfl⟩) | ((with_reducible refine (HW4.out _).mono ?_); rintro e w1 ⟨rfl, rfl⟩)) | (go_at_call 94; ((with_reducible refine (HW5.out _).mono ?_); rintro e w1 ⟨rfl, rfl⟩)) | (go_at_call 92; refine (when_calls _ _).mono ?_; rintro e w1 ⟨rfl, rfl⟩))
          go_ret
          exact ⟨by first | rfl | (simp; done) | (simp [hy8]; done), below1 _⟩
        | true =>
          cases b4 with
          | false =>
            try simp only [hyb]
            try simp only [Bool.true_and, Bool.false_and, Bool.and_false, Bool.and_true, if_true, if_false, Bool.false_eq_true, ↓reduceIte]
            go_enter Try.func42, Try.ntmps42
            go_wp2_with (first | (go_at_call 93; first | ((with_reducible refine (HW0.out _).mono ?_); rintro e w1 ⟨rfl, rfl⟩) | ((with_reducible refine (HW1.out _).mono ?_); rintro e w1 ⟨rfl, rfl⟩) | ((with_reducible refine (HW3.out _).mono ?_); rintro e w1 ⟨rfl, rfl⟩) | ((with_reducible refine (HW4.out _).mono ?_); rintro e w1 ⟨rfl, rfl⟩)) | (go_at_call 94; ((with_reducible refine (HW5.out _).mono ?_); rintro e w1 ⟨rfl, rfl⟩)) | (go_at_call 92; refine (when_calls _ _).mono ?_; rintro e w1 ⟨rfl, rfl⟩))
            go_ret
            exact ⟨by first | rfl | (simp; done) | (simp [hy8]; done), below1 _⟩
          | true =>
            cases b5 with
            | false =>
              try simp only [hyb]
              try simp only [Bool.true_and, Bool.false_and, Bool.and_false, Bool.and_true, if_true, if_false, Bool.false_eq_true, ↓reduceIte]
              go_enter Try.func42, Try.ntmps42
              go_wp2_with (first | (go_at_call 93; first | ((with_reducible refine (HW0.out _).mono ?_); rintro e w1 ⟨rfl, rfl⟩) | ((with_reducible refine (HW1.out _).mono ?_); rintro e w1 ⟨rfl, rfl⟩) | ((with_reducible refine (HW3.out _).mono ?_); rintro e w1 ⟨rfl, rfl⟩) | ((with_reducible refine (HW4.out _).mono ?_); rintro e w1 ⟨rfl, rfl⟩)) | (go_at_call 94; ((with_reducible refine (HW5.out _).mono ?_); rintro e w1 ⟨rfl, rfl⟩)) | (go_at_call 92; refine (when_calls _ _).mono ?_; rintro e w1 ⟨rfl, rfl⟩))
              go_ret
              exact ⟨by first | rfl | (simp; done) | (simp [hy8]; done), below1 _⟩
            | true =>
              try simp only [hyb]
              try simp only [Bool.true_and, Bool.false_and, Bool.and_false, Bool.and_true, if_true, if_false, Bool.false_eq_true, ↓reduceIte]
              go_enter Try.func42, Try.ntmps42
              go_wp2_with (first | (go_at_call 93; first | ((with_reducible refine (HW0.out _).mono ?_); rintro e w1 ⟨rfl, rfl⟩) | ((with_reducible refine (HW1.out _).mono ?_); rintro e w1 ⟨rfl, rfl⟩) | ((with_reducible refine (HW3.out _).mono ?_); rintro e w1 ⟨rfl, rfl⟩) | ((with_reducible refine (HW4.out _).mono ?_); rintro e w1 ⟨rfl, rfl⟩)) | (go_at_call 94; ((with_reducible refine (HW5.out _).mono ?_); rintro e w1 ⟨rfl, rfl⟩)) | (go_at_call 92; refine (when_calls _ _).mono ?_; rintro e w1 ⟨rfl, rfl⟩))
              go_ret
              exact ⟨by first | rfl | (simp; done) | (simp [hy8]; done), below1 _⟩
  · have h3b : (n3 == 3) = false := beq_eq_false_iff_ne.2 h3
    rw [if_neg h3]
    have HW4' := Aside0.mk (fun W => HW4.out 65535 W)
    clear HW4
    have HW4 := HW4'
    clear HW4'
    generalize inB n4 1 65535 = b4 at *
    cases b0 with
    | false =>
      try simp only [hyb]
      try simp only [Bool.true_and, Bool.false_and, Bool.and_false, Bool.and_true, if_true, if_false, Bool.false_eq_true, ↓reduceIte]
      go_enter Try.func42, Try.ntmps42
      go_wp2_with (first | (go_at_call 93; first | ((with_reducible refine (HW0.out _).mono ?_); rintro e w1 ⟨rfl, rfl⟩) | ((with_reducible refine (HW1.out _).mono ?_); rintro e w1 ⟨rfl, rfl⟩) | ((with_reducible refine (HW3.out _).mono ?_); rintro e w1 ⟨rfl, rfl⟩) | ((with_reducible refine (HW4.out _).mono ?_); rintro e w1 ⟨rfl, rfl⟩)) | (go_at_call 94; ((with_reducible refine (HW5.out _).mono ?_); rintro e w1 ⟨rfl, rfl⟩)) | (go_at_call 92; refine (when_calls _ _).mono ?_; rintro e w1 ⟨rfl, rfl⟩))
      go_ret
      exact ⟨by first | rfl | (simp; done) | (simp [hy8]; done), below1 _⟩
    | true =>
      cases b1 with
      | false =>
        try simp only [hyb]
        try simp only [Bool.true_and, Bool.false_and, Bool.and_false, Bool.and_true, if_true, if_false, Bool.false_eq_true, ↓reduceIte]
        go_enter Try.func42, Try.ntmps42
        go_wp2_with (first | (go_at_call 93; first | ((with_reducible refine (HW0.out _).mono ?_); rintro e w1 ⟨rfl, rfl⟩) | ((with_reducible refine (HW1.out _).mono ?_); rintro e w1 ⟨rfl, rfl⟩) | ((with_reducible refine (HW3.out _).mono ?_); rintro e w1 ⟨rfl, rfl⟩) | ((with_reducible refine (HW4.out _).mono ?_); rintro e w1 ⟨rfl, rfl⟩)) | (go_at_call 94; ((with_reducible refine (HW5.out _).mono ?_); rintro e w1 ⟨rfl, rfl⟩)) | (go_at_call 92; refine (when_calls _ _).mono ?_; rintro e w1 ⟨rfl, rfl⟩))
        go_ret
        exact ⟨by first | rfl | (simp; done) | (simp [hy8]; done), below1 _⟩
      | true =>
        by_cases hy8 : (y.size : Int) = 8
        case neg =>
          have hyb : ((y.size : Int) == 8) = false := beq_eq_false_iff_ne.2 hy8
          have hyd : decide (y.size = 8) = false := decide_eq_false (by omega)
          try simp only [hyb]
          try simp only [Bool.true_and, Bool.false_and, Bool.and_false, Bool.and_true, if_true, if_false, Bool.false_eq_true, ↓reduceIte]
          go_enter Try.func42, Try.ntmps42
          go_wp2_with (first | (go_at_call 93; first | ((with_reducible refine (HW0.out _).mono ?_); rintro e w1 ⟨rfl, rfl⟩) | ((with_reducible refine (HW1.out _).mono ?_); rintro e w1 ⟨rfl, rfl⟩) | ((with_reducible refine (HW3.out _).mono ?_); rintro e w1 ⟨rfl, rfl⟩) | ((with_reducible refine (HW4.out _).mono ?_); rintro e w1 ⟨rfl, rfl⟩)) | (go_at_call 94; ((with_reducible refine (HW5.out _).mono ?_); rintro e w1 ⟨rfl, rfl⟩)) | (go_at_call 92; refine (when_calls _ _).mono ?_; rintro e w1 ⟨rfl, rfl⟩))
          go_ret
          exact ⟨by first | rfl | (simp; done) | (simp [hy8]; done), below1 _⟩
        have hyb : ((y.size : Int) == 8) = true := beq_iff_eq.2 hy8
        cases b3 with
        | false =>
          try simp only [hyb]
          try simp only [Bool.true_and, Bool.false_and, Bool.and_false, Bool.and_true, if_true, if_false, Bool.false_eq_true, ↓reduceIte]
          go_enter Try.func42, Try.ntmps42
          go_wp2_with (first | (go_at_call 93; first | ((with_reducible refine (HW0.out _).mono ?_); rintro e w1 ⟨rfl, rfl⟩) | ((with_reducible refine (HW1.out _).mono ?_); rintro e w1 ⟨rfl, rfl⟩) | ((with_reducible refine (HW3.out _).mono ?_); rintro e w1 ⟨rfl, rfl⟩) | ((with_reducible refine (HW4.out _).mono ?_); rintro e w1 ⟨rfl, rfl⟩)) | (go_at_call 94; ((with_reducible refine (HW5.out _).mono ?_); rintro e w1 ⟨rfl, rfl⟩)) | (go_at_call 92; refine (when_calls _ _).mono ?_; rintro e w1 ⟨rfl, rfl⟩))
          go_ret
          exact ⟨by first | rfl | (simp; done) | (simp [hy8]; done), below1 _⟩
        | true =>
          cases b4 with
          | false =>
            try simp only [hyb]
            try simp only [Bool.true_and, Bool.false_and, Bool.and_false, Bool.and_true, if_true, if_false, Bool.false_eq_true, ↓reduceIte]
            go_enter Try.func42, Try.ntmps42
            go_wp2_with (first | (go_at_call 93; first | ((with_reducible refine (HW0.out _).mono ?_); rintro e w1 ⟨rfl, rfl⟩) | ((with_reducible refine (HW1.out _).mono ?_); rintro e w1 ⟨rfl, rfl⟩) | ((with_reducible refine (HW3.out _).mono ?_); rintro e w1 ⟨rfl, rfl⟩) | ((with_reducible refine (HW4.out _).mono ?_); rintro e w1 ⟨rfl, rfl⟩)) | (go_at_call 94; ((with_reducible refine (HW5.out _).mono ?_); rintro e w1 ⟨rfl, rfl⟩)) | (go_at_call 92; refine (when_calls _ _).mono ?_; rintro e w1 ⟨rfl, rfl⟩))
            go_ret
            exact ⟨by first | rfl | (simp; done) | (simp [hy8]; done), below1 _⟩
          | true =>
            cases b5 with
            | false =>
              try simp only [hyb]
              try simp only [Bool.true_and, Bool.false_and, Bool.and_false, Bool.and_true, if_true, if_false, Bool.false_eq_true, ↓reduceIte]
              go_enter Try.func42, Try.ntmps42
              go_wp2_with (first | (go_at_call 93; first | ((with_reducible refine (HW0.out _).mono ?_); rintro e w1 ⟨rfl, rfl⟩) | ((with_reducible refine (HW1.out _).mono ?_); rintro e w1 ⟨rfl, rfl⟩) | ((with_reducible refine (HW3.out _).mono ?_); rintro e w1 ⟨rfl, rfl⟩) | ((with_reducible refine (HW4.out _).mono ?_); rintro e w1 ⟨rfl, rfl⟩)) | (go_at_call 94; ((with_reducible refine (HW5.out _).mono ?_); rintro e w1 ⟨rfl, rfl⟩)) | (go_at_call 92; refine (when_calls _ _).mono ?_; rintro e w1 ⟨rfl, rfl⟩))
              go_ret
              exact ⟨by first | rfl | (simp; done) | (simp [hy8]; done), below1 _⟩
            | true =>
              try simp only [hyb]
              try simp only [Bool.true_and, Bool.false_and, Bool.and_false, Bool.and_true, if_true, if_false, Bool.false_eq_true, ↓reduceIte]
              go_enter Try.func42, Try.ntmps42
              go_wp2_with (first | (go_at_call 93; first | ((with_reducible refine (HW0.out _).mono ?_); rintro e w1 ⟨rfl, rfl⟩) | ((with_reducible refine (HW1.out _).mono ?_); rintro e w1 ⟨rfl, rfl⟩) | ((with_reducible refine (HW3.out _).mono ?_); rintro e w1 ⟨rfl, rfl⟩) | ((with_reducible refine (HW4.out _).mono ?_); rintro e w1 ⟨rfl, rfl⟩)) | (go_at_call 94; ((with_reducible refine (HW5.out _).mono ?_); rintro e w1 ⟨rfl, rfl⟩)) | (go_at_call 92; refine (when_calls _ _).mono ?_; rintro e w1 ⟨rfl, rfl⟩))
              go_ret
              exact ⟨by first | rfl | (simp; done) | (simp [hy8]; done), below1 _⟩
end Go.Proofs.Ytgmbfecfkdbfaaa.Wi
/- record.Tap: a tap as bytes. -/
set_option linter.unusedVariables false
set_option linter.unusedSimpArgs false
namespace Go.Proofs.Ytgmbfecfkdbfaaa.Wi
open Go Go.RowKit Go.Proofs.YtgmbfecfkdbfaaaW.PrintWords
set_option maxHeartbeats 3200000 in
set_option maxRecDepth 100000 in
theorem written_calls (t : Tp) (ht : t.Ok) (w : World) : Calls Try.prog 40 #[t.val, .func (.func 41) #[] #[], .func (.func 42) #[] #[]] w (RTPost t w) := by
  have HT := Aside0.mk (fun W => rightTap_calls t W)
  have HOK := Aside0.mk ht
  have HSL := Aside0.mk (tput_len t)
  obtain ⟨hn0, hn1, hy, hn3, hn4, hn5⟩ := ht
  have HP : Aside0 (t.put = tapW ⟨[], false⟩ t.n0 t.n1 t.y t.n3 t.n4 t.n5) := ⟨rfl⟩
  have HQ := Aside0.mk (show (w.alloc (.cells #[.int .i64 t.n0, .int .i64 t.n1, .string t.y, .int .i64 t.n3, .int .i64 t.n4, .int .i64 t.n5] 23)).heap[w.heap.size]? = _ from heap_alloc_new w _)
  have HB0 := Aside0.mk (below1 (w := w) (.cells #[.int .i64 t.n0, .int .i64 t.n1, .string t.y, .int .i64 t.n3, .int .i64 t.n4, .int .i64 t.n5] 23))
  cases hr : t.right with
  | false =>
    have HO : Aside0 (t.out = [] ∧ t.err = 80) := ⟨by simp [Tp.out, Tp.err, hr]⟩
    rw [hr] at HT
    simp only [Bool.false_eq_true, ↓reduceIte] at HT
    have HTT := HT
    unfold Tp.val at HTT ⊢
    clear HT HP HQ hr hn0 hn1 hy hn3 hn4 hn5
    unfold RTPost
    rw [HO.out.1, HO.out.2]
    go_enter Try.func40, Try.ntmps40
    go_wp2_with (go_at_call 42; refine (HTT.out _).mono ?_; rintro e w1 ⟨rfl, hb1⟩)
    go_ret2
    exact ⟨_, rfl, own_nil _ _ _ _, below_then HB0.out HB0.out.size hb1⟩
  | true =>
    have HO : Aside0 (t.out = t.put.out ∧ t.err = t.put.err) := ⟨by simp [Tp.out, Tp.err, hr]⟩
    rw [hr] at HT
    simp only [↓reduceIte] at HT
    have HTT := HT
    unfold Tp.val at HTT ⊢
    unfold RTPost
    rw [HO.out.1, HO.out.2]
    rw [HP.out]
    have HSL2 : Aside0 ((tapW ⟨[], false⟩ t.n0 t.n1 t.y t.n3 t.n4 t.n5).xs.length ≤ 140737488355328) := ⟨by have := HSL.out; rw [HP.out] at this; omega⟩
    have HO5 := Aside0.mk (fun (W : World) (g : Nat) (hq : W.heap[w.heap.size]? = _) (hg : w.heap.size ≠ g) (hw : Wr W g g none ⟨[], false⟩) (hB : g ≤ W.heap.size) => overTap_w t.n0 t.n1 t.y t.n3 t.n4 t.n5 hq hn0.2 hn1.2 hy hn3.2 hn4.2 hn5.2 hg (by simp) hw hB (by simp))
    clear HT HP hr hn0 hn1 hy hn3 hn4 hn5 HOK HO HSL
    generalize tapW ⟨[], false⟩ t.n0 t.n1 t.y t.n3 t.n4 t.n5 = s' at *
    go_enter Try.func40, Try.ntmps40
    go_wp2_with (first
      | (go_at_call 42; refine (HTT.out _).mono ?_; rintro e w1 ⟨rfl, hb1⟩; have HB1 := Aside0.mk (below_then HB0.out HB0.out.size hb1); have HQ1 := Aside0.mk ((Fr.of_below (S := fun _ => False) hb1).blk HQ.out (fun h => h)); clear hb1)
      | (go_at_call 51; refine (newWriter_calls _).mono ?_; rintro e w2 ⟨rfl, S0, hb2⟩; have HS0 := Aside0.mk S0; have HB2 := Aside0.mk hb2; have HB2' := Aside0.mk (below1 (w := w2) (.cells #[.pointer (some ⟨w1.heap.size, 0, none⟩), .pointer none] 97)); have HBX := Aside0.mk (heap_alloc_new w2 (.cells #[.pointer (some ⟨w1.heap.size, 0, none⟩), .pointer none] 97)); clear S0 hb2)
      | (go_at_call 41; refine (HO5.out _ w1.heap.size ((Fr.of_below (S := fun _ => False) HB2'.out).blk ((Fr.of_below (S := fun _ => False) HB2.out).blk HQ1.out (fun h => h)) (fun h => h)) (by have := blk_lt HQ1.out; omega) (HS0.out.below HB2'.out) (Nat.le_trans HB2.out.size HB2'.out.size)).mono ?_; rintro e w3 ⟨rfl, ro3, hw3, _, hf3⟩; have HW3 := Aside0.mk hw3; have HF3 := Aside0.mk hf3; have hx3 := hf3.blk HBX.out (fun h => h.elim (fun e => by have := HS0.out.lt; omega) (fun e => nomatch e)); have c0 : _ = some (Value.pointer (some ⟨w1.heap.size, 0, none⟩)) := blk_cell hx3 0; clear hw3 hf3 hx3)
      | (go_at_call 55; refine (wBytes_calls HW3.out HSL2.out).mono ?_; rintro e w4 ⟨v4, rfl, hv4, hb4⟩; have HV4 := Aside0.mk hv4; have HB4 := Aside0.mk hb4; clear hv4 hb4))
    go_ret2
    have hbw : Below w.heap.size w w3 := (below_then (below_then HB1.out HB1.out.size HB2.out) (Nat.le_trans HB1.out.size HB2.out.size) HB2'.out).trans (HF3.out.below (Nat.le_trans (Nat.le_trans HB1.out.size HB2.out.size) HB2'.out.size) (fun i hi => by
      rcases hi with rfl | e
      · exact HB1.out.size
      · cases e))
    exact ⟨_, rfl, own_upto HV4.out (fun k hk => Nat.le_trans hbw.size (own_base HV4.out k hk)), below_then hbw hbw.size HB4.out⟩
end Go.Proofs.Ytgmbfecfkdbfaaa.Wi
/- record.Tap, and the way back. -/
set_option linter.unusedVariables false
set_option linter.unusedSimpArgs false
namespace Go.Proofs.Ytgmbfecfkdbfaaa.Wi
open Go Go.RowKit Go.Proofs.YtgmbfecfkdbfaaaW.PrintWords
theorem RTPost.from {t : Tp} {w w1 w' : World} {e : Ending} (h : RTPost t w1 e w') (hb : Below w.heap.size w w1) : RTPost t w e w' := by
  obtain ⟨v, he, ho, hb'⟩ := h
  exact ⟨v, he, own_upto ho (fun k hk => Nat.le_trans hb.size (own_base ho k hk)), below_then hb hb.size hb'⟩
set_option maxHeartbeats 1600000 in
set_option maxRecDepth 100000 in
theorem recTap_calls (t : Tp) (ht : t.Ok) (w : World) : Calls Try.prog 10 #[t.val] w (RTPost t w) := by
  have HW := Aside0.mk (fun W => written_calls t ht W)
  unfold Tp.val at HW ⊢
  go_enter Try.func10, Try.ntmps10
  go_wp2_with (go_at_call 40; refine (HW.out _).mono ?_; rintro e w1 ⟨v, rfl, ho, hb⟩)
  go_ret2
  exact RTPost.from (w1 := w.alloc (.cells #[.int .i64 t.n0, .int .i64 t.n1, .string t.y, .int .i64 t.n3, .int .i64 t.n4, .int .i64 t.n5] 23)) ⟨v, rfl, ho, hb⟩ (below1 _)
def Tp.ofV (v : TapV) : Tp := ⟨v.n0, v.n1, strOfNums v.y, v.n3, v.n4, v.n5⟩
def Tp.zero : Tp := ⟨0, 0, ⟨#[]⟩, 0, 0, 0⟩
/-- a tap out of bytes; the fault's code and place -/
def readTap (bs : List Int) : Tp × Int × Int :=
  let p := tapR bs ⟨0, 0, 0, 0⟩
  let r := p.2.end_ bs.length
  if r.code = 0 then (if (Tp.ofV p.1).right = true then (Tp.ofV p.1, 0, r.fat) else (Tp.zero, 80, -1)) else (Tp.zero, r.code, r.fat)
def TKPost (bs : List Int) (w : World) (e : Ending) (w' : World) : Prop := e = .returned (.tuple #[(readTap bs).1.val, .agg #[.int .i64 (readTap bs).2.1, .int .i64 (readTap bs).2.2]]) ∧ Below w.heap.size w w'
/-- what is left when a tap and a fault are laid down as results -/
theorem fin8 {w W5 : World} {b : Nat} (h1 : W5.heap[b]? = some (.cells #[.int .i64 0, .int .i64 0, .string ⟨#[]⟩, .int .i64 0, .int .i64 0, .int .i64 0] 23 (0, 0))) (h2 : W5.heap[b + 1]? = some (.cells #[.int .i64 0, .int .i64 0] 31 (0, 0))) (hw : Below w.heap.size w W5) (hb : w.heap.size ≤ b) (a0 a1 : Int) (a2 : ByteArray) (a3 a4 a5 c0 c1 : Int) {W' : World}
    (e : W' = ((((((((W5.setCell ⟨b, 0, none⟩ (.int .i64 a0)).setCell ⟨b, 1, none⟩ (.int .i64 a1)).setCell ⟨b, 2, none⟩ (.string a2)).setCell ⟨b, 3, none⟩ (.int .i64 a3)).setCell ⟨b, 4, none⟩ (.int .i64 a4)).setCell ⟨b, 5, none⟩ (.int .i64 a5)).setCell ⟨b + 1, 0, none⟩ (.int .i64 c0)).setCell ⟨b + 1, 1, none⟩ (.int .i64 c1)).drew) :
    W'.cell? ⟨b, 0, none⟩ = some (.int .i64 a0) ∧ W'.cell? ⟨b, 1, none⟩ = some (.int .i64 a1) ∧ W'.cell? ⟨b, 2, none⟩ = some (.string a2) ∧ W'.cell? ⟨b, 3, none⟩ = some (.int .i64 a3) ∧ W'.cell? ⟨b, 4, none⟩ = some (.int .i64 a4) ∧ W'.cell? ⟨b, 5, none⟩ = some (.int .i64 a5) ∧ W'.cell? ⟨b + 1, 0, none⟩ = some (.int .i64 c0) ∧ W'.cell? ⟨b + 1, 1, none⟩ = some (.int .i64 c1) ∧ Below w.heap.size w W' := by
  have hne : b ≠ b + 1 := by omega
  have q := blk_far (blk_far (blk_set (blk_set (blk_set (blk_set (blk_set (blk_set h1 0 (.int .i64 a0)) 1 (.int .i64 a1)) 2 (.string a2)) 3 (.int .i64 a3)) 4 (.int .i64 a4)) 5 (.int .i64 a5)) (p := ⟨b + 1, 0, none⟩) hne (.int .i64 c0)) (p := ⟨b + 1, 1, none⟩) hne (.int .i64 c1)
  have q1 := blk_set (blk_set (blk_far (blk_far (blk_far (blk_far (blk_far (blk_far h2 (p := ⟨b, 0, none⟩) hne.symm (.int .i64 a0)) (p := ⟨b, 1, none⟩) hne.symm (.int .i64 a1)) (p := ⟨b, 2, none⟩) hne.symm (.string a2)) (p := ⟨b, 3, none⟩) hne.symm (.int .i64 a3)) (p := ⟨b, 4, none⟩) hne.symm (.int .i64 a4)) (p := ⟨b, 5, none⟩) hne.symm (.int .i64 a5)) 0 (.int .i64 c0)) 1 (.int .i64 c1)
  have hw2 : Below w.heap.size w W' := by
    rw [e]
    exact ((((((((hw.setCell hb _).setCell hb _).setCell hb _).setCell hb _).setCell hb _).setCell hb _).setCell (by show w.heap.size ≤ b + 1; omega) _).setCell (by show w.heap.size ≤ b + 1; omega) _).drew
  generalize hW : ((((((((W5.setCell ⟨b, 0, none⟩ (.int .i64 a0)).setCell ⟨b, 1, none⟩ (.int .i64 a1)).setCell ⟨b, 2, none⟩ (.string a2)).setCell ⟨b, 3, none⟩ (.int .i64 a3)).setCell ⟨b, 4, none⟩ (.int .i64 a4)).setCell ⟨b, 5, none⟩ (.int .i64 a5)).setCell ⟨b + 1, 0, none⟩ (.int .i64 c0)).setCell ⟨b + 1, 1, none⟩ (.int .i64 c1)) = W6 at *
  subst e
  have q' : W6.drew.heap[b]? = some (.cells _ 23 (0, 0)) := q
  have q1' : W6.drew.heap[b + 1]? = some (.cells _ 31 (0, 0)) := q1
  exact ⟨(blk_cell q' 0).trans (by simp), (blk_cell q' 1).trans (by simp), (blk_cell q' 2).trans (by simp), (blk_cell q' 3).trans (by simp), (blk_cell q' 4).trans (by simp), (blk_cell q' 5).trans (by simp), (blk_cell q1' 0).trans (by simp), (blk_cell q1' 1).trans (by simp), hw2⟩
set_option maxHeartbeats 8000000 in
set_option maxRecDepth 100000 in
theorem taken_tap_calls (A : Option Addr) (c : Nat) (bs : List Int) (w : World) (hr : ReadsInt w .u8 A bs.length bs) (hby : Bytes bs) (hl : bs.length ≤ 140737488355328) :
    Calls Try.prog 47 #[.slice A bs.length c, .func (.func 41) #[] #[], .func (.func 42) #[] #[]] w (TKPost bs w) := by
  have HR := Aside0.mk hr
  have HBY := Aside0.mk hby
  clear hr hby
  go_enter Try.func47, Try.ntmps47
  go_upto_region 2 with (fail)
  have hb4 : Below w.heap.size w ((((w.alloc (.cells #[.int .i64 0, .int .i64 0, .string ⟨#[]⟩, .int .i64 0, .int .i64 0, .int .i64 0] 23)).alloc (.cells #[.int .i64 0, .int .i64 0] 31)).alloc (.cells #[.int .i64 0, .int .i64 0, .string ⟨#[]⟩, .int .i64 0, .int .i64 0, .int .i64 0] 23)).alloc (.cells #[.int .i64 0, .int .i64 0, .string ⟨#[]⟩, .int .i64 0, .int .i64 0, .int .i64 0] 23)) := below_alloc (below_alloc (below_alloc (below_alloc (Below.refl _ _) _) _) _) _
  have s1 : (w.alloc (.cells #[.int .i64 0, .int .i64 0, .string ⟨#[]⟩, .int .i64 0, .int .i64 0, .int .i64 0] 23)).heap.size = w.heap.size + 1 := by simp
  have s2 : ((w.alloc (.cells #[.int .i64 0, .int .i64 0, .string ⟨#[]⟩, .int .i64 0, .int .i64 0, .int .i64 0] 23)).alloc (.cells #[.int .i64 0, .int .i64 0] 31)).heap.size = w.heap.size + 1 + 1 := by simp
  have s3 : (((w.alloc (.cells #[.int .i64 0, .int .i64 0, .string ⟨#[]⟩, .int .i64 0, .int .i64 0, .int .i64 0] 23)).alloc (.cells #[.int .i64 0, .int .i64 0] 31)).alloc (.cells #[.int .i64 0, .int .i64 0, .string ⟨#[]⟩, .int .i64 0, .int .i64 0, .int .i64 0] 23)).heap.size = w.heap.size + 1 + 1 + 1 := by simp
  have q6 : ((((w.alloc (.cells #[.int .i64 0, .int .i64 0, .string ⟨#[]⟩, .int .i64 0, .int .i64 0, .int .i64 0] 23)).alloc (.cells #[.int .i64 0, .int .i64 0] 31)).alloc (.cells #[.int .i64 0, .int .i64 0, .string ⟨#[]⟩, .int .i64 0, .int .i64 0, .int .i64 0] 23)).alloc (.cells #[.int .i64 0, .int .i64 0, .string ⟨#[]⟩, .int .i64 0, .int .i64 0, .int .i64 0] 23)).heap[w.heap.size]? = some _ := blk_b (blk_b (blk_b (heap_alloc_new w (.cells #[.int .i64 0, .int .i64 0, .string ⟨#[]⟩, .int .i64 0, .int .i64 0, .int .i64 0] 23)) (below1 (.cells #[.int .i64 0, .int .i64 0] 31))) (below1 (.cells #[.int .i64 0, .int .i64 0, .string ⟨#[]⟩, .int .i64 0, .int .i64 0, .int .i64 0] 23))) (below1 (.cells #[.int .i64 0, .int .i64 0, .string ⟨#[]⟩, .int .i64 0, .int .i64 0, .int .i64 0] 23))
  have q7 : ((((w.alloc (.cells #[.int .i64 0, .int .i64 0, .string ⟨#[]⟩, .int .i64 0, .int .i64 0, .int .i64 0] 23)).alloc (.cells #[.int .i64 0, .int .i64 0] 31)).alloc (.cells #[.int .i64 0, .int .i64 0, .string ⟨#[]⟩, .int .i64 0, .int .i64 0, .int .i64 0] 23)).alloc (.cells #[.int .i64 0, .int .i64 0, .string ⟨#[]⟩, .int .i64 0, .int .i64 0, .int .i64 0] 23)).heap[w.heap.size + 1]? = some _ := s1 ▸ blk_b (blk_b (heap_alloc_new (w.alloc (.cells #[.int .i64 0, .int .i64 0, .string ⟨#[]⟩, .int .i64 0, .int .i64 0, .int .i64 0] 23)) (.cells #[.int .i64 0, .int .i64 0] 31)) (below1 (.cells #[.int .i64 0, .int .i64 0, .string ⟨#[]⟩, .int .i64 0, .int .i64 0, .int .i64 0] 23))) (below1 (.cells #[.int .i64 0, .int .i64 0, .string ⟨#[]⟩, .int .i64 0, .int .i64 0, .int .i64 0] 23))
  have q8 : ((((w.alloc (.cells #[.int .i64 0, .int .i64 0, .string ⟨#[]⟩, .int .i64 0, .int .i64 0, .int .i64 0] 23)).alloc (.cells #[.int .i64 0, .int .i64 0] 31)).alloc (.cells #[.int .i64 0, .int .i64 0, .string ⟨#[]⟩, .int .i64 0, .int .i64 0, .int .i64 0] 23)).alloc (.cells #[.int .i64 0, .int .i64 0, .string ⟨#[]⟩, .int .i64 0, .int .i64 0, .int .i64 0] 23)).heap[w.heap.size + 1 + 1]? = some _ := s2 ▸ blk_b (heap_alloc_new ((w.alloc (.cells #[.int .i64 0, .int .i64 0, .string ⟨#[]⟩, .int .i64 0, .int .i64 0, .int .i64 0] 23)).alloc (.cells #[.int .i64 0, .int .i64 0] 31)) (.cells #[.int .i64 0, .int .i64 0, .string ⟨#[]⟩, .int .i64 0, .int .i64 0, .int .i64 0] 23)) (below1 (.cells #[.int .i64 0, .int .i64 0, .string ⟨#[]⟩, .int .i64 0, .int .i64 0, .int .i64 0] 23))
  have q9 : ((((w.alloc (.cells #[.int .i64 0, .int .i64 0, .string ⟨#[]⟩, .int .i64 0, .int .i64 0, .int .i64 0] 23)).alloc (.cells #[.int .i64 0, .int .i64 0] 31)).alloc (.cells #[.int .i64 0, .int .i64 0, .string ⟨#[]⟩, .int .i64 0, .int .i64 0, .int .i64 0] 23)).alloc (.cells #[.int .i64 0, .int .i64 0, .string ⟨#[]⟩, .int .i64 0, .int .i64 0, .int .i64 0] 23)).heap[w.heap.size + 1 + 1 + 1]? = some _ := s3 ▸ heap_alloc_new (((w.alloc (.cells #[.int .i64 0, .int .i64 0, .string ⟨#[]⟩, .int .i64 0, .int .i64 0, .int .i64 0] 23)).alloc (.cells #[.int .i64 0, .int .i64 0] 31)).alloc (.cells #[.int .i64 0, .int .i64 0, .string ⟨#[]⟩, .int .i64 0, .int .i64 0, .int .i64 0] 23)) (.cells #[.int .i64 0, .int .i64 0, .string ⟨#[]⟩, .int .i64 0, .int .i64 0, .int .i64 0] 23)
  have HB4 := Aside0.mk hb4
  have HQ6 := Aside0.mk q6
  have HQ7 := Aside0.mk q7
  have HQ8 := Aside0.mk q8
  have HQ9 := Aside0.mk q9
  clear hb4 s1 s2 s3 q6 q7 q8 q9
  generalize ((((w.alloc (.cells #[.int .i64 0, .int .i64 0, .string ⟨#[]⟩, .int .i64 0, .int .i64 0, .int .i64 0] 23)).alloc (.cells #[.int .i64 0, .int .i64 0] 31)).alloc (.cells #[.int .i64 0, .int .i64 0, .string ⟨#[]⟩, .int .i64 0, .int .i64 0, .int .i64 0] 23)).alloc (.cells #[.int .i64 0, .int .i64 0, .string ⟨#[]⟩, .int .i64 0, .int .i64 0, .int .i64 0] 23)) = W4 at *
  obtain ⟨b, hb⟩ : ∃ b, w.heap.size = b := ⟨_, rfl⟩
  rw [hb] at HQ6 HQ7 HQ8 HQ9
  rw [show (some (⟨w.heap.size, 0, none⟩ : Addr)) = some ⟨b, 0, none⟩ by rw [hb], show (some (⟨w.heap.size + 1, 0, none⟩ : Addr)) = some ⟨b + 1, 0, none⟩ by rw [hb], show (some (⟨w.heap.size + 1 + 1, 0, none⟩ : Addr)) = some ⟨b + 1 + 1, 0, none⟩ by rw [hb], show (some (⟨w.heap.size + 1 + 1 + 1, 0, none⟩ : Addr)) = some ⟨b + 1 + 1 + 1, 0, none⟩ by rw [hb]]
  have HBE := Aside0.mk hb
  clear hb
  have hlb : b + 1 + 1 + 1 < W4.heap.size := blk_lt HQ9.out
  have HLB := Aside0.mk hlb
  clear hlb
  go_upto_region 5 with (first
    | (go_at_call 100; refine (newReader_calls A c bs _ (HR.out.below HB4.out) HBY.out hl).mono ?_; rintro e w2 ⟨g, ro, rfl, R2, hb2⟩; have HR2 := Aside0.mk (R2.below (below1 (.cells #[.pointer none, .pointer (some ⟨g, 0, none⟩)] 97))); have HG2 := Aside0.mk (And.intro R2.lt R2.base); have HBX := Aside0.mk (heap_alloc_new w2 (.cells #[.pointer none, .pointer (some ⟨g, 0, none⟩)] 97)); have HB2 := Aside0.mk (show Below W4.heap.size W4 (w2.alloc (.cells #[.pointer none, .pointer (some ⟨g, 0, none⟩)] 97)) from below_then hb2 hb2.size (below1 _)); clear R2 hb2)
    | (go_at_call 41; refine (overTap_r 0 0 ⟨#[]⟩ 0 0 0 (blk_b HQ8.out HB2.out) HR2.out HB2.out.size).mono ?_; rintro e w3 ⟨rfl, R3, hq3, f3⟩; have HR3 := Aside0.mk R3; have HQ3 := Aside0.mk hq3; have HF3 := Aside0.mk f3; have hx3 := f3.blk HBX.out (by have := HG2.out; have := HLB.out; omega); have c1 : _ = some (Value.pointer (some ⟨g, 0, none⟩)) := blk_cell hx3 1; clear R3 hq3 f3 hx3)
    | (go_at_call 101; refine (rEnd_calls HR3.out).mono ?_; rintro e w4 ⟨rfl, R4, f4⟩; have HF4 := Aside0.mk f4; clear R4 f4))
  have hrt : readTap bs = (let p := tapR bs ⟨0, 0, 0, 0⟩; let r := p.2.end_ bs.length; if r.code = 0 then (if (Tp.ofV p.1).right = true then (Tp.ofV p.1, 0, r.fat) else (Tp.zero, 80, -1)) else (Tp.zero, r.code, r.fat)) := rfl
  simp only at hrt
  have HRT := Aside0.mk hrt
  clear hrt c1 HBX
  have HWB := Aside0.mk (show Below w.heap.size w w4 from by
    have h1 := HB4.out.size
    have h2 := HB2.out.size
    have h3 := HF3.out.size
    have h5 := HG2.out.2
    exact ((below_then HB4.out h1 HB2.out).trans (HF3.out.below (by omega) (fun i hi => by rcases hi with e | e <;> (have := HBE.out; omega)))).trans (HF4.out.below (by omega) (fun i hi => by subst hi; omega)))
  have hsz4 : b + 1 + 1 + 1 < w4.heap.size := by have := HLB.out; have := HB2.out.size; have := HF3.out.size; have := HF4.out.size; omega
  have hng : ∀ k, k ≤ b + 1 + 1 + 1 → k ≠ g := fun k hk e => by have := HLB.out; have := HG2.out.2; omega
  have hq8 := HF4.out.blk HQ3.out (hng _ (by omega))
  have old : ∀ k o, k ≤ b + 1 + 1 + 1 → k ≠ b + 1 + 1 → W4.heap[k]? = some o → w4.heap[k]? = some o := fun k o h1 h2 h3 => HF4.out.blk (HF3.out.blk (blk_b h3 HB2.out) (fun h => h.elim (hng k h1) h2)) (hng k h1)
  have hq6 := old b _ (by omega) (by omega) HQ6.out
  have hq7 := old (b + 1) _ (by omega) (by omega) HQ7.out
  have hq9 := old (b + 1 + 1 + 1) _ (by omega) (by omega) HQ9.out
  clear old hng HF3 HF4 HR3 HQ3 HQ6 HQ7 HQ8 HQ9 HR2 HB2 HG2 HB4 HLB HR HBY
  generalize tapR bs ⟨0, 0, 0, 0⟩ = p at *
  obtain ⟨v, r1⟩ := p
  simp only at HRT hq8 ⊢
  generalize r1.end_ bs.length = r2 at *
  obtain ⟨at_, last, code, fat⟩ := r2
  simp only at HRT ⊢
  unfold TapV.cells at hq8
  obtain ⟨m0, m1, my, m3, m4, m5⟩ := v
  simp only [Tp.ofV] at HRT hq8
  have h5 := below1 (w := w4) (.cells #[.int .i64 code, .int .i64 fat] 31)
  have HW5 := Aside0.mk (below_then HWB.out HWB.out.size h5)
  have g6 := blk_b hq6 h5
  have g7 := blk_b hq7 h5
  have g8 := blk_b hq8 h5
  have g9 := blk_b hq9 h5
  have gf := heap_alloc_new w4 (.cells #[.int .i64 code, .int .i64 fat] 31)
  clear hq6 hq7 hq8 hq9 h5 HWB
  generalize w4.alloc (.cells #[.int .i64 code, .int .i64 fat] 31) = W5 at *
  generalize w4.heap.size = f at *
  have HG := Aside0.mk (And.intro g6 (And.intro g7 (And.intro g8 (And.intro g9 gf))))
  clear g6 g7 g8 g9 gf
  have f0 : _ = some (Value.int .i64 code) := blk_cell HG.out.2.2.2.2 0
  have f1 : _ = some (Value.int .i64 fat) := blk_cell HG.out.2.2.2.2 1
  by_cases hc : code = 0
  case neg =>
    have hcb : (code == 0) = false := beq_eq_false_iff_ne.2 hc
    have hcn : (code != 0) = true := bne_iff_ne.2 hc
    have n0 : _ = some (Value.int .i64 0) := blk_cell HG.out.2.2.2.1 0
    have n1 : _ = some (Value.int .i64 0) := blk_cell HG.out.2.2.2.1 1
    have n2 : _ = some (Value.string ⟨#[]⟩) := blk_cell HG.out.2.2.2.1 2
    have n3 : _ = some (Value.int .i64 0) := blk_cell HG.out.2.2.2.1 3
    have n4 : _ = some (Value.int .i64 0) := blk_cell HG.out.2.2.2.1 4
    have n5 : _ = some (Value.int .i64 0) := blk_cell HG.out.2.2.2.1 5
    go_wp2
    have p0 : _ = some (Value.int .i64 0) := blk_cell HG.out.1 0
    have z0 := blk_frozen HG.out.1 0
    have p1 : _ = some (Value.int .i64 0) := blk_cell HG.out.1 1
    have z1 := blk_frozen HG.out.1 1
    have p2 : _ = some (Value.string ⟨#[]⟩) := blk_cell HG.out.1 2
    have z2 := blk_frozen HG.out.1 2
    have p3 : _ = some (Value.int .i64 0) := blk_cell HG.out.1 3
    have z3 := blk_frozen HG.out.1 3
    have p4 : _ = some (Value.int .i64 0) := blk_cell HG.out.1 4
    have z4 := blk_frozen HG.out.1 4
    have p5 : _ = some (Value.int .i64 0) := blk_cell HG.out.1 5
    have z5 := blk_frozen HG.out.1 5
    have t0 : _ = some (Value.int .i64 0) := blk_cell HG.out.2.1 0
    have y0 := blk_frozen HG.out.2.1 0
    have t1 : _ = some (Value.int .i64 0) := blk_cell HG.out.2.1 1
    have y1 := blk_frozen HG.out.2.1 1
    go_region
    generalize hWE : World.drew _ = WE
    obtain ⟨k0, k1, k2, k3, k4, k5, l0, l1, hbl⟩ := fin8 HG.out.1 HG.out.2.1 HW5.out (by have := HBE.out; omega) 0 0 ⟨#[]⟩ 0 0 0 code fat hWE.symm
    clear hWE
    go_wp2
    refine bodyPost_ret (v := .tuple #[.agg #[.int .i64 0, .int .i64 0, .string ⟨#[]⟩, .int .i64 0, .int .i64 0, .int .i64 0], .agg #[.int .i64 code, .int .i64 fat]]) (by simp [results, Try.results47, go_sem, k0, k1, k2, k3, k4, k5, l0, l1]) rfl ?_
    unfold TKPost
    rw [HRT.out, if_neg hc]
    exact ⟨rfl, hbl⟩
  case pos =>
    subst hc
    rw [if_pos rfl] at HRT
    have v0 : _ = some (Value.int .i64 m0) := blk_cell HG.out.2.2.1 0
    have v1 : _ = some (Value.int .i64 m1) := blk_cell HG.out.2.2.1 1
    have v2 : _ = some (Value.string (strOfNums my)) := blk_cell HG.out.2.2.1 2
    have v3 : _ = some (Value.int .i64 m3) := blk_cell HG.out.2.2.1 3
    have v4 : _ = some (Value.int .i64 m4) := blk_cell HG.out.2.2.1 4
    have v5 : _ = some (Value.int .i64 m5) := blk_cell HG.out.2.2.1 5
    have HT := Aside0.mk (fun W => rightTap_calls ⟨m0, m1, strOfNums my, m3, m4, m5⟩ W)
    unfold Tp.val at HT
    obtain ⟨rr, hrr⟩ : ∃ rr, (Tp.right ⟨m0, m1, strOfNums my, m3, m4, m5⟩) = rr := ⟨_, rfl⟩
    cases rr with
    | true =>
      simp only [hrr, ↓reduceIte] at HT HRT
      clear hrr
      go_upto_region 7 with (go_at_call 42; refine (HT.out _).mono ?_; rintro e w6 ⟨rfl, hb6⟩)
      have HG6 := Aside0.mk (And.intro (blk_b HG.out.1 hb6) (And.intro (blk_b HG.out.2.1 hb6) (And.intro (blk_b HG.out.2.2.1 hb6) (And.intro (blk_b HG.out.2.2.2.1 hb6) (blk_b HG.out.2.2.2.2 hb6)))))
      have HW6 := Aside0.mk (below_then HW5.out HW5.out.size hb6)
      clear HG HW5 hb6 f0 f1 v0 v1 v2 v3 v4 v5
      have f0 : _ = some (Value.int .i64 0) := blk_cell HG6.out.2.2.2.2 0
      have f1 : _ = some (Value.int .i64 fat) := blk_cell HG6.out.2.2.2.2 1
      have v0 : _ = some (Value.int .i64 m0) := blk_cell HG6.out.2.2.1 0
      have v1 : _ = some (Value.int .i64 m1) := blk_cell HG6.out.2.2.1 1
      have v2 : _ = some (Value.string (strOfNums my)) := blk_cell HG6.out.2.2.1 2
      have v3 : _ = some (Value.int .i64 m3) := blk_cell HG6.out.2.2.1 3
      have v4 : _ = some (Value.int .i64 m4) := blk_cell HG6.out.2.2.1 4
      have v5 : _ = some (Value.int .i64 m5) := blk_cell HG6.out.2.2.1 5
      go_wp2
      have p0 : _ = some (Value.int .i64 0) := blk_cell HG6.out.1 0
      have z0 := blk_frozen HG6.out.1 0
      have p1 : _ = some (Value.int .i64 0) := blk_cell HG6.out.1 1
      have z1 := blk_frozen HG6.out.1 1
      have p2 : _ = some (Value.string ⟨#[]⟩) := blk_cell HG6.out.1 2
      have z2 := blk_frozen HG6.out.1 2
      have p3 : _ = some (Value.int .i64 0) := blk_cell HG6.out.1 3
      have z3 := blk_frozen HG6.out.1 3
      have p4 : _ = some (Value.int .i64 0) := blk_cell HG6.out.1 4
      have z4 := blk_frozen HG6.out.1 4
      have p5 : _ = some (Value.int .i64 0) := blk_cell HG6.out.1 5
      have z5 := blk_frozen HG6.out.1 5
      have t0 : _ = some (Value.int .i64 0) := blk_cell HG6.out.2.1 0
      have y0 := blk_frozen HG6.out.2.1 0
      have t1 : _ = some (Value.int .i64 0) := blk_cell HG6.out.2.1 1
      have y1 := blk_frozen HG6.out.2.1 1
      go_region
      generalize hWE : World.drew _ = WE
      obtain ⟨k0, k1, k2, k3, k4, k5, l0, l1, hbl⟩ := fin8 HG6.out.1 HG6.out.2.1 HW6.out (by have := HBE.out; omega) m0 m1 (strOfNums my) m3 m4 m5 0 fat hWE.symm
      clear hWE
      go_wp2
      refine bodyPost_ret (v := .tuple #[.agg #[.int .i64 m0, .int .i64 m1, .string (strOfNums my), .int .i64 m3, .int .i64 m4, .int .i64 m5], .agg #[.int .i64 0, .int .i64 fat]]) (by simp [results, Try.results47, go_sem, k0, k1, k2, k3, k4, k5, l0, l1]) rfl ?_
      unfold TKPost
      rw [HRT.out]
      exact ⟨rfl, hbl⟩
    | false =>
      simp only [hrr, ↓reduceIte, Bool.false_eq_true] at HT HRT
      clear hrr
      go_upto_region 7 with (go_at_call 42; refine (HT.out _).mono ?_; rintro e w6 ⟨rfl, hb6⟩)
      have HG6 := Aside0.mk (And.intro (blk_b HG.out.1 hb6) (And.intro (blk_b HG.out.2.1 hb6) (And.intro (blk_b HG.out.2.2.1 hb6) (And.intro (blk_b HG.out.2.2.2.1 hb6) (blk_b HG.out.2.2.2.2 hb6)))))
      have HW6 := Aside0.mk (below_then HW5.out HW5.out.size hb6)
      clear HG HW5 hb6 f0 f1 v0 v1 v2 v3 v4 v5
      have f0 : _ = some (Value.int .i64 0) := blk_cell HG6.out.2.2.2.2 0
      have f1 : _ = some (Value.int .i64 fat) := blk_cell HG6.out.2.2.2.2 1
      have f2 := blk_frozen HG6.out.2.2.2.2 0
      have f3 := blk_frozen HG6.out.2.2.2.2 1
      go_upto_region 9 with (fail)
      have far : ∀ k (cs : Array Value) (T : TypeId), k ≤ b + 1 + 1 + 1 → w6.heap[k]? = some (.cells cs T (0, 0)) → ((w6.setCell ⟨f, 0, none⟩ (.int .i64 80)).setCell ⟨f, 1, none⟩ (.int .i64 (-1))).heap[k]? = some (.cells cs T (0, 0)) := fun k cs T hk h => blk_far (blk_far h (p := ⟨f, 0, none⟩) (by show k ≠ f; omega) _) (p := ⟨f, 1, none⟩) (by show k ≠ f; omega) _
      have HG7 := Aside0.mk (And.intro (far _ _ _ (by omega) HG6.out.1) (And.intro (far _ _ _ (by omega) HG6.out.2.1) (And.intro (far _ _ _ (by omega) HG6.out.2.2.2.1) (blk_set (blk_set HG6.out.2.2.2.2 0 (.int .i64 80)) 1 (.int .i64 (-1))))))
      have HW7 := Aside0.mk (show Below w.heap.size w ((w6.setCell ⟨f, 0, none⟩ (.int .i64 80)).setCell ⟨f, 1, none⟩ (.int .i64 (-1))) from (HW6.out.setCell (by have := HBE.out; show w.heap.size ≤ f; omega) _).setCell (by have := HBE.out; show w.heap.size ≤ f; omega) _)
      clear far HG6 HW6 f0 f1 f2 f3
      generalize (w6.setCell ⟨f, 0, none⟩ (.int .i64 80)).setCell ⟨f, 1, none⟩ (.int .i64 (-1)) = w7 at *
      have f0 : w7.cell? ⟨f, 0, none⟩ = some (Value.int .i64 80) := (blk_cell HG7.out.2.2.2 0).trans (by simp)
      have f1 : w7.cell? ⟨f, 1, none⟩ = some (Value.int .i64 (-1)) := (blk_cell HG7.out.2.2.2 1).trans (by simp)
      have n0 : _ = some (Value.int .i64 0) := blk_cell HG7.out.2.2.1 0
      have n1 : _ = some (Value.int .i64 0) := blk_cell HG7.out.2.2.1 1
      have n2 : _ = some (Value.string ⟨#[]⟩) := blk_cell HG7.out.2.2.1 2
      have n3 : _ = some (Value.int .i64 0) := blk_cell HG7.out.2.2.1 3
      have n4 : _ = some (Value.int .i64 0) := blk_cell HG7.out.2.2.1 4
      have n5 : _ = some (Value.int .i64 0) := blk_cell HG7.out.2.2.1 5
      go_wp2
      have p0 : _ = some (Value.int .i64 0) := blk_cell HG7.out.1 0
      have z0 := blk_frozen HG7.out.1 0
      have p1 : _ = some (Value.int .i64 0) := blk_cell HG7.out.1 1
      have z1 := blk_frozen HG7.out.1 1
      have p2 : _ = some (Value.string ⟨#[]⟩) := blk_cell HG7.out.1 2
      have z2 := blk_frozen HG7.out.1 2
      have p3 : _ = some (Value.int .i64 0) := blk_cell HG7.out.1 3
      have z3 := blk_frozen HG7.out.1 3
      have p4 : _ = some (Value.int .i64 0) := blk_cell HG7.out.1 4
      have z4 := blk_frozen HG7.out.1 4
      have p5 : _ = some (Value.int .i64 0) := blk_cell HG7.out.1 5
      have z5 := blk_frozen HG7.out.1 5
      have t0 : _ = some (Value.int .i64 0) := blk_cell HG7.out.2.1 0
      have y0 := blk_frozen HG7.out.2.1 0
      have t1 : _ = some (Value.int .i64 0) := blk_cell HG7.out.2.1 1
      have y1 := blk_frozen HG7.out.2.1 1
      go_region
      generalize hWE : World.drew _ = WE
      obtain ⟨k0, k1, k2, k3, k4, k5, l0, l1, hbl⟩ := fin8 HG7.out.1 HG7.out.2.1 HW7.out (by have := HBE.out; omega) 0 0 ⟨#[]⟩ 0 0 0 80 (-1) hWE.symm
      clear hWE
      go_wp2
      refine bodyPost_ret (v := .tuple #[.agg #[.int .i64 0, .int .i64 0, .string ⟨#[]⟩, .int .i64 0, .int .i64 0, .int .i64 0], .agg #[.int .i64 80, .int .i64 (-1)]]) (by simp [results, Try.results47, go_sem, k0, k1, k2, k3, k4, k5, l0, l1]) rfl ?_
      unfold TKPost
      rw [HRT.out]
      exact ⟨rfl, hbl⟩
end Go.Proofs.Ytgmbfecfkdbfaaa.Wi
/- record.ReadTap, and the laws' small functions. -/
set_option linter.unusedVariables false
set_option linter.unusedSimpArgs false
namespace Go.Proofs.Ytgmbfecfkdbfaaa.Wi
open Go Go.RowKit Go.Proofs.YtgmbfecfkdbfaaaW.PrintWords
theorem fin8' {w W5 : World} {b : Nat} (h1 : W5.heap[b]? = some (.cells #[.int .i64 0, .int .i64 0, .string ⟨#[]⟩, .int .i64 0, .int .i64 0, .int .i64 0] 23 (0, 0))) (h2 : W5.heap[b + 1]? = some (.cells #[.int .i64 0, .int .i64 0] 31 (0, 0))) (hw : Below w.heap.size w W5) (hb : w.heap.size ≤ b) (a0 a1 : Int) (a2 : ByteArray) (a3 a4 a5 c0 c1 : Int) {W' : World}
    (e : W' = ((((((((W5.setCell ⟨b, 0, none⟩ (.int .i64 a0)).setCell ⟨b, 1, none⟩ (.int .i64 a1)).setCell ⟨b, 2, none⟩ (.string a2)).setCell ⟨b, 3, none⟩ (.int .i64 a3)).setCell ⟨b, 4, none⟩ (.int .i64 a4)).setCell ⟨b, 5, none⟩ (.int .i64 a5)).setCell ⟨b + 1, 0, none⟩ (.int .i64 c0)).setCell ⟨b + 1, 1, none⟩ (.int .i64 c1))) :
    W'.cell? ⟨b, 0, none⟩ = some (.int .i64 a0) ∧ W'.cell? ⟨b, 1, none⟩ = some (.int .i64 a1) ∧ W'.cell? ⟨b, 2, none⟩ = some (.string a2) ∧ W'.cell? ⟨b, 3, none⟩ = some (.int .i64 a3) ∧ W'.cell? ⟨b, 4, none⟩ = some (.int .i64 a4) ∧ W'.cell? ⟨b, 5, none⟩ = some (.int .i64 a5) ∧ W'.cell? ⟨b + 1, 0, none⟩ = some (.int .i64 c0) ∧ W'.cell? ⟨b + 1, 1, none⟩ = some (.int .i64 c1) ∧ Below w.heap.size w W' := by
  obtain ⟨k0, k1, k2, k3, k4, k5, l0, l1, hbl⟩ := fin8 h1 h2 hw hb a0 a1 a2 a3 a4 a5 c0 c1 rfl
  rw [← e] at k0 k1 k2 k3 k4 k5 l0 l1 hbl
  exact ⟨k0, k1, k2, k3, k4, k5, l0, l1, ⟨hbl.os, hbl.tape, hbl.output, hbl.size, hbl.block⟩⟩
set_option maxHeartbeats 8000000 in
set_option maxRecDepth 100000 in
theorem recReadTap_calls (A : Option Addr) (c : Nat) (bs : List Int) (w : World) (hr : ReadsInt w .u8 A bs.length bs) (hby : Bytes bs) (hl : bs.length ≤ 140737488355328) :
    Calls Try.prog 13 #[.slice A bs.length c] w (TKPost bs w) := by
  have hb2 : Below w.heap.size w ((w.alloc (.cells #[.int .i64 0, .int .i64 0, .string ⟨#[]⟩, .int .i64 0, .int .i64 0, .int .i64 0] 23)).alloc (.cells #[.int .i64 0, .int .i64 0] 31)) := below2 _ _
  have HC := Aside0.mk (taken_tap_calls A c bs _ (hr.below hb2) hby hl)
  have HQ6 := Aside0.mk (two_0 w (.cells #[.int .i64 0, .int .i64 0, .string ⟨#[]⟩, .int .i64 0, .int .i64 0, .int .i64 0] 23) (.cells #[.int .i64 0, .int .i64 0] 31))
  have HQ7 := Aside0.mk (two_1 w (.cells #[.int .i64 0, .int .i64 0, .string ⟨#[]⟩, .int .i64 0, .int .i64 0, .int .i64 0] 23) (.cells #[.int .i64 0, .int .i64 0] 31))
  have HB2 := Aside0.mk hb2
  have HRT : Aside0 (∀ e w', TKPost bs ((w.alloc (.cells #[.int .i64 0, .int .i64 0, .string ⟨#[]⟩, .int .i64 0, .int .i64 0, .int .i64 0] 23)).alloc (.cells #[.int .i64 0, .int .i64 0] 31)) e w' → ∃ m0 m1 my m3 m4 m5 c0 c1, e = .returned (.tuple #[.agg #[.int .i64 m0, .int .i64 m1, .string my, .int .i64 m3, .int .i64 m4, .int .i64 m5], .agg #[.int .i64 c0, .int .i64 c1]]) ∧ Below w.heap.size w w' ∧ Below ((w.alloc (.cells #[.int .i64 0, .int .i64 0, .string ⟨#[]⟩, .int .i64 0, .int .i64 0, .int .i64 0] 23)).alloc (.cells #[.int .i64 0, .int .i64 0] 31)).heap.size ((w.alloc (.cells #[.int .i64 0, .int .i64 0, .string ⟨#[]⟩, .int .i64 0, .int .i64 0, .int .i64 0] 23)).alloc (.cells #[.int .i64 0, .int .i64 0] 31)) w' ∧ ∀ W, Below w.heap.size w W → TKPost bs w (.returned (.tuple #[.agg #[.int .i64 m0, .int .i64 m1, .string my, .int .i64 m3, .int .i64 m4, .int .i64 m5], .agg #[.int .i64 c0, .int .i64 c1]])) W) := ⟨fun e w' h => by
    unfold TKPost at *
    exact ⟨_, _, _, _, _, _, _, _, h.1, below_then hb2 hb2.size h.2, h.2, fun W hW => ⟨rfl, hW⟩⟩⟩
  clear hb2 hr hby
  go_enter Try.func13, Try.ntmps13
  go_wp2_with (go_at_call 47; refine HC.out.mono ?_; intro e w1 hP; obtain ⟨m0, m1, my, m3, m4, m5, c0, c1, rfl, hbw, hb1, hfin⟩ := HRT.out e w1 hP; have HW1 := Aside0.mk hbw; have HFN := Aside0.mk hfin; have g6 := blk_b HQ6.out hb1; have g7 := blk_b HQ7.out hb1; have HG6 := Aside0.mk g6; have HG7 := Aside0.mk g7; have p0 : _ = some (Value.int .i64 0) := blk_cell g6 0; have z0 := blk_frozen g6 0; have p1 : _ = some (Value.int .i64 0) := blk_cell g6 1; have z1 := blk_frozen g6 1; have p2 : _ = some (Value.string ⟨#[]⟩) := blk_cell g6 2; have z2 := blk_frozen g6 2; have p3 : _ = some (Value.int .i64 0) := blk_cell g6 3; have z3 := blk_frozen g6 3; have p4 : _ = some (Value.int .i64 0) := blk_cell g6 4; have z4 := blk_frozen g6 4; have p5 : _ = some (Value.int .i64 0) := blk_cell g6 5; have z5 := blk_frozen g6 5; have t0 : _ = some (Value.int .i64 0) := blk_cell g7 0; have y0 := blk_frozen g7 0; have t1 : _ = some (Value.int .i64 0) := blk_cell g7 1; have y1 := blk_frozen g7 1; clear hP hbw hfin hb1 g6 g7)
  clear p0 p1 p2 p3 p4 p5 z0 z1 z2 z3 z4 z5 t0 t1 y0 y1
  obtain ⟨k0, k1, k2, k3, k4, k5, l0, l1, hbl⟩ := fin8' HG6.out HG7.out HW1.out (Nat.le_refl _) m0 m1 my m3 m4 m5 c0 c1 rfl
  generalize ((((((((w1.setCell ⟨w.heap.size, 0, none⟩ (.int .i64 m0)).setCell ⟨w.heap.size, 1, none⟩ (.int .i64 m1)).setCell ⟨w.heap.size, 2, none⟩ (.string my)).setCell ⟨w.heap.size, 3, none⟩ (.int .i64 m3)).setCell ⟨w.heap.size, 4, none⟩ (.int .i64 m4)).setCell ⟨w.heap.size, 5, none⟩ (.int .i64 m5)).setCell ⟨w.heap.size + 1, 0, none⟩ (.int .i64 c0)).setCell ⟨w.heap.size + 1, 1, none⟩ (.int .i64 c1)) = WE at *
  refine bodyPost_ret (v := .tuple #[.agg #[.int .i64 m0, .int .i64 m1, .string my, .int .i64 m3, .int .i64 m4, .int .i64 m5], .agg #[.int .i64 c0, .int .i64 c1]]) (by simp [results, Try.results13, go_sem, k0, k1, k2, k3, k4, k5, l0, l1]) rfl ?_
  exact HFN.out _ hbl
end Go.Proofs.Ytgmbfecfkdbfaaa.Wi
/- The document's tap as bytes. -/
set_option linter.unusedVariables false
set_option linter.unusedSimpArgs false
namespace Go.Proofs.Ytgmbfecfkdbfaaa.Wi
open Go Go.RowKit Go.Proofs.YtgmbfecfkdbfaaaW.PrintWords
section
variable {W1 W W' : World} {B g : Nat} {ro : Option Nat} {s : WS}
def OV (W1 W : World) (B g : Nat) (ro : Option Nat) (s : WS) : Prop := B ≤ W1.heap.size ∧ ∃ ro', Vr W B g ro' s ∧ (ro' = ro ∨ ∃ b, ro' = some b ∧ W1.heap.size ≤ b) ∧ Fr (WrS g ro) W1 W
theorem OV.then_ (h : OV W1 W B g ro s) (hb : Below W.heap.size W W') : OV W1 W' B g ro s := by
  obtain ⟨h0, ro', h1, h2, h3⟩ := h
  exact ⟨h0, ro', h1.below hb, h2, h3.then_below hb⟩
theorem OV.fr (h : OV W1 W B g ro s) : Fr (WrS g ro) W1 W := by
  obtain ⟨_, ro', h1, h2, h3⟩ := h
  exact h3
theorem OV.call (h : OV W1 W B g ro s) {s' : WS} {F : Nat} {args : Array Value} (hC : ∀ ro', Vr W B g ro' s → B ≤ W.heap.size → Calls Try.prog F args W (VPost B g ro' s' W)) : Calls Try.prog F args W fun e W' => e = .returned (.tuple #[]) ∧ OV W1 W' B g ro s' := by
  have hf := h.fr
  obtain ⟨h0, ro', h1, hr, h3⟩ := h
  refine (hC ro' h1 (Nat.le_trans h0 h3.size)).mono fun e W' hP => ?_
  obtain ⟨he, ro2, hw2, hgr2, hf2⟩ := hP
  refine ⟨he, h0, ro2, hw2, ?_, hf.trans hf2 (fun i hi hs => ?_)⟩
  · rcases hgr2 with h | ⟨b, h, hb⟩
    · rw [h]; exact hr
    · exact .inr ⟨b, h, Nat.le_trans hf.size hb⟩
  · rcases hs with e | e
    · exact .inl e
    · rcases hr with h | ⟨b, h, hb⟩
      · exact .inr (by rw [← h, e])
      · rw [h] at e
        obtain rfl := Option.some.inj e
        omega
end
set_option maxHeartbeats 1600000 in
set_option maxRecDepth 100000 in
theorem rwithin_calls (n lo hi : Int) (w : World) : Calls Try.prog 99 #[.int .i64 n, .int .i64 lo, .int .i64 hi] w fun e w' => e = .returned (.bool (inB n lo hi)) ∧ w = w' := by
  unfold inB
  by_cases h : lo ≤ n
  · rw [decide_eq_true h, Bool.true_and]
    go_enter Try.func99, Try.ntmps99
    go_wp2
    go_ret
    exact ⟨rfl, rfl⟩
  · rw [decide_eq_false h, Bool.false_and]
    go_enter Try.func99, Try.ntmps99
    go_wp2
    go_ret
    exact ⟨rfl, rfl⟩
set_option maxHeartbeats 1600000 in
set_option maxRecDepth 100000 in
theorem rright_calls (n : Int) (w : World) : Calls Try.prog 98 #[.int .i64 n] w fun e w' => e = .returned (.bool (inB n 0 2147483648)) ∧ w = w' := by
  unfold inB
  by_cases h : 0 ≤ n
  · rw [decide_eq_true h, Bool.true_and]
    go_enter Try.func98, Try.ntmps98
    go_wp2
    go_ret
    exact ⟨rfl, rfl⟩
  · rw [decide_eq_false h, Bool.false_and]
    go_enter Try.func98, Try.ntmps98
    go_wp2
    go_ret
    exact ⟨rfl, rfl⟩
set_option maxHeartbeats 3200000 in
set_option maxRecDepth 100000 in
theorem rTapRight_calls (t : Tp) (w : World) : Calls Try.prog 46 #[t.val] w fun e w' => e = .returned (.bool t.right) ∧ Below w.heap.size w w' := by
  obtain ⟨n0, n1, y, n3, n4, n5⟩ := t
  have HB := Aside0.mk (below1 (w := w) (.cells #[.int .i64 n0, .int .i64 n1, .string y, .int .i64 n3, .int .i64 n4, .int .i64 n5] 23))
  unfold Tp.val Tp.right
  simp only
  have HW0 := Aside0.mk (fun W => rwithin_calls n0 1 65535 W)
  have HW1 := Aside0.mk (fun W => rwithin_calls n1 1 4294967295 W)
  have HW3 := Aside0.mk (fun W => rwithin_calls n3 1 3 W)
  have HW4 := Aside0.mk (fun hi W => rwithin_calls n4 1 hi W)
  have HW5 := Aside0.mk (fun W => rright_calls n5 W)
  generalize inB n0 1 65535 = b0 at *
  generalize inB n1 1 4294967295 = b1 at *
  generalize inB n3 1 3 = b3 at *
  generalize inB n5 0 2147483648 = b5 at *
  by_cases h3 : n3 = 3
  · have h3b : (n3 == 3) = true := beq_iff_eq.2 h3
    rw [if_pos h3]
    subst h3
    clear h3b
    have HW4' := Aside0.mk (fun W => HW4.out 1000 W)
    clear HW4
    have HW4 := HW4'
    clear HW4'
    generalize inB n4 1 1000 = b4 at *
    cases b0 with
    | false =>
      try simp only [hyb]
      try simp only [Bool.true_and, Bool.false_and, Bool.and_false, Bool.and_true, if_true, if_false, Bool.false_eq_true, ↓reduceIte]
      go_enter Try.func46, Try.ntmps46
      go_wp2_with (first | (go_at_call 99; first | ((with_reducible refine (HW0.out _).mono ?_); rintro e w1 ⟨rfl, rfl⟩) | ((with_reducible refine (HW1.out _).mono ?_); rintro e w1 ⟨rfl, rfl⟩) | ((with_reducible refine (HW3.out _).mono ?_); rintro e w1 ⟨rfl, rfl⟩) | ((with_reducible refine (HW4.out _).mono ?_); rintro e w1 ⟨rfl, rfl⟩)) | (go_at_call 98; ((with_reducible refine (HW5.out _).mono ?_); rintro e w1 ⟨rfl, rfl⟩)))
      go_ret
      exact ⟨by first | rfl | (simp; done) | (simp [hy8]; done), below1 _⟩
    | true =>
      cases b1 with
      | false =>
        try simp only [hyb]
        try simp only [Bool.true_and, Bool.false_and, Bool.and_false, Bool.and_true, if_true, if_false, Bool.false_eq_true, ↓reduceIte]
        go_enter Try.func46, Try.ntmps46
        go_wp2_with (first | (go_at_call 99; first | ((with_reducible refine (HW0.out _).mono ?_); rintro e w1 ⟨rfl, rfl⟩) | ((with_reducible refine (HW1.out _).mono ?_); rintro e w1 ⟨rfl, rfl⟩) | ((with_reducible refine (HW3.out _).mono ?_); rintro e w1 ⟨rfl, rfl⟩) | ((with_reducible refine (HW4.out _).mono ?_); rintro e w1 ⟨rfl, rfl⟩)) | (go_at_call 98; ((with_reducible refine (HW5.out _).mono ?_); rintro e w1 ⟨rfl, rfl⟩)))
        go_ret
        exact ⟨by first | rfl | (simp; done) | (simp [hy8]; done), below1 _⟩
      | true =>
        by_cases hy8 : (y.size : Int) = 8
        case neg =>
          have hyb : ((y.size : Int) == 8) = false := beq_eq_false_iff_ne.2 hy8
          have hyd : decide (y.size = 8) = false := decide_eq_false (by omega)
          try simp only [hyb]
          try simp only [Bool.true_and, Bool.false_and, Bool.and_false, Bool.and_true, if_true, if_false, Bool.false_eq_true, ↓reduceIte]
          go_enter Try.func46, Try.ntmps46
          go_wp2_with (first | (go_at_call 99; first | ((with_reducible refine (HW0.out _).mono ?_); rintro e w1 ⟨rfl, rfl⟩) | ((with_reducible refine (HW1.out _).mono ?_); rintro e w1 ⟨rfl, rfl⟩) | ((with_reducible refine (HW3.out _).mono ?_); rintro e w1 ⟨rfl, rfl⟩) | ((with_reducible refine (HW4.out _).mono ?_); rintro e w1 ⟨rfl, rfl⟩)) | (go_at_call 98; ((with_reducible refine (HW5.out _).mono ?_); rintro e w1 ⟨rfl, rfl⟩)))
          go_ret
          exact ⟨by first | rfl | (simp; done) | (simp [hy8]; done), below1 _⟩
        have hyb : ((y.size : Int) == 8) = true := beq_iff_eq.2 hy8
        cases b3 with
        | false =>
          try simp only [hyb]
          try simp only [Bool.true_and, Bool.false_and, Bool.and_false, Bool.and_true, if_true, if_false, Bool.false_eq_true, ↓reduceIte]
          go_enter Try.func46, Try.ntmps46
          go_wp2_with (first | (go_at_call 99; first | ((with_reducible refine (HW0.out _).mono ?_); rintro e w1 ⟨rfl, rfl⟩) | ((with_reducible refine (HW1.out _).mono ?_); rintro e w1 ⟨rfl, rfl⟩) | ((with_reducible refine (HW3.out _).mono ?_); rintro e w1 ⟨rfl, rfl⟩) | ((with_reducible refine (HW4.out _).mono ?_); rintro e w1 ⟨rfl, rfl⟩)) | (go_at_call 98; ((with_reducible refine (HW5.out _).mono ?_); rintro e w1 ⟨rfl, rfl⟩)))
          go_ret
          exact ⟨by first | rfl | (simp; done) | (simp [hy8]; done), below1 _⟩
        | true =>
          cases b4 with
          | false =>
            try simp only [hyb]
            try simp only [Bool.true_and, Bool.false_and, Bool.and_false, Bool.and_true, if_true, if_false, Bool.false_eq_true, ↓reduceIte]
            go_enter Try.func46, Try.ntmps46
            go_wp2_with (first | (go_at_call 99; first | ((with_reducible refine (HW0.out _).mono ?_); rintro e w1 ⟨rfl, rfl⟩) | ((with_reducible refine (HW1.out _).mono ?_); rintro e w1 ⟨rfl, rfl⟩) | ((with_reducible refine (HW3.out _).mono ?_); rintro e w1 ⟨rfl, rfl⟩) | ((with_reducible refine (HW4.out _).mono ?_); rintro e w1 ⟨rfl, rfl⟩)) | (go_at_call 98; ((with_reducible refine (HW5.out _).mono ?_); rintro e w1 ⟨rfl, rfl⟩)))
            go_ret
            exact ⟨by first | rfl | (simp; done) | (simp [hy8]; done), below1 _⟩
          | true =>
            cases b5 with
            | false =>
              try simp only [hyb]
              try simp only [Bool.true_and, Bool.false_and, Bool.and_false, Bool.and_true, if_true, if_false, Bool.false_eq_true, ↓reduceIte]
              go_enter Try.func46, Try.ntmps46
              go_wp2_with (first | (go_at_call 99; first | ((with_reducible refine (HW0.out _).mono ?_); rintro e w1 ⟨rfl, rfl⟩) | ((with_reducible refine (HW1.out _).mono ?_); rintro e w1 ⟨rfl, rfl⟩) | ((with_reducible refine (HW3.out _).mono ?_); rintro e w1 ⟨rfl, rfl⟩) | ((with_reducible refine (HW4.out _).mono ?_); rintro e w1 ⟨rfl, rfl⟩)) | (go_at_call 98; ((with_reducible refine (HW5.out _).mono ?_); rintro e w1 ⟨rfl, rfl⟩)))
              go_ret
              exact ⟨by first | rfl | (simp; done) | (simp [hy8]; done), below1 _⟩
            | true =>
              try simp only [hyb]
              try simp only [Bool.true_and, Bool.false_and, Bool.and_false, Bool.and_true, if_true, if_false, Bool.false_eq_true, ↓reduceIte]
              go_enter Try.func46, Try.ntmps46
              go_wp2_with (first | (go_at_call 99; first | ((with_reducible refine (HW0.out _).mono ?_); rintro e w1 ⟨rfl, rfl⟩) | ((with_reducible refine (HW1.out _).mono ?_); rintro e w1 ⟨rfl, rfl⟩) | ((with_reducible refine (HW3.out _).mono ?_); rintro e w1 ⟨rfl, rfl⟩) | ((with_reducible refine (HW4.out _).mono ?_); rintro e w1 ⟨rfl, rfl⟩)) | (go_at_call 98; ((with_reducible refine (HW5.out _).mono ?_); rintro e w1 ⟨rfl, rfl⟩)))
              go_ret
              exact ⟨by first | rfl | (simp; done) | (simp [hy8]; done), below1 _⟩
  · have h3b : (n3 == 3) = false := beq_eq_false_iff_ne.2 h3
    rw [if_neg h3]
    have HW4' := Aside0.mk (fun W => HW4.out 65535 W)
    clear HW4
    have HW4 := HW4'
    clear HW4'
    generalize inB n4 1 65535 = b4 at *
    cases b0 with
    | false =>
      try simp only [hyb]
      try simp only [Bool.true_and, Bool.false_and, Bool.and_false, Bool.and_true, if_true, if_false, Bool.false_eq_true, ↓reduceIte]
      go_enter Try.func46, Try.ntmps46
      go_wp2_with (first | (go_at_call 99; first | ((with_reducible refine (HW0.out _).mono ?_); rintro e w1 ⟨rfl, rfl⟩) | ((with_reducible refine (HW1.out _).mono ?_); rintro e w1 ⟨rfl, rfl⟩) | ((with_reducible refine (HW3.out _).mono ?_); rintro e w1 ⟨rfl, rfl⟩) | ((with_reducible refine (HW4.out _).mono ?_); rintro e w1 ⟨rfl, rfl⟩)) | (go_at_call 98; ((with_reducible refine (HW5.out _).mono ?_); rintro e w1 ⟨rfl, rfl⟩)))
      go_ret
      exact ⟨by first | rfl | (simp; done) | (simp [hy8]; done), below1 _⟩
    | true =>
      cases b1 with
      | false =>
        try simp only [hyb]
        try simp only [Bool.true_and, Bool.false_and, Bool.and_false, Bool.and_true, if_true, if_false, Bool.false_eq_true, ↓reduceIte]
        go_enter Try.func46, Try.ntmps46
        go_wp2_with (first | (go_at_call 99; first | ((with_reducible refine (HW0.out _).mono ?_); rintro e w1 ⟨rfl, rfl⟩) | ((with_reducible refine (HW1.out _).mono ?_); rintro e w1 ⟨rfl, rfl⟩) | ((with_reducible refine (HW3.out _).mono ?_); rintro e w1 ⟨rfl, rfl⟩) | ((with_reducible refine (HW4.out _).mono ?_); rintro e w1 ⟨rfl, rfl⟩)) | (go_at_call 98; ((with_reducible refine (HW5.out _).mono ?_); rintro e w1 ⟨rfl, rfl⟩)))
        go_ret
        exact ⟨by first | rfl | (simp; done) | (simp [hy8]; done), below1 _⟩
      | true =>
        by_cases hy8 : (y.size : Int) = 8
        case neg =>
          have hyb : ((y.size : Int) == 8) = false := beq_eq_false_iff_ne.2 hy8
          have hyd : decide (y.size = 8) = false := decide_eq_false (by omega)
          try simp only [hyb]
          try simp only [Bool.true_and, Bool.false_and, Bool.and_false, Bool.and_true, if_true, if_false, Bool.false_eq_true, ↓reduceIte]
          go_enter Try.func46, Try.ntmps46
          go_wp2_with (first | (go_at_call 99; first | ((with_reducible refine (HW0.out _).mono ?_); rintro e w1 ⟨rfl, rfl⟩) | ((with_reducible refine (HW1.out _).mono ?_); rintro e w1 ⟨rfl, rfl⟩) | ((with_reducible refine (HW3.out _).mono ?_); rintro e w1 ⟨rfl, rfl⟩) | ((with_reducible refine (HW4.out _).mono ?_); rintro e w1 ⟨rfl, rfl⟩)) | (go_at_call 98; ((with_reducible refine (HW5.out _).mono ?_); rintro e w1 ⟨rfl, rfl⟩)))
          go_ret
          exact ⟨by first | rfl | (simp; done) | (simp [hy8]; done), below1 _⟩
        have hyb : ((y.size : Int) == 8) = true := beq_iff_eq.2 hy8
        cases b3 with
        | false =>
          try simp only [hyb]
          try simp only [Bool.true_and, Bool.false_and, Bool.and_false, Bool.and_true, if_true, if_false, Bool.false_eq_true, ↓reduceIte]
          go_enter Try.func46, Try.ntmps46
          go_wp2_with (first | (go_at_call 99; first | ((with_reducible refine (HW0.out _).mono ?_); rintro e w1 ⟨rfl, rfl⟩) | ((with_reducible refine (HW1.out _).mono ?_); rintro e w1 ⟨rfl, rfl⟩) | ((with_reducible refine (HW3.out _).mono ?_); rintro e w1 ⟨rfl, rfl⟩) | ((with_reducible refine (HW4.out _).mono ?_); rintro e w1 ⟨rfl, rfl⟩)) | (go_at_call 98; ((with_reducible refine (HW5.out _).mono ?_); rintro e w1 ⟨rfl, rfl⟩)))
          go_ret
          exact ⟨by first | rfl | (simp; done) | (simp [hy8]; done), below1 _⟩
        | true =>
          cases b4 with
          | false =>
            try simp only [hyb]
            try simp only [Bool.true_and, Bool.false_and, Bool.and_false, Bool.and_true, if_true, if_false, Bool.false_eq_true, ↓reduceIte]
            go_enter Try.func46, Try.ntmps46
            go_wp2_with (first | (go_at_call 99; first | ((with_reducible refine (HW0.out _).mono ?_); rintro e w1 ⟨rfl, rfl⟩) | ((with_reducible refine (HW1.out _).mono ?_); rintro e w1 ⟨rfl, rfl⟩) | ((with_reducible refine (HW3.out _).mono ?_); rintro e w1 ⟨rfl, rfl⟩) | ((with_reducible refine (HW4.out _).mono ?_); rintro e w1 ⟨rfl, rfl⟩)) | (go_at_call 98; ((with_reducible refine (HW5.out _).mono ?_); rintro e w1 ⟨rfl, rfl⟩)))
            go_ret
            exact ⟨by first | rfl | (simp; done) | (simp [hy8]; done), below1 _⟩
          | true =>
            cases b5 with
            | false =>
              try simp only [hyb]
              try simp only [Bool.true_and, Bool.false_and, Bool.and_false, Bool.and_true, if_true, if_false, Bool.false_eq_true, ↓reduceIte]
              go_enter Try.func46, Try.ntmps46
              go_wp2_with (first | (go_at_call 99; first | ((with_reducible refine (HW0.out _).mono ?_); rintro e w1 ⟨rfl, rfl⟩) | ((with_reducible refine (HW1.out _).mono ?_); rintro e w1 ⟨rfl, rfl⟩) | ((with_reducible refine (HW3.out _).mono ?_); rintro e w1 ⟨rfl, rfl⟩) | ((with_reducible refine (HW4.out _).mono ?_); rintro e w1 ⟨rfl, rfl⟩)) | (go_at_call 98; ((with_reducible refine (HW5.out _).mono ?_); rintro e w1 ⟨rfl, rfl⟩)))
              go_ret
              exact ⟨by first | rfl | (simp; done) | (simp [hy8]; done), below1 _⟩
            | true =>
              try simp only [hyb]
              try simp only [Bool.true_and, Bool.false_and, Bool.and_false, Bool.and_true, if_true, if_false, Bool.false_eq_true, ↓reduceIte]
              go_enter Try.func46, Try.ntmps46
              go_wp2_with (first | (go_at_call 99; first | ((with_reducible refine (HW0.out _).mono ?_); rintro e w1 ⟨rfl, rfl⟩) | ((with_reducible refine (HW1.out _).mono ?_); rintro e w1 ⟨rfl, rfl⟩) | ((with_reducible refine (HW3.out _).mono ?_); rintro e w1 ⟨rfl, rfl⟩) | ((with_reducible refine (HW4.out _).mono ?_); rintro e w1 ⟨rfl, rfl⟩)) | (go_at_call 98; ((with_reducible refine (HW5.out _).mono ?_); rintro e w1 ⟨rfl, rfl⟩)))
              go_ret
              exact ⟨by first | rfl | (simp; done) | (simp [hy8]; done), below1 _⟩
set_option maxHeartbeats 1600000 in
set_option maxRecDepth 100000 in
theorem told_no (g : Nat) (w : World) : Calls Try.prog 45 #[.pointer (some ⟨g, 0, none⟩), .bool false] w fun e w' => e = .returned (.tuple #[.slice none 0 0, .int .i64 80]) ∧ w = w' := by
  go_enter Try.func45, Try.ntmps45
  go_wp2
  go_ret2
  exact ⟨rfl, rfl⟩
set_option maxHeartbeats 1600000 in
set_option maxRecDepth 100000 in
theorem told_yes {w : World} {B g : Nat} {ro : Option Nat} {s : WS} (hw : Vr w B g ro s) (hl : s.xs.length ≤ 140737488355328) : Calls Try.prog 45 #[.pointer (some ⟨g, 0, none⟩), .bool true] w (VBPost s w) := by
  have C := Aside0.mk (vBytes_calls hw hl)
  clear hw
  go_enter Try.func45, Try.ntmps45
  go_wp2_with (go_at_call 56; refine C.out.mono ?_; rintro e w1 ⟨A, c, rfl, hr, hb⟩)
  go_ret2
  exact ⟨A, c, rfl, hr, hb⟩
end Go.Proofs.Ytgmbfecfkdbfaaa.Wi
/- fareboxref08.Tap. -/
set_option linter.unusedVariables false
set_option linter.unusedSimpArgs false
namespace Go.Proofs.Ytgmbfecfkdbfaaa.Wi
open Go Go.RowKit Go.Proofs.YtgmbfecfkdbfaaaW.PrintWords
def RFPost (t : Tp) (w : World) (e : Ending) (w' : World) : Prop := ∃ A c, e = .returned (.tuple #[.slice A t.out.length c, .int .i64 t.err]) ∧ ReadsInt w' .u8 A t.out.length t.out ∧ Below w.heap.size w w'
set_option maxHeartbeats 8000000 in
set_option maxRecDepth 100000 in
theorem refTap_calls (t : Tp) (ht : t.Ok) (w : World) : Calls Try.prog 11 #[t.val] w (RFPost t w) := by
  have HTR := Aside0.mk (fun W => rTapRight_calls t W)
  have HSL := Aside0.mk (tput_len t)
  have HPT : Aside0 (t.put = tapW ⟨[], false⟩ t.n0 t.n1 t.y t.n3 t.n4 t.n5) := ⟨rfl⟩
  obtain ⟨⟨_, h0⟩, ⟨_, h1⟩, hy, ⟨_, h3⟩, ⟨_, h4⟩, ⟨_, h5⟩⟩ := ht
  obtain ⟨r, hr⟩ : ∃ r, t.right = r := ⟨_, rfl⟩
  have HO : Aside0 (RFPost t w = fun e w' => ∃ A c, e = .returned (.tuple #[.slice A (if r = true then t.put.out else []).length c, .int .i64 (if r = true then t.put.err else 80)]) ∧ ReadsInt w' .u8 A (if r = true then t.put.out else []).length (if r = true then t.put.out else []) ∧ Below w.heap.size w w') := ⟨by unfold RFPost Tp.out Tp.err; rw [hr]⟩
  rw [HO.out]
  rw [hr] at HTR
  clear HO hr
  obtain ⟨n0, n1, y, n3, n4, n5⟩ := t
  simp only at h0 h1 hy h3 h4 h5 HPT
  generalize Tp.put ⟨n0, n1, y, n3, n4, n5⟩ = sp at *
  unfold tapW at HPT
  unfold Tp.val at HTR ⊢
  simp only at HTR ⊢
  have L0 := putNum_len ⟨[], false⟩ n0 2
  have L1 := putNum_len ((⟨[], false⟩ : WS).put (pNumber n0 2)) n1 4
  have L2 := putFix_len (((⟨[], false⟩ : WS).put (pNumber n0 2)).put (pNumber n1 4)) y
  have L3 := putNum_len ((((⟨[], false⟩ : WS).put (pNumber n0 2)).put (pNumber n1 4)).put (pFixed y 8)) n3 1
  have L4 := putNum_len (((((⟨[], false⟩ : WS).put (pNumber n0 2)).put (pNumber n1 4)).put (pFixed y 8)).put (pNumber n3 1)) n4 2
  have L5 := putNum_len ((((((⟨[], false⟩ : WS).put (pNumber n0 2)).put (pNumber n1 4)).put (pFixed y 8)).put (pNumber n3 1)).put (pNumber n4 2)) n5 4
  have L6 : (⟨[], false⟩ : WS).xs.length = 0 := rfl
  have HL := Aside0.mk (And.intro L6 (And.intro L0 (And.intro L1 (And.intro L2 (And.intro L3 (And.intro L4 L5))))))
  clear L0 L1 L2 L3 L4 L5 L6
  have qt := two_0 w (.cells #[.int .i64 n0, .int .i64 n1, .string y, .int .i64 n3, .int .i64 n4, .int .i64 n5] 23) (.cells #[.slice none 0 0, .bool false] 81)
  have qw := two_1 w (.cells #[.int .i64 n0, .int .i64 n1, .string y, .int .i64 n3, .int .i64 n4, .int .i64 n5] 23) (.cells #[.slice none 0 0, .bool false] 81)
  have HB2 := Aside0.mk (below2 (w := w) (.cells #[.int .i64 n0, .int .i64 n1, .string y, .int .i64 n3, .int .i64 n4, .int .i64 n5] 23) (.cells #[.slice none 0 0, .bool false] 81))
  have H0 := Aside0.mk (show OV ((w.alloc (.cells #[.int .i64 n0, .int .i64 n1, .string y, .int .i64 n3, .int .i64 n4, .int .i64 n5] 23)).alloc (.cells #[.slice none 0 0, .bool false] 81)) ((w.alloc (.cells #[.int .i64 n0, .int .i64 n1, .string y, .int .i64 n3, .int .i64 n4, .int .i64 n5] 23)).alloc (.cells #[.slice none 0 0, .bool false] 81)) w.heap.size (w.heap.size + 1) none ⟨[], false⟩ from ⟨HB2.out.size, none, ⟨⟨_, qw, own_nil _ _ _ _, rfl⟩, by omega⟩, .inl rfl, Fr.refl _ _⟩)
  have HK : Aside0 (∀ W, Fr (WrS (w.heap.size + 1) none) ((w.alloc (.cells #[.int .i64 n0, .int .i64 n1, .string y, .int .i64 n3, .int .i64 n4, .int .i64 n5] 23)).alloc (.cells #[.slice none 0 0, .bool false] 81)) W → W.heap[w.heap.size]? = some (.cells #[.int .i64 n0, .int .i64 n1, .string y, .int .i64 n3, .int .i64 n4, .int .i64 n5] 23 (0, 0))) := ⟨fun W hf => hf.blk qt (fun h => h.elim (fun e => by omega) (fun e => nomatch e))⟩
  clear qt qw
  go_enter Try.func11, Try.ntmps11
  cases r with
  | false =>
    go_wp2_with (first | (go_at_call 43; (with_reducible refine (OV.call H0.out (fun ro hw hB => vNumber_calls n0 2 h0 hw hB (by have := HL.out; omega))).mono ?_); rintro e w1 ⟨rfl, H1'⟩; have H1 := Aside0.mk H1'; have q1 := HK.out _ H1'.fr; have e0 : _ = some (Value.int .i64 n0) := blk_cell q1 0; have e1 : _ = some (Value.int .i64 n1) := blk_cell q1 1; have e2 : _ = some (Value.string y) := blk_cell q1 2; have e3 : _ = some (Value.int .i64 n3) := blk_cell q1 3; have e4 : _ = some (Value.int .i64 n4) := blk_cell q1 4; have e5 : _ = some (Value.int .i64 n5) := blk_cell q1 5; clear H1') | (go_at_call 43; (with_reducible refine (OV.call H1.out (fun ro hw hB => vNumber_calls n1 4 h1 hw hB (by have := HL.out; omega))).mono ?_); rintro e w2 ⟨rfl, H2'⟩; have H2 := Aside0.mk H2'; have q2 := HK.out _ H2'.fr; have e0 : _ = some (Value.int .i64 n0) := blk_cell q2 0; have e1 : _ = some (Value.int .i64 n1) := blk_cell q2 1; have e2 : _ = some (Value.string y) := blk_cell q2 2; have e3 : _ = some (Value.int .i64 n3) := blk_cell q2 3; have e4 : _ = some (Value.int .i64 n4) := blk_cell q2 4; have e5 : _ = some (Value.int .i64 n5) := blk_cell q2 5; clear H2') | (go_at_call 44; (with_reducible refine (OV.call H2.out (fun ro hw hB => vFixed_calls y 8 hy hw hB (by have := HL.out; omega))).mono ?_); rintro e w3 ⟨rfl, H3'⟩; have H3 := Aside0.mk H3'; have q3 := HK.out _ H3'.fr; have e0 : _ = some (Value.int .i64 n0) := blk_cell q3 0; have e1 : _ = some (Value.int .i64 n1) := blk_cell q3 1; have e2 : _ = some (Value.string y) := blk_cell q3 2; have e3 : _ = some (Value.int .i64 n3) := blk_cell q3 3; have e4 : _ = some (Value.int .i64 n4) := blk_cell q3 4; have e5 : _ = some (Value.int .i64 n5) := blk_cell q3 5; clear H3') | (go_at_call 43; (with_reducible refine (OV.call H3.out (fun ro hw hB => vNumber_calls n3 1 h3 hw hB (by have := HL.out; omega))).mono ?_); rintro e w4 ⟨rfl, H4'⟩; have H4 := Aside0.mk H4'; have q4 := HK.out _ H4'.fr; have e0 : _ = some (Value.int .i64 n0) := blk_cell q4 0; have e1 : _ = some (Value.int .i64 n1) := blk_cell q4 1; have e2 : _ = some (Value.string y) := blk_cell q4 2; have e3 : _ = some (Value.int .i64 n3) := blk_cell q4 3; have e4 : _ = some (Value.int .i64 n4) := blk_cell q4 4; have e5 : _ = some (Value.int .i64 n5) := blk_cell q4 5; clear H4') | (go_at_call 43; (with_reducible refine (OV.call H4.out (fun ro hw hB => vNumber_calls n4 2 h4 hw hB (by have := HL.out; omega))).mono ?_); rintro e w5 ⟨rfl, H5'⟩; have H5 := Aside0.mk H5'; have q5 := HK.out _ H5'.fr; have e0 : _ = some (Value.int .i64 n0) := blk_cell q5 0; have e1 : _ = some (Value.int .i64 n1) := blk_cell q5 1; have e2 : _ = some (Value.string y) := blk_cell q5 2; have e3 : _ = some (Value.int .i64 n3) := blk_cell q5 3; have e4 : _ = some (Value.int .i64 n4) := blk_cell q5 4; have e5 : _ = some (Value.int .i64 n5) := blk_cell q5 5; clear H5') | (go_at_call 43; (with_reducible refine (OV.call H5.out (fun ro hw hB => vNumber_calls n5 4 h5 hw hB (by have := HL.out; omega))).mono ?_); rintro e w6 ⟨rfl, H6'⟩; have H6 := Aside0.mk H6'; have q6 := HK.out _ H6'.fr; have e0 : _ = some (Value.int .i64 n0) := blk_cell q6 0; have e1 : _ = some (Value.int .i64 n1) := blk_cell q6 1; have e2 : _ = some (Value.string y) := blk_cell q6 2; have e3 : _ = some (Value.int .i64 n3) := blk_cell q6 3; have e4 : _ = some (Value.int .i64 n4) := blk_cell q6 4; have e5 : _ = some (Value.int .i64 n5) := blk_cell q6 5; clear H6') | (go_at_call 46; refine (HTR.out _).mono ?_; rintro e w7 ⟨rfl, hb7⟩; have H7 := Aside0.mk (H6.out.then_ hb7); clear hb7) | (go_at_call 45; refine (told_no _ _).mono ?_; rintro e w8 ⟨rfl, rfl⟩))
    go_ret2
    refine ⟨none, ⟨0, by simp⟩, ?_, ?_⟩
    · exact ⟨rfl, by simp, fun h => absurd h (by simp)⟩
    · exact HB2.out.trans (H7.out.fr.below HB2.out.size (fun i hi => hi.elim (fun e => by omega) (fun e => nomatch e)))
  | true =>
    go_wp2_with (first | (go_at_call 43; (with_reducible refine (OV.call H0.out (fun ro hw hB => vNumber_calls n0 2 h0 hw hB (by have := HL.out; omega))).mono ?_); rintro e w1 ⟨rfl, H1'⟩; have H1 := Aside0.mk H1'; have q1 := HK.out _ H1'.fr; have e0 : _ = some (Value.int .i64 n0) := blk_cell q1 0; have e1 : _ = some (Value.int .i64 n1) := blk_cell q1 1; have e2 : _ = some (Value.string y) := blk_cell q1 2; have e3 : _ = some (Value.int .i64 n3) := blk_cell q1 3; have e4 : _ = some (Value.int .i64 n4) := blk_cell q1 4; have e5 : _ = some (Value.int .i64 n5) := blk_cell q1 5; clear H1') | (go_at_call 43; (with_reducible refine (OV.call H1.out (fun ro hw hB => vNumber_calls n1 4 h1 hw hB (by have := HL.out; omega))).mono ?_); rintro e w2 ⟨rfl, H2'⟩; have H2 := Aside0.mk H2'; have q2 := HK.out _ H2'.fr; have e0 : _ = some (Value.int .i64 n0) := blk_cell q2 0; have e1 : _ = some (Value.int .i64 n1) := blk_cell q2 1; have e2 : _ = some (Value.string y) := blk_cell q2 2; have e3 : _ = some (Value.int .i64 n3) := blk_cell q2 3; have e4 : _ = some (Value.int .i64 n4) := blk_cell q2 4; have e5 : _ = some (Value.int .i64 n5) := blk_cell q2 5; clear H2') | (go_at_call 44; (with_reducible refine (OV.call H2.out (fun ro hw hB => vFixed_calls y 8 hy hw hB (by have := HL.out; omega))).mono ?_); rintro e w3 ⟨rfl, H3'⟩; have H3 := Aside0.mk H3'; have q3 := HK.out _ H3'.fr; have e0 : _ = some (Value.int .i64 n0) := blk_cell q3 0; have e1 : _ = some (Value.int .i64 n1) := blk_cell q3 1; have e2 : _ = some (Value.string y) := blk_cell q3 2; have e3 : _ = some (Value.int .i64 n3) := blk_cell q3 3; have e4 : _ = some (Value.int .i64 n4) := blk_cell q3 4; have e5 : _ = some (Value.int .i64 n5) := blk_cell q3 5; clear H3') | (go_at_call 43; (with_reducible refine (OV.call H3.out (fun ro hw hB => vNumber_calls n3 1 h3 hw hB (by have := HL.out; omega))).mono ?_); rintro e w4 ⟨rfl, H4'⟩; have H4 := Aside0.mk H4'; have q4 := HK.out _ H4'.fr; have e0 : _ = some (Value.int .i64 n0) := blk_cell q4 0; have e1 : _ = some (Value.int .i64 n1) := blk_cell q4 1; have e2 : _ = some (Value.string y) := blk_cell q4 2; have e3 : _ = some (Value.int .i64 n3) := blk_cell q4 3; have e4 : _ = some (Value.int .i64 n4) := blk_cell q4 4; have e5 : _ = some (Value.int .i64 n5) := blk_cell q4 5; clear H4') | (go_at_call 43; (with_reducible refine (OV.call H4.out (fun ro hw hB => vNumber_calls n4 2 h4 hw hB (by have := HL.out; omega))).mono ?_); rintro e w5 ⟨rfl, H5'⟩; have H5 := Aside0.mk H5'; have q5 := HK.out _ H5'.fr; have e0 : _ = some (Value.int .i64 n0) := blk_cell q5 0; have e1 : _ = some (Value.int .i64 n1) := blk_cell q5 1; have e2 : _ = some (Value.string y) := blk_cell q5 2; have e3 : _ = some (Value.int .i64 n3) := blk_cell q5 3; have e4 : _ = some (Value.int .i64 n4) := blk_cell q5 4; have e5 : _ = some (Value.int .i64 n5) := blk_cell q5 5; clear H5') | (go_at_call 43; (with_reducible refine (OV.call H5.out (fun ro hw hB => vNumber_calls n5 4 h5 hw hB (by have := HL.out; omega))).mono ?_); rintro e w6 ⟨rfl, H6'⟩; have H6 := Aside0.mk H6'; have q6 := HK.out _ H6'.fr; have e0 : _ = some (Value.int .i64 n0) := blk_cell q6 0; have e1 : _ = some (Value.int .i64 n1) := blk_cell q6 1; have e2 : _ = some (Value.string y) := blk_cell q6 2; have e3 : _ = some (Value.int .i64 n3) := blk_cell q6 3; have e4 : _ = some (Value.int .i64 n4) := blk_cell q6 4; have e5 : _ = some (Value.int .i64 n5) := blk_cell q6 5; clear H6') | (go_at_call 46; refine (HTR.out _).mono ?_; rintro e w7 ⟨rfl, hb7⟩; have H7 := Aside0.mk (H6.out.then_ hb7); clear hb7) | (go_at_call 45; refine (told_yes H7.out.2.choose_spec.1 (by have := HL.out; omega)).mono ?_; rintro e w8 ⟨A, c, rfl, hr8, hb8⟩))
    go_ret2
    have hbw := HB2.out.trans (H7.out.fr.below HB2.out.size (fun i hi => hi.elim (fun e => by omega) (fun e => nomatch e)))
    simp only [↓reduceIte]
    rw [HPT.out]
    exact ⟨A, ⟨c, rfl⟩, hr8, below_then hbw hbw.size hb8⟩
end Go.Proofs.Ytgmbfecfkdbfaaa.Wi
/- The document's end of a record. -/
set_option linter.unusedVariables false
set_option linter.unusedSimpArgs false
namespace Go.Proofs.Ytgmbfecfkdbfaaa.Wi
open Go Go.RowKit Go.Proofs.YtgmbfecfkdbfaaaW.PrintWords
def endC (r : RS) (n : Nat) (ok : Bool) : Int × Int := if (r.end_ n).code = 0 ∧ ok = false then (80, -1) else ((r.end_ n).code, (r.end_ n).fat)
section
variable {w : World} {gx : Nat} {A : Option Addr} {c : Nat} {bs : List Int} {r : RS}
set_option maxHeartbeats 3200000 in
set_option maxRecDepth 100000 in
theorem ended_calls (ok : Bool) (h : XR w gx A c bs r) : Calls Try.prog 50 #[.pointer (some ⟨gx, 0, none⟩), .bool ok] w (XPost gx A c bs (.agg #[.int .i64 (endC r bs.length ok).1, .int .i64 (endC r bs.length ok).2]) (r.end_ bs.length) w) := by
  have hgx := h.lt
  have HH := Aside0.mk h
  have hb1 := below1 (w := w) (.cells #[.int .i64 0, .int .i64 0] 31)
  have HX1 := Aside0.mk (h.below hb1)
  have HQ1 := Aside0.mk (heap_alloc_new w (.cells #[.int .i64 0, .int .i64 0] 31))
  have HF1 := Aside0.mk (Fr.of_below (S := fun i => i = gx) hb1)
  have C := Aside0.mk (xEnd_calls HX1.out)
  obtain ⟨u, hu⟩ : ∃ u, endC r bs.length ok = u := ⟨_, rfl⟩
  have HU0 := Aside0.mk hu
  rw [hu]
  unfold endC at HU0
  have HNE : Aside0 (w.heap.size ≠ gx) := ⟨by omega⟩
  have HGE : Aside0 (w.heap.size ≤ w.heap.size) := ⟨Nat.le_refl _⟩
  clear h hu hb1 hgx
  generalize r.end_ bs.length = r2 at *
  have two : ∀ (W1 : World), W1 = w.alloc (.cells #[.int .i64 0, .int .i64 0] 31) → True := fun _ _ => trivial
  go_enter Try.func50, Try.ntmps50
  clear two
  go_upto_region 2 with (go_at_call 106; refine C.out.mono ?_; rintro e w2 ⟨rfl, X2, f2⟩; have HX3 := Aside0.mk (X2.below (below1 (.cells #[.int .i64 r2.code, .int .i64 r2.fat] 31))); have HQ3 := Aside0.mk (blk_b (f2.blk HQ1.out HNE.out) (below1 (.cells #[.int .i64 r2.code, .int .i64 r2.fat] 31))); have HF3 := Aside0.mk ((HF1.out.trans f2 (fun _ _ h => h)).then_below (below1 (.cells #[.int .i64 r2.code, .int .i64 r2.fat] 31))); have HV3 := Aside0.mk (heap_alloc_new w2 (.cells #[.int .i64 r2.code, .int .i64 r2.fat] 31)); have HVN := Aside0.mk (show w.heap.size < w2.heap.size from blk_lt (f2.blk HQ1.out HNE.out)); clear X2 f2)
  generalize w2.alloc (.cells #[.int .i64 r2.code, .int .i64 r2.fat] 31) = w3 at *
  generalize w2.heap.size = gv at *
  have f0 : _ = some (Value.int .i64 r2.code) := blk_cell HV3.out 0
  have f1 : _ = some (Value.int .i64 r2.fat) := blk_cell HV3.out 1
  have p0 : _ = some (Value.int .i64 0) := blk_cell HQ3.out 0
  have p1 : _ = some (Value.int .i64 0) := blk_cell HQ3.out 1
  have z0 := blk_frozen HQ3.out 0
  have z1 := blk_frozen HQ3.out 1
  obtain ⟨gr, hgr⟩ : ∃ gr, w.heap.size = gr := ⟨_, rfl⟩
  rw [hgr] at p0 p1 z0 z1 HQ3 HNE
  rw [show (some (⟨w.heap.size, 0, none⟩ : Addr)) = some ⟨gr, 0, none⟩ by rw [hgr]]
  have HGE : Aside0 (w.heap.size ≤ gr) := ⟨by omega⟩
  clear hgr HQ1 HF1 C HX1 HVN
  by_cases hc : r2.code = 0
  · have hcb : (r2.code == 0) = true := beq_iff_eq.2 hc
    cases ok with
    | false =>
      have HU : Aside0 (u = (80, -1)) := ⟨by have := HU0.out; rw [if_pos ⟨hc, rfl⟩] at this; exact this.symm⟩
      clear HU0
      go_wp2
      have hfr := (HF3.out.set_ (p := ⟨gr, 0, none⟩) (.inr HGE.out) (.int .i64 80)).set_ (p := ⟨gr, 1, none⟩) (.inr HGE.out) (.int .i64 (-1))
      have hb2 := blk_far (blk_far HX3.out.blk (p := ⟨gr, 0, none⟩) (Ne.symm HNE.out) (.int .i64 80)) (p := ⟨gr, 1, none⟩) (Ne.symm HNE.out) (.int .i64 (-1))
      have hq2 := blk_set (blk_set HQ3.out 0 (.int .i64 80)) 1 (.int .i64 (-1))
      generalize (w3.setCell ⟨gr, 0, none⟩ (.int .i64 80)).setCell ⟨gr, 1, none⟩ (.int .i64 (-1)) = W2 at hfr hb2 hq2 ⊢
      have k0 : W2.cell? ⟨gr, 0, none⟩ = some (.int .i64 80) := (blk_cell hq2 0).trans (by simp)
      have k1 : W2.cell? ⟨gr, 1, none⟩ = some (.int .i64 (-1)) := (blk_cell hq2 1).trans (by simp)
      refine bodyPost_ret (v := .agg #[.int .i64 80, .int .i64 (-1)]) (by simp [results, Try.results50, go_sem, k0, k1]) rfl ?_
      rw [HU.out]
      exact ⟨rfl, HH.out.of_keep ⟨hfr.size, fun i hi hne _ => hfr.block i hi hne⟩ hb2 HX3.out.le, hfr⟩
    | true =>
      have HU : Aside0 (u = (r2.code, r2.fat)) := ⟨by have := HU0.out; rw [if_neg (by simp)] at this; exact this.symm⟩
      clear HU0
      clear hc
      go_wp2
      have hfr := (HF3.out.set_ (p := ⟨gr, 0, none⟩) (.inr HGE.out) (.int .i64 r2.code)).set_ (p := ⟨gr, 1, none⟩) (.inr HGE.out) (.int .i64 r2.fat)
      have hb2 := blk_far (blk_far HX3.out.blk (p := ⟨gr, 0, none⟩) (Ne.symm HNE.out) (.int .i64 r2.code)) (p := ⟨gr, 1, none⟩) (Ne.symm HNE.out) (.int .i64 r2.fat)
      have hq2 := blk_set (blk_set HQ3.out 0 (.int .i64 r2.code)) 1 (.int .i64 r2.fat)
      generalize (w3.setCell ⟨gr, 0, none⟩ (.int .i64 r2.code)).setCell ⟨gr, 1, none⟩ (.int .i64 r2.fat) = W2 at hfr hb2 hq2 ⊢
      have k0 : W2.cell? ⟨gr, 0, none⟩ = some (.int .i64 r2.code) := (blk_cell hq2 0).trans (by simp)
      have k1 : W2.cell? ⟨gr, 1, none⟩ = some (.int .i64 r2.fat) := (blk_cell hq2 1).trans (by simp)
      refine bodyPost_ret (v := .agg #[.int .i64 r2.code, .int .i64 r2.fat]) (by simp [results, Try.results50, go_sem, k0, k1]) rfl ?_
      rw [HU.out]
      exact ⟨rfl, HH.out.of_keep ⟨hfr.size, fun i hi hne _ => hfr.block i hi hne⟩ hb2 HX3.out.le, hfr⟩
  · have hcb : (r2.code == 0) = false := beq_eq_false_iff_ne.2 hc
    have HU : Aside0 (u = (r2.code, r2.fat)) := ⟨by have := HU0.out; rw [if_neg (fun h => hc h.1)] at this; exact this.symm⟩
    clear HU0
    go_wp2
    have hfr := (HF3.out.set_ (p := ⟨gr, 0, none⟩) (.inr HGE.out) (.int .i64 r2.code)).set_ (p := ⟨gr, 1, none⟩) (.inr HGE.out) (.int .i64 r2.fat)
    have hb2 := blk_far (blk_far HX3.out.blk (p := ⟨gr, 0, none⟩) (Ne.symm HNE.out) (.int .i64 r2.code)) (p := ⟨gr, 1, none⟩) (Ne.symm HNE.out) (.int .i64 r2.fat)
    have hq2 := blk_set (blk_set HQ3.out 0 (.int .i64 r2.code)) 1 (.int .i64 r2.fat)
    generalize (w3.setCell ⟨gr, 0, none⟩ (.int .i64 r2.code)).setCell ⟨gr, 1, none⟩ (.int .i64 r2.fat) = W2 at hfr hb2 hq2 ⊢
    have k0 : W2.cell? ⟨gr, 0, none⟩ = some (.int .i64 r2.code) := (blk_cell hq2 0).trans (by simp)
    have k1 : W2.cell? ⟨gr, 1, none⟩ = some (.int .i64 r2.fat) := (blk_cell hq2 1).trans (by simp)
    refine bodyPost_ret (v := .agg #[.int .i64 r2.code, .int .i64 r2.fat]) (by simp [results, Try.results50, go_sem, k0, k1]) rfl ?_
    rw [HU.out]
    exact ⟨rfl, HH.out.of_keep ⟨hfr.size, fun i hi hne _ => hfr.block i hi hne⟩ hb2 HX3.out.le, hfr⟩
end
end Go.Proofs.Ytgmbfecfkdbfaaa.Wi
