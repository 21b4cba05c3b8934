/- A tap's pieces in their order: both ways. -/
import Derived.Test.YtgmbfecfkdbfaaaRcB
set_option linter.unusedVariables false
set_option linter.unusedSimpArgs false
namespace Go.Proofs.Ytgmbfecfkdbfaaa.Wi
open Go Go.RowKit Go.Proofs.YtgmbfecfkdbfaaaW.PrintWords
section
variable {W1 W W' : World} {B g : Nat} {ro : Option Nat} {s : WS} {bs : List Int} {r : RS} {bt : Nat} {cs : Array Value} {T : TypeId}
/-- a record half put -/
def OW (W1 W : World) (B g : Nat) (ro : Option Nat) (s : WS) : Prop := B ≤ W1.heap.size ∧ ∃ ro', Wr W B g ro' s ∧ (ro' = ro ∨ ∃ b, ro' = some b ∧ W1.heap.size ≤ b) ∧ Fr (WrS g ro) W1 W
theorem OW.then_ (h : OW W1 W B g ro s) (hb : Below W.heap.size W W') : OW W1 W' B g ro s := by
  obtain ⟨h0, ro', h1, h2, h3⟩ := h
  exact ⟨h0, ro', h1.below hb, h2, h3.then_below hb⟩
theorem OW.fr (h : OW W1 W B g ro s) : Fr (WrS g ro) W1 W := by
  obtain ⟨_, ro', h1, h2, h3⟩ := h
  exact h3
theorem OW.post (h : OW W1 W B g ro s) {s' : WS} {e : Ending} (ro' : Option Nat) (hr : ro' = ro ∨ ∃ b, ro' = some b ∧ W1.heap.size ≤ b) (hP : WPost B g ro' s' W e W') : e = .returned (.tuple #[]) ∧ OW W1 W' B g ro s' := by
  obtain ⟨he, ro2, hw2, hgr2, hf2⟩ := hP
  have hf := h.fr
  refine ⟨he, h.1, ro2, hw2, ?_, hf.trans hf2 (fun i hi hs => ?_)⟩
  · rcases hgr2 with h | ⟨b, h, hb⟩
    · rw [h]; exact hr
    · exact .inr ⟨b, h, Nat.le_trans hf.size hb⟩
  · rcases hs with e | e
    · exact .inl e
    · rcases hr with h | ⟨b, h, hb⟩
      · exact .inr (by rw [← h, e])
      · rw [h] at e
        obtain rfl := Option.some.inj e
        omega
theorem OW.cell (h : OW W1 W B g ro s) {p : Addr} {v : Value} (hp : W1.cell? p = some v) (hg : p.block ≠ g) (hr : ro ≠ some p.block) : W.cell? p = some v := by
  rw [World.cell?_of_block (w := W1) (h.fr.block _ (World.block_lt_of_cell? W1 _ hp) (fun hs => hs.elim hg hr))]
  exact hp
theorem OW.number (h : OW W1 W B g ro s) (k : Nat) (n size : Int) (hk : W1.cell? ⟨bt, k, none⟩ = some (.int .i64 n)) (hn : n ≤ 9223372036854775807) (hg : bt ≠ g) (hr : ro ≠ some bt) (hl : s.xs.length ≤ 100000000000) :
    Calls Try.prog 54 #[.agg #[.pointer (some ⟨g, 0, none⟩), .pointer none], .int .i64 size, .slice (some ⟨W.heap.size, 0, none⟩) 1 1] (W.alloc (.cells #[.pointer (some ⟨bt, k, none⟩)] 101)) fun e W' => e = .returned (.tuple #[]) ∧ OW W1 W' B g ro (s.put (pNumber n size)) := by
  have hb := below1 (w := W) (.cells #[.pointer (some ⟨bt, k, none⟩)] 101)
  have h2 := h.then_ hb
  have hq := heap_alloc_new W (.cells #[.pointer (some ⟨bt, k, none⟩)] 101)
  have hc := h2.cell hk hg hr
  have hbl : bt < W1.heap.size := World.block_lt_of_cell? W1 _ hk
  obtain ⟨h0, ro', hw', hr', hf'⟩ := h
  have hw2 := hw'.below hb
  have hgl := hw'.lt
  have hrl := hw'.ro_lt
  have hro : ro' ≠ some bt := by
    rintro rfl
    rcases hr' with h | ⟨b, h, h3⟩
    · exact hr h.symm
    · have := Option.some.inj h
      omega
  have C := number_w size ⟨W.heap.size, 0, none⟩ 1 [⟨bt, k, none⟩] [n] rfl (fun m hm => by rw [List.mem_singleton.1 hm]; exact hn) (by simp)
    (fun i hi => by
      have hi0 : i = 0 := by simp at hi; exact hi
      subst hi0
      refine ⟨(blk_cell hq 0).trans rfl, by show W.heap.size ≠ g; omega, fun e => ?_⟩
      have := (hrl _ e).2
      simp only at this
      omega)
    (fun i hi hj => by
      have hi0 : i = 0 := by simp at hi; exact hi
      subst hi0
      exact ⟨hc, hg, hro⟩) hw2 (Nat.le_trans h0 (Nat.le_trans hf'.size hb.size)) hl
  exact C.mono fun e W' hP => OW.post h2 ro' hr' hP
theorem OW.token (h : OW W1 W B g ro s) (k : Nat) (y : ByteArray) (hk : W1.cell? ⟨bt, k, none⟩ = some (.string y)) (hy : y.size ≤ 9223372036854775807) (hg : bt ≠ g) (hr : ro ≠ some bt) (hl : (s.put (pFixed y 8)).xs.length ≤ 140737488355328) :
    Calls Try.prog 53 #[.agg #[.pointer (some ⟨g, 0, none⟩), .pointer none], .pointer (some ⟨bt, k, none⟩)] W fun e W' => e = .returned (.tuple #[]) ∧ OW W1 W' B g ro (s.put (pFixed y 8)) := by
  have hc := h.cell hk hg hr
  have h' := h
  have hbl : bt < W1.heap.size := World.block_lt_of_cell? W1 _ hk
  obtain ⟨h0, ro', hw', hr', hf'⟩ := h
  have hro : ro' ≠ some bt := by
    rintro rfl
    rcases hr' with h | ⟨b, h, h3⟩
    · exact hr h.symm
    · have := Option.some.inj h
      omega
  exact (token_w bt k y hy hc hg hro hw' (Nat.le_trans h0 hf'.size) hl).mono fun e W' hP => OW.post h' ro' hr' hP
/-- a record half read -/
structure OR_ (W1 W : World) (B g : Nat) (ro : Option Nat) (bs : List Int) (bt : Nat) (T : TypeId) (cs : Array Value) (r : RS) : Prop where
  base : B ≤ W1.heap.size
  rd_ : Rd W B g ro bs r
  blk : W.heap[bt]? = some (.cells cs T (0, 0))
  fr : Fr (fun i => i = g ∨ i = bt) W1 W
theorem OR_.then_ (h : OR_ W1 W B g ro bs bt T cs r) (hb : Below W.heap.size W W') : OR_ W1 W' B g ro bs bt T cs r :=
  ⟨h.base, h.rd_.below hb, (Fr.of_below (S := fun _ => False) hb).blk h.blk (fun h => h), h.fr.then_below hb⟩
theorem OR_.number (h : OR_ W1 W B g ro bs bt T cs r) (k : Nat) (size : Int) (hk : k < cs.size) (h1 : T ≠ 202) (h2 : T ≠ 5) :
    Calls Try.prog 54 #[.agg #[.pointer none, .pointer (some ⟨g, 0, none⟩)], .int .i64 size, .slice (some ⟨W.heap.size, 0, none⟩) 1 1] (W.alloc (.cells #[.pointer (some ⟨bt, k, none⟩)] 101)) fun e W' => e = .returned (.tuple #[]) ∧ OR_ W1 W' B g ro bs bt T (cs.setIfInBounds k (.int .i64 (rNum bs r size).1)) (rNum bs r size).2 := by
  have hb := below1 (w := W) (.cells #[.pointer (some ⟨bt, k, none⟩)] 101)
  have hq := heap_alloc_new W (.cells #[.pointer (some ⟨bt, k, none⟩)] 101)
  have h3 := h.then_ hb
  have hgl := h.rd_.lt
  have hbl := blk_lt h.blk
  have C := number_r size ⟨W.heap.size, 0, none⟩ 1 [k] (fun o ho => by rw [List.mem_singleton.1 ho]; exact hk) (by simp)
    (fun i hi => by
      have hi0 : i = 0 := by simp at hi; exact hi
      subst hi0
      exact ⟨(blk_cell hq 0).trans rfl, by show W.heap.size ≠ g; omega, by show W.heap.size ≠ bt; omega⟩) h3.blk h1 h2 h3.rd_ (Nat.le_trans h.base (Nat.le_trans h.fr.size hb.size))
  exact C.mono fun e W' ⟨he, hr, hq, hf⟩ => ⟨he, h.base, hr, hq, h3.fr.trans hf (fun _ _ h => h)⟩
theorem OR_.token (h : OR_ W1 W B g ro bs bt T cs r) (k : Nat) (hk : k < cs.size) (h1 : T ≠ 202) (h2 : T ≠ 5) :
    Calls Try.prog 53 #[.agg #[.pointer none, .pointer (some ⟨g, 0, none⟩)], .pointer (some ⟨bt, k, none⟩)] W fun e W' => e = .returned (.tuple #[]) ∧ OR_ W1 W' B g ro bs bt T (cs.setIfInBounds k (.string (strOfNums (rFix bs r 8).1))) (rFix bs r 8).2 :=
  (token_r k hk h.blk h1 h2 h.rd_ (Nat.le_trans h.base h.fr.size)).mono fun e W' ⟨he, hr, hq, hf⟩ => ⟨he, h.base, hr, hq, h.fr.trans hf (fun _ _ h => h)⟩
end
end Go.Proofs.Ytgmbfecfkdbfaaa.Wi
