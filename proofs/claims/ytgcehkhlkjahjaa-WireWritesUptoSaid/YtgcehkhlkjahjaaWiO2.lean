/- The laws' Owned: what stands between its rounds. -/
import Derived.Test.YtgcehkhlkjahjaaWiO1
set_option linter.unusedVariables false
set_option linter.unusedSimpArgs false
namespace Go.Proofs.Ytgcehkhlkjahjaa.Wi
open Go Go.RowKit Go.Proofs.YtgcehkhlkjahjaaW.PrintWords
/-- a slice that reads as n times x -/
def MarkN (W : World) (v : Value) (n : Nat) (x : Int) : Prop := ∃ A c, v = .slice A n c ∧ ReadsInt W .u8 A n (List.replicate n x)
section
variable {W W' : World} {v g : Value} {n m : Nat} {x : Int}
theorem MarkN.keep (h : MarkN W v n x) (hk : ∀ k, v.ownBlock = some k → k < W.heap.size → W'.heap[k]? = W.heap[k]?) : MarkN W' v n x := by
  obtain ⟨A, c, rfl, h1, h2, h3⟩ := h
  refine ⟨A, c, rfl, h1, h2, fun hn => ?_⟩
  obtain ⟨ad, rfl, hc⟩ := h3 hn
  refine ⟨ad, rfl, fun j hj => ?_⟩
  have h := hc j hj
  have hb := World.block_lt_of_cell? W _ h
  rw [add_block] at hb
  rw [World.cell?_of_block (w := W) (by rw [add_block]; exact hk ad.block rfl hb)]
  exact h
theorem own_own_ne {b1 b2 : Nat} {e1 e2 : TypeId} {s1 s2 n1 n2 : Nat} {v1 v2 : Value} {xs1 xs2 : List Value} (h1 : W.ownsRow b1 e1 s1 v1 n1 xs1) (h2 : W.ownsRow b2 e2 s2 v2 n2 xs2) (he : e2 ≠ e1) (k : Nat) (hk : v1.ownBlock = some k) : v2.ownBlock ≠ some k := by
  rcases h1.2 with ⟨rfl, _⟩ | ⟨gb, cap, cur, rfl, _, hg, _⟩
  · cases hk
  · obtain rfl : gb = k := Option.some.inj hk
    exact fun e => own_ne h2 hg he e.symm
theorem MarkN.of_own {B : Nat} {e : TypeId} (h : W.ownsRow B e 1 v n (nums .u8 (List.replicate n x))) : MarkN W v n x := by
  obtain ⟨A, c, rfl, _, hr⟩ := own_reads' h
  exact ⟨A, c, rfl, hr⟩
theorem MarkN.pre {B : Nat} {e : TypeId} {A : Option Addr} {c : Nat} (h : W.ownsRow B e 1 g (n + m) (nums .u8 (List.replicate (n + m) x))) (hA : A = none ∧ n = 0 ∨ ∃ b, A = some ⟨b, 0, none⟩) (hn : n ≤ 9223372036854775807) (he : g.ownBlock = (Value.slice A n c).ownBlock) : MarkN W (.slice A n c) n x := by
  refine ⟨A, c, rfl, List.length_replicate, hn, fun h0 => ?_⟩
  rcases hA with ⟨rfl, h1⟩ | ⟨b, rfl⟩
  · omega
  refine ⟨_, rfl, fun j hj => ?_⟩
  have h2 := h.cells (g := b) he j (.int .u8 x) (by simp [nums, List.getElem?_replicate]; omega)
  rw [h2]
  simp [List.getD, List.getElem?_replicate, hj]
theorem own_shape {B : Nat} {e : TypeId} {A : Option Addr} {c : Nat} {xs : List Value} (h : W.ownsRow B e 1 (.slice A n c) n xs) : A = none ∧ n = 0 ∨ ∃ b, A = some ⟨b, 0, none⟩ := by
  rcases h.2 with ⟨h1, h2⟩ | ⟨gb, cap, cur, h1, _⟩
  · injection h1 with h1 _ _
    exact .inl ⟨h1, h2⟩
  · injection h1 with h1 _ _
    exact .inr ⟨gb, h1⟩
theorem own_cellv {B : Nat} {e : TypeId} {A : Option Addr} {c : Nat} {xs : List Value} (h : W.ownsRow B e 1 (.slice A n c) n xs) (i : Nat) (hi : i < n) (hx : i < xs.length) : ∃ b, A = some ⟨b, 0, none⟩ ∧ W.cell? ⟨b, i, none⟩ = some xs[i] := by
  rcases own_shape h with ⟨_, h0⟩ | ⟨b, rfl⟩
  · omega
  · have h2 := h.cells (g := b) rfl i xs[i] (List.getElem?_eq_getElem hx)
    rw [add_plain] at h2
    exact ⟨b, rfl, h2⟩
end
/-- between Owned's rounds: rows before ii are marked, and stand in the long list twice -/
structure Ow (w W : World) (B : Nat) (vs : List Value) (va : Value) (ii : Nat) (lv : Value) (ls : List Value) : Prop where
  fr : Fr (fun b => ∃ v ∈ vs, v.ownBlock = some b) w W
  outer : W.ownsRow B 27 1 va vs.length vs
  rows : ∀ j, ii ≤ j → (hj : j < vs.length) → ∃ n xs, n ≤ 70000000000 ∧ W.ownsRow B 5 1 (vs[j]) n (nums .u8 xs)
  long : W.ownsRow w.heap.size 27 1 lv (2 * ii) ls
  marks : ∀ q x, ls[q]? = some x → (∃ n, n ≤ 100000000000 ∧ MarkN W x n (1 + ((q / 2 : Nat) : Int))) ∧ ∀ k, x.ownBlock = some k → k < W.heap.size ∧ lv.ownBlock ≠ some k ∧ ∀ j, ii ≤ j → (hj : j < vs.length) → (vs[j]).ownBlock ≠ some k
/-- the rows that come in: each its own block, below -/
structure Rows0 (w : World) (B : Nat) (vs : List Value) (va : Value) : Prop where
  apart : ∀ i j, i < j → (hi : i < vs.length) → (hj : j < vs.length) → ∀ k, (vs[i]).ownBlock = some k → (vs[j]).ownBlock ≠ some k
  lt : ∀ j, (hj : j < vs.length) → ∀ k, (vs[j]).ownBlock = some k → k < w.heap.size ∧ va.ownBlock ≠ some k
  valt : ∀ k, va.ownBlock = some k → k < w.heap.size
  len : vs.length ≤ 20
section
variable {w W W3 w' : World} {B : Nat} {vs : List Value} {va : Value} {ii : Nat} {lv lv' gv : Value} {ls : List Value}
theorem Ow.next (h : Ow w W B vs va ii lv ls) (h0 : Rows0 w B vs va) (hi : ii < vs.length) {n : Nat} (hn : n ≤ 70000000000)
    (hf : Fr (fun b => (vs[ii]).ownBlock = some b) W W3) (hg : W3.ownsRow B 5 1 gv (n + 9) (nums .u8 (List.replicate (n + 9) (1 + (ii : Int))))) (hm : MarkN W3 vs[ii] n (1 + (ii : Int)))
    (hgb : gv.ownBlock = (vs[ii]).ownBlock ∨ ∀ k, gv.ownBlock = some k → W.heap.size ≤ k)
    (ho : w'.ownsRow w.heap.size 27 1 lv' (2 * ii + 2) (ls ++ [gv, vs[ii]])) (hgr : (W3.alloc (.cells #[gv, vs[ii]] 27)).grownBy w' lv.ownBlock)
    (hst : (lv'.ownBlock = lv.ownBlock ∧ lv.ownBlock ≠ none) ∨ (lv'.ownBlock = some (W3.alloc (.cells #[gv, vs[ii]] 27)).heap.size ∧ ∀ k, k < (W3.alloc (.cells #[gv, vs[ii]] 27)).heap.size → w'.heap[k]? = (W3.alloc (.cells #[gv, vs[ii]] 27)).heap[k]?)) :
    Ow w w' B vs va (ii + 1) lv' (ls ++ [gv, vs[ii]]) := by
  have hbl := below1 (w := W3) (.cells #[gv, vs[ii]] 27)
  generalize hW4 : W3.alloc (.cells #[gv, vs[ii]] 27) = W4 at *
  have hs1 := h.fr.size
  have hs2 := hf.size
  have hs3 := hbl.size
  have hs4 := hgr.size
  have hlb : ∀ k, lv.ownBlock = some k → w.heap.size ≤ k ∧ k < W.heap.size := fun k hk => ⟨own_base h.long k hk, own_lt h.long k hk⟩
  -- a block that is neither the row's nor the long list's stands from W to w'
  have keep : ∀ k, k < W.heap.size → (vs[ii]).ownBlock ≠ some k → lv.ownBlock ≠ some k → w'.heap[k]? = W.heap[k]? := fun k hk h1 h2 => by
    rw [hgr.block k (by omega) (fun e => h2 e.symm), hbl.block k (by omega), hf.block k hk h1]
  have keep3 : ∀ k, k < W3.heap.size → lv.ownBlock ≠ some k → w'.heap[k]? = W3.heap[k]? := fun k hk h2 => by
    rw [hgr.block k (by omega) (fun e => h2 e.symm), hbl.block k hk]
  have ownk : ∀ {b : Nat} {e : TypeId} {v : Value} {m : Nat} {xs : List Value}, W.ownsRow b e 1 v m xs → (∀ k, v.ownBlock = some k → (vs[ii]).ownBlock ≠ some k ∧ lv.ownBlock ≠ some k) → w'.ownsRow b e 1 v m xs := by
    intro b e v m xs hv hk
    refine ⟨hv.1, ?_⟩
    rcases hv.2 with hv2 | ⟨gb, cap, cur, rfl, h1, h2, h3⟩
    · exact .inl hv2
    · exact .inr ⟨gb, cap, cur, rfl, h1, (keep gb (blk_lt h2) (hk gb rfl).1 (hk gb rfl).2).trans h2, h3⟩
  have hvi : ∀ k, (vs[ii]).ownBlock = some k → k < w.heap.size ∧ lv.ownBlock ≠ some k := fun k hk => ⟨(h0.lt ii hi k hk).1, fun e => by have := (hlb k e).1; have := (h0.lt ii hi k hk).1; omega⟩
  have hgl : ∀ k, gv.ownBlock = some k → lv.ownBlock ≠ some k := fun k hk e => by
    have h1 := (hlb k e)
    rcases hgb with hgb | hgb
    · rw [hgb] at hk
      exact (hvi k hk).2 e
    · have := hgb k hk
      omega
  -- what the long list's new block is
  have hlv : ∀ k, k < W4.heap.size → lv.ownBlock ≠ some k → lv'.ownBlock ≠ some k := fun k hk h1 e => by
    rcases hst with ⟨h2, _⟩ | ⟨h2, _⟩
    · exact h1 (by rw [← h2, e])
    · rw [e] at h2
      have := Option.some.inj h2
      omega
  refine ⟨?_, ?_, ?_, ?_, ?_⟩
  · have f1 : Fr (fun b => ∃ v ∈ vs, v.ownBlock = some b) W W3 := hf.mono (fun i _ h => ⟨vs[ii], List.getElem_mem hi, h⟩)
    have f2 := (h.fr.trans f1 (fun _ _ h => h)).then_below hbl
    exact f2.grown hgr (fun k hk => .inr (hlb k hk).1)
  · refine ownk h.outer (fun k hk => ⟨fun e => (h0.lt ii hi k e).2 hk, fun e => ?_⟩)
    have h1 := h0.valt k hk
    have h2 := (hlb k e).1
    omega
  · intro j hj hjl
    obtain ⟨m, xs, h1, h2⟩ := h.rows j (by omega) hjl
    refine ⟨m, xs, h1, ownk h2 (fun k hk => ⟨fun e => h0.apart ii j (by omega) hi hjl k e hk, fun e => ?_⟩)⟩
    have h3 := (h0.lt j hjl k hk).1
    have := (hlb k e).1
    omega
  · rw [show 2 * (ii + 1) = 2 * ii + 2 by omega]
    exact ho
  · intro q x hq
    have hll : ls.length = 2 * ii := by have := h.long.1; omega
    by_cases hql : q < ls.length
    · rw [List.getElem?_append_left hql] at hq
      obtain ⟨⟨m, hm1, hm2⟩, hk⟩ := h.marks q x hq
      refine ⟨⟨m, hm1, hm2.keep (fun k hk1 hk2 => keep k hk2 (fun e => (hk k hk1).2.2 ii (Nat.le_refl _) hi e) (hk k hk1).2.1)⟩, fun k hk1 => ⟨by have := (hk k hk1).1; omega, hlv k (by have := (hk k hk1).1; omega) (hk k hk1).2.1, fun j hj hjl => (hk k hk1).2.2 j (by omega) hjl⟩⟩
    · rw [List.getElem?_append_right (by omega)] at hq
      have hx : (q - ls.length = 0 ∧ x = gv) ∨ (q - ls.length = 1 ∧ x = vs[ii]) := by
        match hqq : q - ls.length, hq with
        | 0, hq => exact .inl ⟨rfl, by simpa using hq.symm⟩
        | 1, hq => exact .inr ⟨rfl, by simpa using hq.symm⟩
        | a + 2, hq => simp at hq
      have hq2 : q / 2 = ii := by omega
      rw [hq2]
      rcases hx with ⟨_, rfl⟩ | ⟨_, rfl⟩
      · refine ⟨⟨n + 9, by omega, (MarkN.of_own hg).keep (fun k hk1 hk2 => keep3 k hk2 (hgl k hk1))⟩, fun k hk1 => ?_⟩
        have hk3 := own_lt hg k hk1
        refine ⟨by omega, hlv k (by omega) (hgl k hk1), fun j hj hjl e => ?_⟩
        rcases hgb with hgb | hgb
        · rw [hgb] at hk1
          exact h0.apart ii j (by omega) hi hjl k hk1 e
        · have := hgb k hk1
          have := (h0.lt j hjl k e).1
          omega
      · refine ⟨⟨n, by omega, hm.keep (fun k hk1 hk2 => keep3 k hk2 (hvi k hk1).2)⟩, fun k hk1 => ?_⟩
        have hk3 := (hvi k hk1)
        exact ⟨by omega, hlv k (by omega) hk3.2, fun j hj hjl e => h0.apart ii j (by omega) hi hjl k hk1 e⟩
end
end Go.Proofs.Ytgcehkhlkjahjaa.Wi
