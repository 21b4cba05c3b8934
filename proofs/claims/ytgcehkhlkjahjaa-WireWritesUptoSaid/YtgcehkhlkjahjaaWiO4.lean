/- WireWrites: pieces stand as bytes behind one another as the document says. -/
import Derived.Test.YtgcehkhlkjahjaaWiO3
set_option linter.unusedVariables false
set_option linter.unusedSimpArgs false
namespace Go.Proofs.Ytgcehkhlkjahjaa.Wi
open Go Go.RowKit Go.Proofs.YtgcehkhlkjahjaaW.PrintWords
/-- the program's writer and the document's, side by side, and the rows that came out -/
structure WM (w W : World) (g gx : Nat) (s1 s2 : WS) (va : Value) (vs : List Value) : Prop where
  below : Below w.heap.size w W
  ex : ∃ ro rx, Wr W w.heap.size g ro s1 ∧ Vr W w.heap.size gx rx s2 ∧ (∀ k, ro = some k → rx ≠ some k) ∧ ∀ j, (hj : j < vs.length) → ∀ k, (vs[j]).ownBlock = some k → ro ≠ some k ∧ rx ≠ some k
  rows : ∀ j, (hj : j < vs.length) → ∃ n xs, n ≤ 70000000000 ∧ W.ownsRow w.heap.size 5 1 (vs[j]) n (nums .u8 xs)
  apart : ∀ i j, i < j → (hi : i < vs.length) → (hj : j < vs.length) → ∀ k, (vs[i]).ownBlock = some k → (vs[j]).ownBlock ≠ some k
  all : W.ownsRow w.heap.size 27 1 va vs.length vs
  len : vs.length ≤ 20
section
variable {w W W' W2 : World} {g gx : Nat} {s1 s2 s' : WS} {va va' v : Value} {vs : List Value}
theorem WM.then_ (H : WM w W g gx s1 s2 va vs) (hb : Below W.heap.size W W') : WM w W' g gx s1 s2 va vs := by
  obtain ⟨h1, ⟨ro, rx, hw, hx, ha, hv⟩, h2, h3, h4, h5⟩ := H
  have hf := Fr.of_below (S := fun _ => False) hb
  exact ⟨below_then h1 h1.size hb, ⟨ro, rx, hw.below hb, hx.below hb, ha, hv⟩, fun j hj => by
    obtain ⟨n, xs, e1, e2⟩ := h2 j hj
    exact ⟨n, xs, e1, hf.own e2 (fun _ _ h => h)⟩, h3, hf.own h4 (fun _ _ h => h), h5⟩
theorem WM.ne (H : WM w W g gx s1 s2 va vs) : g ≠ gx := by
  obtain ⟨_, ⟨ro, rx, hw, hx, _⟩, _⟩ := H
  obtain ⟨v, h1, _⟩ := hw.at_
  obtain ⟨u, h2, _⟩ := hx.at_
  exact blk_ne h1 h2 (by decide)
theorem WM.putW (H : WM w W g gx s1 s2 va vs) {F : Nat} {args : Array Value} (hC : ∀ ro, Wr W w.heap.size g ro s1 → w.heap.size ≤ W.heap.size → Calls Try.prog F args W (WPost w.heap.size g ro s' W)) :
    Calls Try.prog F args W fun e W' => e = .returned (.tuple #[]) ∧ WM w W' g gx s' s2 va vs := by
  have hgx := H.ne
  obtain ⟨h1, ⟨ro, rx, hw, hx, ha, hv⟩, h2, h3, h4, h5⟩ := H
  refine (hC ro hw h1.size).mono fun e W' hP => ?_
  obtain ⟨he, ro', hw', hgr, hf⟩ := hP
  obtain ⟨v1, hb1, ho1, hr1⟩ := hw.at_
  obtain ⟨v2, hb2, ho2, hr2⟩ := hx.at_
  have hS : ∀ i, WrS g ro i → w.heap.size ≤ i := fun i hi => by
    rcases hi with rfl | hi
    · exact hw.base
    · exact (hw.ro_lt i hi).1
  refine ⟨he, h1.trans (hf.below h1.size hS), ⟨ro', rx, hw', hx.keep hf ?_ ?_, ?_, ?_⟩, ?_, h3, hf.own h4 ?_, h5⟩
  · rintro (e | e)
    · exact hgx e.symm
    · exact own_ne ho1 hb2 (by decide) (by rw [hr1, e])
  · rintro k hk (rfl | e)
    · exact own_ne ho2 hb1 (by decide) (by rw [hr2, hk])
    · exact ha k e hk
  · intro k hk e
    rcases hgr with h | ⟨b, h, hb⟩
    · exact ha k (by rw [← h, hk]) e
    · rw [h] at hk
      obtain rfl := Option.some.inj hk
      have := own_lt ho2 b (by rw [hr2, e])
      omega
  · intro j hj k hk
    refine ⟨fun e => ?_, (hv j hj k hk).2⟩
    rcases hgr with h | ⟨b, h, hb⟩
    · exact (hv j hj k hk).1 (by rw [← h, e])
    · rw [h] at e
      obtain rfl := Option.some.inj e
      obtain ⟨n, xs, _, e2⟩ := h2 j hj
      have := own_lt e2 b hk
      omega
  · intro j hj
    obtain ⟨n, xs, e1, e2⟩ := h2 j hj
    refine ⟨n, xs, e1, hf.own e2 ?_⟩
    rintro k hk (rfl | e)
    · exact own_ne e2 hb1 (by decide) hk.symm
    · exact (hv j hj k hk).1 e
  · rintro k hk (rfl | e)
    · exact own_ne h4 hb1 (by decide) hk.symm
    · exact own_own_ne h4 ho1 (by decide) k hk (by rw [hr1, e])
theorem WM.putV (H : WM w W g gx s1 s2 va vs) {F : Nat} {args : Array Value} (hC : ∀ rx, Vr W w.heap.size gx rx s2 → w.heap.size ≤ W.heap.size → Calls Try.prog F args W (VPost w.heap.size gx rx s' W)) :
    Calls Try.prog F args W fun e W' => e = .returned (.tuple #[]) ∧ WM w W' g gx s1 s' va vs := by
  have hgx := H.ne
  obtain ⟨h1, ⟨ro, rx, hw, hx, ha, hv⟩, h2, h3, h4, h5⟩ := H
  refine (hC rx hx h1.size).mono fun e W' hP => ?_
  obtain ⟨he, rx', hx', hgr, hf⟩ := hP
  obtain ⟨v1, hb1, ho1, hr1⟩ := hw.at_
  obtain ⟨v2, hb2, ho2, hr2⟩ := hx.at_
  have hS : ∀ i, WrS gx rx i → w.heap.size ≤ i := fun i hi => by
    rcases hi with rfl | hi
    · exact hx.base
    · exact own_base ho2 i (by rw [hr2, hi])
  refine ⟨he, h1.trans (hf.below h1.size hS), ⟨ro, rx', hw.keep hf ?_ ?_, hx', ?_, ?_⟩, ?_, h3, hf.own h4 ?_, h5⟩
  · rintro (e | e)
    · exact hgx e
    · exact own_ne ho2 hb1 (by decide) (by rw [hr2, e])
  · rintro k hk (rfl | e)
    · exact own_ne ho1 hb2 (by decide) (by rw [hr1, hk])
    · exact ha k hk e
  · intro k hk e
    rcases hgr with h | ⟨b, h, hb⟩
    · exact ha k hk (by rw [← h, e])
    · rw [h] at e
      obtain rfl := Option.some.inj e
      have := own_lt ho1 b (by rw [hr1, hk])
      omega
  · intro j hj k hk
    refine ⟨(hv j hj k hk).1, fun e => ?_⟩
    rcases hgr with h | ⟨b, h, hb⟩
    · exact (hv j hj k hk).2 (by rw [← h, e])
    · rw [h] at e
      obtain rfl := Option.some.inj e
      obtain ⟨n, xs, _, e2⟩ := h2 j hj
      have := own_lt e2 b hk
      omega
  · intro j hj
    obtain ⟨n, xs, e1, e2⟩ := h2 j hj
    refine ⟨n, xs, e1, hf.own e2 ?_⟩
    rintro k hk (rfl | e)
    · exact own_ne e2 hb2 (by decide) hk.symm
    · exact (hv j hj k hk).2 e
  · rintro k hk (rfl | e)
    · exact own_ne h4 hb2 (by decide) hk.symm
    · exact own_own_ne h4 ho2 (by decide) k hk (by rw [hr2, e])
/-- a row that came out is kept -/
theorem WM.push (H2 : WM w W2 g gx s1 s2 va vs) (hb : Below W2.heap.size W2 W) {n : Nat} {xs : List Int} (hn : n ≤ 70000000000) (hv : W.ownsRow W2.heap.size 5 1 v n (nums .u8 xs)) (hl : vs.length < 20)
    (ho : W'.ownsRow w.heap.size 27 1 va' (vs.length + 1) (vs ++ [v])) (hgr : (W.alloc (.cells #[v] 27)).grownBy W' va.ownBlock) : WM w W' g gx s1 s2 va' (vs ++ [v]) := by
  have hv2 := (Fr.of_below (S := fun _ => False) (below1 (w := W) (.cells #[v] 27))).own hv (fun _ _ h => h)
  have hfr : ∀ k, v.ownBlock = some k → W2.heap.size ≤ k := own_base hv
  have hbb : Below W2.heap.size W2 (W.alloc (.cells #[v] 27)) := below_then hb hb.size (below1 _)
  generalize W.alloc (.cells #[v] 27) = W4 at *
  obtain ⟨h1, ⟨ro, rx, hw, hx, ha, hvs⟩, h2, h3, h4, h5⟩ := H2
  have f2 : Fr (fun _ => False) W2 W4 := Fr.of_below hbb
  have f : Fr (fun i => va.ownBlock = some i) W4 W' := (Fr.refl _ _).grown hgr (fun k hk => .inl hk)
  have h44 := f2.own h4 (fun _ _ h => h)
  obtain ⟨v1, hb1, ho1, hr1⟩ := hw.at_
  obtain ⟨v2, hb2, ho2, hr2⟩ := hx.at_
  have hold : ∀ j, (hj : j < vs.length) → ∀ k, (vs[j]).ownBlock = some k → k < W2.heap.size := fun j hj k hk => by
    obtain ⟨m, ys, _, e2⟩ := h2 j hj
    exact own_lt e2 k hk
  have get : ∀ j, (hj : j < (vs ++ [v]).length) → (∃ hj' : j < vs.length, (vs ++ [v])[j] = vs[j]) ∨ (j = vs.length ∧ (vs ++ [v])[j] = v) := fun j hj => by
    rcases Nat.lt_or_ge j vs.length with h | h
    · exact .inl ⟨h, List.getElem_append_left h⟩
    · have hjl : j = vs.length := by rw [List.length_append, List.length_singleton] at hj; omega
      subst hjl
      exact .inr ⟨rfl, by simp⟩
  have hbw : Below w.heap.size w W' := (below_then h1 h1.size hbb).grown hgr (Nat.le_trans h1.size hbb.size) (fun k hk => own_base h4 k hk)
  refine ⟨hbw, ⟨ro, rx, (hw.below hbb).keep f (fun e => own_ne h4 hb1 (by decide) e.symm) (fun k hk e => own_own_ne h4 ho1 (by decide) k e (by rw [hr1, hk])), (hx.below hbb).keep f (fun e => own_ne h4 hb2 (by decide) e.symm) (fun k hk e => own_own_ne h4 ho2 (by decide) k e (by rw [hr2, hk])), ha, ?_⟩, ?_, ?_, ?_, ?_⟩
  · intro j hj k hk
    rcases get j hj with ⟨hj', e⟩ | ⟨_, e⟩
    · rw [e] at hk
      exact hvs j hj' k hk
    · rw [e] at hk
      have h6 := hfr k hk
      refine ⟨fun e => ?_, fun e => ?_⟩
      · have := own_lt ho1 k (by rw [hr1, e])
        omega
      · have := own_lt ho2 k (by rw [hr2, e])
        omega
  · intro j hj
    rcases get j hj with ⟨hj', e⟩ | ⟨_, e⟩
    · rw [e]
      obtain ⟨m, ys, e1, e2⟩ := h2 j hj'
      exact ⟨m, ys, e1, f.own (f2.own e2 (fun _ _ h => h)) (fun k hk e => own_own_ne h4 e2 (by decide) k e hk)⟩
    · rw [e]
      exact ⟨n, xs, hn, f.own (own_upto hv2 (fun k hk => Nat.le_trans h1.size (hfr k hk))) (fun k hk e => own_own_ne h44 hv2 (by decide) k e hk)⟩
  · intro i j hij hi hj k hk
    rcases get i hi with ⟨hi', ei⟩ | ⟨hi', ei⟩
    · rw [ei] at hk
      rcases get j hj with ⟨hj', ej⟩ | ⟨hj', ej⟩
      · rw [ej]
        exact h3 i j hij hi' hj' k hk
      · rw [ej]
        intro e
        have h6 := hfr k e
        have h7 := hold i hi' k hk
        omega
    · rcases get j hj with ⟨hj', ej⟩ | ⟨hj', ej⟩ <;> omega
  · rw [List.length_append, List.length_singleton]
    exact ho
  · rw [List.length_append, List.length_singleton]
    omega
/-- the rows as Owned takes them -/
theorem WM.rows0 (H : WM w W g gx s1 s2 va vs) : Rows0 W w.heap.size vs va :=
  ⟨H.apart, fun j hj k hk => by
    obtain ⟨n, xs, _, e2⟩ := H.rows j hj
    exact ⟨own_lt e2 k hk, own_own_ne e2 H.all (by decide) k hk⟩, own_lt H.all, H.len⟩
theorem WM.after (H : WM w W g gx s1 s2 va vs) (hf : Fr (fun b => ∃ v ∈ vs, v.ownBlock = some b) W W') : WAt w W' g s1 ∧ ∃ rx, Vr W' w.heap.size gx rx s2 := by
  obtain ⟨h1, ⟨ro, rx, hw, hx, ha, hv⟩, h2, h3, h4, h5⟩ := H
  obtain ⟨v1, hb1, ho1, hr1⟩ := hw.at_
  obtain ⟨v2, hb2, ho2, hr2⟩ := hx.at_
  have row : ∀ v ∈ vs, ∃ j, ∃ hj : j < vs.length, vs[j] = v := fun v hv => by
    obtain ⟨j, hj, e⟩ := List.getElem_of_mem hv
    exact ⟨j, hj, e⟩
  refine ⟨⟨h1.trans (hf.below h1.size (fun i hi => ?_)), ro, hw.keep hf ?_ ?_⟩, rx, hx.keep hf ?_ ?_⟩
  · obtain ⟨v, hvm, hk⟩ := hi
    obtain ⟨j, hj, rfl⟩ := row v hvm
    obtain ⟨n, xs, _, e2⟩ := h2 j hj
    exact own_base e2 i hk
  · rintro ⟨v, hvm, hk⟩
    obtain ⟨j, hj, rfl⟩ := row v hvm
    obtain ⟨n, xs, _, e2⟩ := h2 j hj
    exact own_ne e2 hb1 (by decide) hk.symm
  · rintro k hk ⟨v, hvm, hk2⟩
    obtain ⟨j, hj, rfl⟩ := row v hvm
    exact (hv j hj k hk2).1 hk
  · rintro ⟨v, hvm, hk⟩
    obtain ⟨j, hj, rfl⟩ := row v hvm
    obtain ⟨n, xs, _, e2⟩ := h2 j hj
    exact own_ne e2 hb2 (by decide) hk.symm
  · rintro k hk ⟨v, hvm, hk2⟩
    obtain ⟨j, hj, rfl⟩ := row v hvm
    exact (hv j hj k hk2).2 hk
end
end Go.Proofs.Ytgcehkhlkjahjaa.Wi
