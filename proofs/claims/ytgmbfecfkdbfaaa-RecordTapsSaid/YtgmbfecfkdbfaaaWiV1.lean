/- The document's writer: put, Digits, fits. -/
import Derived.Test.YtgmbfecfkdbfaaaWiB
import Derived.IntWalk
set_option linter.unusedVariables false
set_option linter.unusedSimpArgs false
namespace Go.Proofs.Ytgmbfecfkdbfaaa.Wi
open Go Go.RowKit Go.Proofs.YtgmbfecfkdbfaaaW.PrintWords
/-- the document's writer at block g: its bytes lie in row ro, from block B on -/
structure Vr (w : World) (B g : Nat) (ro : Option Nat) (s : WS) : Prop where
  at_ : ∃ v, w.heap[g]? = some (.cells #[v, .bool s.bad] 81 (0, 0)) ∧ w.ownsRow B 5 1 v s.xs.length (nums .u8 s.xs) ∧ v.ownBlock = ro
  base : B ≤ g
section
variable {w w' W : World} {B g : Nat} {ro : Option Nat} {s s' : WS}
theorem Vr.lt (h : Vr w B g ro s) : g < w.heap.size := by
  obtain ⟨v, hb, _⟩ := h.at_
  exact blk_lt hb
theorem Vr.keep {S : Nat → Prop} (h : Vr w B g ro s) (hf : Fr S w w') (hg : ¬ S g) (hr : ∀ k, ro = some k → ¬ S k) : Vr w' B g ro s := by
  obtain ⟨v, hb, ho, rfl⟩ := h.at_
  exact ⟨⟨v, hf.blk hb hg, hf.own ho hr, rfl⟩, h.base⟩
theorem Vr.below (h : Vr w B g ro s) (hb : Below w.heap.size w w') : Vr w' B g ro s := h.keep (S := fun _ => False) (Fr.of_below hb) (fun h => h) (fun _ _ h => h)
def VPost (B g : Nat) (ro : Option Nat) (s : WS) (w : World) (e : Ending) (w' : World) : Prop :=
  e = .returned (.tuple #[]) ∧ ∃ ro', Vr w' B g ro' s ∧ (ro' = ro ∨ ∃ b, ro' = some b ∧ w.heap.size ≤ b) ∧ Fr (WrS g ro) w w'
theorem VPost.from {w1 w' : World} {e : Ending} (h : VPost B g ro s w1 e w') (hb : Below w.heap.size w w1) : VPost B g ro s w e w' := by
  obtain ⟨he, ro', h1, h2, h3⟩ := h
  refine ⟨he, ro', h1, ?_, (Fr.of_below hb).trans h3 (fun _ _ h => h)⟩
  rcases h2 with h2 | ⟨b, e, h2⟩
  · exact .inl h2
  · exact .inr ⟨b, e, Nat.le_trans hb.size h2⟩
set_option maxHeartbeats 1600000 in
theorem vput_no (A : Option Addr) (m c : Nat) (hw : Vr w B g ro s) : Calls Try.prog 95 #[.pointer (some ⟨g, 0, none⟩), .bool false, .slice A m c] w (VPost B g ro (s.put none) w) := by
  obtain ⟨v, hb, ho, hro⟩ := hw.at_
  have HB := Aside0.mk hb
  have HO := Aside0.mk ho
  have HW := Aside0.mk hw
  have HRO := Aside0.mk hro
  have c1 : _ = some (Value.bool s.bad) := blk_cell hb 1
  have z1 := blk_frozen hb 1
  have HS : Aside0 (s.put none = ⟨s.xs, true⟩) := ⟨by
    cases s with
    | mk xs bad => cases bad <;> rfl⟩
  rw [HS.out]
  clear hb ho hw hro
  go_enter Try.func95, Try.ntmps95
  go_wp2
  go_end0
  have hf := (Fr.refl (fun i => i = g) w).set_ (p := ⟨g, 1, none⟩) (.inl rfl) (.bool true)
  refine ⟨rfl, ro, ⟨⟨v, blk_put HB.out 1 _ rfl, hf.own HO.out ?_, HRO.out⟩, HW.out.base⟩, .inl rfl, hf.mono (fun i _ h => .inl h)⟩
  rintro k hk rfl
  exact own_ne HO.out HB.out (by decide) hk.symm
set_option maxHeartbeats 1600000 in
theorem vput_yes (A : Option Addr) (m c : Nat) (ys : List Int) (hr : ReadsInt w .u8 A m ys) (hB : B ≤ w.heap.size) (hw : Vr w B g ro s) (hl : (s.put (some ys)).xs.length ≤ 140737488355328) : Calls Try.prog 95 #[.pointer (some ⟨g, 0, none⟩), .bool true, .slice A m c] w (VPost B g ro (s.put (some ys)) w) := by
  obtain ⟨v, hb, ho, hro⟩ := hw.at_
  obtain ⟨xs, bad⟩ := s
  have HB := Aside0.mk hb
  have HO := Aside0.mk ho
  have HW := Aside0.mk hw
  have HRO := Aside0.mk hro
  have HR := Aside0.mk hr
  have hm : ys.length = m := hr.1
  have c0 : _ = some v := blk_cell hb 0
  have c1 : _ = some (Value.bool bad) := blk_cell hb 1
  have z0 := blk_frozen hb 0
  cases bad with
  | true =>
    clear hb ho hw hro hr hl hm
    go_enter Try.func95, Try.ntmps95
    go_wp2
    go_end0
    exact ⟨rfl, ro, HW.out, .inl rfl, Fr.refl _ _⟩
  | false =>
    have hl2 : xs.length + m ≤ 140737488355328 := by simpa [WS.put, hm] using hl
    have HL := Aside0.mk hl2
    have HBS := Aside0.mk hB
    clear hb ho hw hro hr hl hl2 hB
    go_enter Try.func95, Try.ntmps95
    go_wp2_with (at_builtin; (refine wpList_append_row B rfl (.tmp 20) (.tmp 21) 24 5 .u8 1 rfl Try.underlying24 info_u8 (by decide) v xs.length xs ys A m c (by rfl) (by rfl) HO.out HR.out HBS.out (by have := HL.out; omega) ?_; intro v1 w1 ho1 hg1 hv1; obtain ⟨A1, c1, rfl⟩ := own_slice ho1; have hb1 := ((Fr.refl (WrS g ro) w).grown hg1 (fun k hk => .inl (.inr (by rw [← HRO.out, hk])))); have HF1 := Aside0.mk hb1; have HO1 := Aside0.mk ho1; have HV1 := Aside0.mk hv1; have hbk : w1.heap[g]? = some (.cells #[v, .bool false] 81 (0, 0)) := ((hg1.block g (blk_lt HB.out) (own_ne HO.out HB.out (by decide))).trans HB.out); have HB1 := Aside0.mk hbk; have y0 : _ = some v := blk_cell hbk 0; have x0 := blk_frozen hbk 0; clear ho1 hg1 hv1 hb1 hbk))
    go_end0
    have hf := (Fr.refl (fun i => i = g) w1).set_ (p := ⟨g, 0, none⟩) (.inl rfl) (.slice A1 (xs.length + m) c1)
    refine ⟨rfl, (Value.slice A1 (xs.length + m) c1).ownBlock, ⟨⟨.slice A1 (xs.length + m) c1, blk_put HB1.out 0 _ rfl, ?_, rfl⟩, HW.out.base⟩, ?_, HF1.out.trans (hf.mono (S' := WrS g ro) (fun i _ h => .inl h)) (fun _ _ h => h)⟩
    · have h := hf.own HO1.out (fun k hk e => by
        subst e
        exact own_ne HO1.out HB1.out (by decide) hk.symm)
      have e : (xs ++ ys).length = xs.length + m := by rw [List.length_append, hm]
      show (w1.setCell _ _).ownsRow B _ 1 _ (xs ++ ys).length (nums .u8 (xs ++ ys))
      rw [e]
      exact h
    · rcases HV1.out with h | h
      · exact .inl (by rw [h, HRO.out])
      · exact .inr ⟨_, h, Nat.le_refl _⟩
end
theorem reads_one (W : World) (x : Int) : ReadsInt (W.alloc (.cells #[.int .u8 x] 5)) .u8 (some ⟨W.heap.size, 0, none⟩) 1 [x] := by
  have ho := own_lit W W.heap.size 5 .u8 [x] (Nat.le_refl _) (by simp)
  obtain ⟨A, c, h1, _, h2⟩ := own_reads' ho
  injection h1 with h1 _ _
  subst h1
  exact h2
theorem be_take_succ (n : Nat) : ∀ (size kk : Nat), kk < size → (be n size).take (kk + 1) = (be n size).take kk ++ [(((n / 256 ^ (size - 1 - kk)) % 256 : Nat) : Int)]
  | 0, _, h => by omega
  | s + 1, 0, _ => by simp [be]
  | s + 1, kk + 1, h => by
    have ih := be_take_succ n s kk (by omega)
    simp only [be, List.take_succ_cons, List.cons_append]
    rw [ih, show s + 1 - 1 - (kk + 1) = s - 1 - kk by omega]
set_option maxHeartbeats 1600000 in
theorem xDigits_calls (n : Int) (size : Nat) (w : World) (h0 : 0 ≤ n) (h8 : size ≤ 8) :
    Calls Try.prog 97 #[.int .u64 n, .int .i64 size] w fun e w' => ∃ A c, e = .returned (.slice A size c) ∧ ReadsInt w' .u8 A size (be n.toNat size) ∧ w'.ownsRow w.heap.size 5 1 (.slice A size c) size (nums .u8 (be n.toNat size)) ∧ Below w.heap.size w w' := by
  go_enter Try.func97, Try.ntmps97
  go_wp2
  go_loopg [5, 6] size (fun gg s5 s6 wr => ∃ (kk : Nat) (A : Option Addr) (c : Nat), kk ≤ size ∧ size - kk ≤ gg ∧ s6 = .int .i64 ((size : Int) - 1 - kk) ∧ s5 = .slice A kk c ∧ Aside0 (wr.ownsRow w.heap.size 5 1 (.slice A kk c) kk (nums .u8 ((be n.toNat size).take kk))) ∧ Aside0 (Below w.heap.size w wr))
  case atStart => exact ⟨0, none, 0, Nat.zero_le _, by omega, by simp, rfl, ⟨⟨by simp [nums], .inl ⟨rfl, rfl⟩⟩⟩, ⟨Below.refl _ _⟩⟩
  case round =>
    obtain ⟨kk, A, c, hkk, hg, rfl, rfl, HO1, HB1⟩ := hrel
    by_cases hlt : kk < size
    · have hltz : (0 : Int) ≤ (size : Int) - 1 - kk := by omega
      have HOA := Aside0.mk (fun o : Obj => (Fr.of_below (S := fun _ => False) (below1 (w := wr) o)).own HO1.out (fun _ _ h => h))
      go_wp2_with (at_builtin; refine wpList_append_row w.heap.size rfl (.tmp 13) (.tmp 20) 24 5 .u8 1 rfl Try.underlying24 info_u8 (by decide) (.slice A kk c) kk _ _ (some ⟨wr.heap.size, 0, none⟩) 1 1 (by rfl) (by rfl) (HOA.out _) (reads_one wr _) (Nat.le_trans HB1.out.size (below1 _).size) (by omega) ?_; intro v1 w1 ho1 hg1 hv1)
      have ho2 : w1.ownsRow w.heap.size 5 1 v1 (kk + 1) (nums .u8 ((be n.toNat size).take (kk + 1))) := by
        rw [be_take_succ _ _ _ hlt, ← shr_digit n _ h0]
        exact ho1
      obtain ⟨A1, c1, rfl, _, _⟩ := own_reads' ho2
      have HB2 := Aside0.mk ((below_alloc HB1.out _).grown hg1 (Nat.le_trans HB1.out.size (below1 _).size) (own_base HO1.out))
      go_roundg (size - (kk + 1))
      case measure => omega
      case rel => exact ⟨kk + 1, A1, c1, by omega, by omega, by first | go_num | (congr 1; omega), rfl, ⟨ho2⟩, HB2⟩
    · have hltz : ¬ (0 : Int) ≤ (size : Int) - 1 - kk := by omega
      obtain rfl : kk = size := by omega
      go_wp2
      go_ret
      rw [List.take_of_length_le (by rw [be_length]; omega)] at HO1
      obtain ⟨A', c', h1, _, h2⟩ := own_reads' HO1.out
      injection h1 with h1 _ h3
      subst h1 h3
      exact ⟨A, c, rfl, h2, HO1.out, HB1.out⟩
end Go.Proofs.Ytgmbfecfkdbfaaa.Wi
