/- The writer's methods: each puts its piece, or the writer is wrong from then on. -/
import Derived.Test.YtgmbfecfkdbfaaaWiW3
set_option linter.unusedVariables false
set_option linter.unusedSimpArgs false
namespace Go.Proofs.Ytgmbfecfkdbfaaa.Wi
open Go Go.RowKit Go.Proofs.YtgmbfecfkdbfaaaW.PrintWords
theorem pNumber_len {n size : Int} {ys : List Int} (h : pNumber n size = some ys) : ys.length ≤ 8 := by
  unfold pNumber at h
  split at h
  · rename_i hc
    simp only [sizedB, Bool.and_eq_true, decide_eq_true_eq] at hc
    obtain rfl := Option.some.inj h
    rw [be_length]
    omega
  · cases h
theorem pText_len {s : ByteArray} {ys : List Int} (h : pText s = some ys) : ys.length ≤ 65537 := by
  unfold pText at h
  split at h
  · obtain rfl := Option.some.inj h
    rw [List.length_append, be_length, strBytes_length]
    omega
  · cases h
theorem pFixed_len {s : ByteArray} {size : Int} {ys : List Int} (h : pFixed s size = some ys) : ys.length ≤ 65535 := by
  unfold pFixed at h
  split at h
  · rename_i hc
    simp only [fixedB, Bool.and_eq_true, decide_eq_true_eq, beq_iff_eq] at hc
    obtain rfl := Option.some.inj h
    rw [strBytes_length]
    omega
  · cases h
theorem WPost.from {B g : Nat} {ro : Option Nat} {s : WS} {w w1 w' : World} {e : Ending} (h : WPost B g ro s w1 e w') (hb : Below w.heap.size w w1) : WPost B g ro s w e w' := by
  obtain ⟨he, ro', hw, hr, hf⟩ := h
  refine ⟨he, ro', hw, ?_, (Fr.of_below hb).trans hf (fun _ _ h => h)⟩
  rcases hr with h | ⟨b, h, hb'⟩
  · exact .inl h
  · exact .inr ⟨b, h, Nat.le_trans hb.size hb'⟩
theorem below2 {w : World} (o o' : Obj) : Below w.heap.size w ((w.alloc o).alloc o') := below_alloc (below_alloc (Below.refl _ _) o) o'
theorem below1 {w : World} (o : Obj) : Below w.heap.size w (w.alloc o) := below_alloc (Below.refl _ _) o
theorem blk_b {w W : World} {g : Nat} {o : Obj} (h : w.heap[g]? = some o) (hb : Below w.heap.size w W) : W.heap[g]? = some o := (hb.block g (blk_lt h)).trans h
theorem two_0 (w : World) (o o' : Obj) : ((w.alloc o).alloc o').heap[w.heap.size]? = some o := blk_b (heap_alloc_new w o) (below1 o')
theorem two_1 (w : World) (o o' : Obj) : ((w.alloc o).alloc o').heap[w.heap.size + 1]? = some o' := by
  have h := heap_alloc_new (w.alloc o) o'
  have e : (w.alloc o).heap.size = w.heap.size + 1 := by simp
  rw [e] at h
  exact h
theorem ent_number : ∀ args w, (callFunc 148 args).run Try.prog w = .ok (.enter 148 args) w := enters_of Try.func148 (by kernel_rfl) rfl
theorem ent_int : ∀ args w, (callFunc 168 args).run Try.prog w = .ok (.enter 168 args) w := enters_of Try.func168 (by kernel_rfl) rfl
theorem ent_float : ∀ args w, (callFunc 175 args).run Try.prog w = .ok (.enter 175 args) w := enters_of Try.func175 (by kernel_rfl) rfl
theorem ent_fixed : ∀ args w, (callFunc 108 args).run Try.prog w = .ok (.enter 108 args) w := enters_of Try.func108 (by kernel_rfl) rfl
section
variable {w : World} {B g : Nat} {ro : Option Nat} {s : WS}
set_option maxHeartbeats 1600000 in
theorem wNumber_calls (n size : Int) (hn : n ≤ 9223372036854775807) (hw : Wr w B g ro s) (hB : B ≤ w.heap.size) (hl : (s.put (pNumber n size)).xs.length ≤ 140737488355328) :
    Calls Try.prog 111 #[.pointer (some ⟨g, 0, none⟩), .int .i64 n, .int .i64 size] w (WPost B g ro (s.put (pNumber n size)) w) := by
  have C := put_calls 148 #[.pointer (some ⟨w.heap.size + 1, 0, none⟩), .pointer (some ⟨w.heap.size, 0, none⟩)] ent_number (pNumber n size) B g ro s ((w.alloc (.cells #[.int .i64 n] 3)).alloc (.cells #[.int .i64 size] 3)) (hw.below (below2 _ _)) (Nat.le_trans hB (below2 _ _).size) hl
    (fun W hW => number1_calls n size hn _ _ W (blk_b (two_1 w _ _) hW) (blk_b (two_0 w _ _) hW))
  have C' := Aside0.mk C
  clear C hw
  have hmf : ∀ (fn : Fn) (first cap : Array Value) (w : World), (Instr.makeFunc fn first cap).run Try.prog w = .ok (.func fn first cap) w := fun _ _ _ _ => rfl
  go_enter Try.func111, Try.ntmps111
  go_wp2_with (go_at_call 107; refine C'.out.mono ?_; rintro e w' ⟨rfl, hP⟩)
  go_end0
  exact WPost.from ⟨rfl, hP⟩ (below2 _ _)
set_option maxHeartbeats 800000 in
theorem wCount_calls (n : Int) (hn : n ≤ 9223372036854775807) (hw : Wr w B g ro s) (hB : B ≤ w.heap.size) (hl : (s.put (pNumber n 2)).xs.length ≤ 140737488355328) :
    Calls Try.prog 158 #[.pointer (some ⟨g, 0, none⟩), .int .i64 n] w (WPost B g ro (s.put (pNumber n 2)) w) := by
  have C' := Aside0.mk (wNumber_calls n 2 hn hw hB hl)
  clear hw
  go_enter Try.func158, Try.ntmps158
  go_wp2_with (go_at_call 111; refine C'.out.mono ?_; rintro e w' ⟨rfl, hP⟩)
  go_end0
  exact ⟨rfl, hP⟩
set_option maxHeartbeats 800000 in
theorem wBool_calls (is : Bool) (hw : Wr w B g ro s) (hB : B ≤ w.heap.size) (hl : (s.put (pBool is)).xs.length ≤ 140737488355328) :
    Calls Try.prog 156 #[.pointer (some ⟨g, 0, none⟩), .bool is] w (WPost B g ro (s.put (pBool is)) w) := by
  cases is
  · have C' := Aside0.mk (wNumber_calls 0 1 (by omega) hw hB hl)
    clear hw
    go_enter Try.func156, Try.ntmps156
    go_wp2_with (go_at_call 111; refine C'.out.mono ?_; rintro e w' ⟨rfl, hP⟩)
    go_end0
    exact ⟨rfl, hP⟩
  · have C' := Aside0.mk (wNumber_calls 1 1 (by omega) hw hB hl)
    clear hw
    go_enter Try.func156, Try.ntmps156
    go_wp2_with (go_at_call 111; refine C'.out.mono ?_; rintro e w' ⟨rfl, hP⟩)
    go_end0
    exact ⟨rfl, hP⟩
set_option maxHeartbeats 800000 in
theorem wInt_calls (n : Int) (hw : Wr w B g ro s) (hB : B ≤ w.heap.size) (hl : (s.put (pInt n)).xs.length ≤ 140737488355328) :
    Calls Try.prog 154 #[.pointer (some ⟨g, 0, none⟩), .int .i64 n] w (WPost B g ro (s.put (pInt n)) w) := by
  have C := put_calls 168 #[.pointer (some ⟨w.heap.size, 0, none⟩)] ent_int (pInt n) B g ro s (w.alloc (.cells #[.int .i64 n] 3)) (hw.below (below1 _)) (Nat.le_trans hB (below1 _).size) hl
    (fun W hW => int1_calls n _ W (blk_b (heap_alloc_new w _) hW))
  have C' := Aside0.mk C
  clear C hw
  have hmf : ∀ (fn : Fn) (first cap : Array Value) (w : World), (Instr.makeFunc fn first cap).run Try.prog w = .ok (.func fn first cap) w := fun _ _ _ _ => rfl
  go_enter Try.func154, Try.ntmps154
  go_wp2_with (go_at_call 107; refine C'.out.mono ?_; rintro e w' ⟨rfl, hP⟩)
  go_end0
  exact WPost.from ⟨rfl, hP⟩ (below1 _)
set_option maxHeartbeats 1600000 in
theorem wFixed_calls (y : ByteArray) (size : Int) (hy : y.size ≤ 9223372036854775807) (hw : Wr w B g ro s) (hB : B ≤ w.heap.size) (hl : (s.put (pFixed y size)).xs.length ≤ 140737488355328) :
    Calls Try.prog 52 #[.pointer (some ⟨g, 0, none⟩), .string y, .int .i64 size] w (WPost B g ro (s.put (pFixed y size)) w) := by
  have C := put_calls 108 #[.pointer (some ⟨w.heap.size + 1, 0, none⟩), .pointer (some ⟨w.heap.size, 0, none⟩)] ent_fixed (pFixed y size) B g ro s ((w.alloc (.cells #[.string y] 9)).alloc (.cells #[.int .i64 size] 3)) (hw.below (below2 _ _)) (Nat.le_trans hB (below2 _ _).size) hl
    (fun W hW => fixed1_calls y size hy _ _ W (blk_b (two_1 w _ _) hW) (blk_b (two_0 w _ _) hW))
  have C' := Aside0.mk C
  clear C hw
  have hmf : ∀ (fn : Fn) (first cap : Array Value) (w : World), (Instr.makeFunc fn first cap).run Try.prog w = .ok (.func fn first cap) w := fun _ _ _ _ => rfl
  go_enter Try.func52, Try.ntmps52
  go_wp2_with (go_at_call 107; refine C'.out.mono ?_; rintro e w' ⟨rfl, hP⟩)
  go_end0
  exact WPost.from ⟨rfl, hP⟩ (below2 _ _)
set_option maxHeartbeats 400000 in
theorem isnan_calls (n : Nat) (w : World) : Calls Try.prog 174 #[.float .f64 n] w fun e w' => e = .returned (.bool (isNan n)) ∧ w = w' := by
  unfold isNan
  go_enter Try.func174, Try.ntmps174
  go_wp2
  go_ret
  exact ⟨rfl, rfl⟩
set_option maxHeartbeats 1600000 in
theorem wFloat_calls (n : Nat) (hw : Wr w B g ro s) (hB : B ≤ w.heap.size) (hl : (s.put (pFloat n)).xs.length ≤ 140737488355328) :
    Calls Try.prog 164 #[.pointer (some ⟨g, 0, none⟩), .float .f64 n] w (WPost B g ro (s.put (pFloat n)) w) := by
  have hfb : ∀ (a : Nat) (w : World), (callFunc 173 #[.float .f64 a]).run Try.prog w = .ok (.value (.int .u64 a)) w := fun a w => by kernel_rfl
  have hmf : ∀ (fn : Fn) (first cap : Array Value) (w : World), (Instr.makeFunc fn first cap).run Try.prog w = .ok (.func fn first cap) w := fun _ _ _ _ => rfl
  have HN := Aside0.mk (fun w => isnan_calls n w)
  cases hi : isNan n with
  | true =>
    have HI := Aside0.mk hi
    have HF : Aside0 (pFloat n = some (be 9221120237041090560 8)) := ⟨by simp [pFloat, fBits, hi, nanBits]⟩
    have C := put_calls 175 #[.pointer (some ⟨w.heap.size, 0, none⟩)] ent_float (some (be 9221120237041090560 8)) B g ro s (w.alloc (.cells #[.int .u64 9221120237041090560] 142)) (hw.below (below1 _)) (Nat.le_trans hB (below1 _).size) (by rw [← HF.out]; exact hl)
      (fun W hW => float1_calls 9221120237041090560 _ W (blk_b (heap_alloc_new w _) hW))
    have C' := Aside0.mk C
    clear C hw hi
    go_enter Try.func164, Try.ntmps164
    go_wp2_with (first | (go_at_call 174; refine (HN.out _).mono ?_; rw [HI.out]; rintro e w' ⟨rfl, rfl⟩) | (go_at_call 107; refine C'.out.mono ?_; rintro e w' ⟨rfl, hP⟩))
    go_end0
    rw [HF.out]
    exact WPost.from ⟨rfl, hP⟩ (below1 _)
  | false =>
    have HI := Aside0.mk hi
    have HF : Aside0 (pFloat n = some (be n 8)) := ⟨by simp [pFloat, fBits, hi]⟩
    have C := put_calls 175 #[.pointer (some ⟨w.heap.size, 0, none⟩)] ent_float (some (be n 8)) B g ro s (w.alloc (.cells #[.int .u64 n] 142)) (hw.below (below1 _)) (Nat.le_trans hB (below1 _).size) (by rw [← HF.out]; exact hl)
      (fun W hW => float1_calls n _ W (blk_b (heap_alloc_new w _) hW))
    have C' := Aside0.mk C
    clear C hw hi
    go_enter Try.func164, Try.ntmps164
    go_wp2_with (first | (go_at_call 174; refine (HN.out _).mono ?_; rw [HI.out]; rintro e w' ⟨rfl, rfl⟩) | (go_at_call 107; refine C'.out.mono ?_; rintro e w' ⟨rfl, hP⟩))
    go_end0
    rw [HF.out]
    exact WPost.from ⟨rfl, hP⟩ (below1 _)
/-- bytes that came out, in a list of their own -/
def BytesPost (xs : List Int) (e2 : Int) (w : World) (e : Ending) (w' : World) : Prop :=
  ∃ v, e = .returned (.tuple #[v, .int .i64 e2]) ∧ w'.ownsRow w.heap.size 5 1 v xs.length (nums .u8 xs) ∧ Below w.heap.size w w'
def WS.out (s : WS) : List Int := if s.bad = true then [] else s.xs
def WS.err (s : WS) : Int := if s.bad = true then 1 else 0
set_option maxHeartbeats 1600000 in
theorem wBytes_calls (hw : Wr w B g ro s) (hl : s.xs.length ≤ 140737488355328) :
    Calls Try.prog 55 #[.pointer (some ⟨g, 0, none⟩)] w (BytesPost s.out s.err w) := by
  obtain ⟨⟨v, hv, ho, hr⟩, -⟩ := hw
  obtain ⟨xs, bad⟩ := s
  simp only at hv ho hl
  have c1 : w.cell? ⟨g, 1, none⟩ = some (.bool bad) := (blk_cell hv 1).trans rfl
  obtain ⟨A, c, rfl, _, hrd⟩ := own_reads' ho
  have c0 : w.cell? ⟨g, 0, none⟩ = some (.slice A xs.length c) := (blk_cell hv 0).trans rfl
  have HR := Aside0.mk hrd
  clear hv ho hr hrd
  cases bad with
  | true =>
    go_enter Try.func55, Try.ntmps55
    go_wp2
    go_ret2
    exact ⟨_, rfl, own_nil _ _ _ _, Below.refl _ _⟩
  | false =>
    go_enter Try.func55, Try.ntmps55
    go_wp2_with (at_builtin; refine wpList_append_row w.heap.size rfl _ (.tmp 11) 24 5 .u8 1 rfl Try.underlying24 info_u8 (by decide) (.slice none 0 0) 0 [] xs A xs.length c (by rfl) (by rfl) (own_nil _ _ _ _) HR.out (Nat.le_refl _) (by omega) ?_; intro v1 w1 ho1 hg1 _)
    go_ret2
    refine ⟨_, rfl, ?_, (Below.refl _ _).grown hg1 (Nat.le_refl _) (fun k hk => by cases hk)⟩
    simpa [WS.out] using ho1
end
set_option maxHeartbeats 400000 in
theorem newWriter_calls (w : World) : Calls Try.prog 51 #[] w fun e w' => e = .returned (.pointer (some ⟨w.heap.size, 0, none⟩)) ∧ Wr w' w.heap.size w.heap.size none ⟨[], false⟩ ∧ Below w.heap.size w w' := by
  have HB := Aside0.mk (below1 (w := w) (.cells #[.slice none 0 0, .bool false] 148))
  have HW := Aside0.mk (show Wr (w.alloc (.cells #[.slice none 0 0, .bool false] 148)) w.heap.size w.heap.size none ⟨[], false⟩ from ⟨⟨_, heap_alloc_new w _, own_nil _ _ _ _, rfl⟩, Nat.le_refl _⟩)
  go_enter Try.func51, Try.ntmps51
  go_wp2
  go_ret
  exact ⟨rfl, HW.out, HB.out⟩
end Go.Proofs.Ytgmbfecfkdbfaaa.Wi
