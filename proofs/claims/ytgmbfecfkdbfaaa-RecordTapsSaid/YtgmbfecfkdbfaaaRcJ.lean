/- The document's tap as bytes. -/
import Derived.Test.YtgmbfecfkdbfaaaRcI
set_option linter.unusedVariables false
set_option linter.unusedSimpArgs false
namespace Go.Proofs.Ytgmbfecfkdbfaaa.Wi
open Go Go.RowKit Go.Proofs.YtgmbfecfkdbfaaaW.PrintWords
section
variable {W1 W W' : World} {B g : Nat} {ro : Option Nat} {s : WS}
def OV (W1 W : World) (B g : Nat) (ro : Option Nat) (s : WS) : Prop := B ≤ W1.heap.size ∧ ∃ ro', Vr W B g ro' s ∧ (ro' = ro ∨ ∃ b, ro' = some b ∧ W1.heap.size ≤ b) ∧ Fr (WrS g ro) W1 W
theorem OV.then_ (h : OV W1 W B g ro s) (hb : Below W.heap.size W W') : OV W1 W' B g ro s := by
  obtain ⟨h0, ro', h1, h2, h3⟩ := h
  exact ⟨h0, ro', h1.below hb, h2, h3.then_below hb⟩
theorem OV.fr (h : OV W1 W B g ro s) : Fr (WrS g ro) W1 W := by
  obtain ⟨_, ro', h1, h2, h3⟩ := h
  exact h3
theorem OV.call (h : OV W1 W B g ro s) {s' : WS} {F : Nat} {args : Array Value} (hC : ∀ ro', Vr W B g ro' s → B ≤ W.heap.size → Calls Try.prog F args W (VPost B g ro' s' W)) : Calls Try.prog F args W fun e W' => e = .returned (.tuple #[]) ∧ OV W1 W' B g ro s' := by
  have hf := h.fr
  obtain ⟨h0, ro', h1, hr, h3⟩ := h
  refine (hC ro' h1 (Nat.le_trans h0 h3.size)).mono fun e W' hP => ?_
  obtain ⟨he, ro2, hw2, hgr2, hf2⟩ := hP
  refine ⟨he, h0, ro2, hw2, ?_, hf.trans hf2 (fun i hi hs => ?_)⟩
  · rcases hgr2 with h | ⟨b, h, hb⟩
    · rw [h]; exact hr
    · exact .inr ⟨b, h, Nat.le_trans hf.size hb⟩
  · rcases hs with e | e
    · exact .inl e
    · rcases hr with h | ⟨b, h, hb⟩
      · exact .inr (by rw [← h, e])
      · rw [h] at e
        obtain rfl := Option.some.inj e
        omega
end
set_option maxHeartbeats 1600000 in
set_option maxRecDepth 100000 in
theorem rwithin_calls (n lo hi : Int) (w : World) : Calls Try.prog 99 #[.int .i64 n, .int .i64 lo, .int .i64 hi] w fun e w' => e = .returned (.bool (inB n lo hi)) ∧ w = w' := by
  unfold inB
  by_cases h : lo ≤ n
  · rw [decide_eq_true h, Bool.true_and]
    go_enter Try.func99, Try.ntmps99
    go_wp2
    go_ret
    exact ⟨rfl, rfl⟩
  · rw [decide_eq_false h, Bool.false_and]
    go_enter Try.func99, Try.ntmps99
    go_wp2
    go_ret
    exact ⟨rfl, rfl⟩
set_option maxHeartbeats 1600000 in
set_option maxRecDepth 100000 in
theorem rright_calls (n : Int) (w : World) : Calls Try.prog 98 #[.int .i64 n] w fun e w' => e = .returned (.bool (inB n 0 2147483648)) ∧ w = w' := by
  unfold inB
  by_cases h : 0 ≤ n
  · rw [decide_eq_true h, Bool.true_and]
    go_enter Try.func98, Try.ntmps98
    go_wp2
    go_ret
    exact ⟨rfl, rfl⟩
  · rw [decide_eq_false h, Bool.false_and]
    go_enter Try.func98, Try.ntmps98
    go_wp2
    go_ret
    exact ⟨rfl, rfl⟩
set_option maxHeartbeats 3200000 in
set_option maxRecDepth 100000 in
theorem rTapRight_calls (t : Tp) (w : World) : Calls Try.prog 46 #[t.val] w fun e w' => e = .returned (.bool t.right) ∧ Below w.heap.size w w' := by
  obtain ⟨n0, n1, y, n3, n4, n5⟩ := t
  have HB := Aside0.mk (below1 (w := w) (.cells #[.int .i64 n0, .int .i64 n1, .string y, .int .i64 n3, .int .i64 n4, .int .i64 n5] 23))
  unfold Tp.val Tp.right
  simp only
  have HW0 := Aside0.mk (fun W => rwithin_calls n0 1 65535 W)
  have HW1 := Aside0.mk (fun W => rwithin_calls n1 1 4294967295 W)
  have HW3 := Aside0.mk (fun W => rwithin_calls n3 1 3 W)
  have HW4 := Aside0.mk (fun hi W => rwithin_calls n4 1 hi W)
  have HW5 := Aside0.mk (fun W => rright_calls n5 W)
  generalize inB n0 1 65535 = b0 at *
  generalize inB n1 1 4294967295 = b1 at *
  generalize inB n3 1 3 = b3 at *
  generalize inB n5 0 2147483648 = b5 at *
  by_cases h3 : n3 = 3
  · have h3b : (n3 == 3) = true := beq_iff_eq.2 h3
    rw [if_pos h3]
    subst h3
    clear h3b
    have HW4' := Aside0.mk (fun W => HW4.out 1000 W)
    clear HW4
    have HW4 := HW4'
    clear HW4'
    generalize inB n4 1 1000 = b4 at *
    cases b0 with
    | false =>
      try simp only [hyb]
      try simp only [Bool.true_and, Bool.false_and, Bool.and_false, Bool.and_true, if_true, if_false, Bool.false_eq_true, ↓reduceIte]
      go_enter Try.func46, Try.ntmps46
      go_wp2_with (first | (go_at_call 99; first | ((with_reducible refine (HW0.out _).mono ?_); rintro e w1 ⟨rfl, rfl⟩) | ((with_reducible refine (HW1.out _).mono ?_); rintro e w1 ⟨rfl, rfl⟩) | ((with_reducible refine (HW3.out _).mono ?_); rintro e w1 ⟨rfl, rfl⟩) | ((with_reducible refine (HW4.out _).mono ?_); rintro e w1 ⟨rfl, rfl⟩)) | (go_at_call 98; ((with_reducible refine (HW5.out _).mono ?_); rintro e w1 ⟨rfl, rfl⟩)))
      go_ret
      exact ⟨by first | rfl | (simp; done) | (simp [hy8]; done), below1 _⟩
    | true =>
      cases b1 with
      | false =>
        try simp only [hyb]
        try simp only [Bool.true_and, Bool.false_and, Bool.and_false, Bool.and_true, if_true, if_false, Bool.false_eq_true, ↓reduceIte]
        go_enter Try.func46, Try.ntmps46
        go_wp2_with (first | (go_at_call 99; first | ((with_reducible refine (HW0.out _).mono ?_); rintro e w1 ⟨rfl, rfl⟩) | ((with_reducible refine (HW1.out _).mono ?_); rintro e w1 ⟨rfl, rfl⟩) | ((with_reducible refine (HW3.out _).mono ?_); rintro e w1 ⟨rfl, rfl⟩) | ((with_reducible refine (HW4.out _).mono ?_); rintro e w1 ⟨rfl, rfl⟩)) | (go_at_call 98; ((with_reducible refine (HW5.out _).mono ?_); rintro e w1 ⟨rfl, rfl⟩)))
        go_ret
        exact ⟨by first | rfl | (simp; done) | (simp [hy8]; done), below1 _⟩
      | true =>
        by_cases hy8 : (y.size : Int) = 8
        case neg =>
          have hyb : ((y.size : Int) == 8) = false := beq_eq_false_iff_ne.2 hy8
          have hyd : decide (y.size = 8) = false := decide_eq_false (by omega)
          try simp only [hyb]
          try simp only [Bool.true_and, Bool.false_and, Bool.and_false, Bool.and_true, if_true, if_false, Bool.false_eq_true, ↓reduceIte]
          go_enter Try.func46, Try.ntmps46
          go_wp2_with (first | (go_at_call 99; first | ((with_reducible refine (HW0.out _).mono ?_); rintro e w1 ⟨rfl, rfl⟩) | ((with_reducible refine (HW1.out _).mono ?_); rintro e w1 ⟨rfl, rfl⟩) | ((with_reducible refine (HW3.out _).mono ?_); rintro e w1 ⟨rfl, rfl⟩) | ((with_reducible refine (HW4.out _).mono ?_); rintro e w1 ⟨rfl, rfl⟩)) | (go_at_call 98; ((with_reducible refine (HW5.out _).mono ?_); rintro e w1 ⟨rfl, rfl⟩)))
          go_ret
          exact ⟨by first | rfl | (simp; done) | (simp [hy8]; done), below1 _⟩
        have hyb : ((y.size : Int) == 8) = true := beq_iff_eq.2 hy8
        cases b3 with
        | false =>
          try simp only [hyb]
          try simp only [Bool.true_and, Bool.false_and, Bool.and_false, Bool.and_true, if_true, if_false, Bool.false_eq_true, ↓reduceIte]
          go_enter Try.func46, Try.ntmps46
          go_wp2_with (first | (go_at_call 99; first | ((with_reducible refine (HW0.out _).mono ?_); rintro e w1 ⟨rfl, rfl⟩) | ((with_reducible refine (HW1.out _).mono ?_); rintro e w1 ⟨rfl, rfl⟩) | ((with_reducible refine (HW3.out _).mono ?_); rintro e w1 ⟨rfl, rfl⟩) | ((with_reducible refine (HW4.out _).mono ?_); rintro e w1 ⟨rfl, rfl⟩)) | (go_at_call 98; ((with_reducible refine (HW5.out _).mono ?_); rintro e w1 ⟨rfl, rfl⟩)))
          go_ret
          exact ⟨by first | rfl | (simp; done) | (simp [hy8]; done), below1 _⟩
        | true =>
          cases b4 with
          | false =>
            try simp only [hyb]
            try simp only [Bool.true_and, Bool.false_and, Bool.and_false, Bool.and_true, if_true, if_false, Bool.false_eq_true, ↓reduceIte]
            go_enter Try.func46, Try.ntmps46
            go_wp2_with (first | (go_at_call 99; first | ((with_reducible refine (HW0.out _).mono ?_); rintro e w1 ⟨rfl, rfl⟩) | ((with_reducible refine (HW1.out _).mono ?_); rintro e w1 ⟨rfl, rfl⟩) | ((with_reducible refine (HW3.out _).mono ?_); rintro e w1 ⟨rfl, rfl⟩) | ((with_reducible refine (HW4.out _).mono ?_); rintro e w1 ⟨rfl, rfl⟩)) | (go_at_call 98; ((with_reducible refine (HW5.out _).mono ?_); rintro e w1 ⟨rfl, rfl⟩)))
            go_ret
            exact ⟨by first | rfl | (simp; done) | (simp [hy8]; done), below1 _⟩
          | true =>
            cases b5 with
            | false =>
              try simp only [hyb]
              try simp only [Bool.true_and, Bool.false_and, Bool.and_false, Bool.and_true, if_true, if_false, Bool.false_eq_true, ↓reduceIte]
              go_enter Try.func46, Try.ntmps46
              go_wp2_with (first | (go_at_call 99; first | ((with_reducible refine (HW0.out _).mono ?_); rintro e w1 ⟨rfl, rfl⟩) | ((with_reducible refine (HW1.out _).mono ?_); rintro e w1 ⟨rfl, rfl⟩) | ((with_reducible refine (HW3.out _).mono ?_); rintro e w1 ⟨rfl, rfl⟩) | ((with_reducible refine (HW4.out _).mono ?_); rintro e w1 ⟨rfl, rfl⟩)) | (go_at_call 98; ((with_reducible refine (HW5.out _).mono ?_); rintro e w1 ⟨rfl, rfl⟩)))
              go_ret
              exact ⟨by first | rfl | (simp; done) | (simp [hy8]; done), below1 _⟩
            | true =>
              try simp only [hyb]
              try simp only [Bool.true_and, Bool.false_and, Bool.and_false, Bool.and_true, if_true, if_false, Bool.false_eq_true, ↓reduceIte]
              go_enter Try.func46, Try.ntmps46
              go_wp2_with (first | (go_at_call 99; first | ((with_reducible refine (HW0.out _).mono ?_); rintro e w1 ⟨rfl, rfl⟩) | ((with_reducible refine (HW1.out _).mono ?_); rintro e w1 ⟨rfl, rfl⟩) | ((with_reducible refine (HW3.out _).mono ?_); rintro e w1 ⟨rfl, rfl⟩) | ((with_reducible refine (HW4.out _).mono ?_); rintro e w1 ⟨rfl, rfl⟩)) | (go_at_call 98; ((with_reducible refine (HW5.out _).mono ?_); rintro e w1 ⟨rfl, rfl⟩)))
              go_ret
              exact ⟨by first | rfl | (simp; done) | (simp [hy8]; done), below1 _⟩
  · have h3b : (n3 == 3) = false := beq_eq_false_iff_ne.2 h3
    rw [if_neg h3]
    have HW4' := Aside0.mk (fun W => HW4.out 65535 W)
    clear HW4
    have HW4 := HW4'
    clear HW4'
    generalize inB n4 1 65535 = b4 at *
    cases b0 with
    | false =>
      try simp only [hyb]
      try simp only [Bool.true_and, Bool.false_and, Bool.and_false, Bool.and_true, if_true, if_false, Bool.false_eq_true, ↓reduceIte]
      go_enter Try.func46, Try.ntmps46
      go_wp2_with (first | (go_at_call 99; first | ((with_reducible refine (HW0.out _).mono ?_); rintro e w1 ⟨rfl, rfl⟩) | ((with_reducible refine (HW1.out _).mono ?_); rintro e w1 ⟨rfl, rfl⟩) | ((with_reducible refine (HW3.out _).mono ?_); rintro e w1 ⟨rfl, rfl⟩) | ((with_reducible refine (HW4.out _).mono ?_); rintro e w1 ⟨rfl, rfl⟩)) | (go_at_call 98; ((with_reducible refine (HW5.out _).mono ?_); rintro e w1 ⟨rfl, rfl⟩)))
      go_ret
      exact ⟨by first | rfl | (simp; done) | (simp [hy8]; done), below1 _⟩
    | true =>
      cases b1 with
      | false =>
        try simp only [hyb]
        try simp only [Bool.true_and, Bool.false_and, Bool.and_false, Bool.and_true, if_true, if_false, Bool.false_eq_true, ↓reduceIte]
        go_enter Try.func46, Try.ntmps46
        go_wp2_with (first | (go_at_call 99; first | ((with_reducible refine (HW0.out _).mono ?_); rintro e w1 ⟨rfl, rfl⟩) | ((with_reducible refine (HW1.out _).mono ?_); rintro e w1 ⟨rfl, rfl⟩) | ((with_reducible refine (HW3.out _).mono ?_); rintro e w1 ⟨rfl, rfl⟩) | ((with_reducible refine (HW4.out _).mono ?_); rintro e w1 ⟨rfl, rfl⟩)) | (go_at_call 98; ((with_reducible refine (HW5.out _).mono ?_); rintro e w1 ⟨rfl, rfl⟩)))
        go_ret
        exact ⟨by first | rfl | (simp; done) | (simp [hy8]; done), below1 _⟩
      | true =>
        by_cases hy8 : (y.size : Int) = 8
        case neg =>
          have hyb : ((y.size : Int) == 8) = false := beq_eq_false_iff_ne.2 hy8
          have hyd : decide (y.size = 8) = false := decide_eq_false (by omega)
          try simp only [hyb]
          try simp only [Bool.true_and, Bool.false_and, Bool.and_false, Bool.and_true, if_true, if_false, Bool.false_eq_true, ↓reduceIte]
          go_enter Try.func46, Try.ntmps46
          go_wp2_with (first | (go_at_call 99; first | ((with_reducible refine (HW0.out _).mono ?_); rintro e w1 ⟨rfl, rfl⟩) | ((with_reducible refine (HW1.out _).mono ?_); rintro e w1 ⟨rfl, rfl⟩) | ((with_reducible refine (HW3.out _).mono ?_); rintro e w1 ⟨rfl, rfl⟩) | ((with_reducible refine (HW4.out _).mono ?_); rintro e w1 ⟨rfl, rfl⟩)) | (go_at_call 98; ((with_reducible refine (HW5.out _).mono ?_); rintro e w1 ⟨rfl, rfl⟩)))
          go_ret
          exact ⟨by first | rfl | (simp; done) | (simp [hy8]; done), below1 _⟩
        have hyb : ((y.size : Int) == 8) = true := beq_iff_eq.2 hy8
        cases b3 with
        | false =>
          try simp only [hyb]
          try simp only [Bool.true_and, Bool.false_and, Bool.and_false, Bool.and_true, if_true, if_false, Bool.false_eq_true, ↓reduceIte]
          go_enter Try.func46, Try.ntmps46
          go_wp2_with (first | (go_at_call 99; first | ((with_reducible refine (HW0.out _).mono ?_); rintro e w1 ⟨rfl, rfl⟩) | ((with_reducible refine (HW1.out _).mono ?_); rintro e w1 ⟨rfl, rfl⟩) | ((with_reducible refine (HW3.out _).mono ?_); rintro e w1 ⟨rfl, rfl⟩) | ((with_reducible refine (HW4.out _).mono ?_); rintro e w1 ⟨rfl, rfl⟩)) | (go_at_call 98; ((with_reducible refine (HW5.out _).mono ?_); rintro e w1 ⟨rfl, rfl⟩)))
          go_ret
          exact ⟨by first | rfl | (simp; done) | (simp [hy8]; done), below1 _⟩
        | true =>
          cases b4 with
          | false =>
            try simp only [hyb]
            try simp only [Bool.true_and, Bool.false_and, Bool.and_false, Bool.and_true, if_true, if_false, Bool.false_eq_true, ↓reduceIte]
            go_enter Try.func46, Try.ntmps46
            go_wp2_with (first | (go_at_call 99; first | ((with_reducible refine (HW0.out _).mono ?_); rintro e w1 ⟨rfl, rfl⟩) | ((with_reducible refine (HW1.out _).mono ?_); rintro e w1 ⟨rfl, rfl⟩) | ((with_reducible refine (HW3.out _).mono ?_); rintro e w1 ⟨rfl, rfl⟩) | ((with_reducible refine (HW4.out _).mono ?_); rintro e w1 ⟨rfl, rfl⟩)) | (go_at_call 98; ((with_reducible refine (HW5.out _).mono ?_); rintro e w1 ⟨rfl, rfl⟩)))
            go_ret
            exact ⟨by first | rfl | (simp; done) | (simp [hy8]; done), below1 _⟩
          | true =>
            cases b5 with
            | false =>
              try simp only [hyb]
              try simp only [Bool.true_and, Bool.false_and, Bool.and_false, Bool.and_true, if_true, if_false, Bool.false_eq_true, ↓reduceIte]
              go_enter Try.func46, Try.ntmps46
              go_wp2_with (first | (go_at_call 99; first | ((with_reducible refine (HW0.out _).mono ?_); rintro e w1 ⟨rfl, rfl⟩) | ((with_reducible refine (HW1.out _).mono ?_); rintro e w1 ⟨rfl, rfl⟩) | ((with_reducible refine (HW3.out _).mono ?_); rintro e w1 ⟨rfl, rfl⟩) | ((with_reducible refine (HW4.out _).mono ?_); rintro e w1 ⟨rfl, rfl⟩)) | (go_at_call 98; ((with_reducible refine (HW5.out _).mono ?_); rintro e w1 ⟨rfl, rfl⟩)))
              go_ret
              exact ⟨by first | rfl | (simp; done) | (simp [hy8]; done), below1 _⟩
            | true =>
              try simp only [hyb]
              try simp only [Bool.true_and, Bool.false_and, Bool.and_false, Bool.and_true, if_true, if_false, Bool.false_eq_true, ↓reduceIte]
              go_enter Try.func46, Try.ntmps46
              go_wp2_with (first | (go_at_call 99; first | ((with_reducible refine (HW0.out _).mono ?_); rintro e w1 ⟨rfl, rfl⟩) | ((with_reducible refine (HW1.out _).mono ?_); rintro e w1 ⟨rfl, rfl⟩) | ((with_reducible refine (HW3.out _).mono ?_); rintro e w1 ⟨rfl, rfl⟩) | ((with_reducible refine (HW4.out _).mono ?_); rintro e w1 ⟨rfl, rfl⟩)) | (go_at_call 98; ((with_reducible refine (HW5.out _).mono ?_); rintro e w1 ⟨rfl, rfl⟩)))
              go_ret
              exact ⟨by first | rfl | (simp; done) | (simp [hy8]; done), below1 _⟩
set_option maxHeartbeats 1600000 in
set_option maxRecDepth 100000 in
theorem told_no (g : Nat) (w : World) : Calls Try.prog 45 #[.pointer (some ⟨g, 0, none⟩), .bool false] w fun e w' => e = .returned (.tuple #[.slice none 0 0, .int .i64 80]) ∧ w = w' := by
  go_enter Try.func45, Try.ntmps45
  go_wp2
  go_ret2
  exact ⟨rfl, rfl⟩
set_option maxHeartbeats 1600000 in
set_option maxRecDepth 100000 in
theorem told_yes {w : World} {B g : Nat} {ro : Option Nat} {s : WS} (hw : Vr w B g ro s) (hl : s.xs.length ≤ 140737488355328) : Calls Try.prog 45 #[.pointer (some ⟨g, 0, none⟩), .bool true] w (VBPost s w) := by
  have C := Aside0.mk (vBytes_calls hw hl)
  clear hw
  go_enter Try.func45, Try.ntmps45
  go_wp2_with (go_at_call 56; refine C.out.mono ?_; rintro e w1 ⟨A, c, rfl, hr, hb⟩)
  go_ret2
  exact ⟨A, c, rfl, hr, hb⟩
end Go.Proofs.Ytgmbfecfkdbfaaa.Wi
