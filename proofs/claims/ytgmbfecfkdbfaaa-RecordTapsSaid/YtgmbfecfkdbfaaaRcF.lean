/- A tap as bytes, and out of bytes. -/
import Derived.Test.YtgmbfecfkdbfaaaRcE
set_option linter.unusedVariables false
set_option linter.unusedSimpArgs false
namespace Go.Proofs.Ytgmbfecfkdbfaaa.Wi
open Go Go.RowKit Go.Proofs.YtgmbfecfkdbfaaaW.PrintWords
/-- a tap -/
structure Tp where
  n0 : Int
  n1 : Int
  y : ByteArray
  n3 : Int
  n4 : Int
  n5 : Int
def Tp.val (t : Tp) : Value := .agg #[.int .i64 t.n0, .int .i64 t.n1, .string t.y, .int .i64 t.n3, .int .i64 t.n4, .int .i64 t.n5]
def Tp.cells (t : Tp) : Array Value := #[.int .i64 t.n0, .int .i64 t.n1, .string t.y, .int .i64 t.n3, .int .i64 t.n4, .int .i64 t.n5]
structure Tp.Ok (t : Tp) : Prop where
  n0 : I64 t.n0
  n1 : I64 t.n1
  y : t.y.size ≤ 9223372036854775807
  n3 : I64 t.n3
  n4 : I64 t.n4
  n5 : I64 t.n5
def inB (n lo hi : Int) : Bool := decide (lo ≤ n) && decide (n ≤ hi)
def Tp.right (t : Tp) : Bool := inB t.n0 1 65535 && inB t.n1 1 4294967295 && ((t.y.size : Int) == 8) && inB t.n3 1 3 && inB t.n4 1 (if t.n3 = 3 then 1000 else 65535) && inB t.n5 0 2147483648
def Tp.put (t : Tp) : WS := tapW ⟨[], false⟩ t.n0 t.n1 t.y t.n3 t.n4 t.n5
def Tp.out (t : Tp) : List Int := if t.right = true then t.put.out else []
def Tp.err (t : Tp) : Int := if t.right = true then t.put.err else 80
def RTPost (t : Tp) (w : World) (e : Ending) (w' : World) : Prop :=
  ∃ v, e = .returned (.tuple #[v, .int .i64 t.err]) ∧ w'.ownsRow w.heap.size 5 1 v t.out.length (nums .u8 t.out) ∧ Below w.heap.size w w'
theorem tput_len (t : Tp) : t.put.xs.length ≤ 1000000 := by
  unfold Tp.put tapW
  have L0 := putNum_len ⟨[], false⟩ t.n0 2
  have L1 := putNum_len ((⟨[], false⟩ : WS).put (pNumber t.n0 2)) t.n1 4
  have L2 := putFix_len (((⟨[], false⟩ : WS).put (pNumber t.n0 2)).put (pNumber t.n1 4)) t.y
  have L3 := putNum_len ((((⟨[], false⟩ : WS).put (pNumber t.n0 2)).put (pNumber t.n1 4)).put (pFixed t.y 8)) t.n3 1
  have L4 := putNum_len (((((⟨[], false⟩ : WS).put (pNumber t.n0 2)).put (pNumber t.n1 4)).put (pFixed t.y 8)).put (pNumber t.n3 1)) t.n4 2
  have L5 := putNum_len ((((((⟨[], false⟩ : WS).put (pNumber t.n0 2)).put (pNumber t.n1 4)).put (pFixed t.y 8)).put (pNumber t.n3 1)).put (pNumber t.n4 2)) t.n5 4
  have L6 : (⟨[], false⟩ : WS).xs.length = 0 := rfl
  omega
set_option maxHeartbeats 1600000 in
set_option maxRecDepth 100000 in
theorem when_calls (b : Bool) (w : World) : Calls Try.prog 92 #[.bool b] w fun e w' => e = .returned (.int .i64 (if b = true then 0 else 80)) ∧ w = w' := by
  cases b with
  | true =>
    go_enter Try.func92, Try.ntmps92
    go_wp2
    go_ret
    exact ⟨rfl, rfl⟩
  | false =>
    go_enter Try.func92, Try.ntmps92
    go_wp2
    go_ret
    exact ⟨rfl, rfl⟩
set_option maxHeartbeats 1600000 in
set_option maxRecDepth 100000 in
theorem within_calls (n lo hi : Int) (w : World) : Calls Try.prog 93 #[.int .i64 n, .int .i64 lo, .int .i64 hi] w fun e w' => e = .returned (.bool (inB n lo hi)) ∧ w = w' := by
  unfold inB
  by_cases h : lo ≤ n
  · rw [decide_eq_true h, Bool.true_and]
    go_enter Try.func93, Try.ntmps93
    go_wp2
    go_ret
    exact ⟨rfl, rfl⟩
  · rw [decide_eq_false h, Bool.false_and]
    go_enter Try.func93, Try.ntmps93
    go_wp2
    go_ret
    exact ⟨rfl, rfl⟩
set_option maxHeartbeats 1600000 in
set_option maxRecDepth 100000 in
theorem cright_calls (n : Int) (w : World) : Calls Try.prog 94 #[.int .i64 n] w fun e w' => e = .returned (.bool (inB n 0 2147483648)) ∧ w = w' := by
  unfold inB
  by_cases h : 0 ≤ n
  · rw [decide_eq_true h, Bool.true_and]
    go_enter Try.func94, Try.ntmps94
    go_wp2
    go_ret
    exact ⟨rfl, rfl⟩
  · rw [decide_eq_false h, Bool.false_and]
    go_enter Try.func94, Try.ntmps94
    go_wp2
    go_ret
    exact ⟨rfl, rfl⟩
set_option maxHeartbeats 3200000 in
set_option maxRecDepth 100000 in
theorem rightTap_calls (t : Tp) (w : World) : Calls Try.prog 42 #[t.val] w fun e w' => e = .returned (.int .i64 (if t.right = true then 0 else 80)) ∧ Below w.heap.size w w' := by
  obtain ⟨n0, n1, y, n3, n4, n5⟩ := t
  have HB := Aside0.mk (below1 (w := w) (.cells #[.int .i64 n0, .int .i64 n1, .string y, .int .i64 n3, .int .i64 n4, .int .i64 n5] 23))
  unfold Tp.val Tp.right
  simp only
  have HW0 := Aside0.mk (fun W => within_calls n0 1 65535 W)
  have HW1 := Aside0.mk (fun W => within_calls n1 1 4294967295 W)
  have HW3 := Aside0.mk (fun W => within_calls n3 1 3 W)
  have HW4 := Aside0.mk (fun hi W => within_calls n4 1 hi W)
  have HW5 := Aside0.mk (fun W => cright_calls n5 W)
  generalize inB n0 1 65535 = b0 at *
  generalize inB n1 1 4294967295 = b1 at *
  generalize inB n3 1 3 = b3 at *
  generalize inB n5 0 2147483648 = b5 at *
  by_cases h3 : n3 = 3
  · have h3b : (n3 == 3) = true := beq_iff_eq.2 h3
    rw [if_pos h3]
    subst h3
    clear h3b
    have HW4' := Aside0.mk (fun W => HW4.out 1000 W)
    clear HW4
    have HW4 := HW4'
    clear HW4'
    generalize inB n4 1 1000 = b4 at *
    cases b0 with
    | false =>
      try simp only [hyb]
      try simp only [Bool.true_and, Bool.false_and, Bool.and_false, Bool.and_true, if_true, if_false, Bool.false_eq_true, ↓reduceIte]
      go_enter Try.func42, Try.ntmps42
      go_wp2_with (first | (go_at_call 93; first | ((with_reducible refine (HW0.out _).mono ?_); rintro e w1 ⟨rfl, rfl⟩) | ((with_reducible refine (HW1.out _).mono ?_); rintro e w1 ⟨rfl, rfl⟩) | ((with_reducible refine (HW3.out _).mono ?_); rintro e w1 ⟨rfl, rfl⟩) | ((with_reducible refine (HW4.out _).mono ?_); rintro e w1 ⟨rfl, rfl⟩)) | (go_at_call 94; ((with_reducible refine (HW5.out _).mono ?_); rintro e w1 ⟨rfl, rfl⟩)) | (go_at_call 92; refine (when_calls _ _).mono ?_; rintro e w1 ⟨rfl, rfl⟩))
      go_ret
      exact ⟨by first | rfl | (simp; done) | (simp [hy8]; done), below1 _⟩
    | true =>
      cases b1 with
      | false =>
        try simp only [hyb]
        try simp only [Bool.true_and, Bool.false_and, Bool.and_false, Bool.and_true, if_true, if_false, Bool.false_eq_true, ↓reduceIte]
        go_enter Try.func42, Try.ntmps42
        go_wp2_with (first | (go_at_call 93; first | ((with_reducible refine (HW0.out _).mono ?_); rintro e w1 ⟨rfl, rfl⟩) | ((with_reducible refine (HW1.out _).mono ?_); rintro e w1 ⟨rfl, rfl⟩) | ((with_reducible refine (HW3.out _).mono ?_); rintro e w1 ⟨rfl, rfl⟩) | ((with_reducible refine (HW4.out _).mono ?_); rintro e w1 ⟨rfl, rfl⟩)) | (go_at_call 94; ((with_reducible refine (HW5.out _).mono ?_); rintro e w1 ⟨rfl, rfl⟩)) | (go_at_call 92; refine (when_calls _ _).mono ?_; rintro e w1 ⟨rfl, rfl⟩))
        go_ret
        exact ⟨by first | rfl | (simp; done) | (simp [hy8]; done), below1 _⟩
      | true =>
        by_cases hy8 : (y.size : Int) = 8
        case neg =>
          have hyb : ((y.size : Int) == 8) = false := beq_eq_false_iff_ne.2 hy8
          have hyd : decide (y.size = 8) = false := decide_eq_false (by omega)
          try simp only [hyb]
          try simp only [Bool.true_and, Bool.false_and, Bool.and_false, Bool.and_true, if_true, if_false, Bool.false_eq_true, ↓reduceIte]
          go_enter Try.func42, Try.ntmps42
          go_wp2_with (first | (go_at_call 93; first | ((with_reducible refine (HW0.out _).mono ?_); rintro e w1 ⟨rfl, rfl⟩) | ((with_reducible refine (HW1.out _).mono ?_); rintro e w1 ⟨rfl, rfl⟩) | ((with_reducible refine (HW3.out _).mono ?_); rintro e w1 ⟨rfl, rfl⟩) | ((with_reducible refine (HW4.out _).mono ?_); rintro e w1 ⟨rfl, rfl⟩)) | (go_at_call 94; ((with_reducible refine (HW5.out _).mono ?_); rintro e w1 ⟨rfl, rfl⟩)) | (go_at_call 92; refine (when_calls _ _).mono ?_; rintro e w1 ⟨rfl, rfl⟩))
          go_ret
          exact ⟨by first | rfl | (simp; done) | (simp [hy8]; done), below1 _⟩
        have hyb : ((y.size : Int) == 8) = true := beq_iff_eq.2 hy8
        cases b3 with
        | false =>
          try simp only [hyb]
          try simp only [Bool.true_and, Bool.false_and, Bool.and_false, Bool.and_true, if_true, if_false, Bool.false_eq_true, ↓reduceIte]
          go_enter Try.func42, Try.ntmps42
          go_wp2_with (first | (go_at_call 93; first | ((with_reducible refine (HW0.out _).mono ?_); rintro e w1 ⟨rfl, rfl⟩) | ((with_reducible refine (HW1.out _).mono ?_); rintro e w1 ⟨rfl, rfl⟩) | ((with_reducible refine (HW3.out _).mono ?_); rintro e w1 ⟨rfl, rfl⟩) | ((with_reducible refine (HW4.out _).mono ?_); rintro e w1 ⟨rfl, rfl⟩)) | (go_at_call 94; ((with_reducible refine (HW5.out _).mono ?_); rintro e w1 ⟨rfl, rfl⟩)) | (go_at_call 92; refine (when_calls _ _).mono ?_; rintro e w1 ⟨rfl, rfl⟩))
          go_ret
          exact ⟨by first | rfl | (simp; done) | (simp [hy8]; done), below1 _⟩
        | true =>
          cases b4 with
          | false =>
            try simp only [hyb]
            try simp only [Bool.true_and, Bool.false_and, Bool.and_false, Bool.and_true, if_true, if_false, Bool.false_eq_true, ↓reduceIte]
            go_enter Try.func42, Try.ntmps42
            go_wp2_with (first | (go_at_call 93; first | ((with_reducible refine (HW0.out _).mono ?_); rintro e w1 ⟨rfl, rfl⟩) | ((with_reducible refine (HW1.out _).mono ?_); rintro e w1 ⟨rfl, rfl⟩) | ((with_reducible refine (HW3.out _).mono ?_); rintro e w1 ⟨rfl, rfl⟩) | ((with_reducible refine (HW4.out _).mono ?_); rintro e w1 ⟨rfl, rfl⟩)) | (go_at_call 94; ((with_reducible refine (HW5.out _).mono ?_); rintro e w1 ⟨rfl, rfl⟩)) | (go_at_call 92; refine (when_calls _ _).mono ?_; rintro e w1 ⟨rfl, rfl⟩))
            go_ret
            exact ⟨by first | rfl | (simp; done) | (simp [hy8]; done), below1 _⟩
          | true =>
            cases b5 with
            | false =>
              try simp only [hyb]
              try simp only [Bool.true_and, Bool.false_and, Bool.and_false, Bool.and_true, if_true, if_false, Bool.false_eq_true, ↓reduceIte]
              go_enter Try.func42, Try.ntmps42
              go_wp2_with (first | (go_at_call 93; first | ((with_reducible refine (HW0.out _).mono ?_); rintro e w1 ⟨rfl, rfl⟩) | ((with_reducible refine (HW1.out _).mono ?_); rintro e w1 ⟨rfl, rfl⟩) | ((with_reducible refine (HW3.out _).mono ?_); rintro e w1 ⟨rfl, rfl⟩) | ((with_reducible refine (HW4.out _).mono ?_); rintro e w1 ⟨rfl, rfl⟩)) | (go_at_call 94; ((with_reducible refine (HW5.out _).mono ?_); rintro e w1 ⟨rfl, rfl⟩)) | (go_at_call 92; refine (when_calls _ _).mono ?_; rintro e w1 ⟨rfl, rfl⟩))
              go_ret
              exact ⟨by first | rfl | (simp; done) | (simp [hy8]; done), below1 _⟩
            | true =>
              try simp only [hyb]
              try simp only [Bool.true_and, Bool.false_and, Bool.and_false, Bool.and_true, if_true, if_false, Bool.false_eq_true, ↓reduceIte]
              go_enter Try.func42, Try.ntmps42
              go_wp2_with (first | (go_at_call 93; first | ((with_reducible refine (HW0.out _).mono ?_); rintro e w1 ⟨rfl, rfl⟩) | ((with_reducible refine (HW1.out _).mono ?_); rintro e w1 ⟨rfl, rfl⟩) | ((with_reducible refine (HW3.out _).mono ?_); rintro e w1 ⟨rfl, rfl⟩) | ((with_reducible refine (HW4.out _).mono ?_); rintro e w1 ⟨rfl, rfl⟩)) | (go_at_call 94; ((with_reducible refine (HW5.out _).mono ?_); rintro e w1 ⟨rfl, rfl⟩)) | (go_at_call 92; refine (when_calls _ _).mono ?_; rintro e w1 ⟨rfl, rfl⟩))
              go_ret
              exact ⟨by first | rfl | (simp; done) | (simp [hy8]; done), below1 _⟩
  · have h3b : (n3 == 3) = false := beq_eq_false_iff_ne.2 h3
    rw [if_neg h3]
    have HW4' := Aside0.mk (fun W => HW4.out 65535 W)
    clear HW4
    have HW4 := HW4'
    clear HW4'
    generalize inB n4 1 65535 = b4 at *
    cases b0 with
    | false =>
      try simp only [hyb]
      try simp only [Bool.true_and, Bool.false_and, Bool.and_false, Bool.and_true, if_true, if_false, Bool.false_eq_true, ↓reduceIte]
      go_enter Try.func42, Try.ntmps42
      go_wp2_with (first | (go_at_call 93; first | ((with_reducible refine (HW0.out _).mono ?_); rintro e w1 ⟨rfl, rfl⟩) | ((with_reducible refine (HW1.out _).mono ?_); rintro e w1 ⟨rfl, rfl⟩) | ((with_reducible refine (HW3.out _).mono ?_); rintro e w1 ⟨rfl, rfl⟩) | ((with_reducible refine (HW4.out _).mono ?_); rintro e w1 ⟨rfl, rfl⟩)) | (go_at_call 94; ((with_reducible refine (HW5.out _).mono ?_); rintro e w1 ⟨rfl, rfl⟩)) | (go_at_call 92; refine (when_calls _ _).mono ?_; rintro e w1 ⟨rfl, rfl⟩))
      go_ret
      exact ⟨by first | rfl | (simp; done) | (simp [hy8]; done), below1 _⟩
    | true =>
      cases b1 with
      | false =>
        try simp only [hyb]
        try simp only [Bool.true_and, Bool.false_and, Bool.and_false, Bool.and_true, if_true, if_false, Bool.false_eq_true, ↓reduceIte]
        go_enter Try.func42, Try.ntmps42
        go_wp2_with (first | (go_at_call 93; first | ((with_reducible refine (HW0.out _).mono ?_); rintro e w1 ⟨rfl, rfl⟩) | ((with_reducible refine (HW1.out _).mono ?_); rintro e w1 ⟨rfl, rfl⟩) | ((with_reducible refine (HW3.out _).mono ?_); rintro e w1 ⟨rfl, rfl⟩) | ((with_reducible refine (HW4.out _).mono ?_); rintro e w1 ⟨rfl, rfl⟩)) | (go_at_call 94; ((with_reducible refine (HW5.out _).mono ?_); rintro e w1 ⟨rfl, rfl⟩)) | (go_at_call 92; refine (when_calls _ _).mono ?_; rintro e w1 ⟨rfl, rfl⟩))
        go_ret
        exact ⟨by first | rfl | (simp; done) | (simp [hy8]; done), below1 _⟩
      | true =>
        by_cases hy8 : (y.size : Int) = 8
        case neg =>
          have hyb : ((y.size : Int) == 8) = false := beq_eq_false_iff_ne.2 hy8
          have hyd : decide (y.size = 8) = false := decide_eq_false (by omega)
          try simp only [hyb]
          try simp only [Bool.true_and, Bool.false_and, Bool.and_false, Bool.and_true, if_true, if_false, Bool.false_eq_true, ↓reduceIte]
          go_enter Try.func42, Try.ntmps42
          go_wp2_with (first | (go_at_call 93; first | ((with_reducible refine (HW0.out _).mono ?_); rintro e w1 ⟨rfl, rfl⟩) | ((with_reducible refine (HW1.out _).mono ?_); rintro e w1 ⟨rfl, rfl⟩) | ((with_reducible refine (HW3.out _).mono ?_); rintro e w1 ⟨rfl, rfl⟩) | ((with_reducible refine (HW4.out _).mono ?_); rintro e w1 ⟨rfl, rfl⟩)) | (go_at_call 94; ((with_reducible refine (HW5.out _).mono ?_); rintro e w1 ⟨rfl, rfl⟩)) | (go_at_call 92; refine (when_calls _ _).mono ?_; rintro e w1 ⟨rfl, rfl⟩))
          go_ret
          exact ⟨by first | rfl | (simp; done) | (simp [hy8]; done), below1 _⟩
        have hyb : ((y.size : Int) == 8) = true := beq_iff_eq.2 hy8
        cases b3 with
        | false =>
          try simp only [hyb]
          try simp only [Bool.true_and, Bool.false_and, Bool.and_false, Bool.and_true, if_true, if_false, Bool.false_eq_true, ↓reduceIte]
          go_enter Try.func42, Try.ntmps42
          go_wp2_with (first | (go_at_call 93; first | ((with_reducible refine (HW0.out _).mono ?_); rintro e w1 ⟨rfl, rfl⟩) | ((with_reducible refine (HW1.out _).mono ?_); rintro e w1 ⟨rfl, rfl⟩) | ((with_reducible refine (HW3.out _).mono ?_); rintro e w1 ⟨rfl, rfl⟩) | ((with_reducible refine (HW4.out _).mono ?_); rintro e w1 ⟨rfl, rfl⟩)) | (go_at_call 94; ((with_reducible refine (HW5.out _).mono ?_); rintro e w1 ⟨rfl, rfl⟩)) | (go_at_call 92; refine (when_calls _ _).mono ?_; rintro e w1 ⟨rfl, rfl⟩))
          go_ret
          exact ⟨by first | rfl | (simp; done) | (simp [hy8]; done), below1 _⟩
        | true =>
          cases b4 with
          | false =>
            try simp only [hyb]
            try simp only [Bool.true_and, Bool.false_and, Bool.and_false, Bool.and_true, if_true, if_false, Bool.false_eq_true, ↓reduceIte]
            go_enter Try.func42, Try.ntmps42
            go_wp2_with (first | (go_at_call 93; first | ((with_reducible refine (HW0.out _).mono ?_); rintro e w1 ⟨rfl, rfl⟩) | ((with_reducible refine (HW1.out _).mono ?_); rintro e w1 ⟨rfl, rfl⟩) | ((with_reducible refine (HW3.out _).mono ?_); rintro e w1 ⟨rfl, rfl⟩) | ((with_reducible refine (HW4.out _).mono ?_); rintro e w1 ⟨rfl, rfl⟩)) | (go_at_call 94; ((with_reducible refine (HW5.out _).mono ?_); rintro e w1 ⟨rfl, rfl⟩)) | (go_at_call 92; refine (when_calls _ _).mono ?_; rintro e w1 ⟨rfl, rfl⟩))
            go_ret
            exact ⟨by first | rfl | (simp; done) | (simp [hy8]; done), below1 _⟩
          | true =>
            cases b5 with
            | false =>
              try simp only [hyb]
              try simp only [Bool.true_and, Bool.false_and, Bool.and_false, Bool.and_true, if_true, if_false, Bool.false_eq_true, ↓reduceIte]
              go_enter Try.func42, Try.ntmps42
              go_wp2_with (first | (go_at_call 93; first | ((with_reducible refine (HW0.out _).mono ?_); rintro e w1 ⟨rfl, rfl⟩) | ((with_reducible refine (HW1.out _).mono ?_); rintro e w1 ⟨rfl, rfl⟩) | ((with_reducible refine (HW3.out _).mono ?_); rintro e w1 ⟨rfl, rfl⟩) | ((with_reducible refine (HW4.out _).mono ?_); rintro e w1 ⟨rfl, rfl⟩)) | (go_at_call 94; ((with_reducible refine (HW5.out _).mono ?_); rintro e w1 ⟨rfl, rfl⟩)) | (go_at_call 92; refine (when_calls _ _).mono ?_; rintro e w1 ⟨rfl, rfl⟩))
              go_ret
              exact ⟨by first | rfl | (simp; done) | (simp [hy8]; done), below1 _⟩
            | true =>
              try simp only [hyb]
              try simp only [Bool.true_and, Bool.false_and, Bool.and_false, Bool.and_true, if_true, if_false, Bool.false_eq_true, ↓reduceIte]
              go_enter Try.func42, Try.ntmps42
              go_wp2_with (first | (go_at_call 93; first | ((with_reducible refine (HW0.out _).mono ?_); rintro e w1 ⟨rfl, rfl⟩) | ((with_reducible refine (HW1.out _).mono ?_); rintro e w1 ⟨rfl, rfl⟩) | ((with_reducible refine (HW3.out _).mono ?_); rintro e w1 ⟨rfl, rfl⟩) | ((with_reducible refine (HW4.out _).mono ?_); rintro e w1 ⟨rfl, rfl⟩)) | (go_at_call 94; ((with_reducible refine (HW5.out _).mono ?_); rintro e w1 ⟨rfl, rfl⟩)) | (go_at_call 92; refine (when_calls _ _).mono ?_; rintro e w1 ⟨rfl, rfl⟩))
              go_ret
              exact ⟨by first | rfl | (simp; done) | (simp [hy8]; done), below1 _⟩
end Go.Proofs.Ytgmbfecfkdbfaaa.Wi
