/- The document's writer: fits, and its methods. -/
import Derived.Test.YtgmbfecfkdbfaaaWiV1
set_option linter.unusedVariables false
set_option linter.unusedSimpArgs false
namespace Go.Proofs.Ytgmbfecfkdbfaaa.Wi
open Go Go.RowKit Go.Proofs.YtgmbfecfkdbfaaaW.PrintWords
theorem fits_eq (N k : Nat) (h1 : 1 ≤ k) (h8 : k ≤ 8) (hN : N < 9223372036854775808) : ((N / 256 ^ k : Nat) == 0) = fitsB N k := by
  have hp : 0 < 256 ^ k := Nat.pow_pos (by decide)
  by_cases h : N < 256 ^ k
  · have h4 : ((N : Int) < 256 ^ k) := by
      have h5 := Int.ofNat_lt.2 h
      rw [Int.natCast_pow] at h5
      exact h5
    have e1 : fitsB N k = true := by
      unfold fitsB
      rw [Int.toNat_natCast, decide_eq_true h4, decide_eq_true (Int.natCast_nonneg N), Bool.or_true, Bool.and_true]
    rw [Nat.div_eq_of_lt h, e1]
    rfl
  · have h2 : 0 < N / 256 ^ k := Nat.div_pos (by omega) hp
    have h3 : k ≠ 8 := by
      rintro rfl
      exact h (Nat.lt_trans hN (by decide))
    have h4 : ¬ ((N : Int) < 256 ^ k) := by
      intro h5
      refine h (Int.ofNat_lt.1 ?_)
      rw [Int.natCast_pow]
      exact h5
    have h5 : ¬ ((k : Int) = 8) := by omega
    have e1 : fitsB N k = false := by
      unfold fitsB
      rw [Int.toNat_natCast, decide_eq_false h4, decide_eq_false h5, Bool.or_false, Bool.and_false]
    rw [e1]
    exact beq_eq_false_iff_ne.2 (by omega)
set_option maxHeartbeats 1600000 in
theorem vFits_calls (N k : Nat) (w : World) (h1 : 1 ≤ k) (h8 : k ≤ 8) (hN : N < 9223372036854775808) :
    Calls Try.prog 96 #[.int .i64 N, .int .i64 k] w fun e w' => e = .returned (.bool (fitsB N k)) ∧ w = w' := by
  have HF := Aside0.mk (fits_eq N k h1 h8 hN)
  go_enter Try.func96, Try.ntmps96
  go_wp2
  go_loopg [0, 5] k (fun gg s0 s5 wr => ∃ kk : Nat, kk ≤ k ∧ k - kk ≤ gg ∧ s5 = .int .i64 kk ∧ (∃ m : Nat, s0 = .int .i64 m ∧ m ≤ N ∧ Aside0 (m = N / 256 ^ kk)) ∧ wr = w)
  case atStart => exact ⟨0, Nat.zero_le _, by omega, rfl, ⟨N, rfl, Nat.le_refl _, ⟨by simp⟩⟩, rfl⟩
  case round =>
    obtain ⟨kk, hkk, hg, rfl, ⟨m, rfl, hm, HM⟩, rfl⟩ := hrel
    by_cases hlt : kk < k
    · have hltz : (kk : Int) < (k : Int) := by omega
      have hlt8 : (kk : Int) < 8 := by omega
      go_wp2
      go_roundg (k - (kk + 1))
      case measure => omega
      case rel => exact ⟨kk + 1, by omega, by omega, by go_num, ⟨m / 256, by first | rfl | go_num | (congr 1; omega), Nat.le_trans (Nat.div_le_self _ _) hm, ⟨by rw [HM.out, Nat.div_div_eq_div_mul, ← Nat.pow_succ]⟩⟩, rfl⟩
    · have hltz : ¬ (kk : Int) < (k : Int) := by omega
      obtain rfl : kk = k := by omega
      go_wp2
      go_ret
      refine ⟨?_, rfl⟩
      rw [← HF.out, ← HM.out]
      show Ending.returned (Value.bool ((m : Int) == 0)) = Ending.returned (Value.bool (m == 0))
      congr 2
      rw [Bool.eq_iff_iff]
      simp
section
variable {P : Program} {ops : Array Oper} {rest : List Oper} {o : Oper} {a : Act} {Q : Exit → Act → World → Prop}
theorem wpList_append_str {W : World} (base : Nat) (hgd : o.guard = none) (s x : Operand) (t u e : TypeId)
    (ho : o.op = .call { callee := .builtin .append, args := #[s, x], argTypes := #[t, u] })
    (ht : P.underlying t = some (.slice e)) (hu : P.underlying u = some .string) (hinfo : (P.info? e).map (fun i => (i.zero, i.size, i.bytes)) = some (some (.int .u8 0), 1, 1))
    (v : Value) (n : Nat) (xs : List Int) (y : ByteArray) (hs : a.eval s = v) (hx : a.eval x = .string y)
    (HO : W.ownsRow base e 1 v n (nums .u8 xs)) (hbase : base ≤ W.heap.size) (hl : n + y.size ≤ 140737488355328)
    (h : ∀ v1 w1, w1.ownsRow base e 1 v1 (n + y.size) (nums .u8 (xs ++ strBytes y)) → W.grownBy w1 v.ownBlock → wpList P ops Q rest (a.put o.dst v1) w1) : wpList P ops Q (o :: rest) a W :=
  wpList_plain hgd fun K hK => wp_append_str base s x t u e ho ht hu hinfo v n xs y hs hx HO hbase hl (fun v1 w1 h1 h2 => hK _ _ (h v1 w1 h1 h2))
end
section
variable {w w' W : World} {B g : Nat} {ro : Option Nat} {s : WS}
set_option maxHeartbeats 1600000 in
set_option maxRecDepth 100000 in
theorem vNumber_calls (n size : Int) (hn : n ≤ 9223372036854775807) (hw : Vr w B g ro s) (hB : B ≤ w.heap.size) (hl : (s.put (pNumber n size)).xs.length ≤ 140737488355328) :
    Calls Try.prog 43 #[.pointer (some ⟨g, 0, none⟩), .int .i64 n, .int .i64 size] w (VPost B g ro (s.put (pNumber n size)) w) := by
  have HW := Aside0.mk hw
  have HBS := Aside0.mk hB
  by_cases hz : size < 1 ∨ 8 < size
  · have HP : Aside0 (pNumber n size = none) := ⟨by unfold pNumber; rw [if_neg]; simp [sizedB]; omega⟩
    clear hw hB hl
    rcases hz with hz | hz
    · skip
      go_enter Try.func43, Try.ntmps43
      go_wp2_with ((go_at_call 95; refine (vput_no _ _ _ HW.out).mono ?_; rintro e wp ⟨rfl, hP⟩))
      go_end0
      rw [HP.out]
      exact ⟨rfl, hP⟩
    · have hz' : ¬ size < 1 := by omega
      go_enter Try.func43, Try.ntmps43
      go_wp2_with ((go_at_call 95; refine (vput_no _ _ _ HW.out).mono ?_; rintro e wp ⟨rfl, hP⟩))
      go_end0
      rw [HP.out]
      exact ⟨rfl, hP⟩
  · obtain ⟨k, rfl⟩ : ∃ k : Nat, size = k := ⟨size.toNat, by omega⟩
    have hz1 : ¬ (k : Int) < 1 := by omega
    have hz2 : ¬ 8 < (k : Int) := by omega
    have hk1 : 1 ≤ k := by omega
    have hk8 : k ≤ 8 := by omega
    have hsz : sizedB (k : Int) = true := by simp [sizedB]; omega
    clear hz
    by_cases hneg : n < 0
    · have HP : Aside0 (pNumber n k = none) := ⟨by unfold pNumber fitsB; rw [if_neg]; simp [show ¬ 0 ≤ n by omega]⟩
      clear hw hB hl hsz
      go_enter Try.func43, Try.ntmps43
      go_wp2_with ((go_at_call 95; refine (vput_no _ _ _ HW.out).mono ?_; rintro e wp ⟨rfl, hP⟩))
      go_end0
      rw [HP.out]
      exact ⟨rfl, hP⟩
    · obtain ⟨N, rfl⟩ : ∃ N : Nat, n = N := ⟨n.toNat, by omega⟩
      have hN : N < 9223372036854775808 := by omega
      cases hfb : fitsB N k with
      | false =>
        have HFB := Aside0.mk hfb
        have HP : Aside0 (pNumber N k = none) := ⟨by unfold pNumber; rw [hfb]; simp⟩
        clear hw hB hl hsz hfb
        go_enter Try.func43, Try.ntmps43
        go_wp2_with (first | (go_at_call 96; refine (vFits_calls N k _ hk1 hk8 hN).mono ?_; rw [HFB.out]; rintro e w0 ⟨rfl, rfl⟩) | (go_at_call 97; refine (xDigits_calls (N : Int) k _ (by omega) (by omega)).mono ?_; rintro e w1 ⟨A1, c1, rfl, r1, o1, b1⟩; have HR1 := Aside0.mk r1; have HB1 := Aside0.mk b1; have HO1 := Aside0.mk o1; clear r1 b1 o1) | (go_at_call 95; refine (vput_no _ _ _ (HW.out.below HB1.out)).mono ?_; rintro e wp ⟨rfl, hP⟩))
        go_end0
        rw [HP.out]
        exact VPost.from ⟨rfl, hP⟩ HB1.out
      | true =>
        have HFB := Aside0.mk hfb
        have HP : Aside0 (pNumber N k = some (be N k)) := ⟨by unfold pNumber; rw [hfb, hsz]; simp⟩
        rw [HP.out] at hl
        have HLN := Aside0.mk hl
        clear hw hB hl hsz hfb
        go_enter Try.func43, Try.ntmps43
        go_wp2_with (first | (go_at_call 96; refine (vFits_calls N k _ hk1 hk8 hN).mono ?_; rw [HFB.out]; rintro e w0 ⟨rfl, rfl⟩) | (go_at_call 97; refine (xDigits_calls (N : Int) k _ (by omega) (by omega)).mono ?_; rintro e w1 ⟨A1, c1, rfl, r1, o1, b1⟩; have HR1 := Aside0.mk r1; have HB1 := Aside0.mk b1; have HO1 := Aside0.mk o1; clear r1 b1 o1) | (go_at_call 95; refine (vput_yes _ _ _ _ HR1.out (Nat.le_trans HBS.out HB1.out.size) (HW.out.below HB1.out) HLN.out).mono ?_; rintro e wp ⟨rfl, hP⟩))
        go_end0
        rw [HP.out]
        exact VPost.from ⟨rfl, hP⟩ HB1.out
set_option maxHeartbeats 1600000 in
set_option maxRecDepth 100000 in
theorem vInt_calls (n : Int) (hw : Vr w B g ro s) (hB : B ≤ w.heap.size) (hl : (s.put (pInt n)).xs.length ≤ 140737488355328) :
    Calls Try.prog 63 #[.pointer (some ⟨g, 0, none⟩), .int .i64 n] w (VPost B g ro (s.put (pInt n)) w) := by
  have HW := Aside0.mk hw
  have HBS := Aside0.mk hB
  have HLN := Aside0.mk hl
  have hnm : 0 ≤ n % 18446744073709551616 := Int.emod_nonneg _ (by decide)
  clear hw hB hl
  go_enter Try.func63, Try.ntmps63
  go_wp2_with (first | (go_at_call 97; refine (xDigits_calls (n % 18446744073709551616) 8 _ (by omega) (by omega)).mono ?_; rintro e w1 ⟨A1, c1, rfl, r1, o1, b1⟩; have HR1 := Aside0.mk r1; have HB1 := Aside0.mk b1; have HO1 := Aside0.mk o1; clear r1 b1 o1) | (go_at_call 95; refine (vput_yes _ _ _ _ HR1.out (Nat.le_trans HBS.out (HB1.out).size) (HW.out.below HB1.out) HLN.out).mono ?_; rintro e wp ⟨rfl, hP⟩))
  go_end0
  exact VPost.from ⟨rfl, hP⟩ HB1.out
set_option maxHeartbeats 1600000 in
set_option maxRecDepth 100000 in
theorem vBool_calls (is : Bool) (hw : Vr w B g ro s) (hB : B ≤ w.heap.size) (hl : (s.put (pBool is)).xs.length ≤ 140737488355328) :
    Calls Try.prog 64 #[.pointer (some ⟨g, 0, none⟩), .bool is] w (VPost B g ro (s.put (pBool is)) w) := by
  have HW := Aside0.mk hw
  have HBS := Aside0.mk hB
  cases is with
  | true =>
    have HP : Aside0 (pBool true = some [1]) := ⟨rfl⟩
    rw [HP.out] at hl
    have HLN := Aside0.mk hl
    clear hw hB hl
    go_enter Try.func64, Try.ntmps64
    go_wp2_with ((go_at_call 95; refine (vput_yes _ _ _ _ (reads_one w 1) (Nat.le_trans HBS.out ((below1 _)).size) (HW.out.below (below1 _)) HLN.out).mono ?_; rintro e wp ⟨rfl, hP⟩))
    go_end0
    rw [HP.out]
    exact VPost.from ⟨rfl, hP⟩ (below1 _)
  | false =>
    have HP : Aside0 (pBool false = some [0]) := ⟨rfl⟩
    rw [HP.out] at hl
    have HLN := Aside0.mk hl
    clear hw hB hl
    go_enter Try.func64, Try.ntmps64
    go_wp2_with ((go_at_call 95; refine (vput_yes _ _ _ _ (reads_one w 0) (Nat.le_trans HBS.out ((below1 _)).size) (HW.out.below (below1 _)) HLN.out).mono ?_; rintro e wp ⟨rfl, hP⟩))
    go_end0
    rw [HP.out]
    exact VPost.from ⟨rfl, hP⟩ (below1 _)
set_option maxHeartbeats 1600000 in
set_option maxRecDepth 100000 in
theorem vCount_calls (n : Int) (hn : n ≤ 9223372036854775807) (hw : Vr w B g ro s) (hB : B ≤ w.heap.size) (hl : (s.put (pNumber n 2)).xs.length ≤ 140737488355328) :
    Calls Try.prog 76 #[.pointer (some ⟨g, 0, none⟩), .int .i64 n] w (VPost B g ro (s.put (pNumber n 2)) w) := by
  have HW := Aside0.mk hw
  have HBS := Aside0.mk hB
  have HLN := Aside0.mk hl
  clear hw hB hl
  go_enter Try.func76, Try.ntmps76
  go_wp2_with (go_at_call 43; refine (vNumber_calls n 2 hn HW.out HBS.out HLN.out).mono ?_; rintro e wp ⟨rfl, hP⟩)
  go_end0
  exact ⟨rfl, hP⟩
set_option maxHeartbeats 1600000 in
set_option maxRecDepth 100000 in
theorem vFixed_calls (y : ByteArray) (size : Int) (hy : y.size ≤ 9223372036854775807) (hw : Vr w B g ro s) (hB : B ≤ w.heap.size) (hl : (s.put (pFixed y size)).xs.length ≤ 140737488355328) :
    Calls Try.prog 44 #[.pointer (some ⟨g, 0, none⟩), .string y, .int .i64 size] w (VPost B g ro (s.put (pFixed y size)) w) := by
  have HW := Aside0.mk hw
  have HBS := Aside0.mk hB
  have kb := fun W : World => print_bytes (P := Try.prog) 9 24 5 Try.underlying9 Try.underlying24 Try.underlying5 y W
  by_cases hz : fixedB y size = true
  · have HP : Aside0 (pFixed y size = some (strBytes y)) := ⟨by unfold pFixed; rw [if_pos hz]⟩
    rw [HP.out] at hl
    have HLN := Aside0.mk hl
    have hz1 : 0 ≤ size ∧ size ≤ 65535 ∧ (y.size : Int) = size := by
      unfold fixedB at hz
      simp only [Bool.and_eq_true, decide_eq_true_eq, beq_iff_eq] at hz
      exact ⟨hz.1.1, hz.1.2, hz.2⟩
    obtain ⟨hz1, hz2, rfl⟩ := hz1
    clear hw hB hl hz
    go_enter Try.func44, Try.ntmps44
    go_wp2_with ((go_at_call 95; refine (vput_yes _ _ _ _ (bytes_reads _ 5 y hy) (Nat.le_trans HBS.out (bytes_below (Below.refl _ w) (Nat.le_refl _) 5 y).size) (HW.out.below (bytes_below (Below.refl _ w) (Nat.le_refl _) 5 y)) HLN.out).mono ?_; rintro e wp ⟨rfl, hP⟩))
    go_end0
    rw [HP.out]
    exact VPost.from ⟨rfl, hP⟩ (bytes_below (Below.refl _ w) (Nat.le_refl _) 5 y)
  · have HP : Aside0 (pFixed y size = none) := ⟨by unfold pFixed; rw [if_neg hz]⟩
    clear hw hB hl
    by_cases h1 : 0 ≤ size
    · by_cases h2 : size ≤ 65535
      · have h3 : ((y.size : Int) == size) = false := by
          cases h : ((y.size : Int) == size) with
          | false => rfl
          | true => exact absurd (by unfold fixedB; simp [h1, h2, h]) hz
        clear hz
        go_enter Try.func44, Try.ntmps44
        go_wp2_with ((go_at_call 95; refine (vput_no _ _ _ (HW.out.below (bytes_below (Below.refl _ w) (Nat.le_refl _) 5 y))).mono ?_; rintro e wp ⟨rfl, hP⟩))
        go_end0
        rw [HP.out]
        exact VPost.from ⟨rfl, hP⟩ (bytes_below (Below.refl _ w) (Nat.le_refl _) 5 y)
      · clear hz
        go_enter Try.func44, Try.ntmps44
        go_wp2_with ((go_at_call 95; refine (vput_no _ _ _ (HW.out.below (bytes_below (Below.refl _ w) (Nat.le_refl _) 5 y))).mono ?_; rintro e wp ⟨rfl, hP⟩))
        go_end0
        rw [HP.out]
        exact VPost.from ⟨rfl, hP⟩ (bytes_below (Below.refl _ w) (Nat.le_refl _) 5 y)
    · clear hz
      go_enter Try.func44, Try.ntmps44
      go_wp2_with ((go_at_call 95; refine (vput_no _ _ _ (HW.out.below (bytes_below (Below.refl _ w) (Nat.le_refl _) 5 y))).mono ?_; rintro e wp ⟨rfl, hP⟩))
      go_end0
      rw [HP.out]
      exact VPost.from ⟨rfl, hP⟩ (bytes_below (Below.refl _ w) (Nat.le_refl _) 5 y)
end
end Go.Proofs.Ytgmbfecfkdbfaaa.Wi
