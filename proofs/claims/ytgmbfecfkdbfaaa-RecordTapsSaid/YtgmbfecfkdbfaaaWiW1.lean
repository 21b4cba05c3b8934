/- The writer's small functions: what may not be is given up; a number's digits. -/
import Derived.Test.YtgmbfecfkdbfaaaWiM
set_option linter.unusedVariables false
set_option linter.unusedSimpArgs false
namespace Go.Proofs.Ytgmbfecfkdbfaaa.Wi
open Go Go.RowKit Go.Proofs.YtgmbfecfkdbfaaaW.PrintWords
/-- what was given up with an error's number -/
def gave (e : Int) : List PanicEntry := [{ v := .iface 26 (.int .i64 e), recovered := false }]
set_option maxHeartbeats 400000 in
theorem must_ok (w : World) : Calls Try.prog 109 #[.bool true] w fun en w' => en = .returned (.tuple #[]) ∧ w = w' := by
  go_enter Try.func109, Try.ntmps109
  go_wp2
  go_end0
  exact ⟨rfl, rfl⟩
set_option maxHeartbeats 400000 in
theorem must_no (w : World) : Calls Try.prog 109 #[.bool false] w fun en w' => en = .panicked (gave 1) ∧ w = w' := by
  unfold gave
  go_enter Try.func109, Try.ntmps109
  go_wp2
  exact ⟨rfl, rfl, rfl⟩
def mustE : Bool → Ending
  | true => .returned (.tuple #[])
  | false => .panicked (gave 1)
theorem must_any (b : Bool) (w : World) : Calls Try.prog 109 #[.bool b] w fun en w' => en = mustE b ∧ w = w' := by
  cases b
  · exact must_no w
  · exact must_ok w
set_option maxHeartbeats 400000 in
theorem sized_calls (size : Int) (w : World) : Calls Try.prog 149 #[.int .i64 size] w fun e w' => e = .returned (.bool (sizedB size)) ∧ w = w' := by
  unfold sizedB
  have main : ∀ (c0 : Bool), decide (1 ≤ size) = c0 → Calls Try.prog 149 #[.int .i64 size] w fun e w' => e = .returned (.bool (c0 && decide (size ≤ 8))) ∧ w = w' := by
    intro c0 h0
    cases c0 <;>
    · go_enter Try.func149, Try.ntmps149
      go_wp2
      go_ret
      exact ⟨by first | (simp; done) | rfl, rfl⟩
  exact main _ rfl
theorem shr_zero (n : Int) (size : Int) (h0 : 0 ≤ n) (h1 : 1 ≤ size) (h8 : size ≤ 8) : (n / 2 ^ (8 * size).toNat == 0) = decide (n < 256 ^ size.toNat) := by
  have hm : (8 * size).toNat = 8 * size.toNat := by omega
  rw [hm, Int.pow_mul]
  have hp : (0 : Int) < 256 ^ size.toNat := Int.pow_pos (by omega)
  rw [show ((2 : Int) ^ 8) = 256 from rfl]
  by_cases h : n < 256 ^ size.toNat
  · rw [Int.ediv_eq_zero_of_lt h0 h]
    simp [h]
  · have : 1 ≤ n / 256 ^ size.toNat := (Int.le_ediv_iff_mul_le hp).2 (by omega)
    simp only [h, decide_false]
    exact beq_eq_false_iff_ne.2 (by omega)
set_option maxHeartbeats 800000 in
theorem fits_calls (n size : Int) (h1 : 1 ≤ size) (h8 : size ≤ 8) (w : World) : Calls Try.prog 150 #[.int .i64 n, .int .i64 size] w fun e w' => e = .returned (.bool (fitsB n size)) ∧ w = w' := by
  by_cases h0 : 0 ≤ n
  · have t0 : decide (0 ≤ n) = true := decide_eq_true h0
    by_cases he : size = 8
    · subst he
      have HF : Aside0 (fitsB n 8 = true) := ⟨by simp [fitsB, h0]⟩
      go_enter Try.func150, Try.ntmps150
      go_wp2
      go_ret
      exact ⟨by rw [HF.out]; rfl, rfl⟩
    · have t1 : (size == 8) = false := beq_eq_false_iff_ne.mpr he
      have HF : Aside0 (fitsB n size = (n / 2 ^ (8 * size).toNat == 0)) := ⟨by rw [shr_zero n size h0 h1 h8]; simp [fitsB, h0, he]⟩
      go_enter Try.func150, Try.ntmps150
      go_wp2
      go_ret
      exact ⟨by rw [HF.out]; first | rfl | (simp; done), rfl⟩
  · have t0 : decide (0 ≤ n) = false := decide_eq_false h0
    have HF : Aside0 (fitsB n size = false) := ⟨by simp [fitsB, h0]⟩
    clear h0
    go_enter Try.func150, Try.ntmps150
    go_wp2
    go_ret
    exact ⟨by rw [HF.out]; rfl, rfl⟩
/-- a number's digits: a list of the call's own -/
def DigPost (n : Int) (size : Nat) (w : World) (e : Ending) (w' : World) : Prop :=
  ∃ v, e = .returned v ∧ w'.ownsRow w.heap.size 5 1 v size (nums .u8 (be n.toNat size)) ∧ Below w.heap.size w w'
theorem shr_digit (n : Int) (k : Nat) (h0 : 0 ≤ n) : n / 2 ^ (8 * k) % 256 = (((n.toNat / 256 ^ k) % 256 : Nat) : Int) := by
  rw [Int.pow_mul, show ((2 : Int) ^ 8) = 256 from rfl]
  obtain ⟨m, rfl⟩ := Int.eq_ofNat_of_zero_le h0
  rw [Int.toNat_natCast]
  have : ((m : Int) / 256 ^ k) = ((m / 256 ^ k : Nat) : Int) := by
    rw [Int.natCast_ediv, Int.natCast_pow]; rfl
  rw [this]
  rfl
theorem set_digit (n kk size : Nat) (x : Int) (h : kk < size) (hx : x = (((n / 256 ^ kk) % 256 : Nat) : Int)) :
    (List.replicate (size - kk) 0 ++ be n kk).set (size - 1 - kk) x = List.replicate (size - (kk + 1)) 0 ++ be n (kk + 1) := by
  subst hx
  obtain ⟨m, rfl⟩ : ∃ m, size = kk + 1 + m := ⟨size - kk - 1, by omega⟩
  rw [show kk + 1 + m - kk = m + 1 by omega, show kk + 1 + m - 1 - kk = m by omega, show kk + 1 + m - (kk + 1) = m by omega, List.replicate_succ', List.append_assoc, List.set_append_right _ _ (by simp)]
  simp [be]
set_option maxHeartbeats 1600000 in
theorem digits_calls (n : Int) (size : Nat) (w : World) (h0 : 0 ≤ n) (h8 : size ≤ 8) :
    Calls Try.prog 151 #[.int .u64 n, .int .i64 size] w (DigPost n size w) := by
  have hmk := print_make (P := Try.prog) 24 5 .u8 1 Try.underlying24 info_u8 (by decide) size (by omega)
  have HO := Aside0.mk (own_made w w.heap.size 5 .u8 size (Nat.le_refl _) (by omega))
  have HB := Aside0.mk (below_alloc (Below.refl w.heap.size w) (.cells (madeCells #[.int .u8 0] size) 5))
  go_enter Try.func151, Try.ntmps151
  go_wp2
  go_loopg [6, 11] size (fun gg s6 s11 wr => ∃ kk : Nat, kk ≤ size ∧ size - kk ≤ gg ∧ s11 = .int .i64 kk ∧ Aside0 (wr.ownsRow w.heap.size 5 1 (.slice (some ⟨w.heap.size, 0, none⟩) size size) size (nums .u8 (List.replicate (size - kk) 0 ++ be n.toNat kk))) ∧ Aside0 (Below w.heap.size w wr))
  case atStart => exact ⟨0, Nat.zero_le _, by omega, rfl, ⟨by simpa [be] using HO.out⟩, HB⟩
  case round =>
    obtain ⟨kk, hkk, hg, rfl, HO1, HB1⟩ := hrel
    clear HO HB
    by_cases hlt : kk < size
    · have hltz : (kk : Int) < (size : Int) := by omega
      have HA := own_at HO1.out ((size : Int) - 1 - kk) (by omega) (by omega)
      have HS := own_store HO1.out ((size : Int) - 1 - kk) (n / 2 ^ (8 * kk) % 256)
      have ei : ((size : Int) - 1 - kk).toNat = size - 1 - kk := by omega
      rw [ei] at HA HS
      rw [set_digit n.toNat kk size _ hlt (shr_digit n kk h0)] at HS
      have HS1 := Aside0.mk HS.1
      have HB2 := Aside0.mk (HB1.out.grown HS.2 HB1.out.size (fun k hk => by injection hk with hk; omega))
      obtain ⟨cc, cf⟩ := HA
      have e1 : IntKind.i64.wrap ((size : Int) - 1) = (size : Int) - 1 := IntWalk.i64_in _ (by omega)
      clear ei HS
      go_wp2
      go_roundg (size - (kk + 1))
      case measure => omega
      case rel => exact ⟨kk + 1, by omega, by omega, by go_num, HS1, HB2⟩
    · have hltz : ¬ (kk : Int) < (size : Int) := by omega
      go_wp2
      go_ret
      obtain rfl : kk = size := by omega
      exact ⟨_, rfl, by simpa using HO1.out, HB1.out⟩
end Go.Proofs.Ytgmbfecfkdbfaaa.Wi
