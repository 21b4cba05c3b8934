/- Bits of a number, out of a cursor. -/
import Derived.Test.YtgmbfecfkdbfaaaWiR1
set_option linter.unusedVariables false
set_option linter.unusedSimpArgs false
namespace Go.Proofs.Ytgmbfecfkdbfaaa.Wi
open Go Go.RowKit Go.Proofs.YtgmbfecfkdbfaaaW.PrintWords
/-- bits of a number: what comes out -/
def CBits (gc : Nat) (A : Option Addr) (bs : List Int) (c at_ n : Nat) (w : World) (e : Ending) (w' : World) : Prop :=
  e = .returned (.int .u64 (val ((bs.drop at_).take n))) ∧ Cur w' gc A bs.length c (at_ + n) ∧ Fr (CurS gc) w w'
set_option maxHeartbeats 800000 in
theorem cbits_short (gc : Nat) (A : Option Addr) (bs : List Int) (c at_ n : Nat) (w : World) (hC : Cur w gc A bs.length c at_) (hat : at_ ≤ bs.length) (hb : bs.length ≤ 140737488355328) (hn : bs.length < at_ + n) (hn2 : n ≤ 140737488355328) :
    Calls Try.prog 153 #[.pointer (some ⟨gc, 0, none⟩), .int .i64 n] w (CGave gc 10 w) := by
  have C := Aside0.mk (cbytes_short gc A bs c at_ n w hC hat hb hn hn2)
  clear hC
  go_enter Try.func153, Try.ntmps153
  go_wp2_with (go_at_call 147; refine C.out.mono ?_; rintro e w' ⟨rfl, hf⟩)
  exact ⟨rfl, rfl, hf⟩
theorem or_byte (v : Nat) (x : Int) (hv : v < 256 ^ 7) (h0 : 0 ≤ x) (h1 : x ≤ 255) : bits .or .u64 ((v : Int) * 256) x = ((v * 256 + x.toNat : Nat) : Int) := by
  obtain ⟨m, rfl⟩ := Int.eq_ofNat_of_zero_le h0
  have h2 := Nat.two_pow_add_eq_or_of_lt (i := 8) (b := m) (by omega) v
  have h3 := u64_or_nat (v * 256) m (by omega) (by omega)
  rw [show ((v : Int) * 256) = ((v * 256 : Nat) : Int) by omega, h3, Int.toNat_natCast, show v * 256 = 2 ^ 8 * v by omega, ← h2]
theorem val_step (xs : List Int) (k : Nat) (x : Int) (hk : k < xs.length) (hx : rd xs k = x) : val (xs.take (k + 1)) = val (xs.take k) * 256 + x.toNat := by
  rw [List.take_succ_eq_append_getElem hk, val_snoc]
  congr 2
  rw [← hx]
  simp [rd, List.getD_eq_getElem?_getD, List.getElem?_eq_getElem hk]
theorem rd_mem (xs : List Int) (k : Nat) (hk : k < xs.length) : rd xs k ∈ xs := by
  simp [rd, List.getD_eq_getElem?_getD, List.getElem?_eq_getElem hk]
theorem shl_or (xs : List Int) (k : Nat) (x : Int) (hB : Bytes xs) (hk : k < xs.length) (h8 : xs.length ≤ 8) (hx : rd xs k = x) :
    bits .or .u64 (IntKind.u64.wrap ((val (xs.take k) : Int) * 256)) x = (val (xs.take (k + 1)) : Int) := by
  have hm : x ∈ xs := by
    rw [← hx]
    simp [rd, List.getD_eq_getElem?_getD, List.getElem?_eq_getElem hk]
  have h1 := hB x hm
  have hv : val (xs.take k) < 256 ^ 7 := by
    have h := val_lt (xs.take k) (hB.take k)
    have h2 : (xs.take k).length ≤ 7 := by rw [List.length_take]; omega
    exact Nat.lt_of_lt_of_le h (pow_256_le h2)
  rw [val_step xs k x hk hx, u64_wrap, show ((val (xs.take k) : Int) * 256) % 18446744073709551616 = (val (xs.take k) : Int) * 256 by omega, or_byte _ _ hv h1.1 h1.2]
set_option maxHeartbeats 1600000 in
theorem cbits_ok (gc : Nat) (A : Option Addr) (bs : List Int) (c at_ n : Nat) (w : World) (hC : Cur w gc A bs.length c at_) (hR : ReadsInt w .u8 A bs.length bs) (hc : bs.length ≤ c) (hb : bs.length ≤ 140737488355328) (hB : Bytes bs) (hn : at_ + n ≤ bs.length) (hn8 : n ≤ 8) (hA : ∀ ad, A = some ad → ad.block ≠ gc) :
    Calls Try.prog 153 #[.pointer (some ⟨gc, 0, none⟩), .int .i64 n] w (CBits gc A bs c at_ n w) := by
  have C := Aside0.mk (cbytes_ok gc A bs c at_ n w hC hR hc hb hn hA)
  have HB := Aside0.mk ((hB.drop at_).take n)
  have HL := Aside0.mk (show ((bs.drop at_).take n).length = n by rw [List.length_take, List.length_drop]; omega)
  clear hC hR hA hB
  unfold CBytes at C
  unfold CBits
  generalize (bs.drop at_).take n = xs at C HB HL
  go_enter Try.func153, Try.ntmps153
  go_wp2_with (go_at_call 147; refine C.out.mono ?_; rintro e W1 ⟨⟨A', c', rfl, hrd⟩, hcur, hfr⟩)
  have HRD := Aside0.mk hrd
  have HC := Aside0.mk hcur
  have HF := Aside0.mk hfr
  clear hrd hcur hfr C
  go_loopg [5, 7, 12] n (fun gg s5 s7 s12 wr => ∃ kk : Nat, kk ≤ n ∧ n - kk ≤ gg ∧ s12 = .int .i64 kk ∧ s5 = .int .u64 (val (xs.take kk)) ∧ wr = W1)
  case atStart => exact ⟨0, Nat.zero_le _, by omega, rfl, by simp [val], rfl⟩
  case round =>
    obtain ⟨kk, hkk, hg, rfl, rfl, rfl⟩ := hrel
    by_cases hlt : kk < n
    · have hltz : (kk : Int) < (n : Int) := by omega
      obtain ⟨ad, rfl, hcell⟩ := HRD.out.at_ kk (by omega) hltz
      simp only [Int.toNat_natCast] at hcell
      have HX : Aside0 (∀ x, rd xs kk = x → bits .or .u64 (IntKind.u64.wrap ((val (xs.take kk) : Int) * 256)) x = (val (xs.take (kk + 1)) : Int)) := ⟨fun x h => shl_or xs kk x HB.out (by rw [HL.out]; omega) (by rw [HL.out]; omega) h⟩
      obtain ⟨x, hxx⟩ : ∃ x, rd xs kk = x := ⟨_, rfl⟩
      rw [hxx] at hcell
      have HE := Aside0.mk (HX.out x hxx)
      have hx := HB.out x (by rw [← hxx]; exact rd_mem xs kk (by rw [HL.out]; omega))
      clear hxx HX
      go_wp2
      go_roundg (n - (kk + 1))
      case measure => omega
      case rel =>
        refine ⟨kk + 1, by omega, by omega, by go_num, ?_, rfl⟩
        rw [HE.out]
    · have hltz : ¬ (kk : Int) < (n : Int) := by omega
      have HV : Aside0 (val (xs.take kk) = val xs) := ⟨by rw [List.take_of_length_le (by rw [HL.out]; omega)]⟩
      go_wp2
      go_ret
      exact ⟨by rw [HV.out]; rfl, HC.out, HF.out⟩
end Go.Proofs.Ytgmbfecfkdbfaaa.Wi
