/- Plain laws of pieces: what is put is taken; what is taken is put; bytes of parts. No program in sight. -/
import Derived.Test.YtgmbfecfkdbfaaaWiF
set_option linter.unusedVariables false
set_option linter.unusedSimpArgs false
namespace Go.Proofs.Ytgmbfecfkdbfaaa.Wi
open Go Go.RowKit Go.Proofs.YtgmbfecfkdbfaaaW.PrintWords
theorem put_nil (s : WS) : s.put (some []) = s := by
  cases s with
  | mk xs bad => cases bad <;> simp [WS.put]
theorem put_len (s : WS) (o : Option (List Int)) (h : ∀ ys, o = some ys → ys.length ≤ 65537) : (s.put o).xs.length ≤ s.xs.length + 65537 := by
  unfold WS.put
  split
  · omega
  · cases o with
    | none => simp
    | some ys =>
      have := h ys rfl
      simp only [List.length_append]
      omega
theorem take_app {α : Type} (ys rest : List α) : (ys ++ rest).take ys.length = ys := by simp
/-- what was put is taken -/
theorem val_take_be (n s : Nat) (rest : List Int) (h : n < 256 ^ s) : Wi.val ((be n s ++ rest).take s) = n := by
  have := take_app (be n s) rest
  rw [be_length] at this
  rw [this, val_be s n h]
theorem fits_lt {n size : Int} (hz : sizedB size = true) (hf : fitsB n size = true) (hn : n ≤ 9223372036854775807) : 0 ≤ n ∧ n.toNat < 256 ^ size.toNat ∧ n.toNat < 9223372036854775808 := by
  have hz' : 1 ≤ size ∧ size ≤ 8 := by simpa [sizedB] using hz
  have hf' : 0 ≤ n ∧ (size = 8 ∨ n < 256 ^ size.toNat) := by simpa [fitsB] using hf
  obtain ⟨h0, h1⟩ := hf'
  refine ⟨h0, ?_, by omega⟩
  rcases h1 with rfl | h1
  · have : (256 : Nat) ^ (8 : Int).toNat = 18446744073709551616 := by decide
    omega
  · have h2 : ((n.toNat : Nat) : Int) < ((256 ^ size.toNat : Nat) : Int) := by
      rw [Int.natCast_pow, Int.toNat_of_nonneg h0]
      exact h1
    omega
theorem gNumber_put {n size : Int} {ys rest : List Int} (hn : n ≤ 9223372036854775807) (h : pNumber n size = some ys) : gNumber (ys ++ rest) size = .ok (n, ys.length) := by
  unfold pNumber at h
  split at h
  · rename_i hc
    simp only [Bool.and_eq_true] at hc
    obtain rfl := Option.some.inj h
    obtain ⟨h0, h1, h2⟩ := fits_lt hc.1 hc.2 hn
    have hz' : 1 ≤ size ∧ size ≤ 8 := by simpa [sizedB] using hc.1
    have hv := val_take_be n.toNat size.toNat rest h1
    unfold gNumber
    rw [if_neg (by simp [hc.1]), if_neg (by rw [List.length_append, be_length]; omega), hv, if_neg (by omega), be_length]
    congr 2
    omega
  · cases h
theorem asInt_mod (n : Int) (h : I64 n) : asInt (n % 18446744073709551616).toNat = n := by
  unfold asInt I64 at *
  split <;> omega
theorem gInt_put {n : Int} {ys rest : List Int} (hn : I64 n) (h : pInt n = some ys) : gInt (ys ++ rest) = .ok (n, ys.length) := by
  obtain rfl := Option.some.inj h
  have hm : (n % 18446744073709551616).toNat < 256 ^ 8 := by
    have h1 := Int.emod_lt_of_pos n (show (0 : Int) < 18446744073709551616 by omega)
    have h2 := Int.emod_nonneg n (show (18446744073709551616 : Int) ≠ 0 by omega)
    have : (256 : Nat) ^ 8 = 18446744073709551616 := by decide
    omega
  unfold gInt
  rw [if_neg (by rw [List.length_append, be_length]; omega), val_take_be _ 8 rest hm, asInt_mod n hn, be_length]
theorem fBits_lt {n : Nat} (h : n < 18446744073709551616) : fBits n < 256 ^ 8 := by
  have : (256 : Nat) ^ 8 = 18446744073709551616 := by decide
  unfold fBits nanBits
  split <;> omega
theorem fBits_ok (n : Nat) : ¬ (isNan (fBits n) = true ∧ fBits n ≠ nanBits) := by
  unfold fBits
  split
  · simp
  · rename_i h
    intro hc
    exact h hc.1
theorem fBits_nan {n : Nat} (h : isNan n = true) : fBits n = nanBits := by unfold fBits; rw [if_pos h]
theorem fBits_num {n : Nat} (h : ¬ isNan n = true) : fBits n = n := by unfold fBits; rw [if_neg h]
theorem fBits_idem (n : Nat) : fBits (fBits n) = fBits n := by
  have h := fBits_ok n
  by_cases hn : isNan (fBits n) = true
  · rcases Nat.decEq (fBits n) nanBits with he | he
    · exact absurd ⟨hn, he⟩ h
    · rw [fBits_nan hn, he]
  · exact fBits_num hn
theorem gFloat_put {n : Nat} {ys rest : List Int} (hn : n < 18446744073709551616) (h : pFloat n = some ys) : gFloat (ys ++ rest) = .ok (fBits n, ys.length) := by
  obtain rfl := Option.some.inj h
  unfold gFloat
  rw [if_neg (by rw [List.length_append, be_length]; omega), val_take_be _ 8 rest (fBits_lt hn), if_neg (fBits_ok n), be_length]
theorem gBool_put {is : Bool} {ys rest : List Int} (h : pBool is = some ys) : gBool (ys ++ rest) = .ok (is, ys.length) := by
  cases is <;>
  · obtain rfl := Option.some.inj h
    rfl
theorem strOf_strBytes (s : ByteArray) : strOfNums (strBytes s) = s := by
  obtain ⟨⟨l⟩⟩ := s
  simp only [strOfNums, strBytes, List.map_map]
  congr 2
  conv => rhs; rw [← List.map_id l]
  apply List.map_congr_left
  intro b _
  simp
theorem gText_put {s : ByteArray} {ys rest : List Int} (h : pText s = some ys) : gText (ys ++ rest) (s.size : Int) = .ok (strBytes s, ys.length) := by
  unfold pText at h
  split at h
  · rename_i hs
    obtain rfl := Option.some.inj h
    have hp : (256 : Nat) ^ 2 = 65536 := by decide
    have hv : Wi.val ((be s.size 2 ++ strBytes s ++ rest).take 2) = s.size := by
      rw [List.append_assoc]
      exact val_take_be s.size 2 _ (by omega)
    have hl : (be s.size 2 ++ strBytes s ++ rest).length = 2 + s.size + rest.length := by
      rw [List.length_append, List.length_append, be_length, strBytes_length]
    have hd : (be s.size 2 ++ strBytes s ++ rest).drop 2 = strBytes s ++ rest := by
      rw [List.append_assoc]
      have := List.drop_left (l₁ := be s.size 2) (l₂ := strBytes s ++ rest)
      rwa [be_length] at this
    unfold gText
    rw [if_neg (by omega), if_neg (by omega), hv, if_neg (by omega), hl, if_neg (by omega), hd]
    have := take_app (strBytes s) rest
    rw [strBytes_length] at this
    rw [this, List.length_append, be_length, strBytes_length]
  · cases h
theorem gFixed_put {s : ByteArray} {size : Int} {ys rest : List Int} (h : pFixed s size = some ys) : gFixed (ys ++ rest) size = .ok (strBytes s, ys.length) := by
  unfold pFixed at h
  split at h
  · rename_i hc
    simp only [fixedB, Bool.and_eq_true, decide_eq_true_eq, beq_iff_eq] at hc
    obtain rfl := Option.some.inj h
    unfold gFixed
    rw [if_neg (by omega), if_neg (by rw [List.length_append, strBytes_length]; omega)]
    have e : size.toNat = (strBytes s).length := by rw [strBytes_length]; omega
    rw [e, take_app]
  · cases h
theorem gCount_put {n : Int} {ys rest : List Int} (hn : n ≤ 9223372036854775807) (h : pNumber n 2 = some ys) : gCount (ys ++ rest) n = .ok (n, ys.length) := by
  unfold pNumber at h
  split at h
  · rename_i hc
    simp only [Bool.and_eq_true] at hc
    obtain rfl := Option.some.inj h
    obtain ⟨h0, h1, h2⟩ := fits_lt hc.1 hc.2 hn
    have hv := val_take_be n.toNat 2 rest h1
    have e2 : (2 : Int).toNat = 2 := rfl
    rw [e2] at *
    unfold gCount
    rw [if_neg (by omega), if_neg (by rw [List.length_append, be_length]; omega), hv, if_neg (by omega), be_length]
    congr 2
    omega
  · cases h
theorem take_ok {α : Type} {bs : List Int} {r : RS} {d : α} {G : List Int → Except Int (α × Nat)} {x : α} {k : Nat} (hc : r.code = 0) (h : G (bs.drop r.at_) = .ok (x, k)) : r.take bs d G = (x, ⟨r.at_ + k, r.at_, 0, r.fat⟩) := by
  unfold RS.take
  rw [if_neg (by simp [hc]), h]
end Go.Proofs.Ytgmbfecfkdbfaaa.Wi
