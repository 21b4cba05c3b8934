/- Plain laws of pieces: what is taken is put as it stood; the bytes of parts. No program in sight. -/
import Derived.Test.YtgmbfecfkdbfaaaWiQ
set_option linter.unusedVariables false
set_option linter.unusedSimpArgs false
namespace Go.Proofs.Ytgmbfecfkdbfaaa.Wi
open Go Go.RowKit Go.Proofs.YtgmbfecfkdbfaaaW.PrintWords
theorem be_take (l : List Int) (n : Nat) (h : Bytes l) (hn : n ≤ l.length) : be (Wi.val (l.take n)) n = l.take n := by
  have h1 := be_val (l.take n) (h.take n)
  rwa [List.length_take, Nat.min_eq_left hn] at h1
theorem strBytes_strOf (l : List Int) (h : Bytes l) : strBytes (strOfNums l) = l := by
  simp only [strBytes, strOfNums, List.map_map]
  conv => rhs; rw [← List.map_id l]
  apply List.map_congr_left
  intro x hx
  have := h x hx
  simp only [Function.comp, UInt8.toNat_ofNat', id]
  omega
theorem gNumber_form {l : List Int} {size x : Int} {k : Nat} (hb : Bytes l) (h : gNumber l size = .ok (x, k)) : pNumber x size = some (l.take k) ∧ k ≤ l.length := by
  have hk := gNumber_le h
  unfold gNumber at h
  split at h
  · cases h
  · rename_i hz
    split at h
    · cases h
    · split at h
      · cases h
      · rename_i hl hv
        injection h with h
        injection h with h1 h2
        subst h1 h2
        have hz2 : sizedB size = true := by simpa using hz
        have hz' : 1 ≤ size ∧ size ≤ 8 := by simpa [sizedB] using hz2
        have hlt := val_take_lt l size.toNat hb hk.1
        have hf : fitsB (Wi.val (l.take size.toNat) : Int) size = true := by
          simp only [fitsB, Bool.and_eq_true, Bool.or_eq_true, decide_eq_true_eq]
          refine ⟨by omega, ?_⟩
          right
          have : ((Wi.val (l.take size.toNat) : Nat) : Int) < ((256 ^ size.toNat : Nat) : Int) := by omega
          rw [Int.natCast_pow] at this
          exact this
        refine ⟨?_, hk.1⟩
        unfold pNumber
        rw [if_pos (by rw [hz2, hf]; rfl), Int.toNat_natCast, be_take l _ hb hk.1]
theorem gInt_form {l : List Int} {x : Int} {k : Nat} (hb : Bytes l) (h : gInt l = .ok (x, k)) : pInt x = some (l.take k) ∧ k ≤ l.length := by
  have hk := gInt_le h
  unfold gInt at h
  split at h
  · cases h
  · injection h with h
    injection h with h1 h2
    subst h1 h2
    have hlt := val_take_lt l 8 hb hk
    have e : (256 : Nat) ^ 8 = 18446744073709551616 := by decide
    rw [e] at hlt
    refine ⟨?_, hk⟩
    unfold pInt
    have : (asInt (Wi.val (l.take 8)) % 18446744073709551616).toNat = Wi.val (l.take 8) := by
      unfold asInt
      split <;> omega
    rw [this, be_take l 8 hb hk]
theorem gFloat_form {l : List Int} {x : Nat} {k : Nat} (hb : Bytes l) (h : gFloat l = .ok (x, k)) : pFloat x = some (l.take k) ∧ k ≤ l.length := by
  have hk := gFloat_le h
  unfold gFloat at h
  split at h
  · cases h
  · split at h
    · cases h
    · rename_i hc
      injection h with h
      injection h with h1 h2
      subst h1 h2
      refine ⟨?_, hk⟩
      have e : fBits (Wi.val (l.take 8)) = Wi.val (l.take 8) := by
        unfold fBits
        split
        · rename_i hn
          rcases Nat.decEq (Wi.val (l.take 8)) nanBits with he | he
          · exact absurd ⟨hn, he⟩ hc
          · exact he.symm
        · rfl
      unfold pFloat
      rw [e, be_take l 8 hb hk]
theorem gBool_form {l : List Int} {x : Bool} {k : Nat} (hb : Bytes l) (h : gBool l = .ok (x, k)) : pBool x = some (l.take k) ∧ k ≤ l.length := by
  have hk := gBool_le h
  unfold gBool at h
  split at h
  · cases h
  · split at h
    · cases h
    · rename_i hv
      injection h with h
      injection h with h1 h2
      subst h1 h2
      refine ⟨?_, hk⟩
      have h3 := be_take l 1 hb hk
      by_cases hv1 : Wi.val (l.take 1) = 1
      · rw [hv1] at h3
        rw [hv1, ← h3]
        rfl
      · have hv0 : Wi.val (l.take 1) = 0 := by omega
        rw [hv0] at h3
        rw [hv0, ← h3]
        rfl
theorem gText_form {l : List Int} {most : Int} {x : List Int} {k : Nat} (hb : Bytes l) (h : gText l most = .ok (x, k)) : pText (strOfNums x) = some (l.take k) ∧ k ≤ l.length := by
  have hk := gText_le h
  unfold gText at h
  split at h
  · cases h
  · split at h
    · cases h
    · split at h
      · cases h
      · split at h
        · cases h
        · rename_i h2 h3 h4
          injection h with h
          injection h with h1 hk2
          subst h1 hk2
          have hlt := val_take_lt l 2 hb (by omega)
          have e : (256 : Nat) ^ 2 = 65536 := by decide
          rw [e] at hlt
          refine ⟨?_, hk⟩
          have hx : Bytes ((l.drop 2).take (Wi.val (l.take 2))) := (hb.drop 2).take _
          have hs : (strOfNums ((l.drop 2).take (Wi.val (l.take 2)))).size = Wi.val (l.take 2) := by
            rw [strOfNums_size, List.length_take, List.length_drop]
            omega
          unfold pText
          rw [if_pos (by omega), hs, strBytes_strOf _ hx, be_take l 2 hb (by omega), ← List.take_add]
theorem gFixed_form {l : List Int} {size : Int} {x : List Int} {k : Nat} (hb : Bytes l) (h : gFixed l size = .ok (x, k)) : pFixed (strOfNums x) size = some (l.take k) ∧ k ≤ l.length := by
  have hk := gFixed_le h
  unfold gFixed at h
  split at h
  · cases h
  · split at h
    · cases h
    · injection h with h
      injection h with h1 h2
      subst h1 h2
      refine ⟨?_, hk⟩
      have hs : (strOfNums (l.take size.toNat)).size = size.toNat := by
        rw [strOfNums_size, List.length_take]
        omega
      unfold pFixed
      rw [if_pos, strBytes_strOf _ (hb.take _)]
      simp only [fixedB, Bool.and_eq_true, decide_eq_true_eq, beq_iff_eq]
      omega
theorem gCount_form {l : List Int} {most x : Int} {k : Nat} (hb : Bytes l) (h : gCount l most = .ok (x, k)) : pNumber x 2 = some (l.take k) ∧ k ≤ l.length := by
  have hk := gCount_le h
  unfold gCount at h
  split at h
  · cases h
  · split at h
    · cases h
    · split at h
      · cases h
      · injection h with h
        injection h with h1 h2
        subst h1 h2
        have hlt := val_take_lt l 2 hb (by omega)
        have e : (256 : Nat) ^ 2 = 65536 := by decide
        rw [e] at hlt
        refine ⟨?_, hk⟩
        have hf : fitsB (Wi.val (l.take 2) : Int) 2 = true := by
          simp only [fitsB, Bool.and_eq_true, Bool.or_eq_true, decide_eq_true_eq]
          refine ⟨by omega, ?_⟩
          right
          show ((Wi.val (l.take 2) : Nat) : Int) < 65536
          omega
        unfold pNumber
        rw [if_pos (by rw [hf]; rfl), Int.toNat_natCast]
        exact congrArg some (be_take l 2 hb (by omega))
/-- a reader behind a piece: it took it, or is at fault where it stood -/
theorem take_cases {α : Type} {bs : List Int} {r : RS} {d : α} {G : List Int → Except Int (α × Nat)} (hc : r.code = 0) (hG : ∀ l e, G l = .error e → e ≠ 0) :
    (∃ x k, G (bs.drop r.at_) = .ok (x, k) ∧ r.take bs d G = (x, ⟨r.at_ + k, r.at_, 0, r.fat⟩)) ∨ (∃ e, e ≠ 0 ∧ r.take bs d G = (d, ⟨r.at_, r.last, e, r.at_⟩)) := by
  cases h : G (bs.drop r.at_) with
  | ok p => exact .inl ⟨p.1, p.2, rfl, take_ok hc h⟩
  | error e =>
    refine .inr ⟨e, hG _ _ h, ?_⟩
    unfold RS.take
    rw [if_neg (by simp [hc]), h]
end Go.Proofs.Ytgmbfecfkdbfaaa.Wi
