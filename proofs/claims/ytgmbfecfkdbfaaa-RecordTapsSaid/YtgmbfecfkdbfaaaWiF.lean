/- WireFault: behind the first fault nothing is taken any more, and it stays; a fault that is made stands where the last piece began. -/
import Derived.Test.YtgmbfecfkdbfaaaWiL3
set_option linter.unusedVariables false
set_option linter.unusedSimpArgs false
namespace Go.Proofs.Ytgmbfecfkdbfaaa.Wi
open Go Go.RowKit Go.Proofs.YtgmbfecfkdbfaaaW.PrintWords
theorem take_bad {α : Type} {bs : List Int} {r : RS} (h : r.code ≠ 0) (d : α) (G : List Int → Except Int (α × Nat)) : r.take bs d G = (d, r) := by
  unfold RS.take
  rw [if_pos h]
theorem empty_str : (strOfNums []).toList.isEmpty = true := by
  simp [strOfNums, ByteArray.toList, ByteArray.toList.loop, ByteArray.size]
theorem take_good {α : Type} {bs : List Int} {r : RS} (h : r.code = 0) (d : α) (G : List Int → Except Int (α × Nat)) : (r.take bs d G).2.code = 0 → (r.take bs d G).2.last = r.at_ ∨ ∃ e, G (bs.drop r.at_) = .error e ∧ e = 0 := by
  unfold RS.take
  rw [if_neg (by simp [h])]
  cases hg : G (bs.drop r.at_) with
  | ok p => intro _; exact .inl rfl
  | error e => intro he; exact .inr ⟨e, rfl, he⟩
theorem gNumber_err {l : List Int} {size e : Int} (h : gNumber l size = .error e) : e ≠ 0 := by
  unfold gNumber at h
  repeat' split at h
  all_goals first | (injection h with h; omega) | cases h
theorem gInt_err {l : List Int} {e : Int} (h : gInt l = .error e) : e ≠ 0 := by
  unfold gInt at h
  repeat' split at h
  all_goals first | (injection h with h; omega) | cases h
theorem gFloat_err {l : List Int} {e : Int} (h : gFloat l = .error e) : e ≠ 0 := by
  unfold gFloat at h
  repeat' split at h
  all_goals first | (injection h with h; omega) | cases h
theorem gBool_err {l : List Int} {e : Int} (h : gBool l = .error e) : e ≠ 0 := by
  unfold gBool at h
  repeat' split at h
  all_goals first | (injection h with h; omega) | cases h
theorem gText_err {l : List Int} {most e : Int} (h : gText l most = .error e) : e ≠ 0 := by
  unfold gText at h
  repeat' split at h
  all_goals first | (injection h with h; omega) | cases h
theorem gFixed_err {l : List Int} {size e : Int} (h : gFixed l size = .error e) : e ≠ 0 := by
  unfold gFixed at h
  repeat' split at h
  all_goals first | (injection h with h; omega) | cases h
theorem gCount_err {l : List Int} {most e : Int} (h : gCount l most = .error e) : e ≠ 0 := by
  unfold gCount at h
  repeat' split at h
  all_goals first | (injection h with h; omega) | cases h
theorem take_last {α : Type} {bs : List Int} {r : RS} (h : r.code = 0) (d : α) (G : List Int → Except Int (α × Nat)) (hG : ∀ l e, G l = .error e → e ≠ 0) (hc : (r.take bs d G).2.code = 0) : (r.take bs d G).2.last = r.at_ := by
  rcases take_good h d G hc with h1 | ⟨e, h1, h2⟩
  · exact h1
  · exact absurd h2 (hG _ _ h1)
end Go.Proofs.Ytgmbfecfkdbfaaa.Wi
