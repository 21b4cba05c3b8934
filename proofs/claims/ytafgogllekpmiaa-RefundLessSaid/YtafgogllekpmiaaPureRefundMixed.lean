/- What fareboxlaw20.RefundMixed computes is true, whatever the outages (no more of them than memory bears) and the journey. -/
import Derived.Test.YtafgogllekpmiaaPRx7
set_option linter.unusedVariables false
namespace Go.Proofs.Ytafgogllekpmiaa.PR
open Go.RowKit Go.Proofs.YtafgogllekpmiaaW.PrintWords Go.Proofs.YtafgogllekpmiaaW.PrintLast Go.Proofs.YtafgogllekpmiaaW.PrintMore
theorem held_any (dl kd fr tt st en : Int) : ∃ q : S35 → Bool, ∀ l, heldB dl l kd fr tt st en = l.any q := by
  by_cases h1 : kd = 2 ∨ kd = 3
  · exact ⟨by1 fr st, fun l => by unfold heldB; rw [if_pos h1]⟩
  by_cases h2 : kd = 1
  · by_cases h3 : timeB st = true
    · by_cases h4 : timeB en = true
      · by_cases h5 : en - st < dl
        · exact ⟨fun _ => false, fun l => by unfold heldB; rw [if_neg h1, if_pos h2, if_pos h3, if_pos h4, if_pos h5]; simp⟩
        · exact ⟨by2 fr tt st en, fun l => by unfold heldB; rw [if_neg h1, if_pos h2, if_pos h3, if_pos h4, if_neg h5]⟩
      · exact ⟨fun _ => false, fun l => by unfold heldB; rw [if_neg h1, if_pos h2, if_pos h3, if_neg h4]; simp⟩
    · exact ⟨fun _ => false, fun l => by unfold heldB; rw [if_neg h1, if_pos h2, if_neg h3]; simp⟩
  · exact ⟨fun _ => false, fun l => by unfold heldB; rw [if_neg h1, if_neg h2]; simp⟩
theorem awake_true (k : Nat) : fareboxlaw20_awake.f (k + 1) = some true := rfl
theorem held_f (k : Nat) (l0_0 : List (S49)) (l0_1 : List (S51)) (l0_2 : List (S53)) (a0_3 : Nat) (a0_4 a0_5 a0_6 a0_7 a0_8 a0_9 a0_10 a0_11 a0_12 a0_13 : Int) (l : List S35) (a2_0 a2_1 a2_2 a2_3 a2_4 : Int) (a2_5 : Bool) :
    refund_Held.f (k + 1) l0_0 l0_1 l0_2 a0_3 a0_4 a0_5 a0_6 a0_7 a0_8 a0_9 a0_10 a0_11 a0_12 a0_13 l a2_0 a2_1 a2_2 a2_3 a2_4 a2_5 = some (heldB a0_12 l a2_0 a2_1 a2_2 a2_3 a2_4) := rfl
theorem mixed_l0 (l : List S35) (hl : l.length * 24 ≤ 140737488351232) (l0_0 : List (S49)) (l0_1 : List (S51)) (l0_2 : List (S53)) (a0_3 : Nat) (a0_4 a0_5 a0_6 a0_7 a0_8 a0_9 a0_10 a0_11 a0_12 a0_13 a2_0 a2_1 a2_2 a2_3 a2_4 : Int) (a2_5 : Bool) (q : S35 → Bool) (hq : ∀ l, heldB a0_12 l a2_0 a2_1 a2_2 a2_3 a2_4 = l.any q) :
    ∀ i : Nat, i ≤ l.length → fareboxlaw20_RefundMixed.l0 (i + 2) l true (l.any q) (l.drop i).reverse ((l.drop i).any q) ((i : Int) - 1) l0_0 l0_1 l0_2 a0_3 a0_4 a0_5 a0_6 a0_7 a0_8 a0_9 a0_10 a0_11 a0_12 a0_13 a2_0 a2_1 a2_2 a2_3 a2_4 a2_5 = some true := by
  intro i
  induction i with
  | zero =>
    intro _
    rw [fareboxlaw20_RefundMixed.l0, if_neg (by omega)]
    rw [held_f 0, Option.bind_some, hq]
    simp
  | succ i ih =>
    intro hi
    have hlt : i < l.length := by omega
    have e : ((i + 1 : Nat) : Int) - 1 = (i : Int) := by omega
    have w1 : wrap64 ((i : Int) + 1) = ((i + 1 : Nat) : Int) := by unfold wrap64; omega
    have w2 : wrap64 ((i : Int) - 1) = (i : Int) - 1 := by unfold wrap64; omega
    have hr : rd_T35 l (i : Int) = l[i] := by unfold rd_T35; simp [List.getD_eq_getElem?_getD, List.getElem?_eq_getElem hlt]
    have hc : (l.take (((i + 1 : Nat) : Int)).toNat).drop ((i : Int)).toNat = [l[i]] := by
      rw [Int.toNat_natCast, Int.toNat_natCast, List.take_succ_eq_append_getElem hlt, List.drop_append_of_le_length (by rw [List.length_take]; omega)]
      rw [List.drop_eq_nil_of_le (by rw [List.length_take]; omega)]
      rfl
    have hd : (l.drop i).reverse = (l.drop (i + 1)).reverse ++ [l[i]] := by rw [drop_cons l i hlt, List.reverse_cons]
    have ha : (l.drop i).any q = (q l[i] || (l.drop (i + 1)).any q) := by rw [drop_cons l i hlt, List.any_cons]
    have := ih (by omega)
    rw [hd, ha] at this
    rw [e, fareboxlaw20_RefundMixed.l0, if_pos (by omega), if_pos (by omega), if_pos (by omega), if_pos (by rw [List.length_reverse, List.length_drop]; omega), hr, Option.bind_some, w1, w2, if_pos (by omega), if_pos (by omega), hc]
    rw [held_f (i + 1), Option.bind_some, hq, List.any_cons, List.any_nil, Bool.or_false]
    by_cases hx : (l.drop (i + 1)).any q = true
    · rw [if_pos hx]
      rw [hx, Bool.or_true] at this
      exact this
    · have hx' : (l.drop (i + 1)).any q = false := by simpa using hx
      rw [if_neg hx]
      rw [hx', Bool.or_false] at this
      exact this
theorem mixed_true (l : List S35) (hl : l.length * 24 ≤ 140737488351232) (l0_0 : List (S49)) (l0_1 : List (S51)) (l0_2 : List (S53)) (a0_3 : Nat) (a0_4 a0_5 a0_6 a0_7 a0_8 a0_9 a0_10 a0_11 a0_12 a0_13 a2_0 a2_1 a2_2 a2_3 a2_4 : Int) (a2_5 : Bool) :
    ∃ k, fareboxlaw20_RefundMixed.f k l0_0 l0_1 l0_2 a0_3 a0_4 a0_5 a0_6 a0_7 a0_8 a0_9 a0_10 a0_11 a0_12 a0_13 l a2_0 a2_1 a2_2 a2_3 a2_4 a2_5 = some true := by
  obtain ⟨q, hq⟩ := held_any a0_12 a2_0 a2_1 a2_2 a2_3 a2_4
  refine ⟨l.length + 2, ?_⟩
  unfold fareboxlaw20_RefundMixed.f
  rw [awake_true (l.length + 1), Option.bind_some]
  rw [held_f (l.length + 1), Option.bind_some, hq]
  have w : wrap64 ((l.length : Int) - 1) = (l.length : Int) - 1 := by unfold wrap64; omega
  rw [w]
  have := mixed_l0 l hl l0_0 l0_1 l0_2 a0_3 a0_4 a0_5 a0_6 a0_7 a0_8 a0_9 a0_10 a0_11 a0_12 a0_13 a2_0 a2_1 a2_2 a2_3 a2_4 a2_5 q hq l.length (Nat.le_refl _)
  rw [List.drop_length, List.reverse_nil, List.any_nil] at this
  exact this
end Go.Proofs.Ytafgogllekpmiaa.PR
