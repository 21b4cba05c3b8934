/- What fareboxlaw20.RefundLess computes is true, whatever the tariff, the outages (no more of them than memory bears) and the journeys. -/
import Derived.Test.YtafgogllekpmiaaPRx8
import Derived.Test.YtafgogllekpmiaaPureRefundMixed
set_option linter.unusedVariables false
namespace Go.Proofs.Ytafgogllekpmiaa.PR
open Go.RowKit Go.Proofs.YtafgogllekpmiaaW.PrintWords Go.Proofs.YtafgogllekpmiaaW.PrintLast Go.Proofs.YtafgogllekpmiaaW.PrintMore
theorem heldP_f0 (dl : Int) (lo : List S35) (x : S37) : (heldP dl lo x).f0 = x.f0 := by
  unfold heldP
  split <;> rfl
theorem heldP_f1 (dl : Int) (lo : List S35) (x : S37) : (heldP dl lo x).f1 = x.f1 ∨ (heldP dl lo x).f1 = 0 := by
  unfold heldP
  split
  · exact .inr rfl
  · exact .inl rfl
theorem heldP_nil (dl : Int) (x : S37) : heldP dl [] x = x := by
  unfold heldP
  obtain ⟨q, hq⟩ := held_any dl x.f0.f0 x.f0.f1 x.f0.f2 x.f0.f3 x.f0.f4
  rw [hq, if_neg (by simp)]
theorem heldP_twice (dl : Int) (lo : List S35) (x : S37) : heldP dl lo (heldP dl lo x) = heldP dl lo x := by
  by_cases h : heldB dl lo x.f0.f0 x.f0.f1 x.f0.f2 x.f0.f3 x.f0.f4 = true
  · have e : heldP dl lo x = ⟨x.f0, 0⟩ := by unfold heldP; rw [if_pos h]
    rw [e]
    unfold heldP
    rw [if_pos h]
  · have e : heldP dl lo x = x := by unfold heldP; rw [if_neg h]
    rw [e, e]
theorem heldP_more (dl : Int) (l m : List S35) (x : S37) : (heldP dl (l ++ m) x).f1 = (heldP dl l x).f1 ∨ (heldP dl (l ++ m) x).f1 = 0 := by
  obtain ⟨q, hq⟩ := held_any dl x.f0.f0 x.f0.f1 x.f0.f2 x.f0.f3 x.f0.f4
  unfold heldP
  rw [hq, hq, List.any_append]
  by_cases h : l.any q = true
  · rw [h, Bool.true_or]
    exact .inl rfl
  · have h' : l.any q = false := by simpa using h
    rw [h', Bool.false_or]
    split
    · exact .inr rfl
    · exact .inl rfl
theorem rd_at (p : List S37) (i : Nat) (h : i < p.length) : rd_T37 p (i : Int) = p[i] := by
  unfold rd_T37
  simp [List.getD_eq_getElem?_getD, List.getElem?_eq_getElem h]
theorem same_l0 (p : List S37) (hp : p.length ≤ 2000) : ∀ (d i : Nat), p.length - i = d → i ≤ p.length → fareboxref18_Same.l0 (d + 1) p p (i : Int) = some true := by
  intro d
  induction d with
  | zero =>
    intro i h1 h2
    rw [fareboxref18_Same.l0, if_neg (by omega)]
  | succ d ih =>
    intro i h1 h2
    have hlt : i < p.length := by omega
    have w1 : wrap64 ((i : Int) + 1) = ((i + 1 : Nat) : Int) := by unfold wrap64; omega
    rw [fareboxref18_Same.l0, if_pos (by omega), if_pos (by omega), if_pos (by omega), w1, if_neg (by simp)]
    exact ih (i + 1) (by omega) (by omega)
theorem same_f (p : List S37) (hp : p.length ≤ 2000) (k : Nat) (hk : p.length + 1 ≤ k) : fareboxref18_Same.f k p p = some true := by
  have h : fareboxref18_Same.f (p.length + 1) p p = some true := by
    unfold fareboxref18_Same.f
    rw [if_pos rfl]
    exact same_l0 p hp p.length 0 (by omega) (by omega)
  exact at_rounds (fareboxref18_Same.mono p p) hk h
theorem less_l0 (p : List S37) (hp : p.length ≤ 2000) (dl : Int) (l m : List S35) (b : List S37) (h : Int) (hb : h = 0 → b = p.map (heldP dl (l ++ m))) :
    ∀ (d i : Nat), p.length - i = d → i ≤ p.length → fareboxlaw20_RefundLess.l0 (d + 1) p (p.map (heldP dl l)) b h (i : Int) = some true := by
  intro d
  induction d with
  | zero =>
    intro i h1 h2
    rw [fareboxlaw20_RefundLess.l0, if_neg (by rw [List.length_map]; omega)]
  | succ d ih =>
    intro i h1 h2
    have hlt : i < p.length := by omega
    have w1 : wrap64 ((i : Int) + 1) = ((i + 1 : Nat) : Int) := by unfold wrap64; omega
    have ea : rd_T37 (p.map (heldP dl l)) (i : Int) = heldP dl l p[i] := by rw [rd_at _ _ (by rw [List.length_map]; exact hlt), List.getElem_map]
    have ih' := ih (i + 1) (by omega) (by omega)
    rw [fareboxlaw20_RefundLess.l0, if_pos (by rw [List.length_map]; omega), if_pos (by omega), if_pos (by omega), w1, ea, rd_at p i hlt, if_neg (by rw [heldP_f0]; simp)]
    have last : (if h = 0 then (if (i : Int) < (b.length : Int) then (if (rd_T37 b (i : Int)).f1 = (heldP dl l p[i]).f1 then (fareboxlaw20_RefundLess.l0 (d + 1) p (p.map (heldP dl l)) b h ((i + 1 : Nat) : Int)) else (if (rd_T37 b (i : Int)).f1 = 0 then (fareboxlaw20_RefundLess.l0 (d + 1) p (p.map (heldP dl l)) b h ((i + 1 : Nat) : Int)) else (some false))) else (none)) else (fareboxlaw20_RefundLess.l0 (d + 1) p (p.map (heldP dl l)) b h ((i + 1 : Nat) : Int))) = some true := by
      by_cases c2 : h = 0
      · have hb' := hb c2
        have hbl : b.length = p.length := by rw [hb', List.length_map]
        have eb : rd_T37 b (i : Int) = heldP dl (l ++ m) p[i] := by
          subst hb'
          rw [rd_at _ _ (by rw [List.length_map]; exact hlt), List.getElem_map]
        rw [if_pos c2, if_pos (by omega), eb]
        by_cases c3 : (heldP dl (l ++ m) p[i]).f1 = (heldP dl l p[i]).f1
        · rw [if_pos c3]
          exact ih'
        · rw [if_neg c3, if_pos ((heldP_more dl l m p[i]).resolve_left c3)]
          exact ih'
      · rw [if_neg c2]
        exact ih'
    by_cases c1 : (heldP dl l p[i]).f1 = (p[i]).f1
    · rw [if_pos c1]
      exact last
    · rw [if_neg c1, if_pos ((heldP_f1 dl l p[i]).resolve_left c1)]
      exact last
theorem applyF_zero {rt dl : Int} {lo : List S35} {p : List S37} (h : (applyF rt dl lo p).2 = 0) : rt = 0 ∧ outsR lo = 0 ∧ ¬ 2000 < p.length := by
  by_cases h0 : rt = 0
  · subst h0
    by_cases h1 : outsR lo = 0
    · refine ⟨rfl, h1, fun h2 => ?_⟩
      rw [applyF_long h1 h2] at h
      exact absurd h (by decide)
    · rw [applyF_outs h1] at h
      exact absurd h h1
  · rw [applyF_bad h0] at h
    exact absurd h h0
theorem applyF_err {rt dl : Int} {lo : List S35} {p : List S37} (h : (applyF rt dl lo p).2 ≠ 0) : (applyF rt dl lo p).1 = [] := by
  by_cases h0 : rt = 0
  · subst h0
    by_cases h1 : outsR lo = 0
    · by_cases h2 : 2000 < p.length
      · rw [applyF_long h1 h2]
      · rw [applyF_ok h1 h2] at h
        exact absurd rfl h
    · rw [applyF_outs h1]
  · rw [applyF_bad h0]
theorem outsR_len {lo : List S35} (h : outsR lo = 0) : lo.length ≤ 100 := by
  unfold outsR at h
  by_cases h1 : 100 < lo.length
  · rw [if_pos (.inl h1)] at h
    exact absurd h (by decide)
  · omega
theorem apply_f (k : Nat) (l0_0 : List (S49)) (l0_1 : List (S51)) (l0_2 : List (S53)) (a0_3 : Nat) (a0_4 a0_5 a0_6 a0_7 a0_8 a0_9 a0_10 a0_11 a0_12 a0_13 : Int) (l : List S35) (p : List S37) :
    refund_Apply.f (k + 1) l0_0 l0_1 l0_2 a0_3 a0_4 a0_5 a0_6 a0_7 a0_8 a0_9 a0_10 a0_11 a0_12 a0_13 l p = some (applyF (tariffR l0_0 l0_1 l0_2 a0_3 a0_4 a0_5 a0_6 a0_7 a0_8 a0_9 a0_10 a0_11 a0_12 a0_13) a0_12 l p) := rfl
theorem less_true (l m : List S35) (p : List S37) (hm : m.length * 24 ≤ 140737488351232) (l0_0 : List (S49)) (l0_1 : List (S51)) (l0_2 : List (S53)) (a0_3 : Nat) (a0_4 a0_5 a0_6 a0_7 a0_8 a0_9 a0_10 a0_11 a0_12 a0_13 : Int) :
    ∃ k, fareboxlaw20_RefundLess.f k l0_0 l0_1 l0_2 a0_3 a0_4 a0_5 a0_6 a0_7 a0_8 a0_9 a0_10 a0_11 a0_12 a0_13 l m p = some true := by
  refine ⟨p.length + 5, ?_⟩
  unfold fareboxlaw20_RefundLess.f
  rw [awake_true (p.length + 4), Option.bind_some, apply_f (p.length + 4), Option.bind_some, if_pos rfl, fareboxlaw20_RefundLess.j0]
  generalize ht : tariffR l0_0 l0_1 l0_2 a0_3 a0_4 a0_5 a0_6 a0_7 a0_8 a0_9 a0_10 a0_11 a0_12 a0_13 = rt
  by_cases he : (applyF rt a0_12 l p).2 = 0
  case neg =>
    rw [if_pos (by simpa using he), if_pos rfl, applyF_err he]
    rfl
  obtain ⟨rfl, h1, h2⟩ := applyF_zero he
  have hl := outsR_len h1
  rw [if_neg (by rw [he]; decide)]
  have ea : applyF 0 a0_12 l p = (p.map (heldP a0_12 l), 0) := applyF_ok h1 h2
  have en : applyF 0 a0_12 [] p = (p, 0) := by
    rw [applyF_ok (by rfl) h2]
    congr 1
    exact (List.map_congr_left (fun x _ => heldP_nil a0_12 x)).trans (List.map_id' p)
  have eg : applyF 0 a0_12 l (p.map (heldP a0_12 l)) = (p.map (heldP a0_12 l), 0) := by
    rw [applyF_ok h1 (by rw [List.length_map]; exact h2), List.map_map]
    congr 1
    exact List.map_congr_left (fun x _ => heldP_twice a0_12 l x)
  rw [ea]
  simp only []
  rw [apply_f (p.length + 3), Option.bind_some, ht, en, apply_f (p.length + 3), Option.bind_some, ht, eg, if_pos (by simp; omega), Option.bind_some, if_pos (by simp; omega), apply_f (p.length + 3), Option.bind_some, ht]
  simp only []
  rw [same_f p (by omega) _ (by omega), Option.bind_some, same_f (p.map (heldP a0_12 l)) (by rw [List.length_map]; omega) _ (by rw [List.length_map]; omega), Option.bind_some, if_pos rfl, if_pos rfl, if_pos trivial, if_pos trivial, fareboxlaw20_RefundLess.j1, if_neg (by simp)]
  have hb : ∀ (bb : List S37 × Int), bb = applyF 0 a0_12 ([] ++ l ++ m) p → bb.2 = 0 → bb.1 = p.map (heldP a0_12 (l ++ m)) := by
    intro bb e h
    subst e
    obtain ⟨_, h3, h4⟩ := applyF_zero h
    rw [applyF_ok h3 h4, List.nil_append]
  have := less_l0 p (by omega) a0_12 l m _ _ (hb _ rfl) p.length 0 (by omega) (by omega)
  exact at_rounds (g := fun k => fareboxlaw20_RefundLess.l0 k p (p.map (heldP a0_12 l)) _ _ 0) (fun k => (fareboxlaw20_RefundLess.mono_l k).2.2 _ _ _ _ _) (by omega) this
end Go.Proofs.Ytafgogllekpmiaa.PR
