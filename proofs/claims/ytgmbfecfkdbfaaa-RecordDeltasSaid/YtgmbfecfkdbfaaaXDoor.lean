/- A region that draws its order in a function that defers: the way out by a panic is told of the world alone, and what of the frame the deferred calls look at ('keep') is shown to stand behind each operation. -/
import Derived.OrdersHeld
import Derived.Defers
import Derived.RegionTactic
set_option linter.unusedVariables false
namespace Go.Proofs.YtgmbfecfkdbfaaaX
open Go
section
variable {P : Program} {ops : Array Oper} {Q : Exit → Act → World → Prop} {md : Region.Mode} {S : World → Prop} {R : List PanicEntry → World → Prop} {keep : Act → Prop}
/-- Q, but a panic is told of the world alone. -/
def doorQ (R : List PanicEntry → World → Prop) (Q : Exit → Act → World → Prop) : Exit → Act → World → Prop
  | .panic c, _, w => R c w
  | e, a, w => Q e a w
/-- Whatever order is picked; 'S' and 'keep' are shown anew behind each operation. -/
def wpAnyG (P : Program) (md : Region.Mode) (ops : Array Oper) (Q : Exit → Act → World → Prop) (S : World → Prop) (keep : Act → Prop) : Nat → Array Bool → Act → World → Prop
  | 0, listed, a, w => Region.ready md ops listed = [] ∧ Q .normal a w
  | fuel + 1, listed, a, w =>
    (Region.ready md ops listed = [] → Q .normal a w) ∧
    ∀ i ∈ Region.ready md ops listed, wpOp P ops Q i (fun a' w' => S w' ∧ keep a' ∧ wpAnyG P md ops Q S keep fuel (listed.setIfInBounds i true) a' w') a w
theorem letsOut_door (h : LetsOut (doorQ R Q)) : LetsOut Q := by
  obtain ⟨a, w, h⟩ := h
  exact ⟨a, w, h⟩
theorem wpOp_door {i : Nat} {a : Act} {w : World} {K K2 : Act → World → Prop} (hQ : ∀ c a w, keep a → R c w → Q (.panic c) a w) (hk : keep a) (hK : ∀ a w, K a w → K2 a w)
    (h : wpOp P ops (doorQ R Q) i K a w) : wpOp P ops Q i K2 a w := by
  unfold wpOp at *
  split
  · rename_i ho
    simp only [ho] at h
    exact hK _ _ h
  · rename_i o ho
    simp only [ho] at h
    split
    · rename_i hw
      simp only [hw, if_true] at h
      rcases h with h | ⟨h1, h2⟩
      · refine .inl ?_
        unfold Oper.wp at *
        generalize (execOp a.eval o).run P w = r at *
        cases r with
        | ok n w' =>
          cases n <;> simp only [Oper.upon] at h ⊢
          case value => exact hK _ _ h
          case skip => exact hK _ _ h
          case defer => exact hK _ _ h
          case enter => exact Calls.mono h (fun e w'' he => by cases e <;> first | exact hK _ _ he | exact hQ _ _ _ hk he | exact letsOut_door he)
          case row => exact Rows.mono h (fun v w'' he => hK _ _ he)
        | halt x w' =>
          cases x <;> simp only [Oper.upon] at h ⊢
          case panic => exact hQ _ _ _ hk h
      · exact .inr ⟨h1, letsOut_door h2⟩
    · rename_i hw
      simp only [hw] at h
      exact hK _ _ h
theorem wpAny_of_G (hQ : ∀ c a w, keep a → R c w → Q (.panic c) a w) : ∀ (fuel : Nat) (listed : Array Bool) (a : Act) (w : World), keep a → wpAnyG P md ops (doorQ R Q) S keep fuel listed a w → wpAny P md ops Q fuel listed a w
  | 0, _, _, _, _, h => h
  | fuel + 1, _, _, _, hk, h => ⟨h.1, fun i hi => wpOp_door hQ hk (fun a' w' h' => wpAny_of_G hQ fuel _ a' w' h'.2.1 h'.2.2) (h.2 i hi)⟩
theorem wpAnyG_first {i : Nat} {oi : Oper} {v : Value} (hi : ops[i]? = some oi) (hsel : ∀ (j : Nat) (o : Oper) cs b, ops[j]? = some o → o.op ≠ .select cs b) (hk : ∀ a u, keep (a.put oi.dst u) ↔ keep a) :
    ∀ (fuel : Nat) (listed : Array Bool) (a : Act) (w : World),
      (∀ j oj, ops[j]? = some oj → j ≠ i → listed.getD j true = false → (∀ e ∈ oj.after, Region.binds md e = true → e.on ≠ i) → oi.apart ops oj = true) →
      i ∈ Region.ready md ops listed → YieldsIf P ops S oi v a → S w → keep a →
      wpAnyG P md ops (doorQ R Q) S keep fuel (listed.setIfInBounds i true) (a.put oi.dst v) w → wpAnyG P md ops (doorQ R Q) S keep (fuel + 1) listed a w := by
  intro fuel
  induction fuel with
  | zero =>
    intro listed a w _ hr hy hS hka H
    refine ⟨fun h => (by rw [h] at hr; cases hr), fun j hj => ?_⟩
    by_cases hji : j = i
    · subst hji; exact hy.wpOp hi hS ⟨hS, (hk _ _).2 hka, H⟩
    · have := ready_mono hj hji
      rw [H.1] at this
      cases this
  | succ fuel ih =>
    intro listed a w hfree hr hy hS hka H
    refine ⟨fun h => (by rw [h] at hr; cases hr), fun j hj => ?_⟩
    by_cases hji : j = i
    · subst hji; exact hy.wpOp hi hS ⟨hS, (hk _ _).2 hka, H⟩
    · have h1 := H.2 j (ready_mono hj hji)
      obtain ⟨hjun, oj, hoj, hall⟩ := mem_ready.1 hj
      have hnot : ∀ e ∈ oj.after, Region.binds md e = true → e.on ≠ i := fun e he hb heq => by
        have h1 := hall e he hb
        have h0 := (mem_ready.1 hr).1
        rw [heq] at h1
        rcases Nat.lt_or_ge i listed.size with h' | h'
        · simp [h'] at h0 h1; rw [h0] at h1; cases h1
        · simp [Array.getElem?_eq_none h'] at h1
      have h2 := wpOp_putIf hoj (hfree j oj hoj hji hjun hnot) (fun cs b => hsel i oi cs b hi) (fun cs b => hsel j oj cs b hoj) (fun _ _ _ h => h) hy h1
      have hfree' : ∀ k ok, ops[k]? = some ok → k ≠ i → (listed.setIfInBounds j true).getD k true = false →
          (∀ e ∈ ok.after, Region.binds md e = true → e.on ≠ i) → oi.apart ops ok = true := fun k ok hk hki hun hno => by
        refine hfree k ok hk hki ?_ hno
        by_cases hjk : j = k
        · subst hjk; exact hjun
        · rw [getD_set_ne true hjk] at hun; exact hun
      refine wpOp_mono (fun a' w' h3 => ?_) h2
      have hka' : keep a' := (hk _ _).1 h3.2.2.1
      refine ⟨h3.2.1, hka', ih (listed.setIfInBounds j true) a' w' hfree' (ready_mono hr (Ne.symm hji)) h3.1 h3.2.1 hka' ?_⟩
      rw [Array.setIfInBounds_comm _ _ hji]
      exact h3.2.2.2
/-- Take number i first. -/
theorem wpAnyG_take (i : Nat) {oi : Oper} {v : Value} {fuel : Nat} {listed : Array Bool} {a : Act} {w : World} (hi : ops[i]? = some oi)
    (hs : Region.noSelect ops = true) (hf : Region.free md ops listed i = true) (hr : (Region.ready md ops listed).contains i = true)
    (hk : ∀ a u, keep (a.put oi.dst u) ↔ keep a) (hS : S w) (hka : keep a) (hw : Region.wanted oi (yielded ops a.tmps) = true) (hy : ∀ W, S W → (execOp a.eval oi).run P W = .ok (.value v) W)
    (h : wpAnyG P md ops (doorQ R Q) S keep fuel (listed.setIfInBounds i true) (a.put oi.dst v) w) : wpAnyG P md ops (doorQ R Q) S keep (fuel + 1) listed a w :=
  wpAnyG_first hi (Region.noSelect_spec hs) hk fuel listed a w (Region.free_spec hi hf) (by simpa using hr) (.inl ⟨hw, hy⟩) hS hka h
/-- One alone may come up. -/
theorem wpAnyG_one (i : Nat) {o : Oper} {fuel : Nat} {listed : Array Bool} {a : Act} {w : World} (ho : ops[i]? = some o) (hr : Region.ready md ops listed = [i]) (hw : Region.wanted o (yielded ops a.tmps) = true)
    (h : ∀ K : Act → World → Prop, (∀ a' w', S w' → keep a' → wpAnyG P md ops (doorQ R Q) S keep fuel (listed.setIfInBounds i true) a' w' → K a' w') → Oper.wp P o a w K (doorQ R Q)) : wpAnyG P md ops (doorQ R Q) S keep (fuel + 1) listed a w := by
  refine ⟨fun h0 => (by rw [hr] at h0; cases h0), fun j hj => ?_⟩
  rw [hr] at hj
  obtain rfl : j = i := by simpa using hj
  unfold wpOp
  rw [ho]
  show if Region.wanted o (yielded ops a.tmps) = true then _ else _
  rw [if_pos hw]
  exact .inl (h _ fun a' w' h1 h2 h3 => ⟨h1, h2, h3⟩)
theorem wpAnyG_done {listed : Array Bool} {a : Act} {w : World} (hr : Region.ready md ops listed = []) (h : Q .normal a w) : ∀ fuel, wpAnyG P md ops (doorQ R Q) S keep fuel listed a w
  | 0 => ⟨hr, h⟩
  | _ + 1 => ⟨fun _ => h, by rw [hr]; simp⟩
/-- THE BEGINNING. -/
theorem wp_region_door (keep : Act → Prop) (R : List PanicEntry → World → Prop) (S : World → Prop) {id : Nat} {a : Act} {w : World} (hm : P.follows .mixedOrders = true) (hk : keep a)
    (hQ : ∀ c a w, keep a → R c w → Q (.panic c) a w) (h : wpAnyG P .any ops (doorQ R Q) S keep ops.size (Array.replicate ops.size false) a w.drew) : (Code.region id ops true).wp P Q a w :=
  wp_region_any hm (wpAny_of_G hQ _ _ _ _ hk h)
end
/-- what the deferred calls look at: the calls themselves, and one slot -/
def keepD (D : List Deferred) (d : Nat) (v : Value) (a : Act) : Prop := a.defers = D ∧ a.tmps[d]? = some v
theorem keepD_put {D : List Deferred} {d : Nat} {v : Value} {x : Option Tmp} (hx : x ≠ some d) (a : Act) (u : Value) : keepD D d v (a.put x u) ↔ keepD D d v a := by
  cases x with
  | none => rfl
  | some x =>
    have h : x ≠ d := fun e => hx (by rw [e])
    simp [keepD, Act.put, h]
/-- where the results lie nowhere in the frame: the calls alone -/
def keepC (D : List Deferred) (a : Act) : Prop := a.defers = D
theorem keepC_put {D : List Deferred} {x : Option Tmp} (a : Act) (u : Value) : keepC D (a.put x u) ↔ keepC D a := by cases x <;> exact Iff.rfl
end Go.Proofs.YtgmbfecfkdbfaaaX
