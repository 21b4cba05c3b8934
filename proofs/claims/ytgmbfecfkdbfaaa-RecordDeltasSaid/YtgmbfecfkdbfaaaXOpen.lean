/- Arguments of any kind opened at once: 'Opn P k t' says that what is trod at type t is read by the printed words' kind k. -/
import Derived.Test.YtgmbfecfkdbfaaaXF64
import Derived.Deep.Slices
import Derived.Deep.Fields
import Derived.ChangeSame
import Derived.ChangeArms
import Derived.SizedLaws
import Derived.ChangeSlices
set_option linter.unusedVariables false
namespace Go.Proofs.YtgmbfecfkdbfaaaX
open Go.ChangeShapes Go.WideShapes Go.Deep Go.Proofs.YtgmbfecfkdbfaaaW.PrintWords
/-- What is trod at type t is one of k's. -/
def Opn (P : Program) {α : Type} (k : Kd α) (t : TypeId) : Prop :=
  P.cellsOf t = k.sz ∧ ∀ (H : Type) (enc : TypeId × Value → H) (w : World) (base : Nat) (spare : Nat → Bool) (held : Bool) (fuel : Nat) (cs : List Value) (x : DataW H × List MemPlace), DataW.trod enc P w base spare held fuel t cs = some x → ∃ a, k.K w a cs
/-- The same for a struct's fields from a place on. -/
def OpnF (P : Program) {α : Type} (k : Kd α) (fs : List Field) (off : Nat) : Prop :=
  ∀ (H : Type) (enc : TypeId × Value → H) (w : World) (base : Nat) (spare : Nat → Bool) (held : Bool) (n : Nat) (cs : List Value), (∀ (f : Field), f ∈ fs → ∃ y, DataW.trod enc P w base spare held n f.type ((cs.drop f.offset).take (P.cellsOf f.type)) = some y) → ∃ a, k.K w a ((cs.drop off).take k.sz)
section
variable {P : Program} {α β : Type} {k : Kd α} {k' : Kd β} {t e : TypeId}
theorem Opn.int {i : IntKind} (h : P.underlying t = some (.int i)) (hc : P.cellsOf t = 1) : Opn P (Kd.int i) t := ⟨hc, fun H enc w base spare held fuel cs x hx => by
  obtain ⟨n, rfl, _⟩ := DataW.trod_int h hx
  exact ⟨n, rfl⟩⟩
theorem Opn.bool (h : P.underlying t = some .bool) (hc : P.cellsOf t = 1) : Opn P Kd.bool t := ⟨hc, fun H enc w base spare held fuel cs x hx => by
  obtain ⟨n, rfl, _⟩ := DataW.trod_bool h hx
  exact ⟨n, rfl⟩⟩
theorem Opn.string (h : P.underlying t = some .string) (hc : P.cellsOf t = 1) : Opn P Kd.string t := ⟨hc, fun H enc w base spare held fuel cs x hx => by
  obtain ⟨n, rfl, _⟩ := DataW.trod_string h hx
  exact ⟨n, rfl⟩⟩
theorem Opn.f64 (h : P.underlying t = some (.float .f64)) (hc : P.cellsOf t = 1) : Opn P Kd.f64 t := ⟨hc, fun H enc w base spare held fuel cs x hx => by
  cases fuel with
  | zero => simp [DataW.trod] at hx
  | succ n =>
    unfold DataW.trod at hx
    rw [h] at hx
    split at hx <;> simp_all
    rename_i he
    subst he
    exact ⟨_, rfl⟩⟩
theorem OpnF.last {f : Field} {off : Nat} (ho : f.offset = off) (h : Opn P k f.type) : OpnF P k [f] off := fun H enc w base spare held n cs hf => by
  obtain ⟨y, hy⟩ := hf f (List.mem_singleton.2 rfl)
  rw [ho, h.1] at hy
  exact h.2 _ _ _ _ _ _ _ _ _ hy
theorem OpnF.cons {f : Field} {fs : List Field} {off : Nat} (ho : f.offset = off) (h : Opn P k f.type) (h' : OpnF P k' fs (off + k.sz)) : OpnF P (Kd.pair k k') (f :: fs) off := fun H enc w base spare held n cs hf => by
  obtain ⟨y, hy⟩ := hf f List.mem_cons_self
  rw [ho, h.1] at hy
  obtain ⟨a, ha⟩ := h.2 _ _ _ _ _ _ _ _ _ hy
  obtain ⟨b, hb⟩ := h' H enc w base spare held n cs (fun g hg => hf g (List.mem_cons_of_mem _ hg))
  refine ⟨(a, b), (cs.drop off).take k.sz, (cs.drop (off + k.sz)).take k'.sz, ?_, ha, hb⟩
  show (cs.drop off).take (k.sz + k'.sz) = _
  rw [List.take_add, List.drop_drop]
theorem OpnF.iso {f : β → α} {fs : List Field} {off : Nat} (g : α → β) (hg : ∀ a, f (g a) = a) (h : OpnF P k fs off) : OpnF P (Kd.iso k f) fs off := fun H enc w base spare held n cs hf => by
  obtain ⟨a, ha⟩ := h H enc w base spare held n cs hf
  refine ⟨g a, ?_⟩
  show k.K w (f (g a)) _
  rw [hg]
  exact ha
theorem Opn.struct {fs : Array Field} (h : P.underlying t = some (.struct fs)) (hc : P.cellsOf t = k.sz) (hf : OpnF P k fs.toList 0) : Opn P k t := ⟨hc, fun H enc w base spare held fuel cs x hx => by
  obtain ⟨xs, n, _, _, hl, hlen, hall⟩ := DataW.trod_struct h hx
  obtain ⟨a, ha⟩ := hf H enc w base spare held n cs (fun f hm => by
    obtain ⟨i, hi, he⟩ := List.getElem_of_mem hm
    have hi' : i < fs.size := by simpa using hi
    have := hall i f (by rw [Array.getElem?_eq_getElem hi']; simpa using he)
    rw [this]
    exact ⟨xs[i]'(by omega), List.getElem?_eq_getElem (by omega)⟩)
  rw [List.drop_zero, List.take_of_length_le (by omega)] at ha
  exact ⟨a, ha⟩⟩
theorem row_of {w : World} {base m : Nat} {A : Addr} {H : Type} {enc : TypeId × Value → H} {spare : Nat → Bool} {held : Bool} {n : Nat} {D : Nat → DataW H} {Pl : Nat → List MemPlace} (hk : Opn P k e)
    (hi : ∀ i, i < m → ∃ cs', w.cells? base (A.add (i * P.cellsOf e)) (P.cellsOf e) = some cs' ∧ DataW.trod enc P w base spare held n e cs' = some (D i, Pl i)) :
    ∃ l : List α, l.length = m ∧ ∀ j p, l[j]? = some p → ∃ c, c.length = k.sz ∧ k.K w p c ∧ ∀ i u, c[i]? = some u → w.cell? (A.add (j * k.sz + i)) = some u := by
  induction m with
  | zero => exact ⟨[], rfl, fun j p h => by simp at h⟩
  | succ m ih =>
    obtain ⟨l, hl, hall⟩ := ih (fun i h => hi i (by omega))
    obtain ⟨cs', hc, ht⟩ := hi m (Nat.lt_succ_self m)
    rw [hk.1] at hc
    obtain ⟨a, ha⟩ := hk.2 _ _ _ _ _ _ _ _ _ ht
    obtain ⟨_, hcl, hat⟩ := World.cells?_some hc
    refine ⟨l ++ [a], by simp [hl], fun j p hj => ?_⟩
    by_cases hjl : j < l.length
    · rw [List.getElem?_append_left hjl] at hj
      exact hall j p hj
    · rw [List.getElem?_append_right (by omega)] at hj
      have hj0 : j - l.length = 0 := by
        rcases Nat.eq_zero_or_pos (j - l.length) with h0 | h0
        · exact h0
        · rw [List.getElem?_eq_none (by simp; omega)] at hj
          cases hj
      rw [hj0] at hj
      have hap : a = p := by simpa using hj
      subst hap
      have hjm : j = m := by omega
      subst hjm
      refine ⟨cs', hcl, ha, fun i u hu => ?_⟩
      have hil : i < cs'.length := (List.getElem?_eq_some_iff.1 hu).1
      have := hat i (by omega)
      rw [← Go.Deep.add_add, this]
      exact hu
theorem Opn.slice (h : P.underlying t = some (.slice e)) (hc : P.cellsOf t = 1) (hk : Opn P k e) : Opn P (Kd.slice e k) t := ⟨hc, fun H enc w base spare held fuel cs x hx => by
  rcases open_slice h hx with ⟨rfl, _⟩ | ⟨A, len, cap, m, n, D, Pl, rfl, hb, hl, hm, hmm, _, hi⟩
  · exact ⟨[], none, 0, rfl, Nat.le_refl _, Kd.C_nil k w⟩
  · obtain ⟨l, hll, hall⟩ := row_of (m := len) hk (fun i h => hi i (by rw [hmm]; split <;> omega))
    refine ⟨l, some A, cap, by rw [hll], by omega, ⟨rfl, ?_, fun _ => ⟨A, rfl, hall⟩⟩⟩
    have : maxLen ≤ 9223372036854775807 := by decide
    omega⟩
/-- An argument that is a struct. -/
theorem Opn.arg {r : Reach} {b0 : Nat} {fs : Array Field} {H : Type} {enc : TypeId × Value → H} {w : World} {base : Nat} {spare : Nat → Bool} {held : Bool} {v : Value} {d : DataW H} {p : List MemPlace} (hk : Opn P k t) (hs : P.underlying t = some (.struct fs))
    (hv : Value.okWide P w r b0 t v) (h : DataW.Trod enc P w base spare held t v d p) : ∃ a cs, v = .agg cs ∧ k.K w a cs.toList := by
  obtain ⟨cs, rfl, hsz⟩ := okWide_struct hs hv
  obtain ⟨fuel, hf⟩ := h
  obtain ⟨a, ha⟩ := hk.2 _ _ _ _ _ _ _ _ _ hf
  exact ⟨a, cs, rfl, ha⟩
/-- An argument that is a slice: it is no longer than its weight allows. -/
theorem Opn.row {H : Type} {enc : TypeId × Value → H} {w : World} {base : Nat} {spare : Nat → Bool} {held : Bool} {a : Option Addr} {len cap : Nat} {d : DataW H} {ps : List MemPlace} {ts : List TypeId} {ds : List (DataW H)} {j : Nat}
    (hk : Opn P k e) (hu : P.underlying t = some (.slice e)) (hsz : (DataW.weightsEach P ts ds).all (· ≤ reachBytes) = true) (ht : ts[j]? = some t) (hd : ds[j]? = some d) {B : Nat} (hB : P.bytesOf e = B)
    (h : DataW.Trod enc P w base spare held t (.slice a len cap) d ps) : (∃ l : List α, l.length = len ∧ k.C w a len l) ∧ len ≤ cap ∧ len * B ≤ 140737488351232 := by
  obtain ⟨fuel, hf⟩ := h
  rcases open_slice hu hf with ⟨hcs, _⟩ | ⟨A, l', c', m, n, D, Pl, hcs, hb, hl, hm, hmm, hx, hi⟩
  · simp [Value.cells] at hcs
    obtain ⟨rfl, rfl, rfl⟩ := hcs
    exact ⟨⟨[], rfl, Kd.C_nil k w⟩, Nat.le_refl _, by simp⟩
  · simp [Value.cells] at hcs
    obtain ⟨rfl, rfl, rfl⟩ := hcs
    obtain ⟨l, hll, hall⟩ := row_of (m := len) hk (fun i h => hi i (by rw [hmm]; split <;> omega))
    have h9 : maxLen ≤ 9223372036854775807 := by decide
    refine ⟨⟨l, hll, hll, by omega, fun _ => ⟨A, rfl, hall⟩⟩, hl, ?_⟩
    obtain ⟨hx, _⟩ := Prod.mk.inj hx
    subst hx
    have z := sized_slice hsz ht hd hu
    rw [hB] at z
    simp only [List.length_map, List.length_range] at z
    exact Nat.le_trans (Nat.mul_le_mul_right _ (by omega)) z
end
end Go.Proofs.YtgmbfecfkdbfaaaX
