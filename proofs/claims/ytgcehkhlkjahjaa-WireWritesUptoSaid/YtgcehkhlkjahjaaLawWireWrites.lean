/- 'fareboxlaw01.WireWrites' returns true whatever the input (of bulk at most the bound of the Rows text), and the input reads as it did. -/
import Derived.Test.YtgcehkhlkjahjaaRows
import Derived.Test.YtgcehkhlkjahjaaWiO5
import Derived.WalkKit
import Derived.ProofKit
import Derived.OpenShut
import Derived.ShutString
import Derived.ChangeOld
import Derived.Below
import Derived.SizedLaws
import Derived.Deep.CondSized
import Derived.JoinedCond
namespace Go.Proofs.Ytgcehkhlkjahjaa.wireWrites
open Go.ChangeShapes Go.WideShapes Go.ChangeAt Go.RowKit Go.Deep
open Go.ChangeMaps (open_string shut_string)
open Go.Proofs.Ytgcehkhlkjahjaa.Wi Go.Proofs.YtgcehkhlkjahjaaW.PrintWords Go.Proofs.YtgcehkhlkjahjaaX
set_option linter.unusedVariables false
theorem own : ownKnob Try.prog.godebug = none := by kernel_rfl
theorem laidOut : laidOutB Try.prog = true := by kernel_rfl
theorem one_le {H : Type} (d : DataW H) : 1 ≤ Rows.uptoBulk d := by
  cases d with
  | lit l => cases l <;> simp [Rows.uptoBulk]
  | nil => simp [Rows.uptoBulk]
  | ptr d => simp [Rows.uptoBulk]
  | slice elems spare => simp [Rows.uptoBulk]
  | agg parts => simp [Rows.uptoBulk]
  | iface t d => simp [Rows.uptoBulk]
  | map entries => simp [Rows.uptoBulk]
  | held h => simp [Rows.uptoBulk]
theorem part_le {H : Type} {d : DataW H} {l : List (DataW H)} (h : d ∈ l) : Rows.uptoBulk d ≤ Rows.uptoBulkAll l := by
  induction l with
  | nil => cases h
  | cons x r ih =>
    simp only [Rows.uptoBulkAll]
    cases List.mem_cons.1 h with
    | inl e => subst e; omega
    | inr e => have := ih e; omega
theorem length_le {H : Type} (l : List (DataW H)) : l.length ≤ Rows.uptoBulkAll l := by
  induction l with
  | nil => simp [Rows.uptoBulkAll]
  | cons x r ih => have := one_le x; simp only [Rows.uptoBulkAll, List.length_cons]; omega
theorem len_le {H : Type} {enc : TypeId × Value → H} {w : World} {base : Nat} {spare : Nat → Bool} {held : Bool} {a : Option Addr} {len cap : Nat} {d : DataW H} {ps : List MemPlace} {t e : TypeId} {l : List (DataW H)}
    (hu : Try.prog.underlying t = some (.slice e)) (h : DataW.Trod enc Try.prog w base spare held t (.slice a len cap) d ps) (hd : d ∈ l) (hk : Rows.uptoSmall H l = true) : len ≤ 1048576 := by
  have hb : Rows.uptoBulkAll l ≤ 1048576 := by
    unfold Rows.uptoSmall at hk
    exact of_decide_eq_true hk
  have h1 := part_le hd
  obtain ⟨fuel, hf⟩ := h
  rcases open_slice hu hf with ⟨hcs, _⟩ | ⟨A, l', c', m, n, D, Pl, hcs, _, hl, _, hmm, hx, hi⟩
  · simp [Value.cells] at hcs
    omega
  · simp [Value.cells] at hcs
    obtain ⟨rfl, rfl, rfl⟩ := hcs
    obtain ⟨hx, _⟩ := Prod.mk.inj hx
    subst hx
    have h2 := length_le ((List.range len).map D)
    simp only [Rows.uptoBulk, List.length_map, List.length_range] at h1 h2
    omega
theorem bulk_part {H : Type} {d : DataW H} {parts : List (DataW H)} (h : d ∈ parts) : Rows.uptoBulk d ≤ Rows.uptoBulk (.agg parts) := by
  have := part_le h
  simp only [Rows.uptoBulk]
  omega
theorem str_le {H : Type} {enc : TypeId × Value → H} {w : World} {base : Nat} {spare : Nat → Bool} {held : Bool} {a : Option Addr} {len cap : Nat} {d : DataW H} {ps : List MemPlace} {l : List (DataW H)} {pcs : List Pc}
    (h : DataW.Trod enc Try.prog w base spare held 22 (.slice a len cap) d ps) (hd : d ∈ l) (hk : Rows.uptoSmall H l = true) (hC : kPc.C w a len pcs) : ∀ p ∈ pcs, p.s.size ≤ 140737488350000 := by
  have hb : Rows.uptoBulkAll l ≤ 1048576 := by
    unfold Rows.uptoSmall at hk
    exact of_decide_eq_true hk
  have h1 := part_le hd
  have hlen : pcs.length = len := hC.1
  obtain ⟨fuel, hf⟩ := h
  rcases open_slice Try.underlying22 hf with ⟨hcs, _⟩ | ⟨A, l', c', m, n, D, Pl, hcs, _, hl, _, hmm, hx, hi⟩
  · simp [Value.cells] at hcs
    intro p hp
    have : pcs = [] := List.eq_nil_of_length_eq_zero (by omega)
    rw [this] at hp
    cases hp
  · simp [Value.cells] at hcs
    obtain ⟨rfl, rfl, rfl⟩ := hcs
    obtain ⟨hx, _⟩ := Prod.mk.inj hx
    subst hx
    intro p hp
    obtain ⟨k, hkl, rfl⟩ := List.getElem_of_mem hp
    subst hlen
    obtain ⟨ad, e, _, _, _, _, _, _, d5⟩ := at_pc hC k hkl
    obtain rfl := Option.some.inj e
    obtain ⟨cs', hc, ht⟩ := hi k (by rw [hmm]; split <;> omega)
    have hce : Try.prog.cellsOf 34 = 6 := by kernel_rfl
    have hcs5 : Try.prog.cellsOf 9 = 1 := by kernel_rfl
    rw [hce] at hc
    obtain ⟨_, hcl, hat⟩ := World.cells?_some hc
    obtain ⟨xs, n', _, hxD, _, hxl, hall⟩ := DataW.trod_struct Try.underlying34 ht
    have h5 := hall 5 _ rfl
    change DataW.trod enc Try.prog w base spare held n' 9 ((cs'.drop 5).take (Try.prog.cellsOf 9)) = xs[5]? at h5
    have hxl6 : xs.length = 6 := hxl
    rw [hcs5, List.getElem?_eq_getElem (show 5 < xs.length by omega)] at h5
    obtain ⟨s, hs, hy, _⟩ := DataW.trod_string Try.underlying9 h5
    have hc5 : cs'[5]? = some (.string s) := by
      have h6 : ((cs'.drop 5).take 1)[0]? = some (.string s) := by rw [hs]; rfl
      rw [List.getElem?_take_of_lt (by omega), List.getElem?_drop] at h6
      exact h6
    have h6 := hat 5 (by omega)
    rw [hc5, Go.Deep.add_add, add_field _ _ 5 (by omega), d5] at h6
    injection h6 with h6
    injection h6 with h6
    have hDx : D k = .agg (xs.map (·.1)) := (Prod.mk.inj hxD).1
    have hmem : (xs[5]).1 ∈ xs.map (·.1) := List.mem_map.2 ⟨_, List.getElem_mem _, rfl⟩
    have hb1 := bulk_part hmem
    rw [← hDx, hy] at hb1
    simp only [Rows.uptoBulk] at hb1
    have hDm : D k ∈ (List.range pcs.length).map D := List.mem_map.2 ⟨k, List.mem_range.2 hkl, rfl⟩
    have hb2 := part_le hDm
    simp only [Rows.uptoBulk] at h1
    have hsz : s.data.toList.length = s.size := by rw [Array.length_toList]; rfl
    rw [h6]
    omega
set_option maxRecDepth 100000 in
theorem lifted (os : Os) (started : os.Started) (H : Type) (enc : TypeId × Value → H) (F : Stop.Interp) :
    ReturnsInHanded {} Try.checked os 3 .any ((Rows.OpenSpec.upto Rows.wireWritesSpec).pre6 enc Try.prog Try.f3 Rows.wireWritesUptoRow.domain false) (((Rows.OpenSpec.upto Rows.wireWritesSpec).at F).post enc Try.prog Try.f3 false true false false) := by
  refine returnsInHanded_of_cond_sized (C := Try.checked) (s := Rows.OpenSpec.upto Rows.wireWritesSpec) (k := Rows.uptoSmall) rfl own started (by kernel_rfl) Try.func3
    (OpenSpec.witness (enc := enc) (C := Try.checked) (s := Rows.OpenSpec.upto Rows.wireWritesSpec) (k := Rows.uptoSmall) rfl false ⟨#[], #[.slice none 0 0], []⟩ 8 (by kernel_rfl) (by kernel_rfl) (by kernel_rfl)
      (x := ([.nil], [], [])) (by kernel_rfl) rfl (by kernel_rfl)) ?_
  intro W base args ds gs before hval0 hW hcnd hk hsz0 _
  have hsz : (DataW.weightsEach Try.prog (Try.f3.params.toList ++ Rows.wireWritesSpec.plain.varTypes Try.prog) (ds ++ gs)).all (· ≤ reachBytes) = true := hsz0
  have hval : ∀ (j : Nat) t v, Try.f3.params[j]? = some t → args[j]? = some v → Value.okWide Try.prog W .any base t v := hval0
  have hW' := hW
  obtain ⟨p, q, hA0, hV, rfl, hfz, hnd⟩ := hW
  have hA : DataW.TrodAll enc Try.prog W 0 (fun _ => true) true Try.f3.params.toList args.toList ds p := hA0
  rw [Try.params3] at hA hval hsz
  obtain ⟨v0, vs0, d0, ds0, p0, q0, hargs, rfl, rfl, h0, r0⟩ := trodAll_cons hA
  obtain ⟨rfl, rfl, rfl⟩ := trodAll_nil r0
  obtain rfl : args = #[v0] := by cases args; simp_all
  obtain ⟨rfl, rfl⟩ := trodVars_none hV
  have k0 := h0
  have lt0 : ∀ x ∈ p0, x.block < W.heap.size := by obtain ⟨m, hm⟩ := k0; exact DataW.trod_lt m _ _ _ hm
  obtain ⟨a0, len0, cap0, rfl⟩ := okWide_slice Try.underlying22 (hval 0 22 v0 rfl rfl)
  have u0 := len_le Try.underlying22 h0 (by simp) hk
  obtain ⟨⟨l0, hl0, C0⟩, b0, y0⟩ := Opn.row (j := 0) (t := 22) opPc Try.underlying22 hsz rfl rfl (B := 56) (by kernel_rfl) h0
  have ss := str_le h0 (by simp) hk C0
  subst hl0
  clear hA0 hval0 hsz0 hsz
  refine (wireWrites_calls a0 cap0 l0 W C0 b0 u0 ss).mono fun e W' ⟨he, bel⟩ => ?_
  subst he
  exact ⟨_, rfl, _, _, _, [], _, [], hW', trodAll_mk1 (shut_bool Try.underlying4 _), (trodAll_cons_mk (Below.trod laidOut (by kernel_rfl) (of_decide_eq_true (by kernel_rfl)) k0 bel lt0) trodAll_mk0), rfl, bel.frame _, fun h => by cases h⟩
theorem over : Rows.wireWritesUptoRow.holds Try.pinned (Rows.OpenSpec.upto Rows.wireWritesSpec) :=
  OpenClaim.holds_of_cond 3 Try.f3 rfl rfl rfl rfl rfl rfl rfl ⟨rfl, rfl, rfl, rfl, rfl⟩ rfl rfl rfl rfl rfl (by kernel_rfl) Try.func3 (by kernel_rfl)
    (of_decide_eq_true (by kernel_rfl)) (by unfold Func.isWrapper; first | (rw [if_pos (by decide +kernel)]; kernel_rfl) | (rw [if_neg (by decide +kernel)]; exact ⟨rfl, rfl⟩))
    (fun os started H enc _ F => lifted os started H enc F)
theorem proved : Rows.WireWritesUptoSaid := over
#print axioms proved
end Go.Proofs.Ytgcehkhlkjahjaa.wireWrites
namespace Go.Proofs.Ytgcehkhlkjahjaa
/-- The row, under a short name, for the claim. -/
theorem wireWrites_holds : Rows.WireWritesUptoSaid := wireWrites.proved
end Go.Proofs.Ytgcehkhlkjahjaa
