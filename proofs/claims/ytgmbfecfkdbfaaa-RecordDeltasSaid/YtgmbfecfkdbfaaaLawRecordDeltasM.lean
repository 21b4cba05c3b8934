/- 'fareboxlaw08.RecordDeltas' returns true whatever the input, and the input reads as it did. -/
import Derived.Test.YtgmbfecfkdbfaaaRows
import Derived.Test.YtgmbfecfkdbfaaaMRecordDeltas6
import Derived.WalkKit
import Derived.ProofKit
import Derived.OpenShut
import Derived.ShutString
import Derived.ChangeOld
import Derived.Below
import Derived.SizedLaws
namespace Go.Proofs.Ytgmbfecfkdbfaaa.recordDeltas
open Go.ChangeShapes Go.WideShapes Go.ChangeAt Go.RowKit Go.Deep
open Go.ChangeMaps (open_string shut_string)
open Go.Proofs.Ytgmbfecfkdbfaaa.Wi Go.Proofs.YtgmbfecfkdbfaaaW.PrintWords Go.Proofs.YtgmbfecfkdbfaaaX
set_option linter.unusedVariables false
theorem own : ownKnob Try.prog.godebug = none := by kernel_rfl
theorem laidOut : laidOutB Try.prog = true := by kernel_rfl
def kDelta : Kd Delta := Kd.iso (Kd.pair kI (Kd.pair (Kd.slice 9 kS) (Kd.slice 9 kS))) (fun t : Delta => (t.n0, t.l1, t.l2))
theorem el_S {w : World} {A : Option Addr} {l : List ByteArray} (h : kS.C w A l.length l) : ElAt encStr 1 w A l ∧ ∀ x ∈ l, StrOk x := by
  refine ⟨fun i hi => ?_, fun x hx => ?_⟩
  · obtain ⟨ad, c, e, _, hK, hc0⟩ := Kd.C_get h ⟨#[]⟩ (i : Int) (by omega) (by omega)
    simp only [Int.toNat_natCast] at hK hc0
    have hg : l.getD i ⟨#[]⟩ = l[i]'hi := by simp [List.getD_eq_getElem?_getD, List.getElem?_eq_getElem hi]
    rw [hg] at hK
    obtain ⟨rfl, hok⟩ := hK
    exact ⟨ad, e, hc0⟩
  · obtain ⟨i, hi, rfl⟩ := List.getElem_of_mem hx
    obtain ⟨ad, c, e, _, hK, hc0⟩ := Kd.C_get h ⟨#[]⟩ (i : Int) (by omega) (by omega)
    simp only [Int.toNat_natCast] at hK
    have hg : l.getD i ⟨#[]⟩ = l[i]'hi := by simp [List.getD_eq_getElem?_getD, List.getElem?_eq_getElem hi]
    rw [hg] at hK
    exact hK.2
theorem kDelta_open {w : World} {t : Delta} {cs : List Value} (h : kDelta.K w t cs) : ∃ A1 c1 A2 c2, cs = [.int .i64 t.n0, .slice A1 t.l1.length c1, .slice A2 t.l2.length c2] ∧ t.Ok ∧ t.At w A1 c1 A2 c2 ∧ t.l1.length ≤ 9223372036854775807 ∧ t.l2.length ≤ 9223372036854775807 := by
  obtain ⟨_, _, rfl, ⟨rfl, h1⟩, ⟨_, _, rfl, ⟨A1, c1, rfl, _, h2⟩, ⟨A2, c2, rfl, _, h3⟩⟩⟩ := h
  exact ⟨A1, c1, A2, c2, rfl, ⟨h1, (el_S h2).2, (el_S h3).2⟩, ⟨(el_S h2).1, (el_S h3).1⟩, h2.2.1, h3.2.1⟩
theorem opDelta : Opn Try.prog kDelta 60 :=
  Opn.struct Try.underlying60 (by kernel_rfl) (OpnF.iso (fun t => ⟨t.1, t.2.1, t.2.2⟩) (fun _ => rfl)
    (OpnF.cons rfl (opI Try.underlying3 (by kernel_rfl)) (OpnF.cons rfl (Opn.slice Try.underlying58 (by kernel_rfl) (opS Try.underlying9 (by kernel_rfl))) (OpnF.last rfl (Opn.slice Try.underlying58 (by kernel_rfl) (opS Try.underlying9 (by kernel_rfl))))))) 
set_option maxRecDepth 100000 in
theorem lifted (os : Os) (started : os.Started) (H : Type) (enc : TypeId × Value → H) :
    ReturnsInHanded {} Try.checked os 7 .any (Rows.recordDeltasSpec.pre6 enc Try.prog Try.f7 Rows.recordDeltasRow.domain false) (Rows.recordDeltasSpec.post enc Try.prog Try.f7 false true false false) := by
  refine returnsInHanded_of_change_sized (C := Try.checked) own started (by kernel_rfl) Try.func7
    (ChangeSpec.witness6 (enc := enc) (C := Try.checked) false ⟨#[], #[(.agg #[.int .i64 0, .slice none 0 0, .slice none 0 0]), .slice none 0 0], []⟩ 8 (by kernel_rfl) (by kernel_rfl) (by kernel_rfl) (by kernel_rfl)) ?_
  intro W base args ds gs before hval0 hW hcnd hsz0 _
  have hsz : (DataW.weightsEach Try.prog (Try.f7.params.toList ++ Rows.recordDeltasSpec.plain.varTypes Try.prog) (ds ++ gs)).all (· ≤ reachBytes) = true := hsz0
  have hval : ∀ (j : Nat) t v, Try.f7.params[j]? = some t → args[j]? = some v → Value.okWide Try.prog W .any base t v := hval0
  have hW' := hW
  obtain ⟨p, q, hA0, hV, rfl, hfz, hnd⟩ := hW
  have hA : DataW.TrodAll enc Try.prog W 0 (fun _ => true) true Try.f7.params.toList args.toList ds p := hA0
  rw [Try.params7] at hA hval hsz
  obtain ⟨v0, vs0, d0, ds0, p0, q0, hargs, rfl, rfl, h0, r0⟩ := trodAll_cons hA
  obtain ⟨v1, vs1, d1, ds1, p1, q1, rfl, rfl, rfl, h1, r1⟩ := trodAll_cons r0
  obtain ⟨rfl, rfl, rfl⟩ := trodAll_nil r1
  obtain rfl : args = #[v0, v1] := by cases args; simp_all
  obtain ⟨rfl, rfl⟩ := trodVars_none hV
  have k0 := h0
  have lt0 : ∀ x ∈ p0, x.block < W.heap.size := by obtain ⟨m, hm⟩ := k0; exact DataW.trod_lt m _ _ _ hm
  have k1 := h1
  have lt1 : ∀ x ∈ p1, x.block < W.heap.size := by obtain ⟨m, hm⟩ := k1; exact DataW.trod_lt m _ _ _ hm
  obtain ⟨t0, cs0, rfl, K0⟩ := Opn.arg opDelta Try.underlying60 (hval 0 60 v0 rfl rfl) h0
  obtain ⟨L1, k1_, L2, k2_, ec0, z0, at0, ln1, ln2⟩ := kDelta_open K0
  obtain rfl : cs0 = #[.int .i64 t0.n0, .slice L1 t0.l1.length k1_, .slice L2 t0.l2.length k2_] := by
    apply Array.ext'
    rw [ec0]
  obtain ⟨a1, len1, cap1, rfl⟩ := okWide_slice Try.underlying24 (hval 1 24 v1 rfl rfl)
  obtain ⟨⟨l1, hl1, C1⟩, b1, y1⟩ := Opn.row (j := 1) (t := 24) opByte Try.underlying24 hsz rfl rfl (B := 1) (by kernel_rfl) h1
  subst hl1
  clear hA0 hval0 hsz0 hsz
  refine (recordDeltas_calls t0 z0 L1 k1_ L2 k2_ a1 cap1 l1 W at0 ln1 ln2 C1 b1 (by omega)).mono fun e W' ⟨he, bel⟩ => ?_
  subst he
  exact ⟨_, rfl, _, _, _, [], _, [], hW', trodAll_mk1 (shut_bool Try.underlying4 _), (trodAll_cons_mk (Below.trod laidOut (by kernel_rfl) (of_decide_eq_true (by kernel_rfl)) k0 bel lt0) (trodAll_cons_mk (Below.trod laidOut (by kernel_rfl) (of_decide_eq_true (by kernel_rfl)) k1 bel lt1) trodAll_mk0)), rfl, bel.frame _, fun h => by cases h⟩
theorem over : Rows.recordDeltasRow.holds Try.pinned (OpenSpec.ofChange Rows.recordDeltasSpec) :=
  OpenClaim.holds_of_wide 7 Try.f7 rfl rfl rfl rfl rfl rfl rfl ⟨rfl, rfl, rfl, rfl, rfl⟩ rfl rfl rfl rfl rfl (by kernel_rfl) Try.func7 (by kernel_rfl)
    (of_decide_eq_true (by kernel_rfl)) (by unfold Func.isWrapper; first | (rw [if_pos (by decide +kernel)]; kernel_rfl) | (rw [if_neg (by decide +kernel)]; exact ⟨rfl, rfl⟩))
    (fun os started H enc _ => lifted os started H enc)
theorem proved : Rows.RecordDeltasSaid := over
#print axioms proved
end Go.Proofs.Ytgmbfecfkdbfaaa.recordDeltas
namespace Go.Proofs.Ytgmbfecfkdbfaaa
/-- The row, under a short name, for the claim. -/
theorem recordDeltas_holds : Rows.RecordDeltasSaid := recordDeltas.proved
end Go.Proofs.Ytgmbfecfkdbfaaa
