/- 'fareboxlaw08.RecordKeys' returns true whatever the input, and the input reads as it did. -/
import Derived.Test.YtgmbfecfkdbfaaaRows
import Derived.Test.YtgmbfecfkdbfaaaMRecordKeys4
import Derived.WalkKit
import Derived.ProofKit
import Derived.OpenShut
import Derived.ShutString
import Derived.ChangeOld
import Derived.Below
import Derived.SizedLaws
namespace Go.Proofs.Ytgmbfecfkdbfaaa.recordKeys
open Go.ChangeShapes Go.WideShapes Go.ChangeAt Go.RowKit Go.Deep
open Go.ChangeMaps (open_string shut_string)
open Go.Proofs.Ytgmbfecfkdbfaaa.Wi Go.Proofs.YtgmbfecfkdbfaaaW.PrintWords Go.Proofs.YtgmbfecfkdbfaaaX
set_option linter.unusedVariables false
theorem own : ownKnob Try.prog.godebug = none := by kernel_rfl
theorem laidOut : laidOutB Try.prog = true := by kernel_rfl
def kTp : Kd Tp := Kd.iso (Kd.pair kI (Kd.pair kI (Kd.pair kS (Kd.pair kI (Kd.pair kI kI))))) (fun t : Tp => (t.n0, t.n1, t.y, t.n3, t.n4, t.n5))
theorem kTp_open {w : World} {t : Tp} {cs : List Value} (h : kTp.K w t cs) : cs = [.int .i64 t.n0, .int .i64 t.n1, .string t.y, .int .i64 t.n3, .int .i64 t.n4, .int .i64 t.n5] ∧ t.Ok := by
  obtain ⟨_, _, rfl, ⟨rfl, h0⟩, ⟨_, _, rfl, ⟨rfl, h1⟩, ⟨_, _, rfl, ⟨rfl, h2⟩, ⟨_, _, rfl, ⟨rfl, h3⟩, ⟨_, _, rfl, ⟨rfl, h4⟩, ⟨rfl, h5⟩⟩⟩⟩⟩⟩ := h
  exact ⟨rfl, ⟨h0, h1, h2, h3, h4, h5⟩⟩
theorem opTp : Opn Try.prog kTp 23 :=
  Opn.struct Try.underlying23 (by kernel_rfl) (OpnF.iso (fun t => ⟨t.1, t.2.1, t.2.2.1, t.2.2.2.1, t.2.2.2.2.1, t.2.2.2.2.2⟩) (fun _ => rfl)
    (OpnF.cons rfl (opI Try.underlying3 (by kernel_rfl)) (OpnF.cons rfl (opI Try.underlying3 (by kernel_rfl)) (OpnF.cons rfl (opS Try.underlying9 (by kernel_rfl)) (OpnF.cons rfl (opI Try.underlying3 (by kernel_rfl)) (OpnF.cons rfl (opI Try.underlying3 (by kernel_rfl)) (OpnF.last rfl (opI Try.underlying3 (by kernel_rfl)))))))))
set_option maxRecDepth 100000 in
theorem lifted (os : Os) (started : os.Started) (H : Type) (enc : TypeId × Value → H) :
    ReturnsInHanded {} Try.checked os 4 .any (Rows.recordKeysSpec.pre6 enc Try.prog Try.f4 Rows.recordKeysRow.domain false) (Rows.recordKeysSpec.post enc Try.prog Try.f4 false true false false) := by
  refine returnsInHanded_of_change_sized (C := Try.checked) own started (by kernel_rfl) Try.func4
    (ChangeSpec.witness6 (enc := enc) (C := Try.checked) false ⟨#[], #[(.agg #[.int .i64 0, .int .i64 0, .string ⟨#[]⟩, .int .i64 0, .int .i64 0, .int .i64 0]), (.agg #[.int .i64 0, .int .i64 0, .string ⟨#[]⟩, .int .i64 0, .int .i64 0, .int .i64 0])], []⟩ 8 (by kernel_rfl) (by kernel_rfl) (by kernel_rfl) (by kernel_rfl)) ?_
  intro W base args ds gs before hval0 hW hcnd hsz0 _
  have hsz : (DataW.weightsEach Try.prog (Try.f4.params.toList ++ Rows.recordKeysSpec.plain.varTypes Try.prog) (ds ++ gs)).all (· ≤ reachBytes) = true := hsz0
  have hval : ∀ (j : Nat) t v, Try.f4.params[j]? = some t → args[j]? = some v → Value.okWide Try.prog W .any base t v := hval0
  have hW' := hW
  obtain ⟨p, q, hA0, hV, rfl, hfz, hnd⟩ := hW
  have hA : DataW.TrodAll enc Try.prog W 0 (fun _ => true) true Try.f4.params.toList args.toList ds p := hA0
  rw [Try.params4] at hA hval hsz
  obtain ⟨v0, vs0, d0, ds0, p0, q0, hargs, rfl, rfl, h0, r0⟩ := trodAll_cons hA
  obtain ⟨v1, vs1, d1, ds1, p1, q1, rfl, rfl, rfl, h1, r1⟩ := trodAll_cons r0
  obtain ⟨rfl, rfl, rfl⟩ := trodAll_nil r1
  obtain rfl : args = #[v0, v1] := by cases args; simp_all
  obtain ⟨rfl, rfl⟩ := trodVars_none hV
  have k0 := h0
  have lt0 : ∀ x ∈ p0, x.block < W.heap.size := by obtain ⟨m, hm⟩ := k0; exact DataW.trod_lt m _ _ _ hm
  have k1 := h1
  have lt1 : ∀ x ∈ p1, x.block < W.heap.size := by obtain ⟨m, hm⟩ := k1; exact DataW.trod_lt m _ _ _ hm
  obtain ⟨t0, cs0, rfl, K0⟩ := Opn.arg opTp Try.underlying23 (hval 0 23 v0 rfl rfl) h0
  obtain ⟨ec0, z0⟩ := kTp_open K0
  obtain rfl : cs0 = #[.int .i64 t0.n0, .int .i64 t0.n1, .string t0.y, .int .i64 t0.n3, .int .i64 t0.n4, .int .i64 t0.n5] := by
    apply Array.ext'
    rw [ec0]
  obtain ⟨t1, cs1, rfl, K1⟩ := Opn.arg opTp Try.underlying23 (hval 1 23 v1 rfl rfl) h1
  obtain ⟨ec1, z1⟩ := kTp_open K1
  obtain rfl : cs1 = #[.int .i64 t1.n0, .int .i64 t1.n1, .string t1.y, .int .i64 t1.n3, .int .i64 t1.n4, .int .i64 t1.n5] := by
    apply Array.ext'
    rw [ec1]
  clear hA0 hval0 hsz0 hsz
  refine (recordKeys_calls t0 z0 t1 z1 W ).mono fun e W' ⟨he, bel⟩ => ?_
  subst he
  exact ⟨_, rfl, _, _, _, [], _, [], hW', trodAll_mk1 (shut_bool Try.underlying4 _), (trodAll_cons_mk (Below.trod laidOut (by kernel_rfl) (of_decide_eq_true (by kernel_rfl)) k0 bel lt0) (trodAll_cons_mk (Below.trod laidOut (by kernel_rfl) (of_decide_eq_true (by kernel_rfl)) k1 bel lt1) trodAll_mk0)), rfl, bel.frame _, fun h => by cases h⟩
theorem over : Rows.recordKeysRow.holds Try.pinned (OpenSpec.ofChange Rows.recordKeysSpec) :=
  OpenClaim.holds_of_wide 4 Try.f4 rfl rfl rfl rfl rfl rfl rfl ⟨rfl, rfl, rfl, rfl, rfl⟩ rfl rfl rfl rfl rfl (by kernel_rfl) Try.func4 (by kernel_rfl)
    (of_decide_eq_true (by kernel_rfl)) (by unfold Func.isWrapper; first | (rw [if_pos (by decide +kernel)]; kernel_rfl) | (rw [if_neg (by decide +kernel)]; exact ⟨rfl, rfl⟩))
    (fun os started H enc _ => lifted os started H enc)
theorem proved : Rows.RecordKeysSaid := over
#print axioms proved
end Go.Proofs.Ytgmbfecfkdbfaaa.recordKeys
namespace Go.Proofs.Ytgmbfecfkdbfaaa
/-- The row, under a short name, for the claim. -/
theorem recordKeys_holds : Rows.RecordKeysSaid := recordKeys.proved
end Go.Proofs.Ytgmbfecfkdbfaaa
