/- 'fareboxlaw08.RecordMoney' returns true whatever the input, and the input reads as it did. -/
import Derived.Test.YtgmbfecfkdbfaaaRows
import Derived.Test.YtgmbfecfkdbfaaaMRecordMoney6
import Derived.WalkKit
import Derived.ProofKit
import Derived.OpenShut
import Derived.ShutString
import Derived.ChangeOld
import Derived.Below
import Derived.SizedLaws
namespace Go.Proofs.Ytgmbfecfkdbfaaa.recordMoney
open Go.ChangeShapes Go.WideShapes Go.ChangeAt Go.RowKit Go.Deep
open Go.ChangeMaps (open_string shut_string)
open Go.Proofs.Ytgmbfecfkdbfaaa.Wi Go.Proofs.YtgmbfecfkdbfaaaW.PrintWords Go.Proofs.YtgmbfecfkdbfaaaX
set_option linter.unusedVariables false
theorem own : ownKnob Try.prog.godebug = none := by kernel_rfl
theorem laidOut : laidOutB Try.prog = true := by kernel_rfl
def kEntry : Kd Entry := Kd.iso (Kd.pair kI (Kd.pair kS (Kd.pair kI Kd.bool))) (fun t : Entry => (t.n0, t.n1, t.n2, t.n3))
theorem kEntry_open {w : World} {t : Entry} {cs : List Value} (h : kEntry.K w t cs) : cs = [.int .i64 t.n0, .string t.n1, .int .i64 t.n2, .bool t.n3] ∧ t.Ok := by
  obtain ⟨_, _, rfl, ⟨rfl, h0⟩, ⟨_, _, rfl, ⟨rfl, h1⟩, ⟨_, _, rfl, ⟨rfl, h2⟩, rfl⟩⟩⟩ := h
  exact ⟨rfl, ⟨h0, h1, h2⟩⟩
theorem opEntry : Opn Try.prog kEntry 40 :=
  Opn.struct Try.underlying40 (by kernel_rfl) (OpnF.iso (fun t => ⟨t.1, t.2.1, t.2.2.1, t.2.2.2⟩) (fun _ => rfl)
    (OpnF.cons rfl (opI Try.underlying3 (by kernel_rfl)) (OpnF.cons rfl (opS Try.underlying9 (by kernel_rfl)) (OpnF.cons rfl (opI Try.underlying3 (by kernel_rfl)) (OpnF.last rfl (Opn.bool Try.underlying4 (by kernel_rfl)))))))
def kAccount : Kd Account := Kd.iso (Kd.pair kS (Kd.pair kI kI)) (fun t : Account => (t.n0, t.n1, t.n2))
theorem kAccount_open {w : World} {t : Account} {cs : List Value} (h : kAccount.K w t cs) : cs = [.string t.n0, .int .i64 t.n1, .int .i64 t.n2] ∧ t.Ok := by
  obtain ⟨_, _, rfl, ⟨rfl, h0⟩, ⟨_, _, rfl, ⟨rfl, h1⟩, ⟨rfl, h2⟩⟩⟩ := h
  exact ⟨rfl, ⟨h0, h1, h2⟩⟩
theorem opAccount : Opn Try.prog kAccount 42 :=
  Opn.struct Try.underlying42 (by kernel_rfl) (OpnF.iso (fun t => ⟨t.1, t.2.1, t.2.2⟩) (fun _ => rfl)
    (OpnF.cons rfl (opS Try.underlying9 (by kernel_rfl)) (OpnF.cons rfl (opI Try.underlying3 (by kernel_rfl)) (OpnF.last rfl (opI Try.underlying3 (by kernel_rfl))))))
set_option maxRecDepth 100000 in
theorem lifted (os : Os) (started : os.Started) (H : Type) (enc : TypeId × Value → H) :
    ReturnsInHanded {} Try.checked os 5 .any (Rows.recordMoneySpec.pre6 enc Try.prog Try.f5 Rows.recordMoneyRow.domain false) (Rows.recordMoneySpec.post enc Try.prog Try.f5 false true false false) := by
  refine returnsInHanded_of_change_sized (C := Try.checked) own started (by kernel_rfl) Try.func5
    (ChangeSpec.witness6 (enc := enc) (C := Try.checked) false ⟨#[], #[(.agg #[.int .i64 0, .string ⟨#[]⟩, .int .i64 0, .bool false]), (.agg #[.string ⟨#[]⟩, .int .i64 0, .int .i64 0]), .slice none 0 0], []⟩ 8 (by kernel_rfl) (by kernel_rfl) (by kernel_rfl) (by kernel_rfl)) ?_
  intro W base args ds gs before hval0 hW hcnd hsz0 _
  have hsz : (DataW.weightsEach Try.prog (Try.f5.params.toList ++ Rows.recordMoneySpec.plain.varTypes Try.prog) (ds ++ gs)).all (· ≤ reachBytes) = true := hsz0
  have hval : ∀ (j : Nat) t v, Try.f5.params[j]? = some t → args[j]? = some v → Value.okWide Try.prog W .any base t v := hval0
  have hW' := hW
  obtain ⟨p, q, hA0, hV, rfl, hfz, hnd⟩ := hW
  have hA : DataW.TrodAll enc Try.prog W 0 (fun _ => true) true Try.f5.params.toList args.toList ds p := hA0
  rw [Try.params5] at hA hval hsz
  obtain ⟨v0, vs0, d0, ds0, p0, q0, hargs, rfl, rfl, h0, r0⟩ := trodAll_cons hA
  obtain ⟨v1, vs1, d1, ds1, p1, q1, rfl, rfl, rfl, h1, r1⟩ := trodAll_cons r0
  obtain ⟨v2, vs2, d2, ds2, p2, q2, rfl, rfl, rfl, h2, r2⟩ := trodAll_cons r1
  obtain ⟨rfl, rfl, rfl⟩ := trodAll_nil r2
  obtain rfl : args = #[v0, v1, v2] := by cases args; simp_all
  obtain ⟨rfl, rfl⟩ := trodVars_none hV
  have k0 := h0
  have lt0 : ∀ x ∈ p0, x.block < W.heap.size := by obtain ⟨m, hm⟩ := k0; exact DataW.trod_lt m _ _ _ hm
  have k1 := h1
  have lt1 : ∀ x ∈ p1, x.block < W.heap.size := by obtain ⟨m, hm⟩ := k1; exact DataW.trod_lt m _ _ _ hm
  have k2 := h2
  have lt2 : ∀ x ∈ p2, x.block < W.heap.size := by obtain ⟨m, hm⟩ := k2; exact DataW.trod_lt m _ _ _ hm
  obtain ⟨t0, cs0, rfl, K0⟩ := Opn.arg opEntry Try.underlying40 (hval 0 40 v0 rfl rfl) h0
  obtain ⟨ec0, z0⟩ := kEntry_open K0
  obtain rfl : cs0 = #[.int .i64 t0.n0, .string t0.n1, .int .i64 t0.n2, .bool t0.n3] := by
    apply Array.ext'
    rw [ec0]
  obtain ⟨t1, cs1, rfl, K1⟩ := Opn.arg opAccount Try.underlying42 (hval 1 42 v1 rfl rfl) h1
  obtain ⟨ec1, z1⟩ := kAccount_open K1
  obtain rfl : cs1 = #[.string t1.n0, .int .i64 t1.n1, .int .i64 t1.n2] := by
    apply Array.ext'
    rw [ec1]
  obtain ⟨a2, len2, cap2, rfl⟩ := okWide_slice Try.underlying24 (hval 2 24 v2 rfl rfl)
  obtain ⟨⟨l2, hl2, C2⟩, b2, y2⟩ := Opn.row (j := 2) (t := 24) opByte Try.underlying24 hsz rfl rfl (B := 1) (by kernel_rfl) h2
  subst hl2
  clear hA0 hval0 hsz0 hsz
  refine (recordMoney_calls t0 z0 t1 z1 a2 cap2 l2 W C2 b2 (by omega)).mono fun e W' ⟨he, bel⟩ => ?_
  subst he
  exact ⟨_, rfl, _, _, _, [], _, [], hW', trodAll_mk1 (shut_bool Try.underlying4 _), (trodAll_cons_mk (Below.trod laidOut (by kernel_rfl) (of_decide_eq_true (by kernel_rfl)) k0 bel lt0) (trodAll_cons_mk (Below.trod laidOut (by kernel_rfl) (of_decide_eq_true (by kernel_rfl)) k1 bel lt1) (trodAll_cons_mk (Below.trod laidOut (by kernel_rfl) (of_decide_eq_true (by kernel_rfl)) k2 bel lt2) trodAll_mk0))), rfl, bel.frame _, fun h => by cases h⟩
theorem over : Rows.recordMoneyRow.holds Try.pinned (OpenSpec.ofChange Rows.recordMoneySpec) :=
  OpenClaim.holds_of_wide 5 Try.f5 rfl rfl rfl rfl rfl rfl rfl ⟨rfl, rfl, rfl, rfl, rfl⟩ rfl rfl rfl rfl rfl (by kernel_rfl) Try.func5 (by kernel_rfl)
    (of_decide_eq_true (by kernel_rfl)) (by unfold Func.isWrapper; first | (rw [if_pos (by decide +kernel)]; kernel_rfl) | (rw [if_neg (by decide +kernel)]; exact ⟨rfl, rfl⟩))
    (fun os started H enc _ => lifted os started H enc)
theorem proved : Rows.RecordMoneySaid := over
#print axioms proved
end Go.Proofs.Ytgmbfecfkdbfaaa.recordMoney
namespace Go.Proofs.Ytgmbfecfkdbfaaa
/-- The row, under a short name, for the claim. -/
theorem recordMoney_holds : Rows.RecordMoneySaid := recordMoney.proved
end Go.Proofs.Ytgmbfecfkdbfaaa
