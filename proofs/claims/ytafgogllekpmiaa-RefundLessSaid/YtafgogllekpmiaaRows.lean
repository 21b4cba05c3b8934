/-
  No cell of these rows narrows 'for every input' (looked for: loops, veiled, ifaces, maps, wideKeys, modest, calm, conditions, laid).
  DERIVED. THE GIVEN ROWS OF THIS SEAT. 3 by the template 'for every input the law returns true; each argument reads behind the call as it read before'; 0 by the template 'total and deterministic' (their statements: YtafgogllekpmiaaTotals.lean).
  GIVEN WITH THE SEED: the statements are not yours to turn. If you find one false, say at which input.
  Laid BY PROGRAM, IN A SANDBOX (cutbox-rows.mjs): the forced cells as the released guide's own fill.sh prints them over the translation e0976c54a9f621d2… (all of the seat's roots in one cut). By AI agents, Wed Nov 11 2026. No macro, syntax, notation, axiom, sorry.
-/
import Derived.Test.YtafgogllekpmiaaChecked
import GoSem.Claim
import GoSem.ClaimJoined
import GoSem.ClaimMapViews
import Derived.JoinedTies
import Derived.KernelRfl
namespace Go.Proofs.Ytafgogllekpmiaa
/- THE CELL 'sum', in the pinned program and in every row, IS THE sha256 OF THE DUMP (.gsa) THAT YtafgogllekpmiaaProg.lean LOADS. Nothing in Lean hashes anything: it is a label: what it is worth is what the hold of that sum in a sandbox is worth. -/
noncomputable def Try.pinned : Pinned := { name := "ytafgogllekpmiaa", sum := "e0976c54a9f621d25e4a945e13371f77613b5038bef5cc2710cbf5b2b3cc0118", checked := Try.checked }
namespace Rows
def none {H : Type} : Left H := { results := [], args := [] }

/-- 'fareboxlaw20.RefundAsks': WHATEVER THE INPUT: true; the input reads as it did. -/
def refundAsksSpec : ChangeSpec := { name := "refundAsks", fn := fun _ => fun
  | [d1, d2, d3, d4] => { results := [.lit (.bool true)], args := [d1, d2, d3, d4] }
  | _ => none }
def refundAsksRow : OpenClaim := { program := "ytafgogllekpmiaa", sum := "e0976c54a9f621d25e4a945e13371f77613b5038bef5cc2710cbf5b2b3cc0118", func := "farebox/fareboxlaw20.RefundAsks", spec := "refundAsks", inPlace := ["math.Float64bits"], unfollowed := true, recurses := true, apart := false }
def RefundAsksSaid : Prop := refundAsksRow.holds Try.pinned (OpenSpec.ofChange refundAsksSpec)

/-- ITS FALSE NEIGHBOUR: 'it returns false'. Refute it at one input. -/
def refundAsksWrong : ChangeSpec := { name := "refundAsks", fn := fun _ => fun
  | [d1, d2, d3, d4] => { results := [.lit (.bool false)], args := [d1, d2, d3, d4] }
  | _ => none }
def RefundAsksWrongFalsely : Prop := refundAsksRow.holds Try.pinned (OpenSpec.ofChange refundAsksWrong)

/-- 'fareboxlaw20.RefundLess': WHATEVER THE INPUT: true; the input reads as it did. -/
def refundLessSpec : ChangeSpec := { name := "refundLess", fn := fun _ => fun
  | [d1, d2, d3, d4] => { results := [.lit (.bool true)], args := [d1, d2, d3, d4] }
  | _ => none }
def refundLessRow : OpenClaim := { program := "ytafgogllekpmiaa", sum := "e0976c54a9f621d25e4a945e13371f77613b5038bef5cc2710cbf5b2b3cc0118", func := "farebox/fareboxlaw20.RefundLess", spec := "refundLess", inPlace := ["math.Float64bits"], unfollowed := true, recurses := true, apart := false }
def RefundLessSaid : Prop := refundLessRow.holds Try.pinned (OpenSpec.ofChange refundLessSpec)

/-- ITS FALSE NEIGHBOUR: 'it returns false'. Refute it at one input. -/
def refundLessWrong : ChangeSpec := { name := "refundLess", fn := fun _ => fun
  | [d1, d2, d3, d4] => { results := [.lit (.bool false)], args := [d1, d2, d3, d4] }
  | _ => none }
def RefundLessWrongFalsely : Prop := refundLessRow.holds Try.pinned (OpenSpec.ofChange refundLessWrong)

/-- 'fareboxlaw20.RefundMixed': WHATEVER THE INPUT: true; the input reads as it did. -/
def refundMixedSpec : ChangeSpec := { name := "refundMixed", fn := fun _ => fun
  | [d1, d2, d3] => { results := [.lit (.bool true)], args := [d1, d2, d3] }
  | _ => none }
def refundMixedRow : OpenClaim := { program := "ytafgogllekpmiaa", sum := "e0976c54a9f621d25e4a945e13371f77613b5038bef5cc2710cbf5b2b3cc0118", func := "farebox/fareboxlaw20.RefundMixed", spec := "refundMixed", inPlace := ["math.Float64bits"], unfollowed := true, recurses := true, apart := false }
def RefundMixedSaid : Prop := refundMixedRow.holds Try.pinned (OpenSpec.ofChange refundMixedSpec)

/-- ITS FALSE NEIGHBOUR: 'it returns false'. Refute it at one input. -/
def refundMixedWrong : ChangeSpec := { name := "refundMixed", fn := fun _ => fun
  | [d1, d2, d3] => { results := [.lit (.bool false)], args := [d1, d2, d3] }
  | _ => none }
def RefundMixedWrongFalsely : Prop := refundMixedRow.holds Try.pinned (OpenSpec.ofChange refundMixedWrong)

/- THE SECOND FORM. 'bulk': how many values and letters a reading holds, each counted each time it is reached (what is shared counts as often as it is met; a slice's spare places count too). A statement '..UptoSaid' is the law's where the arguments, and the package variables that the reading takes, are together of bulk at most 1048576: NARROWER than '..Said'. Prove '..Said' where nothing that the law and all that it calls make is longer than what came in: it says more and counts as full. Else prove '..UptoSaid'. A law counts once. -/
mutual
def uptoBulk {H : Type} : DataW H → Nat
  | .lit (.string bytes) => bytes.length + 1
  | .lit _ => 1
  | .nil => 1
  | .ptr d => uptoBulk d + 1
  | .slice elems spare => uptoBulkAll elems + uptoBulkAll spare + 1
  | .agg parts => uptoBulkAll parts + 1
  | .iface _ d => uptoBulk d + 1
  | .map entries => uptoBulkEntries entries + 1
  | .held _ => 1
def uptoBulkAll {H : Type} : List (DataW H) → Nat
  | [] => 0
  | d :: r => uptoBulk d + uptoBulkAll r
def uptoBulkEntries {H : Type} : List (Lit × DataW H) → Nat
  | [] => 0
  | x :: r => uptoBulkEntry x + uptoBulkEntries r
def uptoBulkEntry {H : Type} : Lit × DataW H → Nat
  | (.string bytes, d) => bytes.length + uptoBulk d + 1
  | (_, d) => uptoBulk d + 1
 end
def uptoSmall : (H : Type) → List (DataW H) → Bool := fun _ ds => decide (uptoBulkAll ds ≤ 1048576)
def OpenSpec.upto (s : _root_.Go.ChangeSpec) : _root_.Go.OpenSpec := { _root_.Go.OpenSpec.ofChange s with cond := some uptoSmall }

/-- 'fareboxlaw20.RefundAsks', WHERE WHAT IT READS IS OF BULK AT MOST 1048576: true; the input reads as it did. -/
def refundAsksUptoRow : OpenClaim := { program := "ytafgogllekpmiaa", sum := "e0976c54a9f621d25e4a945e13371f77613b5038bef5cc2710cbf5b2b3cc0118", func := "farebox/fareboxlaw20.RefundAsks", spec := "refundAsks", inPlace := ["math.Float64bits"], unfollowed := true, recurses := true, apart := false, narrowed := true }
def RefundAsksUptoSaid : Prop := refundAsksUptoRow.holds Try.pinned (OpenSpec.upto refundAsksSpec)

/-- 'fareboxlaw20.RefundLess', WHERE WHAT IT READS IS OF BULK AT MOST 1048576: true; the input reads as it did. -/
def refundLessUptoRow : OpenClaim := { program := "ytafgogllekpmiaa", sum := "e0976c54a9f621d25e4a945e13371f77613b5038bef5cc2710cbf5b2b3cc0118", func := "farebox/fareboxlaw20.RefundLess", spec := "refundLess", inPlace := ["math.Float64bits"], unfollowed := true, recurses := true, apart := false, narrowed := true }
def RefundLessUptoSaid : Prop := refundLessUptoRow.holds Try.pinned (OpenSpec.upto refundLessSpec)

/-- 'fareboxlaw20.RefundMixed', WHERE WHAT IT READS IS OF BULK AT MOST 1048576: true; the input reads as it did. -/
def refundMixedUptoRow : OpenClaim := { program := "ytafgogllekpmiaa", sum := "e0976c54a9f621d25e4a945e13371f77613b5038bef5cc2710cbf5b2b3cc0118", func := "farebox/fareboxlaw20.RefundMixed", spec := "refundMixed", inPlace := ["math.Float64bits"], unfollowed := true, recurses := true, apart := false, narrowed := true }
def RefundMixedUptoSaid : Prop := refundMixedUptoRow.holds Try.pinned (OpenSpec.upto refundMixedSpec)

end Rows
end Go.Proofs.Ytafgogllekpmiaa
