/-
  No cell of these rows narrows 'for every input' (looked for: loops, veiled, ifaces, maps, wideKeys, modest, calm, conditions, laid).
  DERIVED. THE GIVEN ROWS OF THIS SEAT. 6 by the template 'for every input the law returns true; each argument reads behind the call as it read before'; 0 by the template 'total and deterministic' (their statements: YtgmbfecfkdbfaaaTotals.lean).
  GIVEN WITH THE SEED: the statements are not yours to turn. If you find one false, say at which input.
  Laid BY PROGRAM, IN A SANDBOX (cutbox-rows.mjs): the forced cells as the released guide's own fill.sh prints them over the translation ee96b5cfe6bd76ec… (all of the seat's roots in one cut). By AI agents, Wed Nov 11 2026. No macro, syntax, notation, axiom, sorry.
-/
import Derived.Test.YtgmbfecfkdbfaaaChecked
import GoSem.Claim
import GoSem.ClaimJoined
import GoSem.ClaimMapViews
import Derived.JoinedTies
import Derived.KernelRfl
namespace Go.Proofs.Ytgmbfecfkdbfaaa
/- THE CELL 'sum', in the pinned program and in every row, IS THE sha256 OF THE DUMP (.gsa) THAT YtgmbfecfkdbfaaaProg.lean LOADS. Nothing in Lean hashes anything: it is a label: what it is worth is what the hold of that sum in a sandbox is worth. -/
noncomputable def Try.pinned : Pinned := { name := "ytgmbfecfkdbfaaa", sum := "ee96b5cfe6bd76ec513bdf0c5bae3ce84b7a9388314faf1ed6dd25b8b9292bf8", checked := Try.checked }
namespace Rows
def none {H : Type} : Left H := { results := [], args := [] }

/-- 'fareboxlaw08.RecordTaps': WHATEVER THE INPUT: true; the input reads as it did. -/
def recordTapsSpec : ChangeSpec := { name := "recordTaps", fn := fun _ => fun
  | [d1, d2] => { results := [.lit (.bool true)], args := [d1, d2] }
  | _ => none }
def recordTapsRow : OpenClaim := { program := "ytgmbfecfkdbfaaa", sum := "ee96b5cfe6bd76ec513bdf0c5bae3ce84b7a9388314faf1ed6dd25b8b9292bf8", func := "farebox/fareboxlaw08.RecordTaps", spec := "recordTaps", unfollowed := true, recurses := true, apart := false }
def RecordTapsSaid : Prop := recordTapsRow.holds Try.pinned (OpenSpec.ofChange recordTapsSpec)

/-- ITS FALSE NEIGHBOUR: 'it returns false'. Refute it at one input. -/
def recordTapsWrong : ChangeSpec := { name := "recordTaps", fn := fun _ => fun
  | [d1, d2] => { results := [.lit (.bool false)], args := [d1, d2] }
  | _ => none }
def RecordTapsWrongFalsely : Prop := recordTapsRow.holds Try.pinned (OpenSpec.ofChange recordTapsWrong)

/-- 'fareboxlaw08.RecordKeys': WHATEVER THE INPUT: true; the input reads as it did. -/
def recordKeysSpec : ChangeSpec := { name := "recordKeys", fn := fun _ => fun
  | [d1, d2] => { results := [.lit (.bool true)], args := [d1, d2] }
  | _ => none }
def recordKeysRow : OpenClaim := { program := "ytgmbfecfkdbfaaa", sum := "ee96b5cfe6bd76ec513bdf0c5bae3ce84b7a9388314faf1ed6dd25b8b9292bf8", func := "farebox/fareboxlaw08.RecordKeys", spec := "recordKeys", unfollowed := true, recurses := true, apart := false }
def RecordKeysSaid : Prop := recordKeysRow.holds Try.pinned (OpenSpec.ofChange recordKeysSpec)

/-- ITS FALSE NEIGHBOUR: 'it returns false'. Refute it at one input. -/
def recordKeysWrong : ChangeSpec := { name := "recordKeys", fn := fun _ => fun
  | [d1, d2] => { results := [.lit (.bool false)], args := [d1, d2] }
  | _ => none }
def RecordKeysWrongFalsely : Prop := recordKeysRow.holds Try.pinned (OpenSpec.ofChange recordKeysWrong)

/-- 'fareboxlaw08.RecordMoney': WHATEVER THE INPUT: true; the input reads as it did. -/
def recordMoneySpec : ChangeSpec := { name := "recordMoney", fn := fun _ => fun
  | [d1, d2, d3] => { results := [.lit (.bool true)], args := [d1, d2, d3] }
  | _ => none }
def recordMoneyRow : OpenClaim := { program := "ytgmbfecfkdbfaaa", sum := "ee96b5cfe6bd76ec513bdf0c5bae3ce84b7a9388314faf1ed6dd25b8b9292bf8", func := "farebox/fareboxlaw08.RecordMoney", spec := "recordMoney", unfollowed := true, recurses := true, apart := false }
def RecordMoneySaid : Prop := recordMoneyRow.holds Try.pinned (OpenSpec.ofChange recordMoneySpec)

/-- ITS FALSE NEIGHBOUR: 'it returns false'. Refute it at one input. -/
def recordMoneyWrong : ChangeSpec := { name := "recordMoney", fn := fun _ => fun
  | [d1, d2, d3] => { results := [.lit (.bool false)], args := [d1, d2, d3] }
  | _ => none }
def RecordMoneyWrongFalsely : Prop := recordMoneyRow.holds Try.pinned (OpenSpec.ofChange recordMoneyWrong)

/-- 'fareboxlaw08.RecordOutages': WHATEVER THE INPUT: true; the input reads as it did. -/
def recordOutagesSpec : ChangeSpec := { name := "recordOutages", fn := fun _ => fun
  | [d1, d2] => { results := [.lit (.bool true)], args := [d1, d2] }
  | _ => none }
def recordOutagesRow : OpenClaim := { program := "ytgmbfecfkdbfaaa", sum := "ee96b5cfe6bd76ec513bdf0c5bae3ce84b7a9388314faf1ed6dd25b8b9292bf8", func := "farebox/fareboxlaw08.RecordOutages", spec := "recordOutages", unfollowed := true, recurses := true, apart := false }
def RecordOutagesSaid : Prop := recordOutagesRow.holds Try.pinned (OpenSpec.ofChange recordOutagesSpec)

/-- ITS FALSE NEIGHBOUR: 'it returns false'. Refute it at one input. -/
def recordOutagesWrong : ChangeSpec := { name := "recordOutages", fn := fun _ => fun
  | [d1, d2] => { results := [.lit (.bool false)], args := [d1, d2] }
  | _ => none }
def RecordOutagesWrongFalsely : Prop := recordOutagesRow.holds Try.pinned (OpenSpec.ofChange recordOutagesWrong)

/-- 'fareboxlaw08.RecordDeltas': WHATEVER THE INPUT: true; the input reads as it did. -/
def recordDeltasSpec : ChangeSpec := { name := "recordDeltas", fn := fun _ => fun
  | [d1, d2] => { results := [.lit (.bool true)], args := [d1, d2] }
  | _ => none }
def recordDeltasRow : OpenClaim := { program := "ytgmbfecfkdbfaaa", sum := "ee96b5cfe6bd76ec513bdf0c5bae3ce84b7a9388314faf1ed6dd25b8b9292bf8", func := "farebox/fareboxlaw08.RecordDeltas", spec := "recordDeltas", unfollowed := true, recurses := true, apart := false }
def RecordDeltasSaid : Prop := recordDeltasRow.holds Try.pinned (OpenSpec.ofChange recordDeltasSpec)

/-- ITS FALSE NEIGHBOUR: 'it returns false'. Refute it at one input. -/
def recordDeltasWrong : ChangeSpec := { name := "recordDeltas", fn := fun _ => fun
  | [d1, d2] => { results := [.lit (.bool false)], args := [d1, d2] }
  | _ => none }
def RecordDeltasWrongFalsely : Prop := recordDeltasRow.holds Try.pinned (OpenSpec.ofChange recordDeltasWrong)

/-- 'fareboxlaw08.RecordShort': WHATEVER THE INPUT: true; the input reads as it did. -/
def recordShortSpec : ChangeSpec := { name := "recordShort", fn := fun _ => fun
  | [d1, d2, d3, d4] => { results := [.lit (.bool true)], args := [d1, d2, d3, d4] }
  | _ => none }
def recordShortRow : OpenClaim := { program := "ytgmbfecfkdbfaaa", sum := "ee96b5cfe6bd76ec513bdf0c5bae3ce84b7a9388314faf1ed6dd25b8b9292bf8", func := "farebox/fareboxlaw08.RecordShort", spec := "recordShort", inPlace := ["math.Float64bits", "math.Float64frombits"], unfollowed := true, recurses := true, apart := false }
def RecordShortSaid : Prop := recordShortRow.holds Try.pinned (OpenSpec.ofChange recordShortSpec)

/-- ITS FALSE NEIGHBOUR: 'it returns false'. Refute it at one input. -/
def recordShortWrong : ChangeSpec := { name := "recordShort", fn := fun _ => fun
  | [d1, d2, d3, d4] => { results := [.lit (.bool false)], args := [d1, d2, d3, d4] }
  | _ => none }
def RecordShortWrongFalsely : Prop := recordShortRow.holds Try.pinned (OpenSpec.ofChange recordShortWrong)

/- THE SECOND FORM. 'bulk': how many values and letters a reading holds, each counted each time it is reached (what is shared counts as often as it is met; a slice's spare places count too). A statement '..UptoSaid' is the law's where the arguments, and the package variables that the reading takes, are together of bulk at most 1048576: NARROWER than '..Said'. Prove '..Said' where nothing that the law and all that it calls make is longer than what came in: it says more and counts as full. Else prove '..UptoSaid'. A law counts once. -/
mutual
def uptoBulk {H : Type} : DataW H → Nat
  | .lit (.string bytes) => bytes.length + 1
  | .lit _ => 1
  | .nil => 1
  | .ptr d => uptoBulk d + 1
  | .slice elems spare => uptoBulkAll elems + uptoBulkAll spare + 1
  | .agg parts => uptoBulkAll parts + 1
  | .iface _ d => uptoBulk d + 1
  | .map entries => uptoBulkEntries entries + 1
  | .held _ => 1
def uptoBulkAll {H : Type} : List (DataW H) → Nat
  | [] => 0
  | d :: r => uptoBulk d + uptoBulkAll r
def uptoBulkEntries {H : Type} : List (Lit × DataW H) → Nat
  | [] => 0
  | x :: r => uptoBulkEntry x + uptoBulkEntries r
def uptoBulkEntry {H : Type} : Lit × DataW H → Nat
  | (.string bytes, d) => bytes.length + uptoBulk d + 1
  | (_, d) => uptoBulk d + 1
 end
def uptoSmall : (H : Type) → List (DataW H) → Bool := fun _ ds => decide (uptoBulkAll ds ≤ 1048576)
def OpenSpec.upto (s : _root_.Go.ChangeSpec) : _root_.Go.OpenSpec := { _root_.Go.OpenSpec.ofChange s with cond := some uptoSmall }

/-- 'fareboxlaw08.RecordTaps', WHERE WHAT IT READS IS OF BULK AT MOST 1048576: true; the input reads as it did. -/
def recordTapsUptoRow : OpenClaim := { program := "ytgmbfecfkdbfaaa", sum := "ee96b5cfe6bd76ec513bdf0c5bae3ce84b7a9388314faf1ed6dd25b8b9292bf8", func := "farebox/fareboxlaw08.RecordTaps", spec := "recordTaps", unfollowed := true, recurses := true, apart := false, narrowed := true }
def RecordTapsUptoSaid : Prop := recordTapsUptoRow.holds Try.pinned (OpenSpec.upto recordTapsSpec)

/-- 'fareboxlaw08.RecordKeys', WHERE WHAT IT READS IS OF BULK AT MOST 1048576: true; the input reads as it did. -/
def recordKeysUptoRow : OpenClaim := { program := "ytgmbfecfkdbfaaa", sum := "ee96b5cfe6bd76ec513bdf0c5bae3ce84b7a9388314faf1ed6dd25b8b9292bf8", func := "farebox/fareboxlaw08.RecordKeys", spec := "recordKeys", unfollowed := true, recurses := true, apart := false, narrowed := true }
def RecordKeysUptoSaid : Prop := recordKeysUptoRow.holds Try.pinned (OpenSpec.upto recordKeysSpec)

/-- 'fareboxlaw08.RecordMoney', WHERE WHAT IT READS IS OF BULK AT MOST 1048576: true; the input reads as it did. -/
def recordMoneyUptoRow : OpenClaim := { program := "ytgmbfecfkdbfaaa", sum := "ee96b5cfe6bd76ec513bdf0c5bae3ce84b7a9388314faf1ed6dd25b8b9292bf8", func := "farebox/fareboxlaw08.RecordMoney", spec := "recordMoney", unfollowed := true, recurses := true, apart := false, narrowed := true }
def RecordMoneyUptoSaid : Prop := recordMoneyUptoRow.holds Try.pinned (OpenSpec.upto recordMoneySpec)

/-- 'fareboxlaw08.RecordOutages', WHERE WHAT IT READS IS OF BULK AT MOST 1048576: true; the input reads as it did. -/
def recordOutagesUptoRow : OpenClaim := { program := "ytgmbfecfkdbfaaa", sum := "ee96b5cfe6bd76ec513bdf0c5bae3ce84b7a9388314faf1ed6dd25b8b9292bf8", func := "farebox/fareboxlaw08.RecordOutages", spec := "recordOutages", unfollowed := true, recurses := true, apart := false, narrowed := true }
def RecordOutagesUptoSaid : Prop := recordOutagesUptoRow.holds Try.pinned (OpenSpec.upto recordOutagesSpec)

/-- 'fareboxlaw08.RecordDeltas', WHERE WHAT IT READS IS OF BULK AT MOST 1048576: true; the input reads as it did. -/
def recordDeltasUptoRow : OpenClaim := { program := "ytgmbfecfkdbfaaa", sum := "ee96b5cfe6bd76ec513bdf0c5bae3ce84b7a9388314faf1ed6dd25b8b9292bf8", func := "farebox/fareboxlaw08.RecordDeltas", spec := "recordDeltas", unfollowed := true, recurses := true, apart := false, narrowed := true }
def RecordDeltasUptoSaid : Prop := recordDeltasUptoRow.holds Try.pinned (OpenSpec.upto recordDeltasSpec)

/-- 'fareboxlaw08.RecordShort', WHERE WHAT IT READS IS OF BULK AT MOST 1048576: true; the input reads as it did. -/
def recordShortUptoRow : OpenClaim := { program := "ytgmbfecfkdbfaaa", sum := "ee96b5cfe6bd76ec513bdf0c5bae3ce84b7a9388314faf1ed6dd25b8b9292bf8", func := "farebox/fareboxlaw08.RecordShort", spec := "recordShort", inPlace := ["math.Float64bits", "math.Float64frombits"], unfollowed := true, recurses := true, apart := false, narrowed := true }
def RecordShortUptoSaid : Prop := recordShortUptoRow.holds Try.pinned (OpenSpec.upto recordShortSpec)

end Rows
end Go.Proofs.Ytgmbfecfkdbfaaa
