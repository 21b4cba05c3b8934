/- The laws' put: a piece, by the program; and what a reader makes of a piece. -/
import Derived.Test.YtgmbfecfkdbfaaaWiL0
set_option linter.unusedVariables false
set_option linter.unusedSimpArgs false
namespace Go.Proofs.Ytgmbfecfkdbfaaa.Wi
open Go Go.RowKit Go.Proofs.YtgmbfecfkdbfaaaW.PrintWords
section
variable {w : World} {B g : Nat} {ro : Option Nat} {s : WS}
end
end Go.Proofs.Ytgmbfecfkdbfaaa.Wi
