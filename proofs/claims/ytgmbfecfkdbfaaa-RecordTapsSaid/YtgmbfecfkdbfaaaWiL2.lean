/- The laws' readers: does a piece come out as nothing, or as it was put? -/
import Derived.Test.YtgmbfecfkdbfaaaWiL1
set_option linter.unusedVariables false
set_option linter.unusedSimpArgs false
namespace Go.Proofs.Ytgmbfecfkdbfaaa.Wi
open Go Go.RowKit Go.Proofs.YtgmbfecfkdbfaaaW.PrintWords
def rNum (bs : List Int) (r : RS) (size : Int) := r.take bs (0 : Int) (fun l => gNumber l size)
def rInt (bs : List Int) (r : RS) := r.take bs (0 : Int) gInt
def rFlo (bs : List Int) (r : RS) := r.take bs (0 : Nat) gFloat
def rBoo (bs : List Int) (r : RS) := r.take bs false gBool
def rTex (bs : List Int) (r : RS) (most : Int) := r.take bs ([] : List Int) (fun l => gText l most)
def rFix (bs : List Int) (r : RS) (size : Int) := r.take bs ([] : List Int) (fun l => gFixed l size)
def rCou (bs : List Int) (r : RS) (most : Int) := r.take bs (0 : Int) (fun l => gCount l most)
section
variable {w : World} {B g : Nat} {ro : Option Nat} {bs : List Int} {r : RS}
theorem RPost.from {u : Value} {w1 w' : World} {e : Ending} (h : RPost B g ro bs u r w1 e w') (hb : Below w.heap.size w w1) : RPost B g ro bs u r w e w' :=
  ⟨h.1, h.2.1, (Fr.of_below hb).trans h.2.2 (fun _ _ h => h)⟩
end
end Go.Proofs.Ytgmbfecfkdbfaaa.Wi
