/- Floats as one more plain kind of cell for the printed words: a float is carried by its bits; its store into memory is a step of the walk. -/
import Derived.Test.YtgmbfecfkdbfaaaWWords
import Derived.Test.YtgmbfecfkdbfaaaWFoot
import Derived.Laws.Entries
import Derived.Shelf.Abstract
import Derived.Laws.EntriesVeiled
import Derived.WalkLawsBesides
import Derived.WalkSpells
set_option linter.unusedVariables false
namespace Go.Proofs.YtgmbfecfkdbfaaaW.PrintWords
namespace Kd
/-- A float64, by its bits. -/
def f64 : Kd Nat := scalar (Value.float .f64) (fun _ => rfl)
theorem heap_f64 : Heap Kd.f64 := ⟨fun _ h => h⟩
end Kd
end Go.Proofs.YtgmbfecfkdbfaaaW.PrintWords
namespace Go.Proofs.YtgmbfecfkdbfaaaX
@[go_sem] theorem run_store_float (P : Program) (w : World) (a : Addr) (m : Mode) (k : FloatKind) (b : Nat) : (store a (.float k b) m).run P w = stored P w a (.float k b) m := run_store P w a _ m rfl
end Go.Proofs.YtgmbfecfkdbfaaaX
