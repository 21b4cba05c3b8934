/- WireBack: what is put is taken, piece by piece, whatever stands behind. -/
import Derived.Test.YtgmbfecfkdbfaaaWiQ2
set_option linter.unusedVariables false
set_option linter.unusedSimpArgs false
namespace Go.Proofs.Ytgmbfecfkdbfaaa.Wi
open Go Go.RowKit Go.Proofs.YtgmbfecfkdbfaaaW.PrintWords
theorem take_step {α : Type} (l : List α) (k : Nat) (h : k < l.length) : l.take (k + 1) = l.take k ++ [l[k]] := List.take_succ_eq_append_getElem h
theorem pNumber_bytes {n size : Int} {ys : List Int} (h : pNumber n size = some ys) : Bytes ys := by
  unfold pNumber at h
  split at h
  · obtain rfl := Option.some.inj h
    exact be_bytes _ _
  · cases h
theorem own_reads'' {w : World} {base n : Nat} {e : TypeId} {k : IntKind} {v : Value} {xs : List Int} (h : w.ownsRow base e 1 v n (nums k xs)) : ∃ (A : Option Addr) (c m : Nat), v = .slice A n c ∧ n ≤ c ∧ ReadsInt w k A n xs := by
  obtain ⟨A, c, h1, h2, h3⟩ := own_reads' h
  exact ⟨A, c, 0, h1, h2, h3⟩
section
variable {w W : World} {g : Nat} {xs : List Int}
theorem newR' {bs : List Int} {n : Nat} (hb : Below w.heap.size w W) (A : Option Addr) (c : Nat) (hr : ReadsInt W .u8 A n bs) (hB : Bytes bs) (hl : bs.length ≤ 140737488355328) : Calls Try.prog 100 #[.slice A n c] W fun e W' => ∃ g, e = .returned (.pointer (some ⟨g, 0, none⟩)) ∧ RAt w W' g bs ⟨0, 0, 0, 0⟩ ∧ Below W.heap.size W W' := by
  have hn : bs.length = n := hr.1
  subst hn
  exact newR hb A c hr hB hl
theorem WAt.bytes_bad (h : WAt w W g ⟨xs, true⟩) (hl : xs.length ≤ 140737488355328) : Calls Try.prog 55 #[.pointer (some ⟨g, 0, none⟩)] W fun e W' => (∃ A c, e = .returned (.tuple #[.slice A 0 c, .int .i64 1])) ∧ Below w.heap.size w W' :=
  (WAt.bytes h hl).mono fun e W' ⟨A, c, he, _, hb⟩ => ⟨⟨A, c, he⟩, hb⟩
theorem WAt.bytes_ok (h : WAt w W g ⟨xs, false⟩) (hl : xs.length ≤ 140737488355328) : Calls Try.prog 55 #[.pointer (some ⟨g, 0, none⟩)] W fun e W' => ∃ A c, e = .returned (.tuple #[.slice A xs.length c, .int .i64 0]) ∧ ReadsInt W' .u8 A xs.length xs ∧ Below w.heap.size w W' :=
  WAt.bytes h hl
end
end Go.Proofs.Ytgmbfecfkdbfaaa.Wi
