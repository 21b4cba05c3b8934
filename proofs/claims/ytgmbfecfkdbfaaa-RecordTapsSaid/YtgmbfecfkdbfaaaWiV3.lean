/- The laws' model: a piece, by the document's writer; its bytes. -/
import Derived.Test.YtgmbfecfkdbfaaaWiV2
set_option linter.unusedVariables false
set_option linter.unusedSimpArgs false
namespace Go.Proofs.Ytgmbfecfkdbfaaa.Wi
open Go Go.RowKit Go.Proofs.YtgmbfecfkdbfaaaW.PrintWords
def VBPost (s : WS) (w : World) (e : Ending) (w' : World) : Prop := ∃ A c, e = .returned (.tuple #[.slice A s.out.length c, .int .i64 s.err]) ∧ ReadsInt w' .u8 A s.out.length s.out ∧ Below w.heap.size w w'
set_option maxHeartbeats 1600000 in
theorem vBytes_calls {w : World} {B g : Nat} {ro : Option Nat} {s : WS} (hw : Vr w B g ro s) (hl : s.xs.length ≤ 140737488355328) : Calls Try.prog 56 #[.pointer (some ⟨g, 0, none⟩)] w (VBPost s w) := by
  obtain ⟨v, hb, ho, hro⟩ := hw.at_
  obtain ⟨xs, bad⟩ := s
  have c0 : _ = some v := blk_cell hb 0
  have c1 : _ = some (Value.bool bad) := blk_cell hb 1
  obtain ⟨A, c, rfl, _, hr⟩ := own_reads' ho
  cases bad with
  | true =>
    clear hb ho hro hw hr
    go_enter Try.func56, Try.ntmps56
    go_wp2
    go_ret2
    exact ⟨none, 0, rfl, ⟨rfl, by simp [WS.out], fun h => absurd h (by simp [WS.out])⟩, Below.refl _ _⟩
  | false =>
    have HR := Aside0.mk hr
    have HL := Aside0.mk hl
    have HO3 := Aside0.mk (own_lit w w.heap.size 5 .u8 [] (Nat.le_refl _) (by simp))
    have HR3 := Aside0.mk (hr.below (below1 (.cells #[] 5)))
    have HB3 := Aside0.mk (below1 (w := w) (.cells #[] 5))
    have e0 : _ = some (Value.slice A xs.length c) := (blk_cell ((Fr.of_below (S := fun _ => False) HB3.out).blk hb (fun h => h)) 0)
    clear hb ho hro hw hr hl
    go_enter Try.func56, Try.ntmps56
    go_wp2_with (at_builtin; refine wpList_append_row w.heap.size rfl (.tmp 8) (.tmp 12) 24 5 .u8 1 rfl Try.underlying24 info_u8 (by decide) (.slice (some ⟨w.heap.size, 0, none⟩) 0 0) 0 [] xs A xs.length c (by rfl) (by rfl) HO3.out HR3.out HB3.out.size (by have := HL.out; simp only at this; omega) ?_; intro v4 w4 ho4 hg4 _; simp only [Nat.zero_add, List.nil_append] at ho4; obtain ⟨A4, c4, _, rfl, _, hr4⟩ := own_reads'' ho4; have HR4 := Aside0.mk hr4; have HB4 := Aside0.mk (HB3.out.grown hg4 HB3.out.size (own_base HO3.out)); clear ho4 hg4 hr4)
    go_ret2
    exact ⟨A4, c4, rfl, HR4.out, HB4.out⟩
section
variable {w : World} {B g : Nat} {ro : Option Nat} {s : WS}
end
end Go.Proofs.Ytgmbfecfkdbfaaa.Wi
