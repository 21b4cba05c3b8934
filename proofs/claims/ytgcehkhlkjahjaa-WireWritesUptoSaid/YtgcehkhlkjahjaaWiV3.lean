/- The laws' model: a piece, by the document's writer; its bytes. -/
import Derived.Test.YtgcehkhlkjahjaaWiV2
set_option linter.unusedVariables false
set_option linter.unusedSimpArgs false
namespace Go.Proofs.Ytgcehkhlkjahjaa.Wi
open Go Go.RowKit Go.Proofs.YtgcehkhlkjahjaaW.PrintWords
def VBPost (s : WS) (w : World) (e : Ending) (w' : World) : Prop := ∃ A c, e = .returned (.tuple #[.slice A s.out.length c, .int .i64 s.err]) ∧ ReadsInt w' .u8 A s.out.length s.out ∧ Below w.heap.size w w'
set_option maxHeartbeats 1600000 in
theorem vBytes_calls {w : World} {B g : Nat} {ro : Option Nat} {s : WS} (hw : Vr w B g ro s) (hl : s.xs.length ≤ 140737488355328) : Calls Try.prog 14 #[.pointer (some ⟨g, 0, none⟩)] w (VBPost s w) := by
  obtain ⟨v, hb, ho, hro⟩ := hw.at_
  obtain ⟨xs, bad⟩ := s
  have c0 : _ = some v := blk_cell hb 0
  have c1 : _ = some (Value.bool bad) := blk_cell hb 1
  obtain ⟨A, c, rfl, _, hr⟩ := own_reads' ho
  cases bad with
  | true =>
    clear hb ho hro hw hr
    go_enter Try.func14, Try.ntmps14
    go_wp2
    go_ret2
    exact ⟨none, 0, rfl, ⟨rfl, by simp [WS.out], fun h => absurd h (by simp [WS.out])⟩, Below.refl _ _⟩
  | false =>
    have HR := Aside0.mk hr
    have HL := Aside0.mk hl
    have HO3 := Aside0.mk (own_lit w w.heap.size 5 .u8 [] (Nat.le_refl _) (by simp))
    have HR3 := Aside0.mk (hr.below (below1 (.cells #[] 5)))
    have HB3 := Aside0.mk (below1 (w := w) (.cells #[] 5))
    have e0 : _ = some (Value.slice A xs.length c) := (blk_cell ((Fr.of_below (S := fun _ => False) HB3.out).blk hb (fun h => h)) 0)
    clear hb ho hro hw hr hl
    go_enter Try.func14, Try.ntmps14
    go_wp2_with (at_builtin; refine wpList_append_row w.heap.size rfl (.tmp 8) (.tmp 12) 27 5 .u8 1 rfl Try.underlying27 info_u8 (by decide) (.slice (some ⟨w.heap.size, 0, none⟩) 0 0) 0 [] xs A xs.length c (by rfl) (by rfl) HO3.out HR3.out HB3.out.size (by have := HL.out; simp only at this; omega) ?_; intro v4 w4 ho4 hg4 _; simp only [Nat.zero_add, List.nil_append] at ho4; obtain ⟨A4, c4, _, rfl, _, hr4⟩ := own_reads'' ho4; have HR4 := Aside0.mk hr4; have HB4 := Aside0.mk (HB3.out.grown hg4 HB3.out.size (own_base HO3.out)); clear ho4 hg4 hr4)
    go_ret2
    exact ⟨A4, c4, rfl, HR4.out, HB4.out⟩
section
variable {w : World} {B g : Nat} {ro : Option Nat} {s : WS}
set_option maxHeartbeats 8000000 in
theorem model_calls (p : Pc) (hp : p.Ok) (hsz : p.s.size ≤ 140737488350000) (hw : Vr w B g ro s) (hB : B ≤ w.heap.size) (hl : (s.step p).xs.length ≤ 140737488355328) :
    Calls Try.prog 12 #[.pointer (some ⟨g, 0, none⟩), p.val] w (VPost B g ro (s.step p) w) := by
  obtain ⟨kind, n, size, x, is, y⟩ := p
  have hn : n ≤ 9223372036854775807 := hp.n.2
  have hy := hp.s
  have hyz := hsz
  unfold Pc.val
  clear hp
  simp only at hy hyz ⊢
  have HW := Aside0.mk (fun o : Obj => hw.below (below1 o))
  have HB1 := Aside0.mk (fun o : Obj => Nat.le_trans hB (below1 (w := w) o).size)
  by_cases k0 : kind = 0
  · subst k0
    have HS : Aside0 (s.step ⟨0, n, size, x, is, y⟩ = s.put (pNumber n size)) := ⟨rfl⟩
    rw [HS.out] at hl
    have C := Aside0.mk (fun o : Obj => vNumber_calls n size hn (HW.out o) (HB1.out o) hl)
    clear hw HW HB1 hl
    go_enter Try.func12, Try.ntmps12
    go_wp2_with (go_at_call 41; refine (C.out _).mono ?_; rintro e w' ⟨rfl, hP⟩)
    go_end0
    rw [HS.out]
    exact VPost.from ⟨rfl, hP⟩ (below1 _)
  by_cases k1 : kind = 1
  · subst k1
    have HS : Aside0 (s.step ⟨1, n, size, x, is, y⟩ = s.put (pInt n)) := ⟨rfl⟩
    rw [HS.out] at hl
    have C := Aside0.mk (fun o : Obj => vInt_calls n (HW.out o) (HB1.out o) hl)
    clear hw HW HB1 hl
    go_enter Try.func12, Try.ntmps12
    go_wp2_with (go_at_call 42; refine (C.out _).mono ?_; rintro e w' ⟨rfl, hP⟩)
    go_end0
    rw [HS.out]
    exact VPost.from ⟨rfl, hP⟩ (below1 _)
  by_cases k2 : kind = 2
  · subst k2
    have HS : Aside0 (s.step ⟨2, n, size, x, is, y⟩ = s.put (pFloat x)) := ⟨rfl⟩
    rw [HS.out] at hl
    have C := Aside0.mk (fun o : Obj => vFloat_calls x (HW.out o) (HB1.out o) hl)
    clear hw HW HB1 hl
    go_enter Try.func12, Try.ntmps12
    go_wp2_with (go_at_call 43; refine (C.out _).mono ?_; rintro e w' ⟨rfl, hP⟩)
    go_end0
    rw [HS.out]
    exact VPost.from ⟨rfl, hP⟩ (below1 _)
  by_cases k3 : kind = 3
  · subst k3
    have HS : Aside0 (s.step ⟨3, n, size, x, is, y⟩ = s.put (pBool is)) := ⟨rfl⟩
    rw [HS.out] at hl
    have C := Aside0.mk (fun o : Obj => vBool_calls is (HW.out o) (HB1.out o) hl)
    clear hw HW HB1 hl
    go_enter Try.func12, Try.ntmps12
    go_wp2_with (go_at_call 44; refine (C.out _).mono ?_; rintro e w' ⟨rfl, hP⟩)
    go_end0
    rw [HS.out]
    exact VPost.from ⟨rfl, hP⟩ (below1 _)
  by_cases k4 : kind = 4
  · subst k4
    have HS : Aside0 (s.step ⟨4, n, size, x, is, y⟩ = s.put (pText y)) := ⟨rfl⟩
    rw [HS.out] at hl
    have C := Aside0.mk (fun o : Obj => vText_calls y hyz (HW.out o) (HB1.out o) hl)
    clear hw HW HB1 hl
    go_enter Try.func12, Try.ntmps12
    go_wp2_with (go_at_call 45; refine (C.out _).mono ?_; rintro e w' ⟨rfl, hP⟩)
    go_end0
    rw [HS.out]
    exact VPost.from ⟨rfl, hP⟩ (below1 _)
  by_cases k5 : kind = 5
  · subst k5
    have HS : Aside0 (s.step ⟨5, n, size, x, is, y⟩ = s.put (pFixed y size)) := ⟨rfl⟩
    rw [HS.out] at hl
    have C := Aside0.mk (fun o : Obj => vFixed_calls y size hy (HW.out o) (HB1.out o) hl)
    clear hw HW HB1 hl
    go_enter Try.func12, Try.ntmps12
    go_wp2_with (go_at_call 46; refine (C.out _).mono ?_; rintro e w' ⟨rfl, hP⟩)
    go_end0
    rw [HS.out]
    exact VPost.from ⟨rfl, hP⟩ (below1 _)
  by_cases k6 : kind = 6
  · subst k6
    have HS : Aside0 (s.step ⟨6, n, size, x, is, y⟩ = s.put (pNumber n 2)) := ⟨rfl⟩
    rw [HS.out] at hl
    have C := Aside0.mk (fun o : Obj => vCount_calls n hn (HW.out o) (HB1.out o) hl)
    clear hw HW HB1 hl
    go_enter Try.func12, Try.ntmps12
    go_wp2_with (go_at_call 47; refine (C.out _).mono ?_; rintro e w' ⟨rfl, hP⟩)
    go_end0
    rw [HS.out]
    exact VPost.from ⟨rfl, hP⟩ (below1 _)
  have HS : Aside0 (s.step ⟨kind, n, size, x, is, y⟩ = s) := ⟨by simp [WS.step, k0, k1, k2, k3, k4, k5, k6]⟩
  have t0 : (kind == 0) = false := beq_eq_false_iff_ne.2 k0
  have t1 : (kind == 1) = false := beq_eq_false_iff_ne.2 k1
  have t2 : (kind == 2) = false := beq_eq_false_iff_ne.2 k2
  have t3 : (kind == 3) = false := beq_eq_false_iff_ne.2 k3
  have t4 : (kind == 4) = false := beq_eq_false_iff_ne.2 k4
  have t5 : (kind == 5) = false := beq_eq_false_iff_ne.2 k5
  have t6 : (kind == 6) = false := beq_eq_false_iff_ne.2 k6
  clear k0 k1 k2 k3 k4 k5 k6 hl
  have HW1 := Aside0.mk hw
  clear hw HW HB1
  go_enter Try.func12, Try.ntmps12
  go_wp2
  go_end0
  rw [HS.out]
  exact ⟨rfl, ro, HW1.out.below (below1 _), .inl rfl, Fr.of_below (below1 _)⟩
end
end Go.Proofs.Ytgcehkhlkjahjaa.Wi
