/- The laws' put: a piece, by the program; and what a reader makes of a piece. -/
import Derived.Test.YtgcehkhlkjahjaaWiL0
set_option linter.unusedVariables false
set_option linter.unusedSimpArgs false
namespace Go.Proofs.Ytgcehkhlkjahjaa.Wi
open Go Go.RowKit Go.Proofs.YtgcehkhlkjahjaaW.PrintWords
def WS.step (s : WS) (p : Pc) : WS :=
  if p.kind = 0 then s.put (pNumber p.n p.size) else if p.kind = 1 then s.put (pInt p.n) else if p.kind = 2 then s.put (pFloat p.x) else if p.kind = 3 then s.put (pBool p.is)
  else if p.kind = 4 then s.put (pText p.s) else if p.kind = 5 then s.put (pFixed p.s p.size) else if p.kind = 6 then s.put (pNumber p.n 2) else s
def Pc.val (p : Pc) : Value := .agg #[.int .i64 p.kind, .int .i64 p.n, .int .i64 p.size, .float .f64 p.x, .bool p.is, .string p.s]
section
variable {w : World} {B g : Nat} {ro : Option Nat} {s : WS}
set_option maxHeartbeats 8000000 in
theorem lput_calls (p : Pc) (hp : p.Ok) (hw : Wr w B g ro s) (hB : B ≤ w.heap.size) (hl : (s.step p).xs.length ≤ 140737488355328) :
    Calls Try.prog 11 #[.pointer (some ⟨g, 0, none⟩), p.val] w (WPost B g ro (s.step p) w) := by
  obtain ⟨kind, n, size, x, is, y⟩ := p
  have hn : n ≤ 9223372036854775807 := hp.n.2
  have hy := hp.s
  unfold Pc.val
  clear hp
  simp only at hy ⊢
  have HW := Aside0.mk (fun o : Obj => hw.below (below1 o))
  have HB1 := Aside0.mk (fun o : Obj => Nat.le_trans hB (below1 (w := w) o).size)
  by_cases k0 : kind = 0
  · subst k0
    have HS : Aside0 (s.step ⟨0, n, size, x, is, y⟩ = s.put (pNumber n size)) := ⟨rfl⟩
    rw [HS.out] at hl
    have C := Aside0.mk (fun o : Obj => wNumber_calls n size hn (HW.out o) (HB1.out o) hl)
    clear hw HW HB1 hl
    go_enter Try.func11, Try.ntmps11
    go_wp2_with (go_at_call 34; refine (C.out _).mono ?_; rintro e w' ⟨rfl, hP⟩)
    go_end0
    rw [HS.out]
    exact WPost.from ⟨rfl, hP⟩ (below1 _)
  by_cases k1 : kind = 1
  · subst k1
    have HS : Aside0 (s.step ⟨1, n, size, x, is, y⟩ = s.put (pInt n)) := ⟨rfl⟩
    rw [HS.out] at hl
    have C := Aside0.mk (fun o : Obj => wInt_calls n (HW.out o) (HB1.out o) hl)
    clear hw HW HB1 hl
    go_enter Try.func11, Try.ntmps11
    go_wp2_with (go_at_call 38; refine (C.out _).mono ?_; rintro e w' ⟨rfl, hP⟩)
    go_end0
    rw [HS.out]
    exact WPost.from ⟨rfl, hP⟩ (below1 _)
  by_cases k2 : kind = 2
  · subst k2
    have HS : Aside0 (s.step ⟨2, n, size, x, is, y⟩ = s.put (pFloat x)) := ⟨rfl⟩
    rw [HS.out] at hl
    have C := Aside0.mk (fun o : Obj => wFloat_calls x (HW.out o) (HB1.out o) hl)
    clear hw HW HB1 hl
    go_enter Try.func11, Try.ntmps11
    go_wp2_with (go_at_call 39; refine (C.out _).mono ?_; rintro e w' ⟨rfl, hP⟩)
    go_end0
    rw [HS.out]
    exact WPost.from ⟨rfl, hP⟩ (below1 _)
  by_cases k3 : kind = 3
  · subst k3
    have HS : Aside0 (s.step ⟨3, n, size, x, is, y⟩ = s.put (pBool is)) := ⟨rfl⟩
    rw [HS.out] at hl
    have C := Aside0.mk (fun o : Obj => wBool_calls is (HW.out o) (HB1.out o) hl)
    clear hw HW HB1 hl
    go_enter Try.func11, Try.ntmps11
    go_wp2_with (go_at_call 35; refine (C.out _).mono ?_; rintro e w' ⟨rfl, hP⟩)
    go_end0
    rw [HS.out]
    exact WPost.from ⟨rfl, hP⟩ (below1 _)
  by_cases k4 : kind = 4
  · subst k4
    have HS : Aside0 (s.step ⟨4, n, size, x, is, y⟩ = s.put (pText y)) := ⟨rfl⟩
    rw [HS.out] at hl
    have C := Aside0.mk (fun o : Obj => wText_calls y hy (HW.out o) (HB1.out o) hl)
    clear hw HW HB1 hl
    go_enter Try.func11, Try.ntmps11
    go_wp2_with (go_at_call 36; refine (C.out _).mono ?_; rintro e w' ⟨rfl, hP⟩)
    go_end0
    rw [HS.out]
    exact WPost.from ⟨rfl, hP⟩ (below1 _)
  by_cases k5 : kind = 5
  · subst k5
    have HS : Aside0 (s.step ⟨5, n, size, x, is, y⟩ = s.put (pFixed y size)) := ⟨rfl⟩
    rw [HS.out] at hl
    have C := Aside0.mk (fun o : Obj => wFixed_calls y size hy (HW.out o) (HB1.out o) hl)
    clear hw HW HB1 hl
    go_enter Try.func11, Try.ntmps11
    go_wp2_with (go_at_call 40; refine (C.out _).mono ?_; rintro e w' ⟨rfl, hP⟩)
    go_end0
    rw [HS.out]
    exact WPost.from ⟨rfl, hP⟩ (below1 _)
  by_cases k6 : kind = 6
  · subst k6
    have HS : Aside0 (s.step ⟨6, n, size, x, is, y⟩ = s.put (pNumber n 2)) := ⟨rfl⟩
    rw [HS.out] at hl
    have C := Aside0.mk (fun o : Obj => wCount_calls n hn (HW.out o) (HB1.out o) hl)
    clear hw HW HB1 hl
    go_enter Try.func11, Try.ntmps11
    go_wp2_with (go_at_call 37; refine (C.out _).mono ?_; rintro e w' ⟨rfl, hP⟩)
    go_end0
    rw [HS.out]
    exact WPost.from ⟨rfl, hP⟩ (below1 _)
  have HS : Aside0 (s.step ⟨kind, n, size, x, is, y⟩ = s) := ⟨by simp [WS.step, k0, k1, k2, k3, k4, k5, k6]⟩
  have t0 : (kind == 0) = false := beq_eq_false_iff_ne.2 k0
  have t1 : (kind == 1) = false := beq_eq_false_iff_ne.2 k1
  have t2 : (kind == 2) = false := beq_eq_false_iff_ne.2 k2
  have t3 : (kind == 3) = false := beq_eq_false_iff_ne.2 k3
  have t4 : (kind == 4) = false := beq_eq_false_iff_ne.2 k4
  have t5 : (kind == 5) = false := beq_eq_false_iff_ne.2 k5
  have t6 : (kind == 6) = false := beq_eq_false_iff_ne.2 k6
  clear k0 k1 k2 k3 k4 k5 k6 hl
  have HW1 := Aside0.mk hw
  clear hw HW HB1
  go_enter Try.func11, Try.ntmps11
  go_wp2
  go_end0
  rw [HS.out]
  exact ⟨rfl, ro, HW1.out.below (below1 _), .inl rfl, Fr.of_below (below1 _)⟩
end
end Go.Proofs.Ytgcehkhlkjahjaa.Wi
