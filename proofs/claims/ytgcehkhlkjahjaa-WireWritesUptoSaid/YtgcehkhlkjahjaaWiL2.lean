/- The laws' readers: does a piece come out as nothing, or as it was put? -/
import Derived.Test.YtgcehkhlkjahjaaWiL1
set_option linter.unusedVariables false
set_option linter.unusedSimpArgs false
namespace Go.Proofs.Ytgcehkhlkjahjaa.Wi
open Go Go.RowKit Go.Proofs.YtgcehkhlkjahjaaW.PrintWords
def rNum (bs : List Int) (r : RS) (size : Int) := r.take bs (0 : Int) (fun l => gNumber l size)
def rInt (bs : List Int) (r : RS) := r.take bs (0 : Int) gInt
def rFlo (bs : List Int) (r : RS) := r.take bs (0 : Nat) gFloat
def rBoo (bs : List Int) (r : RS) := r.take bs false gBool
def rTex (bs : List Int) (r : RS) (most : Int) := r.take bs ([] : List Int) (fun l => gText l most)
def rFix (bs : List Int) (r : RS) (size : Int) := r.take bs ([] : List Int) (fun l => gFixed l size)
def rCou (bs : List Int) (r : RS) (most : Int) := r.take bs (0 : Int) (fun l => gCount l most)
def nothingS (bs : List Int) (r : RS) (p : Pc) : RS :=
  if p.kind = 0 then (rNum bs r p.size).2 else if p.kind = 1 then (rInt bs r).2 else if p.kind = 2 then (rFlo bs r).2 else if p.kind = 3 then (rBoo bs r).2
  else if p.kind = 4 then (rTex bs r p.size).2 else if p.kind = 5 then (rFix bs r p.size).2 else if p.kind = 6 then (rCou bs r p.size).2 else r
def nothingB (bs : List Int) (r : RS) (p : Pc) : Bool :=
  if p.kind = 0 then (rNum bs r p.size).1 == 0 else if p.kind = 1 then (rInt bs r).1 == 0 else if p.kind = 2 then (((rFlo bs r).1 : Nat) : Int) == 0 else if p.kind = 3 then !(rBoo bs r).1
  else if p.kind = 4 then (strOfNums (rTex bs r p.size).1).toList.isEmpty else if p.kind = 5 then (strOfNums (rFix bs r p.size).1).toList.isEmpty else if p.kind = 6 then (rCou bs r p.size).1 == 0 else true
def takenS (bs : List Int) (r : RS) (p : Pc) : RS :=
  if p.kind = 0 then (rNum bs r p.size).2 else if p.kind = 1 then (rInt bs r).2 else if p.kind = 2 then (rFlo bs r).2 else if p.kind = 3 then (rBoo bs r).2
  else if p.kind = 4 then (rTex bs r p.s.size).2 else if p.kind = 5 then (rFix bs r p.size).2 else if p.kind = 6 then (rCou bs r p.n).2 else r
def takenB (bs : List Int) (r : RS) (p : Pc) : Bool :=
  if p.kind = 0 then (rNum bs r p.size).1 == p.n else if p.kind = 1 then (rInt bs r).1 == p.n else if p.kind = 2 then fBits (rFlo bs r).1 == fBits p.x else if p.kind = 3 then (rBoo bs r).1 == p.is
  else if p.kind = 4 then (strOfNums (rTex bs r p.s.size).1).toList == p.s.toList else if p.kind = 5 then (strOfNums (rFix bs r p.size).1).toList == p.s.toList else if p.kind = 6 then (rCou bs r p.n).1 == p.n else true
set_option maxHeartbeats 800000 in
theorem bits_calls (x : Nat) (w : World) : Calls Try.prog 85 #[.float .f64 x] w fun e w' => e = .returned (.int .u64 (fBits x)) ∧ w = w' := by
  have hfb : ∀ (a : Nat) (w : World), (callFunc 48 #[.float .f64 a]).run Try.prog w = .ok (.value (.int .u64 a)) w := fun a w => by kernel_rfl
  cases hi : isNan x with
  | true =>
    have HF : Aside0 (fBits x = 9221120237041090560) := ⟨by simp [fBits, hi, nanBits]⟩
    have t1 := hi
    unfold isNan at t1
    clear hi
    go_enter Try.func85, Try.ntmps85
    go_wp2
    go_ret
    exact ⟨by rw [HF.out]; rfl, rfl⟩
  | false =>
    have HF : Aside0 (fBits x = x) := ⟨by simp [fBits, hi]⟩
    have t1 := hi
    unfold isNan at t1
    clear hi
    go_enter Try.func85, Try.ntmps85
    go_wp2
    go_ret
    exact ⟨by rw [HF.out]; rfl, rfl⟩
set_option maxHeartbeats 800000 in
theorem same_calls (x y : Nat) (w : World) : Calls Try.prog 52 #[.float .f64 x, .float .f64 y] w fun e w' => e = .returned (.bool (fBits x == fBits y)) ∧ w = w' := by
  have HX := Aside0.mk (fun w => bits_calls x w)
  have HY := Aside0.mk (fun w => bits_calls y w)
  generalize fBits x = a at HX
  generalize fBits y = b at HY
  have HE : Aside0 (((a : Int) == (b : Int)) = (a == b)) := ⟨by rw [Bool.eq_iff_iff]; simp; constructor <;> intro h <;> omega⟩
  go_enter Try.func52, Try.ntmps52
  go_wp2_with (go_at_call 85; first | ((with_reducible refine (HX.out _).mono ?_); rintro e w' ⟨rfl, rfl⟩) | ((with_reducible refine (HY.out _).mono ?_); rintro e w' ⟨rfl, rfl⟩))
  go_ret
  exact ⟨by first | rfl | (rw [← HE.out]; rfl) | (simp; done), rfl⟩
section
variable {w : World} {B g : Nat} {ro : Option Nat} {bs : List Int} {r : RS}
theorem RPost.from {u : Value} {w1 w' : World} {e : Ending} (h : RPost B g ro bs u r w1 e w') (hb : Below w.heap.size w w1) : RPost B g ro bs u r w e w' :=
  ⟨h.1, h.2.1, (Fr.of_below hb).trans h.2.2 (fun _ _ h => h)⟩
set_option maxHeartbeats 16000000 in
theorem nothing_calls (p : Pc) (hp : p.Ok) (hr : Rd w B g ro bs r) (hB : B ≤ w.heap.size) :
    Calls Try.prog 19 #[.pointer (some ⟨g, 0, none⟩), p.val] w (RPost B g ro bs (.bool (nothingB bs r p)) (nothingS bs r p) w) := by
  obtain ⟨kind, n, size, x, is, y⟩ := p
  have hy := hp.s
  simp only at hy
  clear hp
  have hg := hr.lt
  unfold Pc.val
  have HR := Aside0.mk (fun o : Obj => hr.below (below1 o))
  have HB1 := Aside0.mk (fun o : Obj => Nat.le_trans hB (below1 (w := w) o).size)
  have hfb : ∀ (a : Nat) (w : World), (callFunc 48 #[.float .f64 a]).run Try.prog w = .ok (.value (.int .u64 a)) w := fun a w => by kernel_rfl
  simp only
  by_cases k0 : kind = 0
  · subst k0
    have C := Aside0.mk (fun o : Obj => rNumber_calls size (HR.out o) (HB1.out o))
    have HS : Aside0 (nothingS bs r ⟨0, n, size, x, is, y⟩ = (rNum bs r size).2) := ⟨rfl⟩
    have HG : Aside0 (nothingB bs r ⟨0, n, size, x, is, y⟩ = ((rNum bs r size).1 == 0)) := ⟨rfl⟩
    clear hr HR HB1
    unfold RPost at C
    rw [HS.out, HG.out]
    have HQ : Aside0 (rNum bs r size = rNum bs r size) := ⟨rfl⟩
    clear HS HG
    change Aside0 (∀ o : Obj, _) at C
    generalize hq : rNum bs r size = q
    have C2 := C.out
    simp only [rNum] at hq
    simp only [hq] at C2
    clear C hq HQ
    have C := Aside0.mk C2
    clear C2
    obtain ⟨v, r'⟩ := q
    simp only [encS] at C ⊢
    go_enter Try.func19, Try.ntmps19
    go_wp2_with ((go_at_call 25; refine (C.out _).mono ?_; rintro e w' ⟨rfl, hP⟩))
    go_ret
    exact RPost.from ⟨by first | rfl | (simp; done) | (congr 2; rw [Bool.eq_iff_iff]; simp; done), hP⟩ (below1 _)
  by_cases k1 : kind = 1
  · subst k1
    have C := Aside0.mk (fun o : Obj => rInt_calls (HR.out o) (HB1.out o))
    have HS : Aside0 (nothingS bs r ⟨1, n, size, x, is, y⟩ = (rInt bs r).2) := ⟨rfl⟩
    have HG : Aside0 (nothingB bs r ⟨1, n, size, x, is, y⟩ = ((rInt bs r).1 == 0)) := ⟨rfl⟩
    clear hr HR HB1
    unfold RPost at C
    rw [HS.out, HG.out]
    have HQ : Aside0 (rInt bs r = rInt bs r) := ⟨rfl⟩
    clear HS HG
    change Aside0 (∀ o : Obj, _) at C
    generalize hq : rInt bs r = q
    have C2 := C.out
    simp only [rInt] at hq
    simp only [hq] at C2
    clear C hq HQ
    have C := Aside0.mk C2
    clear C2
    obtain ⟨v, r'⟩ := q
    simp only [encS] at C ⊢
    go_enter Try.func19, Try.ntmps19
    go_wp2_with ((go_at_call 26; refine (C.out _).mono ?_; rintro e w' ⟨rfl, hP⟩))
    go_ret
    exact RPost.from ⟨by first | rfl | (simp; done) | (congr 2; rw [Bool.eq_iff_iff]; simp; done), hP⟩ (below1 _)
  by_cases k2 : kind = 2
  · subst k2
    have C := Aside0.mk (fun o : Obj => rFloat_calls (HR.out o) (HB1.out o))
    have HS : Aside0 (nothingS bs r ⟨2, n, size, x, is, y⟩ = (rFlo bs r).2) := ⟨rfl⟩
    have HG : Aside0 (nothingB bs r ⟨2, n, size, x, is, y⟩ = ((((rFlo bs r).1 : Nat) : Int) == 0)) := ⟨rfl⟩
    clear hr HR HB1
    unfold RPost at C
    rw [HS.out, HG.out]
    have HQ : Aside0 (rFlo bs r = rFlo bs r) := ⟨rfl⟩
    clear HS HG
    change Aside0 (∀ o : Obj, _) at C
    generalize hq : rFlo bs r = q
    have C2 := C.out
    simp only [rFlo] at hq
    simp only [hq] at C2
    clear C hq HQ
    have C := Aside0.mk C2
    clear C2
    obtain ⟨v, r'⟩ := q
    simp only [encS] at C ⊢
    go_enter Try.func19, Try.ntmps19
    go_wp2_with ((go_at_call 27; refine (C.out _).mono ?_; rintro e w' ⟨rfl, hP⟩))
    go_ret
    exact RPost.from ⟨by first | rfl | (simp; done) | (congr 2; rw [Bool.eq_iff_iff]; simp; done), hP⟩ (below1 _)
  by_cases k3 : kind = 3
  · subst k3
    have C := Aside0.mk (fun o : Obj => rBool_calls (HR.out o) (HB1.out o))
    have HS : Aside0 (nothingS bs r ⟨3, n, size, x, is, y⟩ = (rBoo bs r).2) := ⟨rfl⟩
    have HG : Aside0 (nothingB bs r ⟨3, n, size, x, is, y⟩ = (!(rBoo bs r).1)) := ⟨rfl⟩
    clear hr HR HB1
    unfold RPost at C
    rw [HS.out, HG.out]
    have HQ : Aside0 (rBoo bs r = rBoo bs r) := ⟨rfl⟩
    clear HS HG
    change Aside0 (∀ o : Obj, _) at C
    generalize hq : rBoo bs r = q
    have C2 := C.out
    simp only [rBoo] at hq
    simp only [hq] at C2
    clear C hq HQ
    have C := Aside0.mk C2
    clear C2
    obtain ⟨v, r'⟩ := q
    simp only [encS] at C ⊢
    go_enter Try.func19, Try.ntmps19
    go_wp2_with ((go_at_call 28; refine (C.out _).mono ?_; rintro e w' ⟨rfl, hP⟩))
    go_ret
    exact RPost.from ⟨by first | rfl | (simp; done) | (congr 2; rw [Bool.eq_iff_iff]; simp; done), hP⟩ (below1 _)
  by_cases k4 : kind = 4
  · subst k4
    have C := Aside0.mk (fun o : Obj => rText_calls size (HR.out o) (HB1.out o))
    have HS : Aside0 (nothingS bs r ⟨4, n, size, x, is, y⟩ = (rTex bs r size).2) := ⟨rfl⟩
    have HG : Aside0 (nothingB bs r ⟨4, n, size, x, is, y⟩ = ((strOfNums (rTex bs r size).1).toList.isEmpty)) := ⟨rfl⟩
    clear hr HR HB1
    unfold RPost at C
    rw [HS.out, HG.out]
    have HQ : Aside0 (rTex bs r size = rTex bs r size) := ⟨rfl⟩
    clear HS HG
    change Aside0 (∀ o : Obj, _) at C
    generalize hq : rTex bs r size = q
    have C2 := C.out
    simp only [rTex] at hq
    simp only [hq] at C2
    clear C hq HQ
    have C := Aside0.mk C2
    clear C2
    obtain ⟨v, r'⟩ := q
    simp only [encS] at C ⊢
    go_enter Try.func19, Try.ntmps19
    go_wp2_with ((go_at_call 29; refine (C.out _).mono ?_; rintro e w' ⟨rfl, hP⟩))
    go_ret
    exact RPost.from ⟨by first | rfl | (simp; done) | (congr 2; rw [Bool.eq_iff_iff]; simp; done), hP⟩ (below1 _)
  by_cases k5 : kind = 5
  · subst k5
    have C := Aside0.mk (fun o : Obj => rFixed_calls size (HR.out o) (HB1.out o))
    have HS : Aside0 (nothingS bs r ⟨5, n, size, x, is, y⟩ = (rFix bs r size).2) := ⟨rfl⟩
    have HG : Aside0 (nothingB bs r ⟨5, n, size, x, is, y⟩ = ((strOfNums (rFix bs r size).1).toList.isEmpty)) := ⟨rfl⟩
    clear hr HR HB1
    unfold RPost at C
    rw [HS.out, HG.out]
    have HQ : Aside0 (rFix bs r size = rFix bs r size) := ⟨rfl⟩
    clear HS HG
    change Aside0 (∀ o : Obj, _) at C
    generalize hq : rFix bs r size = q
    have C2 := C.out
    simp only [rFix] at hq
    simp only [hq] at C2
    clear C hq HQ
    have C := Aside0.mk C2
    clear C2
    obtain ⟨v, r'⟩ := q
    simp only [encS] at C ⊢
    go_enter Try.func19, Try.ntmps19
    go_wp2_with ((go_at_call 30; refine (C.out _).mono ?_; rintro e w' ⟨rfl, hP⟩))
    go_ret
    exact RPost.from ⟨by first | rfl | (simp; done) | (congr 2; rw [Bool.eq_iff_iff]; simp; done), hP⟩ (below1 _)
  by_cases k6 : kind = 6
  · subst k6
    have C := Aside0.mk (fun o : Obj => rCount_calls size (HR.out o) (HB1.out o))
    have HS : Aside0 (nothingS bs r ⟨6, n, size, x, is, y⟩ = (rCou bs r size).2) := ⟨rfl⟩
    have HG : Aside0 (nothingB bs r ⟨6, n, size, x, is, y⟩ = ((rCou bs r size).1 == 0)) := ⟨rfl⟩
    clear hr HR HB1
    unfold RPost at C
    rw [HS.out, HG.out]
    have HQ : Aside0 (rCou bs r size = rCou bs r size) := ⟨rfl⟩
    clear HS HG
    change Aside0 (∀ o : Obj, _) at C
    generalize hq : rCou bs r size = q
    have C2 := C.out
    simp only [rCou] at hq
    simp only [hq] at C2
    clear C hq HQ
    have C := Aside0.mk C2
    clear C2
    obtain ⟨v, r'⟩ := q
    simp only [encS] at C ⊢
    go_enter Try.func19, Try.ntmps19
    go_wp2_with ((go_at_call 31; refine (C.out _).mono ?_; rintro e w' ⟨rfl, hP⟩))
    go_ret
    exact RPost.from ⟨by first | rfl | (simp; done) | (congr 2; rw [Bool.eq_iff_iff]; simp; done), hP⟩ (below1 _)
  have HS : Aside0 (nothingS bs r ⟨kind, n, size, x, is, y⟩ = r) := ⟨by simp [nothingS, k0, k1, k2, k3, k4, k5, k6]⟩
  have HG : Aside0 (nothingB bs r ⟨kind, n, size, x, is, y⟩ = true) := ⟨by simp [nothingB, k0, k1, k2, k3, k4, k5, k6]⟩
  have t0 : (kind == 0) = false := beq_eq_false_iff_ne.2 k0
  have t1 : (kind == 1) = false := beq_eq_false_iff_ne.2 k1
  have t2 : (kind == 2) = false := beq_eq_false_iff_ne.2 k2
  have t3 : (kind == 3) = false := beq_eq_false_iff_ne.2 k3
  have t4 : (kind == 4) = false := beq_eq_false_iff_ne.2 k4
  have t5 : (kind == 5) = false := beq_eq_false_iff_ne.2 k5
  have t6 : (kind == 6) = false := beq_eq_false_iff_ne.2 k6
  clear k0 k1 k2 k3 k4 k5 k6 hr
  go_enter Try.func19, Try.ntmps19
  go_wp2
  go_ret
  rw [HS.out, HG.out]
  exact ⟨rfl, HR.out _, Fr.of_below (below1 _)⟩
set_option maxHeartbeats 16000000 in
theorem taken_calls (p : Pc) (hp : p.Ok) (hr : Rd w B g ro bs r) (hB : B ≤ w.heap.size) :
    Calls Try.prog 32 #[.pointer (some ⟨g, 0, none⟩), p.val] w (RPost B g ro bs (.bool (takenB bs r p)) (takenS bs r p) w) := by
  obtain ⟨kind, n, size, x, is, y⟩ := p
  have hy := hp.s
  simp only at hy
  clear hp
  have hg := hr.lt
  unfold Pc.val
  have HR := Aside0.mk (fun o : Obj => hr.below (below1 o))
  have HB1 := Aside0.mk (fun o : Obj => Nat.le_trans hB (below1 (w := w) o).size)
  have hfb : ∀ (a : Nat) (w : World), (callFunc 48 #[.float .f64 a]).run Try.prog w = .ok (.value (.int .u64 a)) w := fun a w => by kernel_rfl
  simp only
  by_cases k0 : kind = 0
  · subst k0
    have C := Aside0.mk (fun o : Obj => rNumber_calls size (HR.out o) (HB1.out o))
    have HS : Aside0 (takenS bs r ⟨0, n, size, x, is, y⟩ = (rNum bs r size).2) := ⟨rfl⟩
    have HG : Aside0 (takenB bs r ⟨0, n, size, x, is, y⟩ = ((rNum bs r size).1 == n)) := ⟨rfl⟩
    clear hr HR HB1
    unfold RPost at C
    rw [HS.out, HG.out]
    have HQ : Aside0 (rNum bs r size = rNum bs r size) := ⟨rfl⟩
    clear HS HG
    change Aside0 (∀ o : Obj, _) at C
    generalize hq : rNum bs r size = q
    have C2 := C.out
    simp only [rNum] at hq
    simp only [hq] at C2
    clear C hq HQ
    have C := Aside0.mk C2
    clear C2
    obtain ⟨v, r'⟩ := q
    simp only [encS] at C ⊢
    go_enter Try.func32, Try.ntmps32
    go_wp2_with ((go_at_call 25; refine (C.out _).mono ?_; rintro e w' ⟨rfl, hP⟩; have hb := hP.2.blk (heap_alloc_new w _) (by omega); have d1 := (blk_cell hb 1).trans rfl; have d3 := (blk_cell hb 3).trans rfl; have d4 := (blk_cell hb 4).trans rfl; have d5 := (blk_cell hb 5).trans rfl; clear hb))
    go_ret
    exact RPost.from ⟨by first | rfl | (simp; done) | (congr 2; rw [Bool.eq_iff_iff]; simp; done), hP⟩ (below1 _)
  by_cases k1 : kind = 1
  · subst k1
    have C := Aside0.mk (fun o : Obj => rInt_calls (HR.out o) (HB1.out o))
    have HS : Aside0 (takenS bs r ⟨1, n, size, x, is, y⟩ = (rInt bs r).2) := ⟨rfl⟩
    have HG : Aside0 (takenB bs r ⟨1, n, size, x, is, y⟩ = ((rInt bs r).1 == n)) := ⟨rfl⟩
    clear hr HR HB1
    unfold RPost at C
    rw [HS.out, HG.out]
    have HQ : Aside0 (rInt bs r = rInt bs r) := ⟨rfl⟩
    clear HS HG
    change Aside0 (∀ o : Obj, _) at C
    generalize hq : rInt bs r = q
    have C2 := C.out
    simp only [rInt] at hq
    simp only [hq] at C2
    clear C hq HQ
    have C := Aside0.mk C2
    clear C2
    obtain ⟨v, r'⟩ := q
    simp only [encS] at C ⊢
    go_enter Try.func32, Try.ntmps32
    go_wp2_with ((go_at_call 26; refine (C.out _).mono ?_; rintro e w' ⟨rfl, hP⟩; have hb := hP.2.blk (heap_alloc_new w _) (by omega); have d1 := (blk_cell hb 1).trans rfl; have d3 := (blk_cell hb 3).trans rfl; have d4 := (blk_cell hb 4).trans rfl; have d5 := (blk_cell hb 5).trans rfl; clear hb))
    go_ret
    exact RPost.from ⟨by first | rfl | (simp; done) | (congr 2; rw [Bool.eq_iff_iff]; simp; done), hP⟩ (below1 _)
  by_cases k2 : kind = 2
  · subst k2
    have C := Aside0.mk (fun o : Obj => rFloat_calls (HR.out o) (HB1.out o))
    have HS : Aside0 (takenS bs r ⟨2, n, size, x, is, y⟩ = (rFlo bs r).2) := ⟨rfl⟩
    have HG : Aside0 (takenB bs r ⟨2, n, size, x, is, y⟩ = (fBits (rFlo bs r).1 == fBits x)) := ⟨rfl⟩
    clear hr HR HB1
    unfold RPost at C
    rw [HS.out, HG.out]
    have HQ : Aside0 (rFlo bs r = rFlo bs r) := ⟨rfl⟩
    clear HS HG
    change Aside0 (∀ o : Obj, _) at C
    generalize hq : rFlo bs r = q
    have C2 := C.out
    simp only [rFlo] at hq
    simp only [hq] at C2
    clear C hq HQ
    have C := Aside0.mk C2
    clear C2
    obtain ⟨v, r'⟩ := q
    simp only [encS] at C ⊢
    go_enter Try.func32, Try.ntmps32
    go_wp2_with (first | (go_at_call 27; refine (C.out _).mono ?_; rintro e w' ⟨rfl, hP⟩; have hb := hP.2.blk (heap_alloc_new w _) (by omega); have d1 := (blk_cell hb 1).trans rfl; have d3 := (blk_cell hb 3).trans rfl; have d4 := (blk_cell hb 4).trans rfl; have d5 := (blk_cell hb 5).trans rfl; clear hb) | (go_at_call 52; refine (same_calls _ _ _).mono ?_; rintro e w2 ⟨rfl, rfl⟩))
    go_ret
    exact RPost.from ⟨by first | rfl | (simp; done) | (congr 2; rw [Bool.eq_iff_iff]; simp; done), hP⟩ (below1 _)
  by_cases k3 : kind = 3
  · subst k3
    have C := Aside0.mk (fun o : Obj => rBool_calls (HR.out o) (HB1.out o))
    have HS : Aside0 (takenS bs r ⟨3, n, size, x, is, y⟩ = (rBoo bs r).2) := ⟨rfl⟩
    have HG : Aside0 (takenB bs r ⟨3, n, size, x, is, y⟩ = ((rBoo bs r).1 == is)) := ⟨rfl⟩
    clear hr HR HB1
    unfold RPost at C
    rw [HS.out, HG.out]
    have HQ : Aside0 (rBoo bs r = rBoo bs r) := ⟨rfl⟩
    clear HS HG
    change Aside0 (∀ o : Obj, _) at C
    generalize hq : rBoo bs r = q
    have C2 := C.out
    simp only [rBoo] at hq
    simp only [hq] at C2
    clear C hq HQ
    have C := Aside0.mk C2
    clear C2
    obtain ⟨v, r'⟩ := q
    simp only [encS] at C ⊢
    go_enter Try.func32, Try.ntmps32
    go_wp2_with ((go_at_call 28; refine (C.out _).mono ?_; rintro e w' ⟨rfl, hP⟩; have hb := hP.2.blk (heap_alloc_new w _) (by omega); have d1 := (blk_cell hb 1).trans rfl; have d3 := (blk_cell hb 3).trans rfl; have d4 := (blk_cell hb 4).trans rfl; have d5 := (blk_cell hb 5).trans rfl; clear hb))
    go_ret
    exact RPost.from ⟨by first | rfl | (simp; done) | (congr 2; rw [Bool.eq_iff_iff]; simp; done), hP⟩ (below1 _)
  by_cases k4 : kind = 4
  · subst k4
    have C := Aside0.mk (fun o : Obj => rText_calls y.size (HR.out o) (HB1.out o))
    have HS : Aside0 (takenS bs r ⟨4, n, size, x, is, y⟩ = (rTex bs r y.size).2) := ⟨rfl⟩
    have HG : Aside0 (takenB bs r ⟨4, n, size, x, is, y⟩ = ((strOfNums (rTex bs r y.size).1).toList == y.toList)) := ⟨rfl⟩
    clear hr HR HB1
    unfold RPost at C
    rw [HS.out, HG.out]
    have HQ : Aside0 (rTex bs r y.size = rTex bs r y.size) := ⟨rfl⟩
    clear HS HG
    change Aside0 (∀ o : Obj, _) at C
    generalize hq : rTex bs r y.size = q
    have C2 := C.out
    simp only [rTex] at hq
    simp only [hq] at C2
    clear C hq HQ
    have C := Aside0.mk C2
    clear C2
    obtain ⟨v, r'⟩ := q
    simp only [encS] at C ⊢
    go_enter Try.func32, Try.ntmps32
    go_wp2_with ((go_at_call 29; refine (C.out _).mono ?_; rintro e w' ⟨rfl, hP⟩; have hb := hP.2.blk (heap_alloc_new w _) (by omega); have d1 := (blk_cell hb 1).trans rfl; have d3 := (blk_cell hb 3).trans rfl; have d4 := (blk_cell hb 4).trans rfl; have d5 := (blk_cell hb 5).trans rfl; clear hb))
    go_ret
    exact RPost.from ⟨by first | rfl | (simp; done) | (congr 2; rw [Bool.eq_iff_iff]; simp; done), hP⟩ (below1 _)
  by_cases k5 : kind = 5
  · subst k5
    have C := Aside0.mk (fun o : Obj => rFixed_calls size (HR.out o) (HB1.out o))
    have HS : Aside0 (takenS bs r ⟨5, n, size, x, is, y⟩ = (rFix bs r size).2) := ⟨rfl⟩
    have HG : Aside0 (takenB bs r ⟨5, n, size, x, is, y⟩ = ((strOfNums (rFix bs r size).1).toList == y.toList)) := ⟨rfl⟩
    clear hr HR HB1
    unfold RPost at C
    rw [HS.out, HG.out]
    have HQ : Aside0 (rFix bs r size = rFix bs r size) := ⟨rfl⟩
    clear HS HG
    change Aside0 (∀ o : Obj, _) at C
    generalize hq : rFix bs r size = q
    have C2 := C.out
    simp only [rFix] at hq
    simp only [hq] at C2
    clear C hq HQ
    have C := Aside0.mk C2
    clear C2
    obtain ⟨v, r'⟩ := q
    simp only [encS] at C ⊢
    go_enter Try.func32, Try.ntmps32
    go_wp2_with ((go_at_call 30; refine (C.out _).mono ?_; rintro e w' ⟨rfl, hP⟩; have hb := hP.2.blk (heap_alloc_new w _) (by omega); have d1 := (blk_cell hb 1).trans rfl; have d3 := (blk_cell hb 3).trans rfl; have d4 := (blk_cell hb 4).trans rfl; have d5 := (blk_cell hb 5).trans rfl; clear hb))
    go_ret
    exact RPost.from ⟨by first | rfl | (simp; done) | (congr 2; rw [Bool.eq_iff_iff]; simp; done), hP⟩ (below1 _)
  by_cases k6 : kind = 6
  · subst k6
    have C := Aside0.mk (fun o : Obj => rCount_calls n (HR.out o) (HB1.out o))
    have HS : Aside0 (takenS bs r ⟨6, n, size, x, is, y⟩ = (rCou bs r n).2) := ⟨rfl⟩
    have HG : Aside0 (takenB bs r ⟨6, n, size, x, is, y⟩ = ((rCou bs r n).1 == n)) := ⟨rfl⟩
    clear hr HR HB1
    unfold RPost at C
    rw [HS.out, HG.out]
    have HQ : Aside0 (rCou bs r n = rCou bs r n) := ⟨rfl⟩
    clear HS HG
    change Aside0 (∀ o : Obj, _) at C
    generalize hq : rCou bs r n = q
    have C2 := C.out
    simp only [rCou] at hq
    simp only [hq] at C2
    clear C hq HQ
    have C := Aside0.mk C2
    clear C2
    obtain ⟨v, r'⟩ := q
    simp only [encS] at C ⊢
    go_enter Try.func32, Try.ntmps32
    go_wp2_with ((go_at_call 31; refine (C.out _).mono ?_; rintro e w' ⟨rfl, hP⟩; have hb := hP.2.blk (heap_alloc_new w _) (by omega); have d1 := (blk_cell hb 1).trans rfl; have d3 := (blk_cell hb 3).trans rfl; have d4 := (blk_cell hb 4).trans rfl; have d5 := (blk_cell hb 5).trans rfl; clear hb))
    go_ret
    exact RPost.from ⟨by first | rfl | (simp; done) | (congr 2; rw [Bool.eq_iff_iff]; simp; done), hP⟩ (below1 _)
  have HS : Aside0 (takenS bs r ⟨kind, n, size, x, is, y⟩ = r) := ⟨by simp [takenS, k0, k1, k2, k3, k4, k5, k6]⟩
  have HG : Aside0 (takenB bs r ⟨kind, n, size, x, is, y⟩ = true) := ⟨by simp [takenB, k0, k1, k2, k3, k4, k5, k6]⟩
  have t0 : (kind == 0) = false := beq_eq_false_iff_ne.2 k0
  have t1 : (kind == 1) = false := beq_eq_false_iff_ne.2 k1
  have t2 : (kind == 2) = false := beq_eq_false_iff_ne.2 k2
  have t3 : (kind == 3) = false := beq_eq_false_iff_ne.2 k3
  have t4 : (kind == 4) = false := beq_eq_false_iff_ne.2 k4
  have t5 : (kind == 5) = false := beq_eq_false_iff_ne.2 k5
  have t6 : (kind == 6) = false := beq_eq_false_iff_ne.2 k6
  clear k0 k1 k2 k3 k4 k5 k6 hr
  go_enter Try.func32, Try.ntmps32
  go_wp2
  go_ret
  rw [HS.out, HG.out]
  exact ⟨rfl, HR.out _, Fr.of_below (below1 _)⟩
end
end Go.Proofs.Ytgcehkhlkjahjaa.Wi
