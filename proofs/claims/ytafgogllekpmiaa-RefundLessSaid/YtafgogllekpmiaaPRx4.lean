-- PRINTED by print.py (a twelfth state) out of the translation. Not trusted: Lean checks it.
import Derived.Test.YtafgogllekpmiaaPRx0
import Derived.Test.YtafgogllekpmiaaPRx3
namespace Go.Proofs.Ytafgogllekpmiaa.PR
open Go.RowKit Go.Proofs.YtafgogllekpmiaaW.PrintWords Go.Proofs.YtafgogllekpmiaaW.PrintLast Go.Proofs.YtafgogllekpmiaaW.PrintMore
attribute [local go_sem] max2_int min2_int max_two min_two max_three min_three max_four min_four   -- for this text's walks alone
set_option linter.unusedVariables false
set_option linter.unusedSimpArgs false

attribute [local go_sem high] eqA51
/-- the first place at which p holds; -1: none -/
def idxF {α : Type} (p : α → Bool) : List α → Int → Int
  | [], _ => -1
  | x :: r, i => if p x then i else idxF p r (i + 1)
theorem idxF_any {α : Type} (p : α → Bool) (l : List α) (i : Int) (h : 0 ≤ i) : decide (0 ≤ idxF p l i) = l.any p := by
  induction l generalizing i with
  | nil => simp [idxF]
  | cons x r ih =>
    unfold idxF
    by_cases hx : p x = true
    · simp [hx, h]
    · simp only [hx]
      rw [List.any_cons]
      simp only [hx, Bool.false_or]
      exact ih (i + 1) (by omega)
def outV (x : S35) : Value := .agg #[.int .i64 x.f0, .int .i64 x.f1, .int .i64 x.f2]
/-- what is asked of a predicate on outages -/
def PredO (g : Nat) (lb : Array Value) (p : S35 → Bool) (w : World) : Prop :=
  ∀ (W : World) (x : S35), Below w.heap.size w W → Calls Try.prog g (#[outV x] ++ lb) W fun e w' => e = .returned (.bool (p x)) ∧ Below W.heap.size W w'
theorem drop_cons {α : Type} (l : List α) (k : Nat) (h : k < l.length) : l.drop k = l[k] :: l.drop (k + 1) := List.drop_eq_getElem_cons h
set_option maxHeartbeats 2000000 in
theorem indexFunc_calls (g : Nat) (lb : Array Value) (eg : ∀ args w, (callFunc g args).run Try.prog w = .ok (.enter g args) w) (p : S35 → Bool) (A : Option Addr) (c : Nat) (l : List S35) (w : World)
    (hp : PredO g lb p w) (hr : Kd.C k35 w A l.length l) (hc : l.length ≤ c) :
    Calls Try.prog 29 #[.slice A l.length c, .func (.func g) #[] lb] w fun e w' => e = .returned (.int .i64 (idxF p l 0)) ∧ Below w.heap.size w w' := by
  have HR := Aside0.mk hr
  have hm : l.length ≤ 9223372036854775807 := hr.2.1
  have HP := Aside0.mk hp
  clear hr hp
  go_enter Try.func29, Try.ntmps29
  go_wp2
  go_loopg [5, 8] l.length (fun gg _ s8 wr => ∃ kk : Nat, kk ≤ l.length ∧ l.length - kk ≤ gg ∧ s8 = .int .i64 kk ∧ Aside0 (Below w.heap.size w wr) ∧ Aside0 (idxF p (l.drop kk) kk = idxF p l 0))
  case atStart => exact ⟨0, Nat.zero_le _, by omega, rfl, ⟨Below.refl _ w⟩, ⟨rfl⟩⟩
  case round =>
    obtain ⟨kk, hkk, hg, rfl, BW, HI⟩ := hrel
    by_cases hlt : kk < l.length
    · have hltz : (kk : Int) < (l.length : Int) := by omega
      obtain ⟨ad, rfl, c0, c1, c2⟩ := at_T35 (Kd.C_below HR.out BW.out) kk (by omega) hltz
      simp only [Int.toNat_natCast] at c0 c1 c2
      have hcall := HP.out wr (rd_T35 l kk) BW.out
      have HE : Aside0 (l[kk] = rd_T35 l kk) := ⟨by unfold rd_T35; simp [List.getD_eq_getElem?_getD, List.getElem?_eq_getElem hlt]⟩
      clear HR
      unfold outV at hcall
      generalize rd_T35 l kk = y at c0 c1 c2 hcall HE
      have HS : Aside0 (idxF p (l.drop kk) kk = if p y then (kk : Int) else idxF p (l.drop (kk + 1)) ((kk : Int) + 1)) := ⟨by rw [drop_cons l kk hlt, idxF, HE.out]⟩
      clear HE
      cases hq : p y with
      | true =>
        rw [hq] at hcall
        have HF : Aside0 (idxF p l 0 = (kk : Int)) := ⟨by rw [← HI.out, HS.out, hq]; rfl⟩
        clear HI HS hq
        go_wp2_with (go_at_fn g; refine hcall.mono ?_; rintro e w' ⟨rfl, hb'⟩)
        go_ret
        exact ⟨by rw [HF.out]; rfl, below_then BW.out BW.out.size hb'⟩
      | false =>
        rw [hq] at hcall
        have HF : Aside0 (idxF p (l.drop (kk + 1)) ((kk : Int) + 1) = idxF p l 0) := ⟨by rw [← HI.out, HS.out, hq]; rfl⟩
        clear HI HS hq
        go_wp2_with (go_at_fn g; refine hcall.mono ?_; rintro e w' ⟨rfl, hb'⟩)
        go_roundg (l.length - (kk + 1))
        case measure => omega
        case rel => exact ⟨kk + 1, by omega, by omega, by go_num, ⟨below_then BW.out BW.out.size hb'⟩, ⟨by have := HF.out; simpa using this⟩⟩
    · have hltz : ¬ (kk : Int) < (l.length : Int) := by omega
      have HF : Aside0 (idxF p l 0 = -1) := ⟨by rw [← HI.out, List.drop_eq_nil_of_le (by omega)]; rfl⟩
      clear HI
      go_wp2
      go_ret
      exact ⟨by rw [HF.out]; rfl, BW.out⟩
set_option maxHeartbeats 2000000 in
theorem containsFunc_calls (g : Nat) (lb : Array Value) (eg : ∀ args w, (callFunc g args).run Try.prog w = .ok (.enter g args) w) (p : S35 → Bool) (A : Option Addr) (c : Nat) (l : List S35) (w : World)
    (hp : PredO g lb p w) (hr : Kd.C k35 w A l.length l) (hc : l.length ≤ c) :
    Calls Try.prog 19 #[.slice A l.length c, .func (.func g) #[] lb] w fun e w' => e = .returned (.bool (l.any p)) ∧ Below w.heap.size w w' := by
  have HI := indexFunc_calls g lb eg p A c l w hp hr hc
  have HA := Aside0.mk (idxF_any p l 0 (Int.le_refl _))
  have HR := Aside0.mk hr
  have HP := Aside0.mk hp
  clear hr hp
  generalize idxF p l 0 = n at HI HA
  go_enter Try.func19, Try.ntmps19
  go_wp2_with (go_at_call 29; refine HI.mono ?_; rintro e w' ⟨rfl, hb⟩)
  go_ret
  exact ⟨by rw [← HA.out]; rfl, hb⟩

def timeB (t : Int) : Bool := decide (0 ≤ t) && decide (t ≤ 2147483648)
theorem timeB_true {t : Int} (h : timeB t = true) : 0 ≤ t ∧ t ≤ 2147483648 := by
  unfold timeB at h
  simpa using h
set_option maxHeartbeats 400000 in
theorem clockRight_calls (t : Int) (w : World) : Calls Try.prog 18 #[.int .i64 t] w fun e w' => e = .returned (.bool (timeB t)) ∧ w = w' := by
  unfold timeB
  have main : ∀ (c0 : Bool), decide (0 ≤ t) = c0 → Calls Try.prog 18 #[.int .i64 t] w fun e w' => e = .returned (.bool (c0 && decide (t ≤ 2147483648))) ∧ w = w' := by
    intro c0 h0
    cases c0 <;>
    · go_enter Try.func18, Try.ntmps18
      go_wp2
      go_ret
      exact ⟨by first | (simp; done) | rfl, rfl⟩
  exact main _ rfl
theorem blk2 (w : World) (o o' : Obj) : ((w.alloc o).alloc o').heap[w.heap.size + 1]? = some o' := by
  have := heap_alloc_new (w.alloc o) o'
  simpa using this

/-! ### clock_Right: function 18 -/
def clock_Right.f (a0 : Int) : Option (Bool) := if 0 ≤ a0 then (some (decide (a0 ≤ 2147483648))) else (some false)
set_option maxHeartbeats 8000000 in
set_option maxRecDepth 100000 in
theorem clock_Right.calls (a0 : Int) (r : Bool) (w : World) (h : clock_Right.f a0 = some r) :
    Calls Try.prog 18 #[.int .i64 a0] w fun e w' => e = .returned (.bool r) ∧ Drawn0 w w' := by
  have H : (if 0 ≤ a0 then (some (decide (a0 ≤ 2147483648))) else (some false)) = some r := h
  clear h
  by_cases c2 : 0 ≤ a0
  · rw [if_pos c2] at H
    have c2b0 : decide (0 ≤ a0) = true := decide_eq_true c2
    clear c2
    obtain rfl := Option.some.inj H
    go_enter Try.func18, Try.ntmps18
    go_wp2
    go_ret
    exact ⟨by first | rfl | (simp; done) | (simp [*]; done), by repeat (first | exact Drawn0.refl _ | apply Drawn0.step)⟩
  · rw [if_neg c2] at H
    have c2b0 : decide (0 ≤ a0) = false := decide_eq_false c2
    clear c2
    obtain rfl := Option.some.inj H
    go_enter Try.func18, Try.ntmps18
    go_wp2
    go_ret
    exact ⟨by first | rfl | (simp; done) | (simp [*]; done), by repeat (first | exact Drawn0.refl _ | apply Drawn0.step)⟩

-- NOT PRINTED: function 29 (api_Outage_29)

-- NOT PRINTED: function 19 (api_Outage_19)

/-! ### refund_Held: function 9 -/
/-- what a journey's block holds -/
def jCells (kd fr tt st en : Int) (fe : Bool) : Obj := .cells #[.int .i64 kd, .int .i64 fr, .int .i64 tt, .int .i64 st, .int .i64 en, .bool fe] 31
def by1 (fr st : Int) (x : S35) : Bool := decide (x.f0 = fr) && (decide (x.f1 ≤ st) && decide (st < x.f2))
def by2 (fr tt st en : Int) (x : S35) : Bool := (decide (x.f0 = fr) || decide (x.f0 = tt)) && (decide (x.f1 ≤ en) && decide (st < x.f2))
theorem jcell {w : World} {b : Nat} {kd fr tt st en : Int} {fe : Bool} (h : w.heap[b]? = some (jCells kd fr tt st en fe)) (i : Nat) : w.cell? ⟨b, i, none⟩ = (#[.int .i64 kd, .int .i64 fr, .int .i64 tt, .int .i64 st, .int .i64 en, .bool fe] : Array Value)[i]? := blk_cell h i
set_option maxHeartbeats 2000000 in
theorem held1_calls (b : Nat) (kd fr tt st en : Int) (fe : Bool) (x0 x1 x2 : Int) (w : World) (h : w.heap[b]? = some (jCells kd fr tt st en fe)) :
    Calls Try.prog 20 #[.agg #[.int .i64 x0, .int .i64 x1, .int .i64 x2], .pointer (some ⟨b, 0, none⟩)] w fun e w' => e = .returned (.bool (by1 fr st ⟨x0, x1, x2⟩)) ∧ Below w.heap.size w w' := by
  have hlt : b < w.heap.size := blk_lt h
  have hne : ¬ b = w.heap.size := by omega
  have H1 : ∀ o : Obj, (w.alloc o).cell? ⟨b, 1, none⟩ = some (.int .i64 fr) := fun o => by rw [World.cell?_alloc_past _ _ _ hlt, jcell h]; rfl
  have H3 : ∀ o : Obj, (w.alloc o).cell? ⟨b, 3, none⟩ = some (.int .i64 st) := fun o => by rw [World.cell?_alloc_past _ _ _ hlt, jcell h]; rfl
  clear h
  unfold by1
  have HB : ∀ o : Obj, Below w.heap.size w (w.alloc o) := fun o => below_alloc (Below.refl _ _) o
  have HB' := Aside0.mk HB
  clear HB
  by_cases e0 : x0 = fr
  · have t0 : (x0 == fr) = true := beq_iff_eq.mpr e0
    by_cases e1 : x1 ≤ st
    · have t1 : decide (x1 ≤ st) = true := decide_eq_true e1
      have HG : Aside0 (∀ z, (decide (x0 = fr) && (decide (x1 ≤ st) && z)) = z) := ⟨fun z => by simp [e0, e1]⟩
      clear e0 e1
      go_enter Try.func20, Try.ntmps20
      go_wp2
      go_ret
      exact ⟨by rw [HG.out]; rfl, HB'.out _⟩
    · have t1 : decide (x1 ≤ st) = false := decide_eq_false e1
      have HG : Aside0 (∀ z, (decide (x0 = fr) && (decide (x1 ≤ st) && z)) = false) := ⟨fun z => by simp [e0, e1]⟩
      clear e0 e1
      go_enter Try.func20, Try.ntmps20
      go_wp2
      go_ret
      exact ⟨by rw [HG.out]; rfl, HB'.out _⟩
  · have t0 : (x0 == fr) = false := beq_eq_false_iff_ne.mpr e0
    have HG : Aside0 (∀ z, (decide (x0 = fr) && z) = false) := ⟨fun z => by simp [e0]⟩
    clear e0
    go_enter Try.func20, Try.ntmps20
    go_wp2
    go_ret
    exact ⟨by rw [HG.out]; rfl, HB'.out _⟩
set_option maxHeartbeats 2000000 in
theorem held2_calls (b : Nat) (kd fr tt st en : Int) (fe : Bool) (x0 x1 x2 : Int) (w : World) (h : w.heap[b]? = some (jCells kd fr tt st en fe)) :
    Calls Try.prog 21 #[.agg #[.int .i64 x0, .int .i64 x1, .int .i64 x2], .pointer (some ⟨b, 0, none⟩)] w fun e w' => e = .returned (.bool (by2 fr tt st en ⟨x0, x1, x2⟩)) ∧ Below w.heap.size w w' := by
  have hlt : b < w.heap.size := blk_lt h
  have hne : ¬ b = w.heap.size := by omega
  have H1 : ∀ o : Obj, (w.alloc o).cell? ⟨b, 1, none⟩ = some (.int .i64 fr) := fun o => by rw [World.cell?_alloc_past _ _ _ hlt, jcell h]; rfl
  have H2 : ∀ o : Obj, (w.alloc o).cell? ⟨b, 2, none⟩ = some (.int .i64 tt) := fun o => by rw [World.cell?_alloc_past _ _ _ hlt, jcell h]; rfl
  have H3 : ∀ o : Obj, (w.alloc o).cell? ⟨b, 3, none⟩ = some (.int .i64 st) := fun o => by rw [World.cell?_alloc_past _ _ _ hlt, jcell h]; rfl
  have H4 : ∀ o : Obj, (w.alloc o).cell? ⟨b, 4, none⟩ = some (.int .i64 en) := fun o => by rw [World.cell?_alloc_past _ _ _ hlt, jcell h]; rfl
  clear h
  unfold by2
  have HB : ∀ o : Obj, Below w.heap.size w (w.alloc o) := fun o => below_alloc (Below.refl _ _) o
  have HB' := Aside0.mk HB
  clear HB
  have main : ∀ (c0 c1 c2 : Bool), (x0 == fr) = c0 → (x0 == tt) = c1 → decide (x1 ≤ en) = c2 → Calls Try.prog 21 #[.agg #[.int .i64 x0, .int .i64 x1, .int .i64 x2], .pointer (some ⟨b, 0, none⟩)] w fun e w' => e = .returned (.bool ((c0 || c1) && (c2 && decide (st < x2)))) ∧ Below w.heap.size w w' := by
    intro c0 c1 c2 h0 h1 h2
    cases c0 <;> cases c1 <;> cases c2 <;>
    · go_enter Try.func21, Try.ntmps21
      go_wp2
      go_ret
      exact ⟨by first | rfl | (simp; done), HB'.out _⟩
  have key := main _ _ _ rfl rfl rfl
  rw [show decide (x0 = fr) = (x0 == fr) from rfl, show decide (x0 = tt) = (x0 == tt) from rfl]
  exact key

def heldB (delay : Int) (l : List S35) (kd fr tt st en : Int) : Bool :=
  if kd = 2 ∨ kd = 3 then l.any (by1 fr st)
  else if kd = 1 then (if timeB st = true then if timeB en = true then if en - st < delay then false else l.any (by2 fr tt st en) else false else false)
  else false
def refund_Held.f (k : Nat) (l0_0 : List (S49)) (l0_1 : List (S51)) (l0_2 : List (S53)) (a0_3 : Nat) (a0_4 : Int) (a0_5 : Int) (a0_6 : Int) (a0_7 : Int) (a0_8 : Int) (a0_9 : Int) (a0_10 : Int) (a0_11 : Int) (a0_12 : Int) (a0_13 : Int) (l1 : List (S35)) (a2_0 : Int) (a2_1 : Int) (a2_2 : Int) (a2_3 : Int) (a2_4 : Int) (a2_5 : Bool) : Option (Bool) := match k with
  | 0 => none
  | _ + 1 => some (heldB a0_12 l1 a2_0 a2_1 a2_2 a2_3 a2_4)
theorem refund_Held.mono : ∀ a0_ a1_ a2_ a3_ a4_ a5_ a6_ a7_ a8_ a9_ a10_ a11_ a12_ a13_ a14_ a15_ a16_ a17_ a18_ a19_ a20_ k, LeO (refund_Held.f k a0_ a1_ a2_ a3_ a4_ a5_ a6_ a7_ a8_ a9_ a10_ a11_ a12_ a13_ a14_ a15_ a16_ a17_ a18_ a19_ a20_) (refund_Held.f (k + 1) a0_ a1_ a2_ a3_ a4_ a5_ a6_ a7_ a8_ a9_ a10_ a11_ a12_ a13_ a14_ a15_ a16_ a17_ a18_ a19_ a20_)
  | _, _, _, _, _, _, _, _, _, _, _, _, _, _, _, _, _, _, _, _, _, 0 => LeO.none _
  | _, _, _, _, _, _, _, _, _, _, _, _, _, _, _, _, _, _, _, _, _, _ + 1 => LeO.refl _
/-- a predicate over a journey's block, from its walk -/
theorem pred_of {b : Nat} {o : Obj} {g : Nat} {p : S35 → Bool} {w : World} (h : w.heap[b]? = some o) (hw : ∀ (x0 x1 x2 : Int) (W : World), W.heap[b]? = some o → Calls Try.prog g #[.agg #[.int .i64 x0, .int .i64 x1, .int .i64 x2], .pointer (some ⟨b, 0, none⟩)] W fun e w' => e = .returned (.bool (p ⟨x0, x1, x2⟩)) ∧ Below W.heap.size W w') :
    PredO g #[.pointer (some ⟨b, 0, none⟩)] p w := fun W x hb => hw x.f0 x.f1 x.f2 W ((hb.block b (blk_lt h)).trans h)
theorem enters20 : ∀ args w, (callFunc 20 args).run Try.prog w = .ok (.enter 20 args) w := enters_of Try.func20 (by kernel_rfl) rfl
theorem enters21 : ∀ args w, (callFunc 21 args).run Try.prog w = .ok (.enter 21 args) w := enters_of Try.func21 (by kernel_rfl) rfl
theorem below2 {w W w' : World} {o o' : Obj} (h : Below ((w.alloc o).alloc o').heap.size ((w.alloc o).alloc o') w') : Below w.heap.size w w' :=
  below_then (below_alloc (below_alloc (Below.refl _ _) o) o') (by simp; omega) h
set_option maxHeartbeats 4000000 in
theorem held_core (v0 v1 v2 : Value) (A0_0 A0_1 A0_2 : Option Addr) (n0 n1 n2 c0_0 c0_1 c0_2 : Nat) (a0_3 : Nat) (a0_4 a0_5 a0_6 a0_7 a0_8 a0_9 a0_10 a0_11 a0_12 a0_13 : Int) (A1 : Option Addr) (c1 : Nat) (l1 : List S35) (kd fr tt st en : Int) (fe : Bool) (w : World)
    (hr1 : Kd.C k35 w A1 l1.length l1) (hc1 : l1.length ≤ c1) :
    Calls Try.prog 9 #[.agg #[.slice A0_0 n0 c0_0, .slice A0_1 n1 c0_1, .slice A0_2 n2 c0_2, .float .f64 a0_3, .int .i64 a0_4, .int .i64 a0_5, .int .i64 a0_6, .int .i64 a0_7, .int .i64 a0_8, .int .i64 a0_9, .int .i64 a0_10, .int .i64 a0_11, .int .i64 a0_12, .int .i64 a0_13], .slice A1 l1.length c1, .agg #[.int .i64 kd, .int .i64 fr, .int .i64 tt, .int .i64 st, .int .i64 en, .bool fe]] w fun e w' => e = .returned (.bool (heldB a0_12 l1 kd fr tt st en)) ∧ Below w.heap.size w w' := by
  have hmf : ∀ (fn : Fn) (first cap : Array Value) (w : World), (Instr.makeFunc fn first cap).run Try.prog w = .ok (.func fn first cap) w := fun _ _ _ _ => rfl
  have HR : ∀ (o o' : Obj), Kd.C k35 ((w.alloc o).alloc o') A1 l1.length l1 := fun o o' => Kd.C_below hr1 (below_alloc (below_alloc (Below.refl _ _) o) o')
  have HR' := Aside0.mk HR
  have HC := Aside0.mk hc1
  clear hr1 HR hc1
  have B2 : ∀ (o o' : Obj), Below w.heap.size w ((w.alloc o).alloc o') := fun o o' => below_alloc (below_alloc (Below.refl _ _) o) o'
  have B2' := Aside0.mk B2
  clear B2
  have C1 : ∀ o : Obj, Calls Try.prog 19 #[.slice A1 l1.length c1, .func (.func 20) #[] #[.pointer (some ⟨w.heap.size + 1, 0, none⟩)]] ((w.alloc o).alloc (jCells kd fr tt st en fe)) fun e w' => e = .returned (.bool (l1.any (by1 fr st))) ∧ Below w.heap.size w w' := fun o =>
    (containsFunc_calls 20 #[.pointer (some ⟨w.heap.size + 1, 0, none⟩)] enters20 (by1 fr st) A1 c1 l1 _ (pred_of (o := jCells kd fr tt st en fe) (blk2 w o _) (fun x0 x1 x2 W hW => held1_calls _ kd fr tt st en fe x0 x1 x2 W hW)) (HR'.out o _) HC.out).mono fun e w' h => ⟨h.1, below2 (W := w) h.2⟩
  have C2 : ∀ o : Obj, Calls Try.prog 19 #[.slice A1 l1.length c1, .func (.func 21) #[] #[.pointer (some ⟨w.heap.size + 1, 0, none⟩)]] ((w.alloc o).alloc (jCells kd fr tt st en fe)) fun e w' => e = .returned (.bool (l1.any (by2 fr tt st en))) ∧ Below w.heap.size w w' := fun o =>
    (containsFunc_calls 21 #[.pointer (some ⟨w.heap.size + 1, 0, none⟩)] enters21 (by2 fr tt st en) A1 c1 l1 _ (pred_of (o := jCells kd fr tt st en fe) (blk2 w o _) (fun x0 x1 x2 W hW => held2_calls _ kd fr tt st en fe x0 x1 x2 W hW)) (HR'.out o _) HC.out).mono fun e w' h => ⟨h.1, below2 (W := w) h.2⟩
  unfold jCells at C1 C2
  have D1 := Aside0.mk C1
  have D2 := Aside0.mk C2
  clear C1 C2
  by_cases k2 : kd = 2
  · subst k2
    have HF : Aside0 (heldB a0_12 l1 2 fr tt st en = l1.any (by1 fr st)) := ⟨by simp [heldB]⟩
    go_enter Try.func9, Try.ntmps9
    go_wp2_with (go_at_call 19; refine (D1.out _).mono ?_; rintro e w' ⟨rfl, hb⟩)
    go_ret
    exact ⟨by rw [HF.out]; rfl, hb⟩
  by_cases k3 : kd = 3
  · subst k3
    have HF : Aside0 (heldB a0_12 l1 3 fr tt st en = l1.any (by1 fr st)) := ⟨by simp [heldB]⟩
    go_enter Try.func9, Try.ntmps9
    go_wp2_with (go_at_call 19; refine (D1.out _).mono ?_; rintro e w' ⟨rfl, hb⟩)
    go_ret
    exact ⟨by rw [HF.out]; rfl, hb⟩
  by_cases k1 : kd = 1
  · subst k1
    by_cases hs : timeB st = true
    · by_cases he : timeB en = true
      · have b1 := timeB_true hs
        have b2 := timeB_true he
        by_cases hd : en - st < a0_12
        · have HF : Aside0 (heldB a0_12 l1 1 fr tt st en = false) := ⟨by simp [heldB, hs, he, hd]⟩
          go_enter Try.func9, Try.ntmps9
          go_wp2_with (go_at_call 18; refine (clockRight_calls _ _).mono ?_; rintro e w' ⟨rfl, rfl⟩)
          go_ret
          exact ⟨by rw [HF.out]; rfl, B2'.out _ _⟩
        · have HF : Aside0 (heldB a0_12 l1 1 fr tt st en = l1.any (by2 fr tt st en)) := ⟨by simp [heldB, hs, he, hd]⟩
          go_enter Try.func9, Try.ntmps9
          go_wp2_with (first | (go_at_call 18; refine (clockRight_calls _ _).mono ?_; rintro e w' ⟨rfl, rfl⟩) | (go_at_call 19; refine (D2.out _).mono ?_; rintro e w' ⟨rfl, hb⟩))
          go_ret
          exact ⟨by rw [HF.out]; rfl, hb⟩
      · have he' : timeB en = false := by simpa using he
        have HF : Aside0 (heldB a0_12 l1 1 fr tt st en = false) := ⟨by simp [heldB, hs, he]⟩
        clear he
        go_enter Try.func9, Try.ntmps9
        go_wp2_with (go_at_call 18; refine (clockRight_calls _ _).mono ?_; rintro e w' ⟨rfl, rfl⟩)
        go_ret
        exact ⟨by rw [HF.out]; rfl, B2'.out _ _⟩
    · have hs' : timeB st = false := by simpa using hs
      have HF : Aside0 (heldB a0_12 l1 1 fr tt st en = false) := ⟨by simp [heldB, hs]⟩
      clear hs
      go_enter Try.func9, Try.ntmps9
      go_wp2_with (go_at_call 18; refine (clockRight_calls _ _).mono ?_; rintro e w' ⟨rfl, rfl⟩)
      go_ret
      exact ⟨by rw [HF.out]; rfl, B2'.out _ _⟩
  · have t1 : (kd == 1) = false := beq_eq_false_iff_ne.mpr k1
    have t2 : (kd == 2) = false := beq_eq_false_iff_ne.mpr k2
    have t3 : (kd == 3) = false := beq_eq_false_iff_ne.mpr k3
    have HF : Aside0 (heldB a0_12 l1 kd fr tt st en = false) := ⟨by simp [heldB, k1, k2, k3]⟩
    clear k1 k2 k3
    go_enter Try.func9, Try.ntmps9
    go_wp2
    go_ret
    exact ⟨by rw [HF.out]; rfl, B2'.out _ _⟩
theorem refund_Held.calls (k : Nat) (A0_0 : Option Addr) (c0_0 : Nat) (l0_0 : List (S49)) (A0_1 : Option Addr) (c0_1 : Nat) (l0_1 : List (S51)) (A0_2 : Option Addr) (c0_2 : Nat) (l0_2 : List (S53)) (a0_3 : Nat) (a0_4 : Int) (a0_5 : Int) (a0_6 : Int) (a0_7 : Int) (a0_8 : Int) (a0_9 : Int) (a0_10 : Int) (a0_11 : Int) (a0_12 : Int) (a0_13 : Int) (A1 : Option Addr) (c1 : Nat) (l1 : List (S35)) (a2_0 : Int) (a2_1 : Int) (a2_2 : Int) (a2_3 : Int) (a2_4 : Int) (a2_5 : Bool) (r : Bool) (w : World) (hr0_0 : Kd.C k49 w A0_0 l0_0.length l0_0) (hc0_0 : l0_0.length ≤ c0_0) (hr0_1 : Kd.C k51 w A0_1 l0_1.length l0_1) (hc0_1 : l0_1.length ≤ c0_1) (hr0_2 : Kd.C k53 w A0_2 l0_2.length l0_2) (hc0_2 : l0_2.length ≤ c0_2) (hr1 : Kd.C k35 w A1 l1.length l1) (hc1 : l1.length ≤ c1) (h : refund_Held.f k l0_0 l0_1 l0_2 a0_3 a0_4 a0_5 a0_6 a0_7 a0_8 a0_9 a0_10 a0_11 a0_12 a0_13 l1 a2_0 a2_1 a2_2 a2_3 a2_4 a2_5 = some r) :
    Calls Try.prog 9 #[.agg #[.slice A0_0 l0_0.length c0_0, .slice A0_1 l0_1.length c0_1, .slice A0_2 l0_2.length c0_2, .float .f64 a0_3, .int .i64 a0_4, .int .i64 a0_5, .int .i64 a0_6, .int .i64 a0_7, .int .i64 a0_8, .int .i64 a0_9, .int .i64 a0_10, .int .i64 a0_11, .int .i64 a0_12, .int .i64 a0_13], .slice A1 l1.length c1, .agg #[.int .i64 a2_0, .int .i64 a2_1, .int .i64 a2_2, .int .i64 a2_3, .int .i64 a2_4, .bool a2_5]] w fun e w' => e = .returned (.bool r) ∧ Below w.heap.size w w' := by
  obtain ⟨k, rfl⟩ : ∃ k', k = k' + 1 := by
    cases k with
    | zero => exact absurd h (by simp [refund_Held.f])
    | succ k => exact ⟨k, rfl⟩
  obtain rfl := Option.some.inj h
  exact held_core .nilIface .nilIface .nilIface A0_0 A0_1 A0_2 _ _ _ c0_0 c0_1 c0_2 a0_3 a0_4 a0_5 a0_6 a0_7 a0_8 a0_9 a0_10 a0_11 a0_12 a0_13 A1 c1 l1 a2_0 a2_1 a2_2 a2_3 a2_4 a2_5 w hr1 hc1


/-! ### refund_Right: function 8 -/
def badOut (x : S35) : Bool := decide (x.f0 < 1) || (decide (65535 < x.f0) || (!timeB x.f1 || (!timeB x.f2 || decide (x.f2 ≤ x.f1))))
def refund_Right.f (k : Nat) (l0 : List (S35)) : Option (Int) := match k with
  | 0 => none
  | _ + 1 => some (if 100 < l0.length ∨ l0.any badOut = true then 80 else 0)
theorem refund_Right.mono : ∀ a0_ k, LeO (refund_Right.f k a0_) (refund_Right.f (k + 1) a0_)
  | _, 0 => LeO.none _
  | _, _ + 1 => LeO.refl _
theorem enters17 : ∀ args w, (callFunc 17 args).run Try.prog w = .ok (.enter 17 args) w := enters_of Try.func17 (by kernel_rfl) rfl
set_option maxHeartbeats 4000000 in
theorem badOut_calls (x0 x1 x2 : Int) (w : World) :
    Calls Try.prog 17 #[.agg #[.int .i64 x0, .int .i64 x1, .int .i64 x2]] w fun e w' => e = .returned (.bool (badOut ⟨x0, x1, x2⟩)) ∧ Below w.heap.size w w' := by
  unfold badOut
  have HB : ∀ o : Obj, Below w.heap.size w (w.alloc o) := fun o => below_alloc (Below.refl _ _) o
  have HB' := Aside0.mk HB
  clear HB
  have main : ∀ (c0 c1 c2 c3 : Bool), decide (x0 < 1) = c0 → decide (65535 < x0) = c1 → timeB x1 = c2 → timeB x2 = c3 → Calls Try.prog 17 #[.agg #[.int .i64 x0, .int .i64 x1, .int .i64 x2]] w fun e w' => e = .returned (.bool (c0 || (c1 || (!c2 || (!c3 || decide (x2 ≤ x1)))))) ∧ Below w.heap.size w w' := by
    intro c0 c1 c2 c3 h0 h1 h2 h3
    cases c0 <;> cases c1 <;> cases c2 <;> cases c3 <;>
    · go_enter Try.func17, Try.ntmps17
      go_wp2_with (go_at_call 18; refine (clockRight_calls _ _).mono ?_; rintro e w' ⟨rfl, rfl⟩)
      go_ret
      exact ⟨by first | rfl | (simp; done), HB'.out _⟩
  exact main _ _ _ _ rfl rfl rfl rfl
set_option maxHeartbeats 4000000 in
theorem refund_Right.calls (k : Nat) (A0 : Option Addr) (c0 : Nat) (l0 : List (S35)) (r : Int) (w : World) (hr0 : Kd.C k35 w A0 l0.length l0) (hc0 : l0.length ≤ c0) (h : refund_Right.f k l0 = some r) :
    Calls Try.prog 8 #[.slice A0 l0.length c0] w fun e w' => e = .returned (.int .i64 r) ∧ Below w.heap.size w w' := by
  obtain ⟨k, rfl⟩ : ∃ k', k = k' + 1 := by
    cases k with
    | zero => exact absurd h (by simp [refund_Right.f])
    | succ k => exact ⟨k, rfl⟩
  have HE : (if 100 < l0.length ∨ l0.any badOut = true then (80 : Int) else 0) = r := Option.some.inj h
  clear h
  have hmf : ∀ (fn : Fn) (first cap : Array Value) (w : World), (Instr.makeFunc fn first cap).run Try.prog w = .ok (.func fn first cap) w := fun _ _ _ _ => rfl
  have D := Aside0.mk (containsFunc_calls 17 #[] enters17 badOut A0 c0 l0 w (fun W x _ => badOut_calls x.f0 x.f1 x.f2 W) hr0 hc0)
  have HB' := Aside0.mk (Below.refl w.heap.size w)
  clear hr0 hc0
  by_cases hl : 100 < l0.length
  · rw [if_pos (.inl hl)] at HE
    have t1 : decide (100 < l0.length) = true := decide_eq_true hl
    have t2 : decide (100 < (l0.length : Int)) = true := decide_eq_true (by omega)
    clear hl
    subst HE
    go_enter Try.func8, Try.ntmps8
    go_wp2
    go_ret
    exact ⟨rfl, HB'.out⟩
  · have t1 : decide (100 < l0.length) = false := decide_eq_false hl
    have t2 : decide (100 < (l0.length : Int)) = false := decide_eq_false (by omega)
    by_cases ha : l0.any badOut = true
    · rw [if_pos (.inr ha)] at HE
      rw [ha] at D
      clear hl ha
      subst HE
      go_enter Try.func8, Try.ntmps8
      go_wp2_with (go_at_call 19; refine D.out.mono ?_; rintro e w' ⟨rfl, hb⟩)
      go_ret
      exact ⟨rfl, hb⟩
    · rw [if_neg (by simp [hl, ha])] at HE
      have ha' : l0.any badOut = false := by simpa using ha
      rw [ha'] at D
      clear hl ha ha'
      subst HE
      go_enter Try.func8, Try.ntmps8
      go_wp2_with (go_at_call 19; refine D.out.mono ?_; rintro e w' ⟨rfl, hb⟩)
      go_ret
      exact ⟨rfl, hb⟩


-- NOT PRINTED: function 31 (tariff_must)

/-! ### tariff_spans: function 32 -/
def tariff_spans.l0 : Nat → Int → List (S51) → Int → Int → Int → Int → Int → Int → Int → Option (Bool)
  | 0, _, _, _, _, _, _, _, _, _ => none
  | k + 1, x1, x17, x18, x19, x102000, x102001, x102002, x102003, x102004 => if x19 < x18 then (if 0 ≤ x19 then (if x19 < (x17.length : Int) then (if (!(((rd_T51 x17 x19).f0) == x102000) || (!(((rd_T51 x17 x19).f1) == x102001) || (!(0 == x102002) || (!(0 == x102003) || (!(0 == x102004)))))) = true then (some false) else (if (wrap64 (x102001 + 1)) > x1 then (tariff_spans.l0 k x1 x17 x18 (wrap64 (x19 + 1)) (wrap64 (x102000 + 1)) (wrap64 (x102000 + 1)) 0 0 0) else (tariff_spans.l0 k x1 x17 x18 (wrap64 (x19 + 1)) x102000 (wrap64 (x102001 + 1)) x102002 x102003 x102004))) else (none)) else (none)) else (some true)
def tariff_spans.f (k : Nat) (l0 : List (S51)) (a1 : Int) : Option (Bool) := if (l0.length : Int) = (wrap64 (Int.tdiv (wrap64 (a1 * (wrap64 (a1 + 1)))) 2)) then (tariff_spans.l0 k a1 l0 (l0.length : Int) 0 1 1 0 0 0) else (some false)
theorem tariff_spans.mono_l : ∀ k, (∀ y0 y1 y2 y3 y4 y5 y6 y7 y8, LeO (tariff_spans.l0 k y0 y1 y2 y3 y4 y5 y6 y7 y8) (tariff_spans.l0 (k + 1) y0 y1 y2 y3 y4 y5 y6 y7 y8))
  | 0 => fun _ _ _ _ _ _ _ _ _ r h => by simp [tariff_spans.l0] at h
  | k + 1 => by
    have ih0 := tariff_spans.mono_l k
    · intro y0 y1 y2 y3 y4 y5 y6 y7 y8
      unfold tariff_spans.l0
      repeat' first
      | (with_reducible exact ih0 _ _ _ _ _ _ _ _ _)
      | (with_reducible exact LeO.refl _)
      | (with_reducible exact LeO.none _)
      | (with_reducible refine LeO.ite ?_ ?_)
      | (with_reducible refine LeO.bind ?_ (fun _ => ?_))
      | exact ih0 _ _ _ _ _ _ _ _ _
      | exact LeO.none _
      | refine LeO.ite ?_ ?_
      | refine LeO.bind ?_ (fun _ => ?_)
theorem tariff_spans.mono : ∀ a0 a1 k, LeO (tariff_spans.f k a0 a1) (tariff_spans.f (k + 1) a0 a1) := by
  intro a0 a1 k
  have ih0 := tariff_spans.mono_l k
  unfold tariff_spans.f
  repeat' first
      | (with_reducible exact ih0 _ _ _ _ _ _ _ _ _)
      | (with_reducible exact LeO.refl _)
      | (with_reducible exact LeO.none _)
      | (with_reducible refine LeO.ite ?_ ?_)
      | (with_reducible refine LeO.bind ?_ (fun _ => ?_))
      | exact ih0 _ _ _ _ _ _ _ _ _
      | exact LeO.none _
      | refine LeO.ite ?_ ?_
      | refine LeO.bind ?_ (fun _ => ?_)
set_option maxHeartbeats 8000000 in
set_option maxRecDepth 100000 in
theorem tariff_spans.calls (k : Nat) (A0 : Option Addr) (c0 : Nat) (l0 : List (S51)) (a1 : Int) (r : Bool) (w : World) (hr0 : Kd.C k51 w A0 l0.length l0) (hc0 : l0.length ≤ c0) (h : tariff_spans.f k l0 a1 = some r) :
    Calls Try.prog 32 #[.slice A0 l0.length c0, .int .i64 a1] w fun e w' => e = .returned (.bool r) ∧ Below w.heap.size w w' := by
  have hu51 := Try.underlying51
  have HR0 := Aside0.mk hr0
  have HC0 := Aside0.mk hc0
  clear hr0 hc0
  have HB := Aside0.mk (Below.refl w.heap.size w)
  have H : (if (l0.length : Int) = (wrap64 (Int.tdiv (wrap64 (a1 * (wrap64 (a1 + 1)))) 2)) then (tariff_spans.l0 k a1 l0 (l0.length : Int) 0 1 1 0 0 0) else (some false)) = some r := h
  clear h
  by_cases c3 : (l0.length : Int) = (wrap64 (Int.tdiv (wrap64 (a1 * (wrap64 (a1 + 1)))) 2))
  · rw [if_pos c3] at H
    have c3b0 : ((l0.length : Int) == (wrap64 (Int.tdiv (wrap64 (a1 * (wrap64 (a1 + 1)))) 2))) = true := beq_iff_eq.mpr c3
    have c3b1 : ((l0.length : Int) != (wrap64 (Int.tdiv (wrap64 (a1 * (wrap64 (a1 + 1)))) 2))) = false := bne_eq_false_iff_eq.mpr c3
    clear c3
    have H' := Aside0.mk H
    clear H
    go_enter Try.func32, Try.ntmps32
    go_wp2_with (first | ((with_reducible refine gate_dst (N := 5) rfl ?_); refine box_event ?hg (N := 5) ?hd (cs := #[.int .i64 0, .int .i64 0, .int .i64 0, .int .i64 0, .int .i64 0]) (t := 51) ?hr ?_; (case hd => rfl); (case hg => rfl); (case hr => first | (go_simp; done) | (go_simp; rfl)); intro gb101 hg w4 hbox hb; have n0_ := Aside0.mk (below_step (by repeat (first | (with_reducible first | exact HB.out | apply below_alloc | apply pw_below_drewN | apply below_drew1) | exact HB.out)) hb); have n1_ := Aside0.mk (hbox); have n2_ := Aside0.mk ((by rw [hg]; exact (below_size (by repeat (first | (with_reducible first | exact HB.out | apply below_alloc | apply pw_below_drewN | apply below_drew1) | exact HB.out))) : w.heap.size ≤ gb101)); have n3_ := Aside0.mk ((by rw [hg]; exact (below_size (by repeat (first | (with_reducible first | exact HB.out | apply below_alloc | apply pw_below_drewN | apply below_drew1) | exact HB.out))) : w.heap.size ≤ gb101)); clear HB; have HB := n0_; have BK101 := n1_; have GW101 := n2_; have GE101 := n3_; clear n0_ n1_ n2_ n3_; clear hb hbox hg; have hcz5_0 : w4.cell? ⟨gb101, 0, none⟩ = some (.int .i64 0) := (blk_cell BK101.out 0).trans rfl; have hcz5_1 : w4.cell? ⟨gb101, 1, none⟩ = some (.int .i64 0) := (blk_cell BK101.out 1).trans rfl; have hcz5_2 : w4.cell? ⟨gb101, 2, none⟩ = some (.int .i64 0) := (blk_cell BK101.out 2).trans rfl; have hcz5_3 : w4.cell? ⟨gb101, 3, none⟩ = some (.int .i64 0) := (blk_cell BK101.out 3).trans rfl; have hcz5_4 : w4.cell? ⟨gb101, 4, none⟩ = some (.int .i64 0) := (blk_cell BK101.out 4).trans rfl; have hfz5_0 := blk_frozen BK101.out 0; have hfz5_1 := blk_frozen BK101.out 1; have hfz5_2 := blk_frozen BK101.out 2; have hfz5_3 := blk_frozen BK101.out 3; have hfz5_4 := blk_frozen BK101.out 4))
    go_loopg [19] k (fun kq v19 w' => ∃ (x19_1 : Int) (x102000_1 : Int) (x102001_1 : Int) (x102002_1 : Int) (x102003_1 : Int) (x102004_1 : Int), v19 = .int .i64 x19_1 ∧ Aside0 (tariff_spans.l0 kq a1 l0 (l0.length : Int) x19_1 x102000_1 x102001_1 x102002_1 x102003_1 x102004_1 = some r) ∧ Aside0 (kq ≤ k) ∧ Aside0 (w'.heap[gb101]? = some (.cells #[.int .i64 x102000_1, .int .i64 x102001_1, .int .i64 x102002_1, .int .i64 x102003_1, .int .i64 x102004_1] 51 (0, 0))) ∧ Aside0 (Below w.heap.size w w'))
    case atStart => exact ⟨(0), (1), (1), (0), (0), (0), (by first | rfl | (simp; done) | (simp [*]; done)), H', ⟨Nat.le_refl _⟩, ⟨by (with_reducible repeat (first | refine blk_drewN ?_ _ | refine blk_drew ?_ | refine blk_alloc ?_ _)); refine blk_put (cs := #[.int .i64 1, .int .i64 1, .int .i64 0, .int .i64 0, .int .i64 0]) ?_ 4 _ rfl; (with_reducible repeat (first | refine blk_drewN ?_ _ | refine blk_drew ?_ | refine blk_alloc ?_ _)); refine blk_put (cs := #[.int .i64 1, .int .i64 1, .int .i64 0, .int .i64 0, .int .i64 0]) ?_ 3 _ rfl; (with_reducible repeat (first | refine blk_drewN ?_ _ | refine blk_drew ?_ | refine blk_alloc ?_ _)); refine blk_put (cs := #[.int .i64 1, .int .i64 1, .int .i64 0, .int .i64 0, .int .i64 0]) ?_ 2 _ rfl; (with_reducible repeat (first | refine blk_drewN ?_ _ | refine blk_drew ?_ | refine blk_alloc ?_ _)); refine blk_put (cs := #[.int .i64 1, .int .i64 0, .int .i64 0, .int .i64 0, .int .i64 0]) ?_ 1 _ rfl; (with_reducible repeat (first | refine blk_drewN ?_ _ | refine blk_drew ?_ | refine blk_alloc ?_ _)); refine blk_put (cs := #[.int .i64 0, .int .i64 0, .int .i64 0, .int .i64 0, .int .i64 0]) ?_ 0 _ rfl; (with_reducible repeat (first | refine blk_drewN ?_ _ | refine blk_drew ?_ | refine blk_alloc ?_ _)); exact BK101.out⟩, ⟨by repeat (first | (with_reducible first | exact HB.out | apply below_alloc | apply pw_below_drewN | apply below_drew1 | refine below_set ?_ GE101.out) | exact HB.out)⟩⟩
    case round =>
      clear H'
      try clear p2
      try clear c3
      try clear c3b0
      try clear c3b1
      try clear hcz5_0
      try clear hcz5_1
      try clear hcz5_2
      try clear hcz5_3
      try clear hcz5_4
      try clear hfz5_0
      try clear hfz5_1
      try clear hfz5_2
      try clear hfz5_3
      try clear hfz5_4
      obtain ⟨x19_1, x102000_1, x102001_1, x102002_1, x102003_1, x102004_1, rfl, HA, HK1, BK101, HB⟩ := hrel
      cases gk with
      | zero => exact absurd HA.out (by simp [tariff_spans.l0])
      | succ k1 =>
        have H := HA.out
        clear HA
        simp only [tariff_spans.l0] at H
        by_cases c6 : x19_1 < (l0.length : Int)
        · rw [if_pos c6] at H
          have c6b0 : decide (x19_1 < (l0.length : Int)) = true := decide_eq_true c6
          clear c6
          by_cases c7 : 0 ≤ x19_1
          · rw [if_pos c7] at H
            have c7b0 : decide (0 ≤ x19_1) = true := decide_eq_true c7
            clear c7
            by_cases c8 : x19_1 < (l0.length : Int)
            · rw [if_pos c8] at H
              have c8b0 : decide (x19_1 < (l0.length : Int)) = true := decide_eq_true c8
              clear c8
              by_cases c9 : (!(((rd_T51 l0 x19_1).f0) == x102000_1) || (!(((rd_T51 l0 x19_1).f1) == x102001_1) || (!(0 == x102002_1) || (!(0 == x102003_1) || (!(0 == x102004_1)))))) = true
              · rw [if_pos c9] at H
                have c9b0 : (!(((rd_T51 l0 x19_1).f0) == x102000_1) || (!(((rd_T51 l0 x19_1).f1) == x102001_1) || (!(0 == x102002_1) || (!(0 == x102003_1) || (!(0 == x102004_1)))))) = true := c9
                clear c9
                obtain rfl := Option.some.inj H
                have p102 : 0 ≤ (x19_1 : Int) := of_decide_eq_true (by first | (with_reducible assumption) | assumption)
                have q102 : x19_1 < (l0.length : Int) := of_decide_eq_true (by first | (with_reducible assumption) | assumption)
                obtain ⟨ad102, e102, hx102_0, hx102_1, hx102_2, hx102_3, hx102_4⟩ := at_T51 HR0.out x19_1 p102 q102
                cases e102
                replace hx102_0 := (HB.out.cell (World.block_lt_of_cell? w _ hx102_0)).trans hx102_0
                replace hx102_1 := (HB.out.cell (World.block_lt_of_cell? w _ hx102_1)).trans hx102_1
                replace hx102_2 := (HB.out.cell (World.block_lt_of_cell? w _ hx102_2)).trans hx102_2
                replace hx102_3 := (HB.out.cell (World.block_lt_of_cell? w _ hx102_3)).trans hx102_3
                replace hx102_4 := (HB.out.cell (World.block_lt_of_cell? w _ hx102_4)).trans hx102_4
                replace p102 := eq_true p102
                replace q102 := eq_true q102
                go_wp2_with (first | ((with_reducible refine gate_dst (N := 7) rfl ?_); refine box_event ?hg (N := 7) ?hd (cs := #[.int .i64 0, .int .i64 0, .int .i64 0, .int .i64 0, .int .i64 0]) (t := 51) ?hr ?_; (case hd => rfl); (case hg => rfl); (case hr => first | (go_simp; done) | (go_simp; rfl)); intro gb103 hg w10 hbox hb; have n0_ := Aside0.mk (blk_below (g := gb101) (o := .cells #[.int .i64 x102000_1, .int .i64 x102001_1, .int .i64 x102002_1, .int .i64 x102003_1, .int .i64 x102004_1] 51 (0, 0)) (by (with_reducible repeat (first | refine blk_drewN ?_ _ | refine blk_drew ?_ | refine blk_alloc ?_ _)); exact BK101.out) hb); have n1_ := Aside0.mk (below_step (by repeat (first | (with_reducible first | exact HB.out | apply below_alloc | apply pw_below_drewN | apply below_drew1 | refine below_set ?_ GE101.out) | exact HB.out)) hb); have n2_ := Aside0.mk (hbox); have n3_ := Aside0.mk ((by rw [hg]; exact (below_size (by repeat (first | (with_reducible first | exact HB.out | apply below_alloc | apply pw_below_drewN | apply below_drew1 | refine below_set ?_ GE101.out) | exact HB.out))) : w.heap.size ≤ gb103)); have n4_ := Aside0.mk ((by rw [hg]; exact (below_size (by repeat (first | (with_reducible first | exact HB.out | apply below_alloc | apply pw_below_drewN | apply below_drew1 | refine below_set ?_ GE101.out) | exact HB.out))) : w.heap.size ≤ gb103)); have n5_ := Aside0.mk ((by rw [hg]; exact Nat.ne_of_lt (blk_lt (g := gb101) (o := .cells #[.int .i64 x102000_1, .int .i64 x102001_1, .int .i64 x102002_1, .int .i64 x102003_1, .int .i64 x102004_1] 51 (0, 0)) (by (with_reducible repeat (first | refine blk_drewN ?_ _ | refine blk_drew ?_ | refine blk_alloc ?_ _)); exact BK101.out)) : gb101 ≠ gb103)); have n6_ := Aside0.mk ((by rw [hg]; exact Nat.ne_of_gt (blk_lt (g := gb101) (o := .cells #[.int .i64 x102000_1, .int .i64 x102001_1, .int .i64 x102002_1, .int .i64 x102003_1, .int .i64 x102004_1] 51 (0, 0)) (by (with_reducible repeat (first | refine blk_drewN ?_ _ | refine blk_drew ?_ | refine blk_alloc ?_ _)); exact BK101.out)) : gb103 ≠ gb101)); clear BK101; clear HB; have BK101 := n0_; have HB := n1_; have BK103 := n2_; have GW103 := n3_; have GE103 := n4_; have NB101_103 := n5_; have NB103_101 := n6_; clear n0_ n1_ n2_ n3_ n4_ n5_ n6_; clear hb hbox hg; have hnb11 := NB103_101.out; have hnc11 := NB101_103.out; have hcz12_0 : w10.cell? ⟨gb103, 0, none⟩ = some (.int .i64 0) := (blk_cell BK103.out 0).trans rfl; have hcz12_1 : w10.cell? ⟨gb103, 1, none⟩ = some (.int .i64 0) := (blk_cell BK103.out 1).trans rfl; have hcz12_2 : w10.cell? ⟨gb103, 2, none⟩ = some (.int .i64 0) := (blk_cell BK103.out 2).trans rfl; have hcz12_3 : w10.cell? ⟨gb103, 3, none⟩ = some (.int .i64 0) := (blk_cell BK103.out 3).trans rfl; have hcz12_4 : w10.cell? ⟨gb103, 4, none⟩ = some (.int .i64 0) := (blk_cell BK103.out 4).trans rfl; have hfz12_0 := blk_frozen BK103.out 0; have hfz12_1 := blk_frozen BK103.out 1; have hfz12_2 := blk_frozen BK103.out 2; have hfz12_3 := blk_frozen BK103.out 3; have hfz12_4 := blk_frozen BK103.out 4; have hcz13_0 : w10.cell? ⟨gb101, 0, none⟩ = some (.int .i64 x102000_1) := (blk_cell BK101.out 0).trans rfl; have hcz13_1 : w10.cell? ⟨gb101, 1, none⟩ = some (.int .i64 x102001_1) := (blk_cell BK101.out 1).trans rfl; have hcz13_2 : w10.cell? ⟨gb101, 2, none⟩ = some (.int .i64 x102002_1) := (blk_cell BK101.out 2).trans rfl; have hcz13_3 : w10.cell? ⟨gb101, 3, none⟩ = some (.int .i64 x102003_1) := (blk_cell BK101.out 3).trans rfl; have hcz13_4 : w10.cell? ⟨gb101, 4, none⟩ = some (.int .i64 x102004_1) := (blk_cell BK101.out 4).trans rfl; have hfz13_0 := blk_frozen BK101.out 0; have hfz13_1 := blk_frozen BK101.out 1; have hfz13_2 := blk_frozen BK101.out 2; have hfz13_3 := blk_frozen BK101.out 3; have hfz13_4 := blk_frozen BK101.out 4))
                go_ret
                exact ⟨by first | rfl | (simp [errW_none, errW_some] <;> rfl) | (simp [*, errW_none, errW_some] <;> rfl), by repeat (first | (with_reducible first | exact HB.out | apply below_alloc | apply pw_below_drewN | apply below_drew1 | refine below_set ?_ GE101.out | refine below_set ?_ GE103.out) | exact HB.out)⟩
              · rw [if_neg c9] at H
                have c9b0 : (!(((rd_T51 l0 x19_1).f0) == x102000_1) || (!(((rd_T51 l0 x19_1).f1) == x102001_1) || (!(0 == x102002_1) || (!(0 == x102003_1) || (!(0 == x102004_1)))))) = false := by simpa using c9
                clear c9
                by_cases c14 : (wrap64 (x102001_1 + 1)) > a1
                · rw [if_pos c14] at H
                  have c14b0 : decide (a1 < (wrap64 (x102001_1 + 1))) = true := decide_eq_true c14
                  clear c14
                  have H' := Aside0.mk H
                  clear H
                  have p102 : 0 ≤ (x19_1 : Int) := of_decide_eq_true (by first | (with_reducible assumption) | assumption)
                  have q102 : x19_1 < (l0.length : Int) := of_decide_eq_true (by first | (with_reducible assumption) | assumption)
                  obtain ⟨ad102, e102, hx102_0, hx102_1, hx102_2, hx102_3, hx102_4⟩ := at_T51 HR0.out x19_1 p102 q102
                  cases e102
                  replace hx102_0 := (HB.out.cell (World.block_lt_of_cell? w _ hx102_0)).trans hx102_0
                  replace hx102_1 := (HB.out.cell (World.block_lt_of_cell? w _ hx102_1)).trans hx102_1
                  replace hx102_2 := (HB.out.cell (World.block_lt_of_cell? w _ hx102_2)).trans hx102_2
                  replace hx102_3 := (HB.out.cell (World.block_lt_of_cell? w _ hx102_3)).trans hx102_3
                  replace hx102_4 := (HB.out.cell (World.block_lt_of_cell? w _ hx102_4)).trans hx102_4
                  replace p102 := eq_true p102
                  replace q102 := eq_true q102
                  go_wp2_with (first | ((with_reducible refine gate_dst (N := 7) rfl ?_); refine box_event ?hg (N := 7) ?hd (cs := #[.int .i64 0, .int .i64 0, .int .i64 0, .int .i64 0, .int .i64 0]) (t := 51) ?hr ?_; (case hd => rfl); (case hg => rfl); (case hr => first | (go_simp; done) | (go_simp; rfl)); intro gb103 hg w15 hbox hb; have n0_ := Aside0.mk (blk_below (g := gb101) (o := .cells #[.int .i64 x102000_1, .int .i64 x102001_1, .int .i64 x102002_1, .int .i64 x102003_1, .int .i64 x102004_1] 51 (0, 0)) (by (with_reducible repeat (first | refine blk_drewN ?_ _ | refine blk_drew ?_ | refine blk_alloc ?_ _)); exact BK101.out) hb); have n1_ := Aside0.mk (below_step (by repeat (first | (with_reducible first | exact HB.out | apply below_alloc | apply pw_below_drewN | apply below_drew1 | refine below_set ?_ GE101.out) | exact HB.out)) hb); have n2_ := Aside0.mk (hbox); have n3_ := Aside0.mk ((by rw [hg]; exact (below_size (by repeat (first | (with_reducible first | exact HB.out | apply below_alloc | apply pw_below_drewN | apply below_drew1 | refine below_set ?_ GE101.out) | exact HB.out))) : w.heap.size ≤ gb103)); have n4_ := Aside0.mk ((by rw [hg]; exact (below_size (by repeat (first | (with_reducible first | exact HB.out | apply below_alloc | apply pw_below_drewN | apply below_drew1 | refine below_set ?_ GE101.out) | exact HB.out))) : w.heap.size ≤ gb103)); have n5_ := Aside0.mk ((by rw [hg]; exact Nat.ne_of_lt (blk_lt (g := gb101) (o := .cells #[.int .i64 x102000_1, .int .i64 x102001_1, .int .i64 x102002_1, .int .i64 x102003_1, .int .i64 x102004_1] 51 (0, 0)) (by (with_reducible repeat (first | refine blk_drewN ?_ _ | refine blk_drew ?_ | refine blk_alloc ?_ _)); exact BK101.out)) : gb101 ≠ gb103)); have n6_ := Aside0.mk ((by rw [hg]; exact Nat.ne_of_gt (blk_lt (g := gb101) (o := .cells #[.int .i64 x102000_1, .int .i64 x102001_1, .int .i64 x102002_1, .int .i64 x102003_1, .int .i64 x102004_1] 51 (0, 0)) (by (with_reducible repeat (first | refine blk_drewN ?_ _ | refine blk_drew ?_ | refine blk_alloc ?_ _)); exact BK101.out)) : gb103 ≠ gb101)); clear BK101; clear HB; have BK101 := n0_; have HB := n1_; have BK103 := n2_; have GW103 := n3_; have GE103 := n4_; have NB101_103 := n5_; have NB103_101 := n6_; clear n0_ n1_ n2_ n3_ n4_ n5_ n6_; clear hb hbox hg; have hnb16 := NB103_101.out; have hnc16 := NB101_103.out; have hcz17_0 : w15.cell? ⟨gb103, 0, none⟩ = some (.int .i64 0) := (blk_cell BK103.out 0).trans rfl; have hcz17_1 : w15.cell? ⟨gb103, 1, none⟩ = some (.int .i64 0) := (blk_cell BK103.out 1).trans rfl; have hcz17_2 : w15.cell? ⟨gb103, 2, none⟩ = some (.int .i64 0) := (blk_cell BK103.out 2).trans rfl; have hcz17_3 : w15.cell? ⟨gb103, 3, none⟩ = some (.int .i64 0) := (blk_cell BK103.out 3).trans rfl; have hcz17_4 : w15.cell? ⟨gb103, 4, none⟩ = some (.int .i64 0) := (blk_cell BK103.out 4).trans rfl; have hfz17_0 := blk_frozen BK103.out 0; have hfz17_1 := blk_frozen BK103.out 1; have hfz17_2 := blk_frozen BK103.out 2; have hfz17_3 := blk_frozen BK103.out 3; have hfz17_4 := blk_frozen BK103.out 4; have hcz18_0 : w15.cell? ⟨gb101, 0, none⟩ = some (.int .i64 x102000_1) := (blk_cell BK101.out 0).trans rfl; have hcz18_1 : w15.cell? ⟨gb101, 1, none⟩ = some (.int .i64 x102001_1) := (blk_cell BK101.out 1).trans rfl; have hcz18_2 : w15.cell? ⟨gb101, 2, none⟩ = some (.int .i64 x102002_1) := (blk_cell BK101.out 2).trans rfl; have hcz18_3 : w15.cell? ⟨gb101, 3, none⟩ = some (.int .i64 x102003_1) := (blk_cell BK101.out 3).trans rfl; have hcz18_4 : w15.cell? ⟨gb101, 4, none⟩ = some (.int .i64 x102004_1) := (blk_cell BK101.out 4).trans rfl; have hfz18_0 := blk_frozen BK101.out 0; have hfz18_1 := blk_frozen BK101.out 1; have hfz18_2 := blk_frozen BK101.out 2; have hfz18_3 := blk_frozen BK101.out 3; have hfz18_4 := blk_frozen BK101.out 4))
                  go_roundg k1
                  case measure => have := HK1.out; omega
                  case rel => exact ⟨(wrap64 (x19_1 + 1)), (wrap64 (x102000_1 + 1)), (wrap64 (x102000_1 + 1)), (0), (0), (0), (by first | rfl | (simp; done) | (simp [*]; done)), H', ⟨by have := HK1.out; omega⟩, ⟨by (with_reducible repeat (first | refine blk_drewN ?_ _ | refine blk_drew ?_ | refine blk_alloc ?_ _)); refine blk_put (cs := #[.int .i64 (wrap64 (x102000_1 + 1)), .int .i64 (wrap64 (x102000_1 + 1)), .int .i64 0, .int .i64 0, .int .i64 x102004_1]) ?_ 4 _ rfl; (with_reducible repeat (first | refine blk_drewN ?_ _ | refine blk_drew ?_ | refine blk_alloc ?_ _)); refine blk_put (cs := #[.int .i64 (wrap64 (x102000_1 + 1)), .int .i64 (wrap64 (x102000_1 + 1)), .int .i64 0, .int .i64 x102003_1, .int .i64 x102004_1]) ?_ 3 _ rfl; (with_reducible repeat (first | refine blk_drewN ?_ _ | refine blk_drew ?_ | refine blk_alloc ?_ _)); refine blk_put (cs := #[.int .i64 (wrap64 (x102000_1 + 1)), .int .i64 (wrap64 (x102000_1 + 1)), .int .i64 x102002_1, .int .i64 x102003_1, .int .i64 x102004_1]) ?_ 2 _ rfl; (with_reducible repeat (first | refine blk_drewN ?_ _ | refine blk_drew ?_ | refine blk_alloc ?_ _)); refine blk_put (cs := #[.int .i64 (wrap64 (x102000_1 + 1)), .int .i64 (wrap64 (x102001_1 + 1)), .int .i64 x102002_1, .int .i64 x102003_1, .int .i64 x102004_1]) ?_ 1 _ rfl; (with_reducible repeat (first | refine blk_drewN ?_ _ | refine blk_drew ?_ | refine blk_alloc ?_ _)); refine blk_put (cs := #[.int .i64 x102000_1, .int .i64 (wrap64 (x102001_1 + 1)), .int .i64 x102002_1, .int .i64 x102003_1, .int .i64 x102004_1]) ?_ 0 _ rfl; (with_reducible repeat (first | refine blk_drewN ?_ _ | refine blk_drew ?_ | refine blk_alloc ?_ _)); refine blk_put (cs := #[.int .i64 x102000_1, .int .i64 x102001_1, .int .i64 x102002_1, .int .i64 x102003_1, .int .i64 x102004_1]) ?_ 1 _ rfl; (with_reducible repeat (first | refine blk_drewN ?_ _ | refine blk_drew ?_ | refine blk_alloc ?_ _)); refine blk_far ?_ NB101_103.out _; (with_reducible repeat (first | refine blk_drewN ?_ _ | refine blk_drew ?_ | refine blk_alloc ?_ _)); refine blk_far ?_ NB101_103.out _; (with_reducible repeat (first | refine blk_drewN ?_ _ | refine blk_drew ?_ | refine blk_alloc ?_ _)); refine blk_far ?_ NB101_103.out _; (with_reducible repeat (first | refine blk_drewN ?_ _ | refine blk_drew ?_ | refine blk_alloc ?_ _)); refine blk_far ?_ NB101_103.out _; (with_reducible repeat (first | refine blk_drewN ?_ _ | refine blk_drew ?_ | refine blk_alloc ?_ _)); refine blk_far ?_ NB101_103.out _; (with_reducible repeat (first | refine blk_drewN ?_ _ | refine blk_drew ?_ | refine blk_alloc ?_ _)); exact BK101.out⟩, ⟨by repeat (first | (with_reducible first | exact HB.out | apply below_alloc | apply pw_below_drewN | apply below_drew1 | refine below_set ?_ GE101.out | refine below_set ?_ GE103.out) | exact HB.out)⟩⟩
                · rw [if_neg c14] at H
                  have c14b0 : decide (a1 < (wrap64 (x102001_1 + 1))) = false := decide_eq_false c14
                  clear c14
                  have H' := Aside0.mk H
                  clear H
                  have p102 : 0 ≤ (x19_1 : Int) := of_decide_eq_true (by first | (with_reducible assumption) | assumption)
                  have q102 : x19_1 < (l0.length : Int) := of_decide_eq_true (by first | (with_reducible assumption) | assumption)
                  obtain ⟨ad102, e102, hx102_0, hx102_1, hx102_2, hx102_3, hx102_4⟩ := at_T51 HR0.out x19_1 p102 q102
                  cases e102
                  replace hx102_0 := (HB.out.cell (World.block_lt_of_cell? w _ hx102_0)).trans hx102_0
                  replace hx102_1 := (HB.out.cell (World.block_lt_of_cell? w _ hx102_1)).trans hx102_1
                  replace hx102_2 := (HB.out.cell (World.block_lt_of_cell? w _ hx102_2)).trans hx102_2
                  replace hx102_3 := (HB.out.cell (World.block_lt_of_cell? w _ hx102_3)).trans hx102_3
                  replace hx102_4 := (HB.out.cell (World.block_lt_of_cell? w _ hx102_4)).trans hx102_4
                  replace p102 := eq_true p102
                  replace q102 := eq_true q102
                  go_wp2_with (first | ((with_reducible refine gate_dst (N := 7) rfl ?_); refine box_event ?hg (N := 7) ?hd (cs := #[.int .i64 0, .int .i64 0, .int .i64 0, .int .i64 0, .int .i64 0]) (t := 51) ?hr ?_; (case hd => rfl); (case hg => rfl); (case hr => first | (go_simp; done) | (go_simp; rfl)); intro gb103 hg w19 hbox hb; have n0_ := Aside0.mk (blk_below (g := gb101) (o := .cells #[.int .i64 x102000_1, .int .i64 x102001_1, .int .i64 x102002_1, .int .i64 x102003_1, .int .i64 x102004_1] 51 (0, 0)) (by (with_reducible repeat (first | refine blk_drewN ?_ _ | refine blk_drew ?_ | refine blk_alloc ?_ _)); exact BK101.out) hb); have n1_ := Aside0.mk (below_step (by repeat (first | (with_reducible first | exact HB.out | apply below_alloc | apply pw_below_drewN | apply below_drew1 | refine below_set ?_ GE101.out) | exact HB.out)) hb); have n2_ := Aside0.mk (hbox); have n3_ := Aside0.mk ((by rw [hg]; exact (below_size (by repeat (first | (with_reducible first | exact HB.out | apply below_alloc | apply pw_below_drewN | apply below_drew1 | refine below_set ?_ GE101.out) | exact HB.out))) : w.heap.size ≤ gb103)); have n4_ := Aside0.mk ((by rw [hg]; exact (below_size (by repeat (first | (with_reducible first | exact HB.out | apply below_alloc | apply pw_below_drewN | apply below_drew1 | refine below_set ?_ GE101.out) | exact HB.out))) : w.heap.size ≤ gb103)); have n5_ := Aside0.mk ((by rw [hg]; exact Nat.ne_of_lt (blk_lt (g := gb101) (o := .cells #[.int .i64 x102000_1, .int .i64 x102001_1, .int .i64 x102002_1, .int .i64 x102003_1, .int .i64 x102004_1] 51 (0, 0)) (by (with_reducible repeat (first | refine blk_drewN ?_ _ | refine blk_drew ?_ | refine blk_alloc ?_ _)); exact BK101.out)) : gb101 ≠ gb103)); have n6_ := Aside0.mk ((by rw [hg]; exact Nat.ne_of_gt (blk_lt (g := gb101) (o := .cells #[.int .i64 x102000_1, .int .i64 x102001_1, .int .i64 x102002_1, .int .i64 x102003_1, .int .i64 x102004_1] 51 (0, 0)) (by (with_reducible repeat (first | refine blk_drewN ?_ _ | refine blk_drew ?_ | refine blk_alloc ?_ _)); exact BK101.out)) : gb103 ≠ gb101)); clear BK101; clear HB; have BK101 := n0_; have HB := n1_; have BK103 := n2_; have GW103 := n3_; have GE103 := n4_; have NB101_103 := n5_; have NB103_101 := n6_; clear n0_ n1_ n2_ n3_ n4_ n5_ n6_; clear hb hbox hg; have hnb20 := NB103_101.out; have hnc20 := NB101_103.out; have hcz21_0 : w19.cell? ⟨gb103, 0, none⟩ = some (.int .i64 0) := (blk_cell BK103.out 0).trans rfl; have hcz21_1 : w19.cell? ⟨gb103, 1, none⟩ = some (.int .i64 0) := (blk_cell BK103.out 1).trans rfl; have hcz21_2 : w19.cell? ⟨gb103, 2, none⟩ = some (.int .i64 0) := (blk_cell BK103.out 2).trans rfl; have hcz21_3 : w19.cell? ⟨gb103, 3, none⟩ = some (.int .i64 0) := (blk_cell BK103.out 3).trans rfl; have hcz21_4 : w19.cell? ⟨gb103, 4, none⟩ = some (.int .i64 0) := (blk_cell BK103.out 4).trans rfl; have hfz21_0 := blk_frozen BK103.out 0; have hfz21_1 := blk_frozen BK103.out 1; have hfz21_2 := blk_frozen BK103.out 2; have hfz21_3 := blk_frozen BK103.out 3; have hfz21_4 := blk_frozen BK103.out 4; have hcz22_0 : w19.cell? ⟨gb101, 0, none⟩ = some (.int .i64 x102000_1) := (blk_cell BK101.out 0).trans rfl; have hcz22_1 : w19.cell? ⟨gb101, 1, none⟩ = some (.int .i64 x102001_1) := (blk_cell BK101.out 1).trans rfl; have hcz22_2 : w19.cell? ⟨gb101, 2, none⟩ = some (.int .i64 x102002_1) := (blk_cell BK101.out 2).trans rfl; have hcz22_3 : w19.cell? ⟨gb101, 3, none⟩ = some (.int .i64 x102003_1) := (blk_cell BK101.out 3).trans rfl; have hcz22_4 : w19.cell? ⟨gb101, 4, none⟩ = some (.int .i64 x102004_1) := (blk_cell BK101.out 4).trans rfl; have hfz22_0 := blk_frozen BK101.out 0; have hfz22_1 := blk_frozen BK101.out 1; have hfz22_2 := blk_frozen BK101.out 2; have hfz22_3 := blk_frozen BK101.out 3; have hfz22_4 := blk_frozen BK101.out 4))
                  go_roundg k1
                  case measure => have := HK1.out; omega
                  case rel => exact ⟨(wrap64 (x19_1 + 1)), (x102000_1), (wrap64 (x102001_1 + 1)), (x102002_1), (x102003_1), (x102004_1), (by first | rfl | (simp; done) | (simp [*]; done)), H', ⟨by have := HK1.out; omega⟩, ⟨by (with_reducible repeat (first | refine blk_drewN ?_ _ | refine blk_drew ?_ | refine blk_alloc ?_ _)); refine blk_put (cs := #[.int .i64 x102000_1, .int .i64 x102001_1, .int .i64 x102002_1, .int .i64 x102003_1, .int .i64 x102004_1]) ?_ 1 _ rfl; (with_reducible repeat (first | refine blk_drewN ?_ _ | refine blk_drew ?_ | refine blk_alloc ?_ _)); refine blk_far ?_ NB101_103.out _; (with_reducible repeat (first | refine blk_drewN ?_ _ | refine blk_drew ?_ | refine blk_alloc ?_ _)); refine blk_far ?_ NB101_103.out _; (with_reducible repeat (first | refine blk_drewN ?_ _ | refine blk_drew ?_ | refine blk_alloc ?_ _)); refine blk_far ?_ NB101_103.out _; (with_reducible repeat (first | refine blk_drewN ?_ _ | refine blk_drew ?_ | refine blk_alloc ?_ _)); refine blk_far ?_ NB101_103.out _; (with_reducible repeat (first | refine blk_drewN ?_ _ | refine blk_drew ?_ | refine blk_alloc ?_ _)); refine blk_far ?_ NB101_103.out _; (with_reducible repeat (first | refine blk_drewN ?_ _ | refine blk_drew ?_ | refine blk_alloc ?_ _)); exact BK101.out⟩, ⟨by repeat (first | (with_reducible first | exact HB.out | apply below_alloc | apply pw_below_drewN | apply below_drew1 | refine below_set ?_ GE101.out | refine below_set ?_ GE103.out) | exact HB.out)⟩⟩
            · rw [if_neg c8] at H
              exact absurd H (by simp)
          · rw [if_neg c7] at H
            exact absurd H (by simp)
        · rw [if_neg c6] at H
          have c6b0 : decide (x19_1 < (l0.length : Int)) = false := decide_eq_false c6
          clear c6
          obtain rfl := Option.some.inj H
          go_wp2
          go_ret
          exact ⟨by first | rfl | (simp [errW_none, errW_some] <;> rfl) | (simp [*, errW_none, errW_some] <;> rfl), by repeat (first | (with_reducible first | exact HB.out | apply below_alloc | apply pw_below_drewN | apply below_drew1 | refine below_set ?_ GE101.out) | exact HB.out)⟩
  · rw [if_neg c3] at H
    have c3b0 : ((l0.length : Int) == (wrap64 (Int.tdiv (wrap64 (a1 * (wrap64 (a1 + 1)))) 2))) = false := beq_eq_false_iff_ne.mpr c3
    have c3b1 : ((l0.length : Int) != (wrap64 (Int.tdiv (wrap64 (a1 * (wrap64 (a1 + 1)))) 2))) = true := bne_iff_ne.mpr c3
    obtain rfl := Option.some.inj H
    go_enter Try.func32, Try.ntmps32
    go_wp2
    go_ret
    exact ⟨by first | rfl | (simp [errW_none, errW_some] <;> rfl) | (simp [*, errW_none, errW_some] <;> rfl), by repeat (first | (with_reducible first | exact HB.out | apply below_alloc | apply pw_below_drewN | apply below_drew1) | exact HB.out)⟩

/-! ### tariff_within: function 36 -/
def tariff_within.f (a0 : Int) (a1 : Int) (a2 : Int) : Option (Bool) := if a1 ≤ a0 then (some (decide (a0 ≤ a2))) else (some false)
set_option maxHeartbeats 8000000 in
set_option maxRecDepth 100000 in
theorem tariff_within.calls (a0 : Int) (a1 : Int) (a2 : Int) (r : Bool) (w : World) (h : tariff_within.f a0 a1 a2 = some r) :
    Calls Try.prog 36 #[.int .i64 a0, .int .i64 a1, .int .i64 a2] w fun e w' => e = .returned (.bool r) ∧ Drawn0 w w' := by
  have H : (if a1 ≤ a0 then (some (decide (a0 ≤ a2))) else (some false)) = some r := h
  clear h
  by_cases c4 : a1 ≤ a0
  · rw [if_pos c4] at H
    have c4b0 : decide (a1 ≤ a0) = true := decide_eq_true c4
    clear c4
    obtain rfl := Option.some.inj H
    go_enter Try.func36, Try.ntmps36
    go_wp2
    go_ret
    exact ⟨by first | rfl | (simp; done) | (simp [*]; done), by repeat (first | exact Drawn0.refl _ | apply Drawn0.step)⟩
  · rw [if_neg c4] at H
    have c4b0 : decide (a1 ≤ a0) = false := decide_eq_false c4
    clear c4
    obtain rfl := Option.some.inj H
    go_enter Try.func36, Try.ntmps36
    go_wp2
    go_ret
    exact ⟨by first | rfl | (simp; done) | (simp [*]; done), by repeat (first | exact Drawn0.refl _ | apply Drawn0.step)⟩

-- NOT PRINTED: function 33 (tariff_stations)

/-! ### tariff_price: function 34 -/
def tariff_price.f (a0 : Int) : Option (Bool) := (tariff_within.f a0 0 1048576).bind fun t104 => (some t104)
set_option maxHeartbeats 8000000 in
set_option maxRecDepth 100000 in
theorem tariff_price.calls (a0 : Int) (r : Bool) (w : World) (h : tariff_price.f a0 = some r) :
    Calls Try.prog 34 #[.int .i64 a0] w fun e w' => e = .returned (.bool r) ∧ Drawn0 w w' := by
  have H : ((tariff_within.f a0 0 1048576).bind fun t104 => (some t104)) = some r := h
  clear h
  replace H := Option.bind_eq_some_iff.mp H
  obtain ⟨t104, A20, H⟩ := H
  replace H : (some t104) = some r := H
  have A2 := Aside0.mk A20
  clear A20
  obtain rfl := Option.some.inj H
  go_enter Try.func34, Try.ntmps34
  go_wp2_with (first | ((with_reducible refine gate_callee (f := 36) rfl ?_); refine goesL_ (some 4) rfl rfl Try.func36 (by kernel_rfl) rfl #[.int .i64 a0, .int .i64 0, .int .i64 1048576] rfl (by (try simp only [List.map_toArray, List.map_cons, List.map_nil]); first | done | rfl | (simp only [List.length_drop, List.length_take]; rfl)) ?_; (with_reducible refine (tariff_within.calls a0 0 1048576 t104 _ A2.out).mono ?_); rintro e w' ⟨rfl, ⟨nd, rfl⟩⟩; refine ⟨_, rfl, ?_⟩))
  go_ret
  exact ⟨by first | rfl | (simp; done) | (simp [*]; done), by repeat (first | exact Drawn0.refl _ | apply Drawn0.step)⟩

-- NOT PRINTED: function 52 (math_Float64bits)

/-! ### math_Signbit: function 47 -/
def signB (a : Nat) : Bool := decide (wrap64 (a : Int) < 0)
def math_Signbit.f (a0 : Nat) : Option (Bool) := some (signB a0)
set_option maxHeartbeats 400000 in
theorem signbit_calls (a0 : Nat) (w : World) : Calls Try.prog 47 #[.float .f64 a0] w fun e w' => e = .returned (.bool (signB a0)) ∧ w = w' := by
  unfold signB
  have hfb : ∀ (a : Nat) (w : World), (callFunc 52 #[.float .f64 a]).run Try.prog w = .ok (.value (.int .u64 a)) w := fun a w => by kernel_rfl
  go_enter Try.func47, Try.ntmps47
  go_wp2
  go_ret
  exact ⟨rfl, rfl⟩
theorem math_Signbit.calls (a0 : Nat) (r : Bool) (w : World) (h : math_Signbit.f a0 = some r) :
    Calls Try.prog 47 #[.float .f64 a0] w fun e w' => e = .returned (.bool r) ∧ Drawn0 w w' := by
  obtain rfl := Option.some.inj h
  exact (signbit_calls a0 w).mono fun e w' ⟨h1, h2⟩ => ⟨h1, h2 ▸ Drawn0.refl _⟩


-- NOT PRINTED: function 35 (money_Rate)

end Go.Proofs.Ytafgogllekpmiaa.PR
