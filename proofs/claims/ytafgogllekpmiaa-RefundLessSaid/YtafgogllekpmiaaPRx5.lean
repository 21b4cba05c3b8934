-- PRINTED by print.py (a twelfth state) out of the translation. Not trusted: Lean checks it.
import Derived.Test.YtafgogllekpmiaaPRx0
import Derived.Test.YtafgogllekpmiaaPRx4
namespace Go.Proofs.Ytafgogllekpmiaa.PR
open Go.RowKit Go.Proofs.YtafgogllekpmiaaW.PrintWords Go.Proofs.YtafgogllekpmiaaW.PrintLast Go.Proofs.YtafgogllekpmiaaW.PrintMore
attribute [local go_sem] max2_int min2_int max_two min_two max_three min_three max_four min_four   -- for this text's walks alone
set_option linter.unusedVariables false
set_option linter.unusedSimpArgs false

/-! ### tariff_Right: function 22 -/
def broken (e : Int) : List PanicEntry := [{ v := .iface 63 (.agg #[.int .i64 e]), recovered := false }]
set_option maxHeartbeats 400000 in
theorem tmust_ok (e : Int) (w : World) : Calls Try.prog 31 #[.bool true, .int .i64 e] w fun en w' => en = .returned (.tuple #[]) ∧ w = w' := by
  go_enter Try.func31, Try.ntmps31
  go_wp2
  go_end0
  exact ⟨rfl, rfl⟩
set_option maxHeartbeats 400000 in
theorem tmust_no (e : Int) (w : World) : Calls Try.prog 31 #[.bool false, .int .i64 e] w fun en w' => en = .panicked (broken e) ∧ w = w' := by
  unfold broken
  have hu := Try.underlying63
  go_enter Try.func31, Try.ntmps31
  go_wp2
  exact ⟨rfl, rfl, rfl⟩
set_option maxHeartbeats 800000 in
theorem tcatch_panicking (p : Addr) (x e : Int) (older : List PanicEntry) (w : World) (hc : w.cell? p = some (.int .i64 x)) (hz : w.frozen? p = false) (hb : p.block < w.heap.size) :
    CallsD Try.prog 30 #[.pointer (some p)] (.panicking ({ v := .iface 63 (.agg #[.int .i64 e]), recovered := false } :: older)) w fun en u' w' =>
      en = .returned (.tuple #[]) ∧ u' = .panicking ({ v := .iface 63 (.agg #[.int .i64 e]), recovered := true } :: older) ∧ w' = (w.alloc (.cells #[.int .i64 e] 63)).setCell p (.int .i64 e) := by
  have hc' : ∀ o : Obj, (w.alloc o).cell? p = some (.int .i64 x) := fun o => by rw [World.cell?_alloc_lt w o p hb]; exact hc
  have hz' : ∀ o : Obj, (w.alloc o).frozen? p = false := fun o => ((below_alloc (Below.refl _ _) o).frozen hb).trans hz
  refine callsD_of_wpS Try.func30 rfl fun c₀ cs hu => ?_
  apply wpS_seq
  apply wpS_region
  simp [wpOpsS, go_sem, recoverD, hu, Try.ntmps30, Exit.thenS]
  refine wpS_of_wp ?_
  have hu63 := Try.underlying63
  have hta : ∀ (v : Value) (W : World), (Instr.typeAssert (.iface 63 v) 20 63 true).run Try.prog W = .ok (.tuple #[v, .bool true]) W := fun v W => by rfl
  go_wp2
  exact ⟨rfl, _, rfl, .tuple #[], by simp [results, Try.results30], rfl, rfl, rfl⟩
set_option maxHeartbeats 800000 in
theorem tcatch_idle (p : Addr) (w : World) :
    CallsD Try.prog 30 #[.pointer (some p)] .returning w fun en u' w' => en = .returned (.tuple #[]) ∧ u' = .returning ∧ w' = w := by
  refine callsD_of_wpS Try.func30 rfl fun c₀ cs hu => ?_
  apply wpS_seq
  apply wpS_region
  simp [wpOpsS, go_sem, recoverD, hu, Try.ntmps30, Exit.thenS]
  refine wpS_of_wp ?_
  go_wp2
  cases c₀
  simp_all [bodyPostS, results, Try.results30]
def withinB (n lo hi : Int) : Bool := decide (lo ≤ n) && decide (n ≤ hi)
set_option maxHeartbeats 400000 in
theorem twithin_calls (n lo hi : Int) (w : World) : Calls Try.prog 36 #[.int .i64 n, .int .i64 lo, .int .i64 hi] w fun e w' => e = .returned (.bool (withinB n lo hi)) ∧ w = w' := by
  unfold withinB
  have main : ∀ (c0 : Bool), decide (lo ≤ n) = c0 → Calls Try.prog 36 #[.int .i64 n, .int .i64 lo, .int .i64 hi] w fun e w' => e = .returned (.bool (c0 && decide (n ≤ hi))) ∧ w = w' := by
    intro c0 h0
    cases c0 <;>
    · go_enter Try.func36, Try.ntmps36
      go_wp2
      go_ret
      exact ⟨by first | (simp; done) | rfl, rfl⟩
  exact main _ rfl
def priceB (n : Int) : Bool := withinB n 0 1048576
set_option maxHeartbeats 400000 in
theorem tprice_calls (n : Int) (w : World) : Calls Try.prog 34 #[.int .i64 n] w fun e w' => e = .returned (.bool (priceB n)) ∧ w = w' := by
  unfold priceB
  go_enter Try.func34, Try.ntmps34
  go_wp2_with (go_at_call 36; refine (twithin_calls _ _ _ _).mono ?_; rintro e w' ⟨rfl, rfl⟩)
  go_ret
  exact ⟨rfl, rfl⟩
def stOk (x : S49) (ahead : Int) : Bool := decide (ahead < x.f0) && (decide (x.f0 ≤ 65535) && (withinB x.f1 1 9 && withinB x.f2 0 65535))
def stF : List S49 → Int → Int → Option Int
  | [], most, _ => some most
  | x :: r, most, ahead => if stOk x ahead = true then stF r (if most < x.f1 then x.f1 else most) x.f0 else none
def stAll (l : List S49) : Option Int := if l.length ≤ 200 then stF l 1 0 else none
def stE (o : Option Int) : Ending := match o with
  | some m => .returned (.int .i64 m)
  | none => .panicked (broken 70)
set_option maxHeartbeats 4000000 in
theorem tstations_calls (A : Option Addr) (c : Nat) (l : List S49) (w : World) (hr : Kd.C k49 w A l.length l) (hc : l.length ≤ c) :
    Calls Try.prog 33 #[.slice A l.length c] w fun e w' => e = stE (stAll l) ∧ Below w.heap.size w w' := by
  have HR := Aside0.mk hr
  have hm : l.length ≤ 9223372036854775807 := hr.2.1
  have HBr := Aside0.mk (Below.refl w.heap.size w)
  clear hr
  by_cases hl : l.length ≤ 200
  case neg =>
    have t1 : decide (l.length ≤ 200) = false := decide_eq_false hl
    have t2 : decide ((l.length : Int) ≤ 200) = false := decide_eq_false (by omega)
    have HF : Aside0 (stE (stAll l) = .panicked (broken 70)) := ⟨by simp [stAll, hl, stE]⟩
    clear hl
    go_enter Try.func33, Try.ntmps33
    go_wp2_with (go_at_call 31; refine (tmust_no _ _).mono ?_; rintro e w' ⟨rfl, rfl⟩)
    exact ⟨rfl, by rw [HF.out], HBr.out⟩
  have t1 : decide (l.length ≤ 200) = true := decide_eq_true hl
  have t2 : decide ((l.length : Int) ≤ 200) = true := decide_eq_true (by omega)
  have HF : Aside0 (stAll l = stF l 1 0) := ⟨by simp [stAll, hl]⟩
  clear hl
  go_enter Try.func33, Try.ntmps33
  go_wp2_with (go_at_call 31; refine (tmust_ok _ _).mono ?_; rintro e w' ⟨rfl, rfl⟩)
  go_loopg [3, 4, 13] l.length (fun gg s3 s4 s13 wr => ∃ (kk : Nat) (most ahead : Int), kk ≤ l.length ∧ l.length - kk ≤ gg ∧ s3 = .int .i64 most ∧ s4 = .int .i64 ahead ∧ s13 = .int .i64 kk ∧ Aside0 (Below w.heap.size w wr) ∧ Aside0 (stF (l.drop kk) most ahead = stF l 1 0))
  case atStart => exact ⟨0, 1, 0, Nat.zero_le _, by omega, rfl, rfl, rfl, ⟨Below.refl _ w⟩, ⟨rfl⟩⟩
  case round =>
    obtain ⟨kk, most, ahead, hkk, hg, rfl, rfl, rfl, BW, HI⟩ := hrel
    by_cases hlt : kk < l.length
    · have hltz : (kk : Int) < (l.length : Int) := by omega
      obtain ⟨ad, rfl, c0, c1, c2⟩ := at_T49 (Kd.C_below HR.out BW.out) kk (by omega) hltz
      simp only [Int.toNat_natCast] at c0 c1 c2
      have HE : Aside0 (l[kk] = rd_T49 l kk) := ⟨by unfold rd_T49; simp [List.getD_eq_getElem?_getD, List.getElem?_eq_getElem hlt]⟩
      clear HR
      generalize rd_T49 l kk = y at c0 c1 c2 HE
      have HS : Aside0 (stF (l.drop kk) most ahead = if stOk y ahead = true then stF (l.drop (kk + 1)) (if most < y.f1 then y.f1 else most) y.f0 else none) := ⟨by rw [drop_cons l kk hlt, stF, HE.out]⟩
      clear HE
      have HBa := Aside0.mk (fun o : Obj => below_alloc BW.out o)
      by_cases h0 : ahead < y.f0
      case neg =>
        have HG : Aside0 (stE (stAll l) = .panicked (broken 70)) := ⟨by rw [HF.out, ← HI.out, HS.out]; simp [stOk, h0, stE]⟩
        clear HS HI HF
        have t3 : decide (ahead < y.f0) = false := decide_eq_false h0
        go_wp2_with (first | (go_at_call 31; refine (tmust_no _ _).mono ?_; rintro e w' ⟨rfl, rfl⟩))
        exact ⟨rfl, by rw [HG.out], HBa.out _⟩
      have t3 : decide (ahead < y.f0) = true := decide_eq_true h0
      by_cases h1 : y.f0 ≤ 65535
      case neg =>
        have HG : Aside0 (stE (stAll l) = .panicked (broken 70)) := ⟨by rw [HF.out, ← HI.out, HS.out]; simp [stOk, h0, h1, stE]⟩
        clear HS HI HF
        have t4 : decide (y.f0 ≤ 65535) = false := decide_eq_false h1
        go_wp2_with (first | (go_at_call 36; refine (twithin_calls _ _ _ _).mono ?_; rintro e w' ⟨rfl, rfl⟩) | (go_at_call 31; refine (tmust_no _ _).mono ?_; rintro e w' ⟨rfl, rfl⟩))
        exact ⟨rfl, by rw [HG.out], HBa.out _⟩
      have t4 : decide (y.f0 ≤ 65535) = true := decide_eq_true h1
      by_cases h2 : withinB y.f1 1 9 = true
      case neg =>
        have HG : Aside0 (stE (stAll l) = .panicked (broken 70)) := ⟨by rw [HF.out, ← HI.out, HS.out]; simp [stOk, h0, h1, h2, stE]⟩
        clear HS HI HF
        have t5 : withinB y.f1 1 9 = false := by simpa using h2
        clear h2
        go_wp2_with (first | (go_at_call 36; refine (twithin_calls _ _ _ _).mono ?_; rintro e w' ⟨rfl, rfl⟩) | (go_at_call 31; refine (tmust_no _ _).mono ?_; rintro e w' ⟨rfl, rfl⟩))
        exact ⟨rfl, by rw [HG.out], HBa.out _⟩
      by_cases h3 : withinB y.f2 0 65535 = true
      case neg =>
        have HG : Aside0 (stE (stAll l) = .panicked (broken 70)) := ⟨by rw [HF.out, ← HI.out, HS.out]; simp [stOk, h0, h1, h2, h3, stE]⟩
        clear HS HI HF
        have t6 : withinB y.f2 0 65535 = false := by simpa using h3
        clear h3
        go_wp2_with (first | (go_at_call 36; refine (twithin_calls _ _ _ _).mono ?_; rintro e w' ⟨rfl, rfl⟩) | (go_at_call 31; refine (tmust_no _ _).mono ?_; rintro e w' ⟨rfl, rfl⟩))
        exact ⟨rfl, by rw [HG.out], HBa.out _⟩
      have hk : stOk y ahead = true := by simp [stOk, h0, h1, h2, h3]
      have HG : Aside0 (stF (l.drop (kk + 1)) (if most < y.f1 then y.f1 else most) y.f0 = stF l 1 0) := ⟨by rw [← HI.out, HS.out, if_pos hk]⟩
      clear hk
      clear HS HI
      go_wp2_with (first | (go_at_call 36; refine (twithin_calls _ _ _ _).mono ?_; rintro e w' ⟨rfl, rfl⟩) | (go_at_call 31; refine (tmust_ok _ _).mono ?_; rintro e w' ⟨rfl, rfl⟩))
      go_region
      all_goals
        go_wp2
        all_goals
          go_roundg (l.length - (kk + 1))
          case measure => omega
          case rel => exact ⟨kk + 1, _, _, by omega, by omega, rfl, rfl, by go_num, ⟨by first | exact (HBa.out _).drew | exact pw_below_drewN (HBa.out _) _⟩, ⟨by have := HG.out; first | (rw [if_pos ‹_›] at this; simpa using this) | (rw [if_neg (by omega)] at this; simpa using this)⟩⟩
    · have hltz : ¬ (kk : Int) < (l.length : Int) := by omega
      have HG : Aside0 (stE (stAll l) = .returned (.int .i64 most)) := ⟨by rw [HF.out, ← HI.out, List.drop_eq_nil_of_le (by omega)]; rfl⟩
      clear HI HF
      go_wp2
      go_ret
      exact ⟨by rw [HG.out]; rfl, BW.out⟩
def fgeB (a b : Nat) : Bool := FloatKind.f64.format.order a b == some .gt || FloatKind.f64.format.order a b == some .eq
def fleB (a b : Nat) : Bool := FloatKind.f64.format.order a b == some .lt || FloatKind.f64.format.order a b == some .eq
/-- the bits of 1.0 -/
def one64 : Nat := 4607182418800017408
def rateB (a : Nat) : Bool := fgeB a 0 && (fleB a one64 && !signB a)
set_option maxHeartbeats 800000 in
theorem trate_calls (a : Nat) (w : World) : Calls Try.prog 35 #[.float .f64 a] w fun e w' => e = .returned (.bool (rateB a)) ∧ w = w' := by
  unfold rateB
  have HS := fun w => signbit_calls a w
  generalize signB a = s at HS
  have main : ∀ (c0 c1 : Bool), fgeB a 0 = c0 → fleB a one64 = c1 → Calls Try.prog 35 #[.float .f64 a] w fun e w' => e = .returned (.bool (c0 && (c1 && !s))) ∧ w = w' := by
    intro c0 c1 h0 h1
    unfold fgeB at h0
    unfold fleB one64 at h1
    cases c0 <;> cases c1 <;>
    · go_enter Try.func35, Try.ntmps35
      go_wp2_with (go_at_call 47; refine (HS _).mono ?_; rintro e w' ⟨rfl, rfl⟩)
      go_ret
      exact ⟨by first | (simp; done) | rfl, rfl⟩
  exact main _ _ rfl rfl
theorem tstations_some {A : Option Addr} {c : Nat} {l : List S49} {m : Int} (hs : Aside0 (stAll l = some m)) (w : World) (hr : Kd.C k49 w A l.length l) (hc : l.length ≤ c) :
    Calls Try.prog 33 #[.slice A l.length c] w fun e w' => e = .returned (.int .i64 m) ∧ Below w.heap.size w w' :=
  (tstations_calls A c l w hr hc).mono fun e w' h => ⟨by rw [h.1, hs.out]; rfl, h.2⟩
theorem tstations_none {A : Option Addr} {c : Nat} {l : List S49} (hs : Aside0 (stAll l = none)) (w : World) (hr : Kd.C k49 w A l.length l) (hc : l.length ≤ c) :
    Calls Try.prog 33 #[.slice A l.length c] w fun e w' => e = .panicked (broken 70) ∧ Below w.heap.size w w' :=
  (tstations_calls A c l w hr hc).mono fun e w' h => ⟨by rw [h.1, hs.out]; rfl, h.2⟩
/-- the spans of a zone system, in order: from a pair on -/
def spB (most : Int) : List S51 → Int → Int → Bool
  | [], _, _ => true
  | x :: r, a, b => decide (x.f0 = a) && (decide (x.f1 = b) && (if b + 1 > most then spB most r (a + 1) (a + 1) else spB most r a (b + 1)))
def spanB (l : List S51) (m : Int) : Bool := decide ((l.length : Int) = m * (m + 1) / 2) && spB m l 1 1
theorem spans_l0 (l : List S51) (m : Int) (hm : 1 ≤ m ∧ m ≤ 9) (hl : l.length ≤ 45) : ∀ (d kk : Nat) (a b : Int), kk ≤ l.length → l.length - kk = d → 1 ≤ a → a ≤ b → b ≤ m + kk → a ≤ 1 + kk →
    tariff_spans.l0 (d + 1) m l (l.length : Int) kk a b 0 0 0 = some (spB m (l.drop kk) a b) := by
  intro d
  induction d with
  | zero =>
    intro kk a b h1 h2 _ _ _ _
    simp only [tariff_spans.l0]
    rw [if_neg (by omega), List.drop_eq_nil_of_le (by omega)]
    rfl
  | succ d ih =>
    intro kk a b h1 h2 h3 h4 h5 h6
    have hlt : kk < l.length := by omega
    rw [tariff_spans.l0, if_pos (by omega), if_pos (by omega), if_pos (by omega), drop_cons l kk hlt]
    have e : rd_T51 l (kk : Int) = l[kk] := by unfold rd_T51; simp [List.getD_eq_getElem?_getD, List.getElem?_eq_getElem hlt]
    have w1 : wrap64 ((kk : Int) + 1) = ((kk + 1 : Nat) : Int) := by unfold wrap64; omega
    have w2 : wrap64 (b + 1) = b + 1 := by unfold wrap64; omega
    have w3 : wrap64 (a + 1) = a + 1 := by unfold wrap64; omega
    rw [e, w1, w2, w3, spB]
    by_cases c1 : (l[kk]).f0 = a
    · by_cases c2 : (l[kk]).f1 = b
      · simp only [c1, c2, beq_self_eq_true, Bool.not_true, Bool.or_self, Bool.false_eq_true, if_false, decide_true, Bool.true_and]
        by_cases c3 : b + 1 > m
        · rw [if_pos c3, if_pos c3]
          exact ih (kk + 1) (a + 1) (a + 1) (by omega) (by omega) (by omega) (by omega) (by omega) (by omega)
        · rw [if_neg c3, if_neg c3]
          exact ih (kk + 1) a (b + 1) (by omega) (by omega) (by omega) (by omega) (by omega) (by omega)
      · simp [c1, c2]
    · simp [c1]
theorem spans_f (l : List S51) (m : Int) (hm : 1 ≤ m ∧ m ≤ 9) : ∃ k, tariff_spans.f k l m = some (spanB l m) := by
  refine ⟨l.length + 1, ?_⟩
  have w1 : wrap64 (m + 1) = m + 1 := by unfold wrap64; omega
  have b1 : 0 ≤ m * (m + 1) ∧ m * (m + 1) ≤ 90 := by
    have := Int.mul_nonneg (show 0 ≤ m by omega) (show 0 ≤ m + 1 by omega)
    have := Int.mul_le_mul (show m ≤ 9 by omega) (show m + 1 ≤ 10 by omega) (by omega) (by omega)
    omega
  have w2 : wrap64 (m * (m + 1)) = m * (m + 1) := by unfold wrap64; omega
  have w3 : Int.tdiv (m * (m + 1)) 2 = m * (m + 1) / 2 := Int.tdiv_eq_ediv_of_nonneg b1.1
  have w4 : wrap64 (m * (m + 1) / 2) = m * (m + 1) / 2 := by unfold wrap64; omega
  unfold tariff_spans.f spanB
  rw [w1, w2, w3, w4]
  by_cases h : (l.length : Int) = m * (m + 1) / 2
  · rw [if_pos h]
    have := spans_l0 l m hm (by omega) l.length 0 1 1 (by omega) (by omega) (by omega) (by omega) (by omega) (by omega)
    simpa [h] using this
  · rw [if_neg h]; simp [h]
theorem tspans_calls (A : Option Addr) (c : Nat) (l : List S51) (m : Int) (w : World) (hm : 1 ≤ m ∧ m ≤ 9) (hr : Kd.C k51 w A l.length l) (hc : l.length ≤ c) :
    Calls Try.prog 32 #[.slice A l.length c, .int .i64 m] w fun e w' => e = .returned (.bool (spanB l m)) ∧ Below w.heap.size w w' := by
  obtain ⟨k, h⟩ := spans_f l m hm
  exact tariff_spans.calls k A c l m _ w hr hc h
theorem stF_range : ∀ (l : List S49) (most ahead m : Int), 1 ≤ most → most ≤ 9 → stF l most ahead = some m → 1 ≤ m ∧ m ≤ 9
  | [], most, _, m, h1, h2, h => by
    simp only [stF, Option.some.injEq] at h
    omega
  | x :: r, most, ahead, m, h1, h2, h => by
    unfold stF at h
    by_cases hk : stOk x ahead = true
    · rw [if_pos hk] at h
      have h3 : 1 ≤ x.f1 ∧ x.f1 ≤ 9 := by
        simp only [stOk, withinB, Bool.and_eq_true, decide_eq_true_eq] at hk
        omega
      refine stF_range r _ _ m ?_ ?_ h <;> split <;> omega
    · rw [if_neg hk] at h
      cases h
theorem stAll_range {l : List S49} {m : Int} (h : stAll l = some m) : 1 ≤ m ∧ m ≤ 9 := by
  unfold stAll at h
  by_cases hl : l.length ≤ 200
  · rw [if_pos hl] at h
    exact stF_range l 1 0 m (by omega) (by omega) h
  · rw [if_neg hl] at h
    cases h
/-- a tariff's block -/
def tObj (A0 A1 A2 : Option Addr) (n0 n1 n2 c0 c1 c2 off : Nat) (bus busD busW hop most long chg pas del thr : Int) : Obj :=
  .cells #[.slice A0 n0 c0, .slice A1 n1 c1, .slice A2 n2 c2, .float .f64 off, .int .i64 bus, .int .i64 busD, .int .i64 busW, .int .i64 hop, .int .i64 most, .int .i64 long, .int .i64 chg, .int .i64 pas, .int .i64 del, .int .i64 thr] 27
/-- what stands while a tariff is asked: the old memory; the tariff's block; the result's block -/
structure TW (w W : World) (o : Obj) : Prop where
  below : Below w.heap.size w W
  tar : W.heap[w.heap.size]? = some o
  res : W.heap[w.heap.size + 1]? = some (.cells #[.int .i64 0] 38 (0, 0))
theorem TW.start (w : World) (o : Obj) : TW w ((w.alloc o).alloc (.cells #[.int .i64 0] 38)) o :=
  ⟨below_alloc (below_alloc (Below.refl _ _) o) _, by
    have h := heap_alloc_new w o
    exact (Below.heap_alloc (w.alloc o) _ w.heap.size (by simp)).trans h, blk2 w o _⟩
theorem TW.drew {w W : World} {o : Obj} (h : TW w W o) : TW w W.drew o := ⟨h.below.drew, h.tar, h.res⟩
theorem TW.drewN {w W : World} {o : Obj} (h : TW w W o) (n : Nat) : TW w (W.drewN n) o := ⟨pw_below_drewN h.below n, h.tar, h.res⟩
theorem TW.alloc {w W : World} {o : Obj} (h : TW w W o) (o' : Obj) : TW w (W.alloc o') o := ⟨below_alloc h.below o', blk_alloc h.tar o', blk_alloc h.res o'⟩
theorem TW.then_ {w W W' : World} {o : Obj} (h : TW w W o) (hb : Below W.heap.size W W') : TW w W' o := ⟨below_then h.below h.below.size hb, blk_below h.tar hb, blk_below h.res hb⟩
theorem TW.set_ {w W : World} {o : Obj} (h : TW w W o) {p : Addr} (hp : w.heap.size + 1 < p.block) (u : Value) : TW w (W.setCell p u) o :=
  ⟨h.below.setCell (by omega) u, (Below.heap_setCell W p u _ (by omega)).trans h.tar, (Below.heap_setCell W p u _ (by omega)).trans h.res⟩
/-- the way out by a broken tariff -/
theorem tdoor_panic {w W : World} {o : Obj} {tmps : Array Value} {e r : Int} (HT : TW w W o) (h2 : tmps[2]?.getD undef = .pointer (some ⟨w.heap.size + 1, 0, none⟩)) (hr : r = e) :
    bodyPostD Try.prog Try.f22 (fun e' w' => e' = .returned (.int .i64 r) ∧ Below w.heap.size w w') (.panic (broken e)) { tmps := tmps, defers := [{ target := Target.fn (Fn.func 30) #[.pointer (some ⟨w.heap.size + 1, 0, none⟩)], args := #[] }] } W := by
  subst hr
  have hlt : w.heap.size + 1 < W.heap.size := blk_lt HT.res
  show Leaves _ _ _ _ _ _ _
  unfold broken
  refine leaves_cons (f := 30) (args := #[.pointer (some ⟨w.heap.size + 1, 0, none⟩)]) (by simp) (by simp [go_sem]) ?_
  refine (tcatch_panicking ⟨w.heap.size + 1, 0, none⟩ 0 r [] W ((blk_cell HT.res 0).trans rfl) (blk_frozen HT.res 0) hlt).mono ?_
  rintro e' u' w'' ⟨rfl, rfl, rfl⟩
  have hB : Below w.heap.size w ((W.alloc (.cells #[.int .i64 r] 63)).setCell ⟨w.heap.size + 1, 0, none⟩ (.int .i64 r)) := (below_alloc HT.below _).setCell (by simp) _
  have hc : ((W.alloc (.cells #[.int .i64 r] 63)).setCell ⟨w.heap.size + 1, 0, none⟩ (.int .i64 r)).cell? ⟨w.heap.size + 1, 0, none⟩ = some (.int .i64 r) := by
    have hb := blk_set (blk_alloc HT.res (.cells #[.int .i64 r] 63)) 0 (.int .i64 r)
    exact (blk_cell hb 0).trans rfl
  generalize (W.alloc (.cells #[.int .i64 r] 63)).setCell ⟨w.heap.size + 1, 0, none⟩ (.int .i64 r) = W2 at hB hc
  simp [Leaves, settle, results, Try.results22, h2, go_sem, hc, hB]
/-- the way out of one that may be -/
theorem tdoor_ret {w W : World} {tmps : Array Value} {r x : Int} (hB : Below w.heap.size w W) (hc : W.cell? ⟨w.heap.size + 1, 0, none⟩ = some (.int .i64 x)) (h2 : tmps[2]?.getD undef = .pointer (some ⟨w.heap.size + 1, 0, none⟩)) (hr : r = x) :
    bodyPostD Try.prog Try.f22 (fun e' w' => e' = .returned (.int .i64 r) ∧ Below w.heap.size w w') .ret { tmps := tmps, defers := [{ target := Target.fn (Fn.func 30) #[.pointer (some ⟨w.heap.size + 1, 0, none⟩)], args := #[] }] } W := by
  subst hr
  show Leaves _ _ _ _ _ _ _
  refine leaves_cons (f := 30) (args := #[.pointer (some ⟨w.heap.size + 1, 0, none⟩)]) (by simp) (by simp [go_sem]) ?_
  refine (tcatch_idle ⟨w.heap.size + 1, 0, none⟩ W).mono ?_
  rintro e' u' w'' ⟨rfl, rfl, rfl⟩
  simp [Leaves, settle, results, Try.results22, h2, go_sem, hc, hB]
def spPrice (x : S51) : Bool := priceB x.f2 && (priceB x.f3 && priceB x.f4)
def inB (a b : S51) : Bool := decide (b.f0 ≤ a.f0) && decide (a.f1 ≤ b.f1)
def wideOk (a b : S51) : Bool := !inB a b || (decide (a.f2 ≤ b.f2) && (decide (a.f3 ≤ b.f3) && decide (a.f4 ≤ b.f4)))
def bandOk (x : S53) (at_ : Int) : Bool := decide (at_ ≤ x.f0) && (decide (x.f0 < x.f1) && decide (x.f1 ≤ 1440))
def bandsOk : List S53 → Int → Bool
  | [], _ => true
  | x :: r, at_ => bandOk x at_ && bandsOk r x.f1
/-- from the rate on -/
def tariffR5 (off : Nat) (hop long chg pas del : Int) : Int :=
    if rateB off = false then 51
    else if withinB long 1 1440 = false then 70
    else if (withinB hop 0 1440 && (withinB chg 0 1440 && (withinB pas 0 1440 && withinB del 0 1440))) = false then 70
    else 0
/-- from the bands on -/
def tariffR4 (l2 : List S53) (off : Nat) (hop long chg pas del : Int) : Int :=
    if ¬ l2.length ≤ 8 then 70
    else if bandsOk l2 0 = false then 70
    else tariffR5 off hop long chg pas del
/-- from the spans' prices on -/
def tariffR3 (l1 : List S51) (l2 : List S53) (off : Nat) (hop long chg pas del : Int) : Int :=
    if l1.all spPrice = false then 50
    else if (l1.all fun a => l1.all fun b => wideOk a b) = false then 70
    else tariffR4 l2 off hop long chg pas del
/-- from the prices on -/
def tariffR2 (l1 : List S51) (l2 : List S53) (off : Nat) (bus busD busW hop most long chg pas del thr : Int) : Int :=
    if (priceB bus && (priceB busD && (priceB busW && (priceB most && priceB thr)))) = false then 50
    else tariffR3 l1 l2 off hop long chg pas del
def tariffR (l0 : List S49) (l1 : List S51) (l2 : List S53) (off : Nat) (bus busD busW hop most long chg pas del thr : Int) : Int :=
  match stAll l0 with
  | none => 70
  | some m => if spanB l1 m = false then 70 else tariffR2 l1 l2 off bus busD busW hop most long chg pas del thr
section
variable {A0 A1 A2 : Option Addr} {n0 n1 n2 c0 c1 c2 off : Nat} {bus busD busW hop most long chg pas del thr : Int} {w W : World}
theorem tcells (h : TW w W (tObj A0 A1 A2 n0 n1 n2 c0 c1 c2 off bus busD busW hop most long chg pas del thr)) :
    W.cell? ⟨w.heap.size, 0, none⟩ = some (.slice A0 n0 c0) ∧ W.cell? ⟨w.heap.size, 1, none⟩ = some (.slice A1 n1 c1) ∧ W.cell? ⟨w.heap.size, 2, none⟩ = some (.slice A2 n2 c2) ∧ W.cell? ⟨w.heap.size, 3, none⟩ = some (.float .f64 off) ∧
    W.cell? ⟨w.heap.size, 4, none⟩ = some (.int .i64 bus) ∧ W.cell? ⟨w.heap.size, 5, none⟩ = some (.int .i64 busD) ∧ W.cell? ⟨w.heap.size, 6, none⟩ = some (.int .i64 busW) ∧ W.cell? ⟨w.heap.size, 7, none⟩ = some (.int .i64 hop) ∧ W.cell? ⟨w.heap.size, 8, none⟩ = some (.int .i64 most) ∧
    W.cell? ⟨w.heap.size, 9, none⟩ = some (.int .i64 long) ∧ W.cell? ⟨w.heap.size, 10, none⟩ = some (.int .i64 chg) ∧ W.cell? ⟨w.heap.size, 11, none⟩ = some (.int .i64 pas) ∧ W.cell? ⟨w.heap.size, 12, none⟩ = some (.int .i64 del) ∧ W.cell? ⟨w.heap.size, 13, none⟩ = some (.int .i64 thr) :=
  ⟨(blk_cell h.tar 0).trans rfl, (blk_cell h.tar 1).trans rfl, (blk_cell h.tar 2).trans rfl, (blk_cell h.tar 3).trans rfl, (blk_cell h.tar 4).trans rfl, (blk_cell h.tar 5).trans rfl, (blk_cell h.tar 6).trans rfl, (blk_cell h.tar 7).trans rfl, (blk_cell h.tar 8).trans rfl, (blk_cell h.tar 9).trans rfl, (blk_cell h.tar 10).trans rfl, (blk_cell h.tar 11).trans rfl, (blk_cell h.tar 12).trans rfl, (blk_cell h.tar 13).trans rfl⟩
theorem tlt {o : Obj} (h : TW w W o) : w.heap.size + 1 < W.heap.size := blk_lt h.res
end
theorem cell5 {W : World} {b : Nat} {a0 a1 a2 a3 a4 : Int} {t : TypeId} (h : W.heap[b]? = some (.cells #[.int .i64 a0, .int .i64 a1, .int .i64 a2, .int .i64 a3, .int .i64 a4] t (0, 0))) (kk : Nat) (hk : kk < 5) :
    W.cell? ⟨b, kk, none⟩ = some (.int .i64 ([a0, a1, a2, a3, a4].getD kk 0)) := by
  rw [blk_cell h kk]
  match kk, hk with
  | 0, _ => rfl
  | 1, _ => rfl
  | 2, _ => rfl
  | 3, _ => rfl
  | 4, _ => rfl
theorem r2_price (l1 : List S51) (l2 : List S53) (off : Nat) (bus busD busW hop most long chg pas del thr : Int) (kk : Nat) (hk : kk < 5) (h : priceB ([bus, busD, busW, most, thr].getD kk 0) = false) :
    tariffR2 l1 l2 off bus busD busW hop most long chg pas del thr = 50 := by
  unfold tariffR2
  rw [if_pos]
  match kk, hk with
  | 0, _ => simp_all
  | 1, _ => simp_all
  | 2, _ => simp_all
  | 3, _ => simp_all
  | 4, _ => simp_all
theorem r2_go (l1 : List S51) (l2 : List S53) (off : Nat) (bus busD busW hop most long chg pas del thr : Int) (h : ∀ j, j < 5 → priceB ([bus, busD, busW, most, thr].getD j 0) = true) :
    tariffR2 l1 l2 off bus busD busW hop most long chg pas del thr = tariffR3 l1 l2 off hop long chg pas del := by
  unfold tariffR2
  rw [if_neg]
  have h0 := h 0 (by omega)
  have h1 := h 1 (by omega)
  have h2 := h 2 (by omega)
  have h3 := h 3 (by omega)
  have h4 := h 4 (by omega)
  simp only [List.getD_cons_zero, List.getD_cons_succ] at h0 h1 h2 h3 h4
  simp [h0, h1, h2, h3, h4]
theorem all_out {α : Type} {p : α → Bool} {l : List α} {k : Nat} (hk : k < l.length) {y : α} (hy : l[k] = y) (h : p y = false) : l.all p = false := by
  rw [List.all_eq_false]
  exact ⟨y, by rw [← hy]; exact List.getElem_mem hk, by simp [h]⟩
theorem all_go {α : Type} {p : α → Bool} {l : List α} {k : Nat} (hk : k < l.length) {y : α} (hy : l[k] = y) (h : p y = true) (hI : (l.drop k).all p = l.all p) : (l.drop (k + 1)).all p = l.all p := by
  rw [← hI, drop_cons l k hk, List.all_cons, hy, h, Bool.true_and]
theorem all_end {α : Type} {p : α → Bool} {l : List α} {k : Nat} (hk : l.length ≤ k) (hI : (l.drop k).all p = l.all p) : l.all p = true := by
  rw [← hI, List.drop_eq_nil_of_le hk]; rfl
def mustE : Bool → Int → Ending
  | true, _ => .returned (.tuple #[])
  | false, e => .panicked (broken e)
theorem tmust_any (b : Bool) (e : Int) (w : World) : Calls Try.prog 31 #[.bool b, .int .i64 e] w fun en w' => en = mustE b e ∧ w = w' := by
  cases b
  · exact tmust_no e w
  · exact tmust_ok e w
theorem cell4 {W : World} {b : Nat} {a0 a1 a2 a3 : Int} {t : TypeId} (h : W.heap[b]? = some (.cells #[.int .i64 a0, .int .i64 a1, .int .i64 a2, .int .i64 a3] t (0, 0))) (kk : Nat) (hk : kk < 4) :
    W.cell? ⟨b, kk, none⟩ = some (.int .i64 ([a0, a1, a2, a3].getD kk 0)) := by
  rw [blk_cell h kk]
  match kk, hk with
  | 0, _ => rfl
  | 1, _ => rfl
  | 2, _ => rfl
  | 3, _ => rfl
theorem r5_minute (hop chg pas del : Int) (kk : Nat) (hk : kk < 4) (h : withinB ([hop, chg, pas, del].getD kk 0) 0 1440 = false) :
    (if (withinB hop 0 1440 && (withinB chg 0 1440 && (withinB pas 0 1440 && withinB del 0 1440))) = false then 70 else 0 : Int) = 70 := by
  rw [if_pos]
  match kk, hk with
  | 0, _ => simp_all
  | 1, _ => simp_all
  | 2, _ => simp_all
  | 3, _ => simp_all
theorem r5_go (hop chg pas del : Int) (h : ∀ j, j < 4 → withinB ([hop, chg, pas, del].getD j 0) 0 1440 = true) :
    (if (withinB hop 0 1440 && (withinB chg 0 1440 && (withinB pas 0 1440 && withinB del 0 1440))) = false then 70 else 0 : Int) = 0 := by
  rw [if_neg]
  have h0 := h 0 (by omega)
  have h1 := h 1 (by omega)
  have h2 := h 2 (by omega)
  have h3 := h 3 (by omega)
  simp only [List.getD_cons_zero, List.getD_cons_succ] at h0 h1 h2 h3
  simp [h0, h1, h2, h3]
set_option maxHeartbeats 8000000 in
set_option maxRecDepth 100000 in
theorem tright_core (A0 A1 A2 : Option Addr) (c0 c1 c2 : Nat) (l0 : List S49) (l1 : List S51) (l2 : List S53) (off : Nat) (bus busD busW hop most long chg pas del thr : Int) (w : World)
    (hr0 : Kd.C k49 w A0 l0.length l0) (hc0 : l0.length ≤ c0) (hr1 : Kd.C k51 w A1 l1.length l1) (hc1 : l1.length ≤ c1) (hr2 : Kd.C k53 w A2 l2.length l2) (hc2 : l2.length ≤ c2) :
    Calls Try.prog 22 #[.agg #[.slice A0 l0.length c0, .slice A1 l1.length c1, .slice A2 l2.length c2, .float .f64 off, .int .i64 bus, .int .i64 busD, .int .i64 busW, .int .i64 hop, .int .i64 most, .int .i64 long, .int .i64 chg, .int .i64 pas, .int .i64 del, .int .i64 thr]] w fun e w' => e = .returned (.int .i64 (tariffR l0 l1 l2 off bus busD busW hop most long chg pas del thr)) ∧ Below w.heap.size w w' := by
  have hmf : ∀ (fn : Fn) (first cap : Array Value) (w : World), (Instr.makeFunc fn first cap).run Try.prog w = .ok (.func fn first cap) w := fun _ _ _ _ => rfl
  have hm1 : l1.length ≤ 9223372036854775807 := hr1.2.1
  have hm2 : l2.length ≤ 9223372036854775807 := hr2.2.1
  have HR0 := Aside0.mk hr0
  have HR1 := Aside0.mk hr1
  have HR2 := Aside0.mk hr2
  have HT0 := Aside0.mk (TW.start w (tObj A0 A1 A2 l0.length l1.length l2.length c0 c1 c2 off bus busD busW hop most long chg pas del thr)).drew
  clear hr0 hr1 hr2
  cases hs : stAll l0 with
  | none =>
    have HS := Aside0.mk hs
    have HF : Aside0 (tariffR l0 l1 l2 off bus busD busW hop most long chg pas del thr = 70) := ⟨by simp [tariffR, hs]⟩
    clear hs
    generalize tariffR l0 l1 l2 off bus busD busW hop most long chg pas del thr = r at HF
    unfold tObj at HT0
    go_enter_defers Try.func22, Try.ntmps22
    go_wp2_with fail
    refine YtafgogllekpmiaaX.wp_region_door (YtafgogllekpmiaaX.keepD [{ target := Target.fn (Fn.func 30) #[.pointer (some ⟨w.heap.size + 1, 0, none⟩)], args := #[] }] 2 (.pointer (some ⟨w.heap.size + 1, 0, none⟩)))
      (fun c w' => ∃ e, c = broken e ∧ r = e ∧ ∃ o, TW w w' o) (fun w' => w'.cell? ⟨w.heap.size, 0, none⟩ = some (.slice A0 l0.length c0) ∧ w'.cell? ⟨w.heap.size, 1, none⟩ = some (.slice A1 l1.length c1)) (by kernel_rfl) ⟨rfl, rfl⟩ ?hQ ?_
    case hQ =>
      rintro c ⟨tm, df⟩ w' ⟨hd, ht⟩ ⟨e, rfl, hr, o, hT⟩
      simp only at hd ht
      subst hd
      exact tdoor_panic hT (by rw [ht]; rfl) hr
    have HS0 := Aside0.mk (And.intro (tcells HT0.out).1 (tcells HT0.out).2.1)
    refine YtafgogllekpmiaaX.wpAnyG_take 0 (v := .pointer (some ⟨w.heap.size, 1, none⟩)) rfl (by kernel_rfl) (by kernel_rfl) (by kernel_rfl) (fun a u => YtafgogllekpmiaaX.keepD_put (by simp) a u) HS0.out ⟨rfl, rfl⟩ (by rfl) (by rintro W ⟨h0, h1⟩; go_simp; done) ?_
    try simp only [Act.put, List.setIfInBounds_toArray, List.set_cons_zero, List.set_cons_succ]
    refine YtafgogllekpmiaaX.wpAnyG_take 1 (v := .slice A1 l1.length c1) rfl (by kernel_rfl) (by kernel_rfl) (by kernel_rfl) (fun a u => YtafgogllekpmiaaX.keepD_put (by simp) a u) HS0.out ⟨rfl, rfl⟩ (by rfl) (by rintro W ⟨h0, h1⟩; go_simp; done) ?_
    try simp only [Act.put, List.setIfInBounds_toArray, List.set_cons_zero, List.set_cons_succ]
    refine YtafgogllekpmiaaX.wpAnyG_take 2 (v := .pointer (some ⟨w.heap.size, 0, none⟩)) rfl (by kernel_rfl) (by kernel_rfl) (by kernel_rfl) (fun a u => YtafgogllekpmiaaX.keepD_put (by simp) a u) HS0.out ⟨rfl, rfl⟩ (by rfl) (by rintro W ⟨h0, h1⟩; go_simp; done) ?_
    try simp only [Act.put, List.setIfInBounds_toArray, List.set_cons_zero, List.set_cons_succ]
    refine YtafgogllekpmiaaX.wpAnyG_take 3 (v := .slice A0 l0.length c0) rfl (by kernel_rfl) (by kernel_rfl) (by kernel_rfl) (fun a u => YtafgogllekpmiaaX.keepD_put (by simp) a u) HS0.out ⟨rfl, rfl⟩ (by rfl) (by rintro W ⟨h0, h1⟩; go_simp; done) ?_
    try simp only [Act.put, List.setIfInBounds_toArray, List.set_cons_zero, List.set_cons_succ]
    refine YtafgogllekpmiaaX.wpAnyG_one 4 rfl (by kernel_rfl) (by rfl) (fun K hK => ?_)
    go_simp
    refine (tstations_none HS _ (Kd.C_below HR0.out HT0.out.below) hc0).mono ?_
    rintro e w' ⟨rfl, hb1⟩
    exact ⟨70, rfl, HF.out, _, HT0.out.then_ hb1⟩
  | some m =>
    have HS := Aside0.mk hs
    have HM := Aside0.mk (stAll_range hs)
    clear hs
    by_cases hsp : spanB l1 m = true
    case neg =>
      have hsp' : spanB l1 m = false := by simpa using hsp
      have HF : Aside0 (tariffR l0 l1 l2 off bus busD busW hop most long chg pas del thr = 70) := ⟨by simp [tariffR, HS.out, hsp']⟩
      have CSP := fun w => tspans_calls A1 c1 l1 m w HM.out
      rw [hsp'] at CSP
      have CSP' := Aside0.mk CSP
      clear CSP hsp hsp'
      generalize tariffR l0 l1 l2 off bus busD busW hop most long chg pas del thr = r at HF
      unfold tObj at HT0
      go_enter_defers Try.func22, Try.ntmps22
      go_wp2_with fail
      refine YtafgogllekpmiaaX.wp_region_door (YtafgogllekpmiaaX.keepD [{ target := Target.fn (Fn.func 30) #[.pointer (some ⟨w.heap.size + 1, 0, none⟩)], args := #[] }] 2 (.pointer (some ⟨w.heap.size + 1, 0, none⟩)))
        (fun c w' => ∃ e, c = broken e ∧ r = e ∧ ∃ o, TW w w' o) (fun w' => w'.cell? ⟨w.heap.size, 0, none⟩ = some (.slice A0 l0.length c0) ∧ w'.cell? ⟨w.heap.size, 1, none⟩ = some (.slice A1 l1.length c1)) (by kernel_rfl) ⟨rfl, rfl⟩ ?hQ ?_
      case hQ =>
        rintro c ⟨tm, df⟩ w' ⟨hd, ht⟩ ⟨e, rfl, hr, o, hT⟩
        simp only at hd ht
        subst hd
        exact tdoor_panic hT (by rw [ht]; rfl) hr
      have HS0 := Aside0.mk (And.intro (tcells HT0.out).1 (tcells HT0.out).2.1)
      refine YtafgogllekpmiaaX.wpAnyG_take 0 (v := .pointer (some ⟨w.heap.size, 1, none⟩)) rfl (by kernel_rfl) (by kernel_rfl) (by kernel_rfl) (fun a u => YtafgogllekpmiaaX.keepD_put (by simp) a u) HS0.out ⟨rfl, rfl⟩ (by rfl) (by rintro W ⟨h0, h1⟩; go_simp; done) ?_
      try simp only [Act.put, List.setIfInBounds_toArray, List.set_cons_zero, List.set_cons_succ]
      refine YtafgogllekpmiaaX.wpAnyG_take 1 (v := .slice A1 l1.length c1) rfl (by kernel_rfl) (by kernel_rfl) (by kernel_rfl) (fun a u => YtafgogllekpmiaaX.keepD_put (by simp) a u) HS0.out ⟨rfl, rfl⟩ (by rfl) (by rintro W ⟨h0, h1⟩; go_simp; done) ?_
      try simp only [Act.put, List.setIfInBounds_toArray, List.set_cons_zero, List.set_cons_succ]
      refine YtafgogllekpmiaaX.wpAnyG_take 2 (v := .pointer (some ⟨w.heap.size, 0, none⟩)) rfl (by kernel_rfl) (by kernel_rfl) (by kernel_rfl) (fun a u => YtafgogllekpmiaaX.keepD_put (by simp) a u) HS0.out ⟨rfl, rfl⟩ (by rfl) (by rintro W ⟨h0, h1⟩; go_simp; done) ?_
      try simp only [Act.put, List.setIfInBounds_toArray, List.set_cons_zero, List.set_cons_succ]
      refine YtafgogllekpmiaaX.wpAnyG_take 3 (v := .slice A0 l0.length c0) rfl (by kernel_rfl) (by kernel_rfl) (by kernel_rfl) (fun a u => YtafgogllekpmiaaX.keepD_put (by simp) a u) HS0.out ⟨rfl, rfl⟩ (by rfl) (by rintro W ⟨h0, h1⟩; go_simp; done) ?_
      try simp only [Act.put, List.setIfInBounds_toArray, List.set_cons_zero, List.set_cons_succ]
      refine YtafgogllekpmiaaX.wpAnyG_one 4 rfl (by kernel_rfl) (by rfl) (fun K hK => ?_)
      go_simp
      refine (tstations_some HS _ (Kd.C_below HR0.out HT0.out.below) hc0).mono ?_
      rintro e w1 ⟨rfl, hb1⟩
      have HT1 := Aside0.mk (HT0.out.then_ hb1)
      refine hK _ _ ⟨(tcells HT1.out).1, (tcells HT1.out).2.1⟩ ⟨rfl, rfl⟩ ?_
      try simp only [Act.put, List.setIfInBounds_toArray, List.set_cons_zero, List.set_cons_succ]
      clear hK K HT0 HS0 hb1
      refine YtafgogllekpmiaaX.wpAnyG_one 5 rfl (by kernel_rfl) (by rfl) (fun K hK => ?_)
      go_simp
      refine (CSP'.out _ (Kd.C_below HR1.out HT1.out.below) hc1).mono ?_
      rintro e w2 ⟨rfl, hb2⟩
      have HT2 := Aside0.mk (HT1.out.then_ hb2)
      refine hK _ _ ⟨(tcells HT2.out).1, (tcells HT2.out).2.1⟩ ⟨rfl, rfl⟩ ?_
      try simp only [Act.put, List.setIfInBounds_toArray, List.set_cons_zero, List.set_cons_succ]
      clear hK K HT1 hb2
      refine YtafgogllekpmiaaX.wpAnyG_one 6 rfl (by kernel_rfl) (by rfl) (fun K hK => ?_)
      go_simp
      refine (tmust_no _ _).mono ?_
      rintro e w3 ⟨rfl, rfl⟩
      exact ⟨70, rfl, HF.out, _, HT2.out⟩
    have HF1 : Aside0 (tariffR l0 l1 l2 off bus busD busW hop most long chg pas del thr = tariffR2 l1 l2 off bus busD busW hop most long chg pas del thr) := ⟨by simp [tariffR, HS.out, hsp]⟩
    have CSP := fun w => tspans_calls A1 c1 l1 m w HM.out
    rw [hsp] at CSP
    have CSP' := Aside0.mk CSP
    clear CSP hsp
    generalize tariffR l0 l1 l2 off bus busD busW hop most long chg pas del thr = r at HF1
    unfold tObj at HT0
    go_enter_defers Try.func22, Try.ntmps22
    go_wp2_with fail
    refine YtafgogllekpmiaaX.wp_region_door (YtafgogllekpmiaaX.keepD [{ target := Target.fn (Fn.func 30) #[.pointer (some ⟨w.heap.size + 1, 0, none⟩)], args := #[] }] 2 (.pointer (some ⟨w.heap.size + 1, 0, none⟩)))
      (fun c w' => ∃ e, c = broken e ∧ r = e ∧ ∃ o, TW w w' o) (fun w' => w'.cell? ⟨w.heap.size, 0, none⟩ = some (.slice A0 l0.length c0) ∧ w'.cell? ⟨w.heap.size, 1, none⟩ = some (.slice A1 l1.length c1)) (by kernel_rfl) ⟨rfl, rfl⟩ ?hQ ?_
    case hQ =>
      rintro c ⟨tm, df⟩ w' ⟨hd, ht⟩ ⟨e, rfl, hr, o, hT⟩
      simp only at hd ht
      subst hd
      exact tdoor_panic hT (by rw [ht]; rfl) hr
    have HS0 := Aside0.mk (And.intro (tcells HT0.out).1 (tcells HT0.out).2.1)
    refine YtafgogllekpmiaaX.wpAnyG_take 0 (v := .pointer (some ⟨w.heap.size, 1, none⟩)) rfl (by kernel_rfl) (by kernel_rfl) (by kernel_rfl) (fun a u => YtafgogllekpmiaaX.keepD_put (by simp) a u) HS0.out ⟨rfl, rfl⟩ (by rfl) (by rintro W ⟨h0, h1⟩; go_simp; done) ?_
    try simp only [Act.put, List.setIfInBounds_toArray, List.set_cons_zero, List.set_cons_succ]
    refine YtafgogllekpmiaaX.wpAnyG_take 1 (v := .slice A1 l1.length c1) rfl (by kernel_rfl) (by kernel_rfl) (by kernel_rfl) (fun a u => YtafgogllekpmiaaX.keepD_put (by simp) a u) HS0.out ⟨rfl, rfl⟩ (by rfl) (by rintro W ⟨h0, h1⟩; go_simp; done) ?_
    try simp only [Act.put, List.setIfInBounds_toArray, List.set_cons_zero, List.set_cons_succ]
    refine YtafgogllekpmiaaX.wpAnyG_take 2 (v := .pointer (some ⟨w.heap.size, 0, none⟩)) rfl (by kernel_rfl) (by kernel_rfl) (by kernel_rfl) (fun a u => YtafgogllekpmiaaX.keepD_put (by simp) a u) HS0.out ⟨rfl, rfl⟩ (by rfl) (by rintro W ⟨h0, h1⟩; go_simp; done) ?_
    try simp only [Act.put, List.setIfInBounds_toArray, List.set_cons_zero, List.set_cons_succ]
    refine YtafgogllekpmiaaX.wpAnyG_take 3 (v := .slice A0 l0.length c0) rfl (by kernel_rfl) (by kernel_rfl) (by kernel_rfl) (fun a u => YtafgogllekpmiaaX.keepD_put (by simp) a u) HS0.out ⟨rfl, rfl⟩ (by rfl) (by rintro W ⟨h0, h1⟩; go_simp; done) ?_
    try simp only [Act.put, List.setIfInBounds_toArray, List.set_cons_zero, List.set_cons_succ]
    refine YtafgogllekpmiaaX.wpAnyG_one 4 rfl (by kernel_rfl) (by rfl) (fun K hK => ?_)
    go_simp
    refine (tstations_some HS _ (Kd.C_below HR0.out HT0.out.below) hc0).mono ?_
    rintro e w1 ⟨rfl, hb1⟩
    have HT1 := Aside0.mk (HT0.out.then_ hb1)
    refine hK _ _ ⟨(tcells HT1.out).1, (tcells HT1.out).2.1⟩ ⟨rfl, rfl⟩ ?_
    try simp only [Act.put, List.setIfInBounds_toArray, List.set_cons_zero, List.set_cons_succ]
    clear hK K HT0 HS0 hb1
    refine YtafgogllekpmiaaX.wpAnyG_one 5 rfl (by kernel_rfl) (by rfl) (fun K hK => ?_)
    go_simp
    refine (CSP'.out _ (Kd.C_below HR1.out HT1.out.below) hc1).mono ?_
    rintro e w2 ⟨rfl, hb2⟩
    have HT2 := Aside0.mk (HT1.out.then_ hb2)
    refine hK _ _ ⟨(tcells HT2.out).1, (tcells HT2.out).2.1⟩ ⟨rfl, rfl⟩ ?_
    try simp only [Act.put, List.setIfInBounds_toArray, List.set_cons_zero, List.set_cons_succ]
    clear hK K HT1 hb2
    refine YtafgogllekpmiaaX.wpAnyG_one 6 rfl (by kernel_rfl) (by rfl) (fun K hK => ?_)
    go_simp
    refine (tmust_ok _ _).mono ?_
    rintro e w3 ⟨rfl, rfl⟩
    refine hK _ _ ⟨(tcells HT2.out).1, (tcells HT2.out).2.1⟩ ⟨rfl, rfl⟩ ?_
    try simp only [Act.put, List.setIfInBounds_toArray, List.set_cons_zero, List.set_cons_succ]
    clear hK K
    refine YtafgogllekpmiaaX.wpAnyG_done (by kernel_rfl) ?_ _
    have HT := Aside0.mk HT2.out
    have HZ := Aside0.mk (fun (T : Array Value) (x e : Int) (W : World) (o : Obj) (hT : TW w W o) (h2 : T[2]?.getD undef = .pointer (some ⟨w.heap.size + 1, 0, none⟩)) (hr : r = e) => tdoor_panic (tmps := T) hT h2 hr)
    have HQ := Aside0.mk (fun (T : Array Value) (x : Int) (W : World) (hB : Below w.heap.size w W) (hc : W.cell? ⟨w.heap.size + 1, 0, none⟩ = some (.int .i64 x)) (h2 : T[2]?.getD undef = .pointer (some ⟨w.heap.size + 1, 0, none⟩)) (hr : r = x) => tdoor_ret (tmps := T) hB hc h2 hr)
    obtain ⟨f0, f1, f2, f3, f4, f5, f6, f7, f8, f9, f10, f11, f12, f13⟩ := tcells HT.out
    have hlt := tlt HT.out
    clear HT2 HM HS CSP'
    go_wp2_with fail
    have HT3 : Aside0 (TW w (w2.alloc (.cells #[.int .i64 bus, .int .i64 busD, .int .i64 busW, .int .i64 most, .int .i64 thr] 3)) (tObj A0 A1 A2 l0.length l1.length l2.length c0 c1 c2 off bus busD busW hop most long chg pas del thr)) := ⟨HT.out.alloc _⟩
    have HN : Aside0 ((w2.alloc (.cells #[.int .i64 bus, .int .i64 busD, .int .i64 busW, .int .i64 most, .int .i64 thr] 3)).heap[w2.heap.size]? = some (.cells #[.int .i64 bus, .int .i64 busD, .int .i64 busW, .int .i64 most, .int .i64 thr] 3 (0, 0))) := ⟨heap_alloc_new _ _⟩
    clear f0 f1 f2 f3 f4 f5 f6 f7 f8 f9 f10 f11 f12 f13 HT hlt
    go_loopg [37] 5 (fun gg s37 wr => ∃ kk : Nat, kk ≤ 5 ∧ 5 - kk ≤ gg ∧ s37 = .int .i64 kk ∧ Aside0 (TW w wr (tObj A0 A1 A2 l0.length l1.length l2.length c0 c1 c2 off bus busD busW hop most long chg pas del thr)) ∧ Aside0 (wr.heap[w2.heap.size]? = some (.cells #[.int .i64 bus, .int .i64 busD, .int .i64 busW, .int .i64 most, .int .i64 thr] 3 (0, 0))) ∧ Aside0 (∀ j, j < kk → priceB ([bus, busD, busW, most, thr].getD j 0) = true))
    case atStart => exact ⟨0, Nat.zero_le _, by omega, rfl, HT3, HN, ⟨fun j h => absurd h (Nat.not_lt_zero j)⟩⟩
    clear HT3 HN
    obtain ⟨kk, hkk, hg, rfl, HT, HN, HI⟩ := hrel
    have hlt := tlt HT.out
    by_cases hlt5 : kk < 5
    case pos =>
      have hltz : (kk : Int) < 5 := by omega
      have c5 := cell5 HN.out kk hlt5
      generalize hy : [bus, busD, busW, most, thr].getD kk 0 = y at c5
      have HY := Aside0.mk hy
      clear hy
      by_cases hp : priceB y = true
      case neg =>
        have t1 : priceB y = false := by simpa using hp
        have HG : Aside0 (r = 50) := ⟨by rw [HF1.out]; exact r2_price _ _ _ _ _ _ _ _ _ _ _ _ _ kk hlt5 (by rw [HY.out]; exact t1)⟩
        clear hp HY HI HF1
        go_wp2_with (first | (go_at_call 34; refine (tprice_calls _ _).mono ?_; rintro e w' ⟨rfl, rfl⟩) | (go_at_call 31; refine (tmust_no _ _).mono ?_; rintro e w' ⟨rfl, rfl⟩))
        exact HZ.out _ 0 _ _ _ HT.out rfl HG.out
      have HI' : Aside0 (∀ j, j < kk + 1 → priceB ([bus, busD, busW, most, thr].getD j 0) = true) := ⟨fun j hj => by
        by_cases h : j = kk
        · rw [h, HY.out]; exact hp
        · exact HI.out j (by omega)⟩
      clear HY HI
      go_wp2_with (first | (go_at_call 34; refine (tprice_calls _ _).mono ?_; rintro e w' ⟨rfl, rfl⟩) | (go_at_call 31; refine (tmust_ok _ _).mono ?_; rintro e w' ⟨rfl, rfl⟩))
      go_roundg (5 - (kk + 1))
      case measure => omega
      case rel => exact ⟨kk + 1, by omega, by omega, by go_num, HT, HN, HI'⟩
    have hltz : ¬ (kk : Int) < 5 := by omega
    have HF2 : Aside0 (r = tariffR3 l1 l2 off hop long chg pas del) := ⟨by rw [HF1.out]; exact r2_go _ _ _ _ _ _ _ _ _ _ _ _ _ (fun j hj => HI.out j (by omega))⟩
    clear HI HF1 HN
    obtain ⟨f0, f1, f2, f3, f4, f5, f6, f7, f8, f9, f10, f11, f12, f13⟩ := tcells HT.out
    go_wp2_with fail
    clear f0 f1 f2 f3 f4 f5 f6 f7 f8 f9 f10 f11 f12 f13 hltz hkk hg hlt5 hlt
    have HT3 := HT
    clear HT
    go_loopg [48] l1.length (fun gg s48 wr => ∃ kk : Nat, kk ≤ l1.length ∧ l1.length - kk ≤ gg ∧ s48 = .int .i64 kk ∧ Aside0 (TW w wr (tObj A0 A1 A2 l0.length l1.length l2.length c0 c1 c2 off bus busD busW hop most long chg pas del thr)) ∧ Aside0 ((l1.drop kk).all spPrice = l1.all spPrice))
    case atStart => exact ⟨0, Nat.zero_le _, by omega, rfl, HT3, ⟨rfl⟩⟩
    clear HT3
    obtain ⟨kk, hkk, hg, rfl, HT, HI⟩ := hrel
    have hlt := tlt HT.out
    by_cases hlt_kk : kk < l1.length
    case pos =>
      have hltz : (kk : Int) < (l1.length : Int) := by omega
      obtain ⟨adc, rfl, cq0, cq1, cq2, cq3, cq4⟩ := at_T51 (Kd.C_below HR1.out HT.out.below) kk (by omega) hltz
      simp only [Int.toNat_natCast] at cq0 cq1 cq2 cq3 cq4
      have HEc : Aside0 (l1[kk]'hlt_kk = rd_T51 l1 kk) := ⟨by unfold rd_T51; simp [List.getD_eq_getElem?_getD, List.getElem?_eq_getElem hlt_kk]⟩
      generalize rd_T51 l1 kk = y at cq0 cq1 cq2 cq3 cq4 HEc
      by_cases h2 : priceB y.f2 = true
      case neg =>
        have xh2 : priceB y.f2 = false := by simpa using h2
        have HG : Aside0 (r = 50) := ⟨by rw [HF2.out]; unfold tariffR3; rw [if_pos (all_out hlt_kk HEc.out (by simp [spPrice, xh2]))]⟩
        clear HEc HI HF2
        go_wp2_with (first | (go_at_call 34; refine (tprice_calls _ _).mono ?_; rintro e w' ⟨rfl, rfl⟩) | (go_at_call 31; refine (tmust_no _ _).mono ?_; rintro e w' ⟨rfl, rfl⟩))
        exact HZ.out _ 0 _ _ _ (HT.out.alloc _) rfl HG.out
      have xh2 : priceB y.f2 = true := h2
      by_cases h3 : priceB y.f3 = true
      case neg =>
        have xh3 : priceB y.f3 = false := by simpa using h3
        have HG : Aside0 (r = 50) := ⟨by rw [HF2.out]; unfold tariffR3; rw [if_pos (all_out hlt_kk HEc.out (by simp [spPrice, xh2, xh3]))]⟩
        clear HEc HI HF2
        go_wp2_with (first | (go_at_call 34; refine (tprice_calls _ _).mono ?_; rintro e w' ⟨rfl, rfl⟩) | (go_at_call 31; refine (tmust_no _ _).mono ?_; rintro e w' ⟨rfl, rfl⟩))
        exact HZ.out _ 0 _ _ _ (HT.out.alloc _) rfl HG.out
      have xh3 : priceB y.f3 = true := h3
      by_cases h4 : priceB y.f4 = true
      case neg =>
        have xh4 : priceB y.f4 = false := by simpa using h4
        have HG : Aside0 (r = 50) := ⟨by rw [HF2.out]; unfold tariffR3; rw [if_pos (all_out hlt_kk HEc.out (by simp [spPrice, xh2, xh3, xh4]))]⟩
        clear HEc HI HF2
        go_wp2_with (first | (go_at_call 34; refine (tprice_calls _ _).mono ?_; rintro e w' ⟨rfl, rfl⟩) | (go_at_call 31; refine (tmust_no _ _).mono ?_; rintro e w' ⟨rfl, rfl⟩))
        exact HZ.out _ 0 _ _ _ (HT.out.alloc _) rfl HG.out
      have xh4 : priceB y.f4 = true := h4
      have HI' : Aside0 ((l1.drop (kk + 1)).all spPrice = l1.all spPrice) := ⟨all_go hlt_kk HEc.out (by simp [spPrice, xh2, xh3, xh4]) HI.out⟩
      clear HEc HI
      go_wp2_with (first | (go_at_call 34; refine (tprice_calls _ _).mono ?_; rintro e w' ⟨rfl, rfl⟩) | (go_at_call 31; refine (tmust_ok _ _).mono ?_; rintro e w' ⟨rfl, rfl⟩))
      go_roundg (l1.length - (kk + 1))
      case measure => omega
      case rel => exact ⟨kk + 1, by omega, by omega, by go_num, ⟨HT.out.alloc _⟩, HI'⟩
    have hltz : ¬ (kk : Int) < (l1.length : Int) := by omega
    have HF3 : Aside0 (r = if (l1.all fun a => l1.all fun b => wideOk a b) = false then 70 else tariffR4 l2 off hop long chg pas del) := ⟨by rw [HF2.out]; unfold tariffR3; rw [if_neg (by rw [all_end (by omega) HI.out]; simp)]⟩
    clear HI HF2
    obtain ⟨f0, f1, f2, f3, f4, f5, f6, f7, f8, f9, f10, f11, f12, f13⟩ := tcells HT.out
    go_wp2_with fail
    clear f0 f1 f2 f3 f4 f5 f6 f7 f8 f9 f10 f11 f12 f13 hltz hkk hg hlt_kk hlt
    have HT3 := HT
    clear HT
    go_loopg [70] l1.length (fun gg s70 wr => ∃ kk : Nat, kk ≤ l1.length ∧ l1.length - kk ≤ gg ∧ s70 = .int .i64 kk ∧ Aside0 (TW w wr (tObj A0 A1 A2 l0.length l1.length l2.length c0 c1 c2 off bus busD busW hop most long chg pas del thr)) ∧ Aside0 ((l1.drop kk).all (fun a => l1.all fun b => wideOk a b) = l1.all (fun a => l1.all fun b => wideOk a b)))
    case atStart => exact ⟨0, Nat.zero_le _, by omega, rfl, HT3, ⟨rfl⟩⟩
    clear HT3
    obtain ⟨kk, hkk, hg, rfl, HT, HI⟩ := hrel
    have hlt := tlt HT.out
    by_cases hlt_kk : kk < l1.length
    case pos =>
      have hltz : (kk : Int) < (l1.length : Int) := by omega
      obtain ⟨adc, rfl, cq0, cq1, cq2, cq3, cq4⟩ := at_T51 (Kd.C_below HR1.out HT.out.below) kk (by omega) hltz
      simp only [Int.toNat_natCast] at cq0 cq1 cq2 cq3 cq4
      have HEc : Aside0 (l1[kk]'hlt_kk = rd_T51 l1 kk) := ⟨by unfold rd_T51; simp [List.getD_eq_getElem?_getD, List.getElem?_eq_getElem hlt_kk]⟩
      generalize rd_T51 l1 kk = y at cq0 cq1 cq2 cq3 cq4 HEc
      obtain ⟨f0, f1, f2, f3, f4, f5, f6, f7, f8, f9, f10, f11, f12, f13⟩ := tcells (HT.out.alloc (.cells #[.int .i64 y.f0, .int .i64 y.f1, .int .i64 y.f2, .int .i64 y.f3, .int .i64 y.f4] 51))
      go_wp2_with fail
      clear f0 f1 f2 f3 f4 f5 f6 f7 f8 f9 f10 f11 f12 f13
      obtain ⟨wo, hwo⟩ : ∃ wo, wo = wr := ⟨_, rfl⟩
      subst hwo
      have HT3 : Aside0 (TW w (wo.alloc (.cells #[.int .i64 y.f0, .int .i64 y.f1, .int .i64 y.f2, .int .i64 y.f3, .int .i64 y.f4] 51)) (tObj A0 (some adc) A2 l0.length l1.length l2.length c0 c1 c2 off bus busD busW hop most long chg pas del thr)) := ⟨HT.out.alloc _⟩
      have HB3 : Aside0 ((wo.alloc (.cells #[.int .i64 y.f0, .int .i64 y.f1, .int .i64 y.f2, .int .i64 y.f3, .int .i64 y.f4] 51)).heap[wo.heap.size]? = some (.cells #[.int .i64 y.f0, .int .i64 y.f1, .int .i64 y.f2, .int .i64 y.f3, .int .i64 y.f4] 51 (0, 0))) := ⟨heap_alloc_new _ _⟩
      clear cq0 cq1 cq2 cq3 cq4 hltz HT
      go_loopg [77] l1.length (fun gg s77 wr => ∃ jj : Nat, jj ≤ l1.length ∧ l1.length - jj ≤ gg ∧ s77 = .int .i64 jj ∧ Aside0 (TW w wr (tObj A0 (some adc) A2 l0.length l1.length l2.length c0 c1 c2 off bus busD busW hop most long chg pas del thr)) ∧ Aside0 (wr.heap[wo.heap.size]? = some (.cells #[.int .i64 y.f0, .int .i64 y.f1, .int .i64 y.f2, .int .i64 y.f3, .int .i64 y.f4] 51 (0, 0))) ∧ Aside0 ((l1.drop jj).all (wideOk y) = l1.all (wideOk y)))
      case atStart => exact ⟨0, Nat.zero_le _, by omega, rfl, HT3, HB3, ⟨rfl⟩⟩
      clear HT3 HB3 hlt
      obtain ⟨jj, hjj, hgj, rfl, HT, HB, HJ⟩ := hrel
      have hlt := tlt HT.out
      by_cases hlt_jj : jj < l1.length
      case pos =>
        have hltz : (jj : Int) < (l1.length : Int) := by omega
        obtain ⟨add, hA, dq0, dq1, dq2, dq3, dq4⟩ := at_T51 (Kd.C_below HR1.out HT.out.below) jj (by omega) hltz
        obtain rfl := Option.some.inj hA
        simp only [Int.toNat_natCast] at dq0 dq1 dq2 dq3 dq4
        have HEd : Aside0 (l1[jj]'hlt_jj = rd_T51 l1 jj) := ⟨by unfold rd_T51; simp [List.getD_eq_getElem?_getD, List.getElem?_eq_getElem hlt_jj]⟩
        generalize rd_T51 l1 jj = z at dq0 dq1 dq2 dq3 dq4 HEd
        have hne : ¬ wo.heap.size = wr.heap.size := by have := blk_lt HB.out; omega
        have g0 : ∀ o : Obj, (wr.alloc o).cell? ⟨wo.heap.size, 0, none⟩ = some (.int .i64 y.f0) := fun o => (blk_cell (blk_alloc HB.out o) 0).trans rfl
        have g1 : ∀ o : Obj, (wr.alloc o).cell? ⟨wo.heap.size, 1, none⟩ = some (.int .i64 y.f1) := fun o => (blk_cell (blk_alloc HB.out o) 1).trans rfl
        have g2 : ∀ o : Obj, (wr.alloc o).cell? ⟨wo.heap.size, 2, none⟩ = some (.int .i64 y.f2) := fun o => (blk_cell (blk_alloc HB.out o) 2).trans rfl
        have g3 : ∀ o : Obj, (wr.alloc o).cell? ⟨wo.heap.size, 3, none⟩ = some (.int .i64 y.f3) := fun o => (blk_cell (blk_alloc HB.out o) 3).trans rfl
        have g4 : ∀ o : Obj, (wr.alloc o).cell? ⟨wo.heap.size, 4, none⟩ = some (.int .i64 y.f4) := fun o => (blk_cell (blk_alloc HB.out o) 4).trans rfl
        by_cases q0 : z.f0 ≤ y.f0
        case neg =>
          have xq0 : decide (z.f0 ≤ y.f0) = false := decide_eq_false q0
          have HJ' : Aside0 ((l1.drop (jj + 1)).all (wideOk y) = l1.all (wideOk y)) := ⟨all_go hlt_jj HEd.out (by simp [wideOk, inB, xq0]) HJ.out⟩
          clear HEc HEd HJ HI HF3
          go_wp2_with (first | (go_at_call 31; refine (tmust_ok _ _).mono ?_; rintro e w' ⟨rfl, rfl⟩))
          go_roundg (l1.length - (jj + 1))
          case measure => omega
          case rel => exact ⟨jj + 1, by omega, by omega, by go_num, ⟨HT.out.alloc _⟩, ⟨blk_alloc HB.out _⟩, HJ'⟩
        have xq0 : decide (z.f0 ≤ y.f0) = true := decide_eq_true q0
        by_cases q1 : y.f1 ≤ z.f1
        case neg =>
          have xq1 : decide (y.f1 ≤ z.f1) = false := decide_eq_false q1
          have HJ' : Aside0 ((l1.drop (jj + 1)).all (wideOk y) = l1.all (wideOk y)) := ⟨all_go hlt_jj HEd.out (by simp [wideOk, inB, xq0, xq1]) HJ.out⟩
          clear HEc HEd HJ HI HF3
          go_wp2_with (first | (go_at_call 31; refine (tmust_ok _ _).mono ?_; rintro e w' ⟨rfl, rfl⟩))
          go_roundg (l1.length - (jj + 1))
          case measure => omega
          case rel => exact ⟨jj + 1, by omega, by omega, by go_num, ⟨HT.out.alloc _⟩, ⟨blk_alloc HB.out _⟩, HJ'⟩
        have xq1 : decide (y.f1 ≤ z.f1) = true := decide_eq_true q1
        by_cases q2 : y.f2 ≤ z.f2
        case neg =>
          have xq2 : decide (y.f2 ≤ z.f2) = false := decide_eq_false q2
          have HG : Aside0 (r = 70) := ⟨by rw [HF3.out]; rw [if_pos (all_out hlt_kk HEc.out (all_out hlt_jj HEd.out (by simp [wideOk, inB, xq0, xq1, xq2])))]⟩
          clear HEc HEd HI HJ HF3
          go_wp2_with (first | (go_at_call 31; refine (tmust_no _ _).mono ?_; rintro e w' ⟨rfl, rfl⟩))
          exact HZ.out _ 0 _ _ _ (HT.out.alloc _) rfl HG.out
        have xq2 : decide (y.f2 ≤ z.f2) = true := decide_eq_true q2
        by_cases q3 : y.f3 ≤ z.f3
        case neg =>
          have xq3 : decide (y.f3 ≤ z.f3) = false := decide_eq_false q3
          have HG : Aside0 (r = 70) := ⟨by rw [HF3.out]; rw [if_pos (all_out hlt_kk HEc.out (all_out hlt_jj HEd.out (by simp [wideOk, inB, xq0, xq1, xq2, xq3])))]⟩
          clear HEc HEd HI HJ HF3
          go_wp2_with (first | (go_at_call 31; refine (tmust_no _ _).mono ?_; rintro e w' ⟨rfl, rfl⟩))
          exact HZ.out _ 0 _ _ _ (HT.out.alloc _) rfl HG.out
        have xq3 : decide (y.f3 ≤ z.f3) = true := decide_eq_true q3
        by_cases q4 : y.f4 ≤ z.f4
        case neg =>
          have xq4 : decide (y.f4 ≤ z.f4) = false := decide_eq_false q4
          have HG : Aside0 (r = 70) := ⟨by rw [HF3.out]; rw [if_pos (all_out hlt_kk HEc.out (all_out hlt_jj HEd.out (by simp [wideOk, inB, xq0, xq1, xq2, xq3, xq4])))]⟩
          clear HEc HEd HI HJ HF3
          go_wp2_with (first | (go_at_call 31; refine (tmust_no _ _).mono ?_; rintro e w' ⟨rfl, rfl⟩))
          exact HZ.out _ 0 _ _ _ (HT.out.alloc _) rfl HG.out
        have xq4 : decide (y.f4 ≤ z.f4) = true := decide_eq_true q4
        have HJ' : Aside0 ((l1.drop (jj + 1)).all (wideOk y) = l1.all (wideOk y)) := ⟨all_go hlt_jj HEd.out (by simp [wideOk, inB, xq0, xq1, xq2, xq3, xq4]) HJ.out⟩
        clear HEc HEd HJ HI HF3
        go_wp2_with (first | (go_at_call 31; refine (tmust_ok _ _).mono ?_; rintro e w' ⟨rfl, rfl⟩))
        go_roundg (l1.length - (jj + 1))
        case measure => omega
        case rel => exact ⟨jj + 1, by omega, by omega, by go_num, ⟨HT.out.alloc _⟩, ⟨blk_alloc HB.out _⟩, HJ'⟩
      have hltz : ¬ (jj : Int) < (l1.length : Int) := by omega
      have HI' : Aside0 ((l1.drop (kk + 1)).all (fun a => l1.all fun b => wideOk a b) = l1.all (fun a => l1.all fun b => wideOk a b)) := ⟨all_go hlt_kk HEc.out (all_end (by omega) HJ.out) HI.out⟩
      clear HEc HI HJ
      go_wp2_with fail
      go_roundg (l1.length - (kk + 1))
      case measure => omega
      case rel => exact ⟨kk + 1, by omega, by omega, by go_num, HT, HI'⟩
    have hltz : ¬ (kk : Int) < (l1.length : Int) := by omega
    have HF4 : Aside0 (r = tariffR4 l2 off hop long chg pas del) := ⟨by rw [HF3.out]; rw [if_neg (by rw [all_end (by omega) HI.out]; simp)]⟩
    clear HI HF3
    obtain ⟨f0, f1, f2, f3, f4, f5, f6, f7, f8, f9, f10, f11, f12, f13⟩ := tcells HT.out
    clear hkk hg
    by_cases hb : l2.length ≤ 8
    case neg =>
      have t1 : decide (l2.length ≤ 8) = false := decide_eq_false hb
      have t2 : decide ((l2.length : Int) ≤ 8) = false := decide_eq_false (by omega)
      have HG : Aside0 (r = 70) := ⟨by rw [HF4.out]; unfold tariffR4; rw [if_pos hb]⟩
      clear HF4 hb
      go_wp2_with (first | (go_at_call 31; refine (tmust_no _ _).mono ?_; rintro e w' ⟨rfl, rfl⟩))
      exact HZ.out _ 0 _ _ _ (HT.out) rfl HG.out
    have t1 : decide (l2.length ≤ 8) = true := decide_eq_true hb
    have t2 : decide ((l2.length : Int) ≤ 8) = true := decide_eq_true (by omega)
    have HF5 : Aside0 (r = if bandsOk l2 0 = false then 70 else tariffR5 off hop long chg pas del) := ⟨by rw [HF4.out]; unfold tariffR4; rw [if_neg (by omega)]⟩
    clear HF4
    go_wp2_with (first | (go_at_call 31; refine (tmust_ok _ _).mono ?_; rintro e w' ⟨rfl, rfl⟩))
    clear f0 f1 f2 f3 f4 f5 f6 f7 f8 f9 f10 f11 f12 f13
    have HT3 := HT
    clear HT t1 t2 hlt hltz hlt_kk
    go_loopg [12, 127] l2.length (fun gg s12 s127 wr => ∃ (kk : Nat) (at_ : Int), kk ≤ l2.length ∧ l2.length - kk ≤ gg ∧ s12 = .int .i64 at_ ∧ s127 = .int .i64 kk ∧ Aside0 (TW w wr (tObj A0 A1 A2 l0.length l1.length l2.length c0 c1 c2 off bus busD busW hop most long chg pas del thr)) ∧ Aside0 (bandsOk (l2.drop kk) at_ = bandsOk l2 0))
    case atStart => exact ⟨0, 0, Nat.zero_le _, by omega, rfl, rfl, HT3, ⟨rfl⟩⟩
    clear HT3
    obtain ⟨kk, at_, hkk, hg, rfl, rfl, HT, HI⟩ := hrel
    have hlt := tlt HT.out
    by_cases hlt_kk : kk < l2.length
    case pos =>
      have hltz : (kk : Int) < (l2.length : Int) := by omega
      obtain ⟨ad, rfl, c0, c1⟩ := at_T53 (Kd.C_below HR2.out HT.out.below) kk (by omega) hltz
      simp only [Int.toNat_natCast] at c0 c1
      have HE : Aside0 (l2[kk]'hlt_kk = rd_T53 l2 kk) := ⟨by unfold rd_T53; simp [List.getD_eq_getElem?_getD, List.getElem?_eq_getElem hlt_kk]⟩
      generalize rd_T53 l2 kk = y at c0 c1 HE
      have HS : Aside0 (bandsOk (l2.drop kk) at_ = (bandOk y at_ && bandsOk (l2.drop (kk + 1)) y.f1)) := ⟨by rw [drop_cons l2 kk hlt_kk, bandsOk, HE.out]⟩
      clear HE
      by_cases q0 : at_ ≤ y.f0
      case neg =>
        have xq0 : decide (at_ ≤ y.f0) = false := decide_eq_false q0
        have HG : Aside0 (r = 70) := ⟨by rw [HF5.out, if_pos (by rw [← HI.out, HS.out]; simp [bandOk, xq0])]⟩
        clear HF5 HI HS
        go_wp2_with (first | (go_at_call 31; refine (tmust_no _ _).mono ?_; rintro e w' ⟨rfl, rfl⟩))
        exact HZ.out _ 0 _ _ _ (HT.out.alloc _) rfl HG.out
      have xq0 : decide (at_ ≤ y.f0) = true := decide_eq_true q0
      by_cases q1 : y.f0 < y.f1
      case neg =>
        have xq1 : decide (y.f0 < y.f1) = false := decide_eq_false q1
        have HG : Aside0 (r = 70) := ⟨by rw [HF5.out, if_pos (by rw [← HI.out, HS.out]; simp [bandOk, xq0, xq1])]⟩
        clear HF5 HI HS
        go_wp2_with (first | (go_at_call 31; refine (tmust_no _ _).mono ?_; rintro e w' ⟨rfl, rfl⟩))
        exact HZ.out _ 0 _ _ _ (HT.out.alloc _) rfl HG.out
      have xq1 : decide (y.f0 < y.f1) = true := decide_eq_true q1
      by_cases q2 : y.f1 ≤ 1440
      case neg =>
        have xq2 : decide (y.f1 ≤ 1440) = false := decide_eq_false q2
        have HG : Aside0 (r = 70) := ⟨by rw [HF5.out, if_pos (by rw [← HI.out, HS.out]; simp [bandOk, xq0, xq1, xq2])]⟩
        clear HF5 HI HS
        go_wp2_with (first | (go_at_call 31; refine (tmust_no _ _).mono ?_; rintro e w' ⟨rfl, rfl⟩))
        exact HZ.out _ 0 _ _ _ (HT.out.alloc _) rfl HG.out
      have xq2 : decide (y.f1 ≤ 1440) = true := decide_eq_true q2
      have HI' : Aside0 (bandsOk (l2.drop (kk + 1)) y.f1 = bandsOk l2 0) := ⟨by rw [← HI.out, HS.out]; simp [bandOk, xq0, xq1, xq2]⟩
      clear HI HS HF5
      go_wp2_with (first | (go_at_call 31; refine (tmust_ok _ _).mono ?_; rintro e w' ⟨rfl, rfl⟩))
      go_roundg (l2.length - (kk + 1))
      case measure => omega
      case rel => exact ⟨kk + 1, _, by omega, by omega, rfl, by go_num, ⟨HT.out.alloc _⟩, HI'⟩
    have hltz : ¬ (kk : Int) < (l2.length : Int) := by omega
    have HF6 : Aside0 (r = tariffR5 off hop long chg pas del) := ⟨by rw [HF5.out, if_neg (by rw [← HI.out, List.drop_eq_nil_of_le (by omega)]; simp [bandsOk])]⟩
    clear HI HF5
    obtain ⟨f0, f1, f2, f3, f4, f5, f6, f7, f8, f9, f10, f11, f12, f13⟩ := tcells HT.out
    cases hr : rateB off
    case false =>
      have HRT := fun w => trate_calls off w
      rw [hr] at HRT
      have HG : Aside0 (r = 51) := ⟨by rw [HF6.out]; unfold tariffR5; rw [if_pos hr]⟩
      clear HF6 hr
      go_wp2_with (first | (go_at_call 35; refine (HRT _).mono ?_; rintro e w' ⟨rfl, rfl⟩) | (go_at_call 31; refine (tmust_no _ _).mono ?_; rintro e w' ⟨rfl, rfl⟩))
      exact HZ.out _ 0 _ _ _ (HT.out) rfl HG.out
    have HRT := fun w => trate_calls off w
    rw [hr] at HRT
    have HWL := fun w => twithin_calls long 1 1440 w
    cases hl : withinB long 1 1440
    case false =>
      rw [hl] at HWL
      have HG : Aside0 (r = 70) := ⟨by rw [HF6.out]; unfold tariffR5; rw [if_neg (by simp [hr]), if_pos hl]⟩
      clear HF6 hr
      go_wp2_with (first | (go_at_call 35; refine (HRT _).mono ?_; rintro e w' ⟨rfl, rfl⟩) | (go_at_call 36; refine (HWL _).mono ?_; rintro e w' ⟨rfl, rfl⟩) | (go_at_call 31; refine (tmust_any _ _ _).mono ?_; rintro e w' ⟨rfl, rfl⟩; simp only [mustE]))
      exact HZ.out _ 0 _ _ _ (HT.out) rfl HG.out
    have HF7 : Aside0 (r = if (withinB hop 0 1440 && (withinB chg 0 1440 && (withinB pas 0 1440 && withinB del 0 1440))) = false then 70 else 0) := ⟨by rw [HF6.out]; unfold tariffR5; rw [if_neg (by simp [hr]), if_neg (by simp [hl])]⟩
    clear HF6 hr
    rw [hl] at HWL
    go_wp2_with (first | (go_at_call 35; refine (HRT _).mono ?_; rintro e w' ⟨rfl, rfl⟩) | (go_at_call 36; refine (HWL _).mono ?_; rintro e w' ⟨rfl, rfl⟩) | (go_at_call 31; refine (tmust_ok _ _).mono ?_; rintro e w' ⟨rfl, rfl⟩))
    clear f0 f1 f2 f3 f4 f5 f6 f7 f8 f9 f10 f11 f12 f13
    obtain ⟨wo, hwo⟩ : ∃ wo, wo = wr := ⟨_, rfl⟩
    subst hwo
    have HT3 : Aside0 (TW w (wo.alloc (.cells #[.int .i64 hop, .int .i64 chg, .int .i64 pas, .int .i64 del] 3)) (tObj A0 A1 A2 l0.length l1.length l2.length c0 c1 c2 off bus busD busW hop most long chg pas del thr)) := ⟨HT.out.alloc _⟩
    have HN3 : Aside0 ((wo.alloc (.cells #[.int .i64 hop, .int .i64 chg, .int .i64 pas, .int .i64 del] 3)).heap[wo.heap.size]? = some (.cells #[.int .i64 hop, .int .i64 chg, .int .i64 pas, .int .i64 del] 3 (0, 0))) := ⟨heap_alloc_new _ _⟩
    clear HT hl HRT HWL hltz hkk hg hlt_kk hlt
    go_loopg [169] 4 (fun gg s169 wr => ∃ kk : Nat, kk ≤ 4 ∧ 4 - kk ≤ gg ∧ s169 = .int .i64 kk ∧ Aside0 (TW w wr (tObj A0 A1 A2 l0.length l1.length l2.length c0 c1 c2 off bus busD busW hop most long chg pas del thr)) ∧ Aside0 (wr.heap[wo.heap.size]? = some (.cells #[.int .i64 hop, .int .i64 chg, .int .i64 pas, .int .i64 del] 3 (0, 0))) ∧ Aside0 (∀ j, j < kk → withinB ([hop, chg, pas, del].getD j 0) 0 1440 = true))
    case atStart => exact ⟨0, Nat.zero_le _, by omega, rfl, HT3, HN3, ⟨fun j h => absurd h (Nat.not_lt_zero j)⟩⟩
    clear HT3 HN3
    obtain ⟨kk, hkk, hg, rfl, HT, HN, HI⟩ := hrel
    have hlt := tlt HT.out
    by_cases hlt4 : kk < 4
    case pos =>
      have hltz : (kk : Int) < 4 := by omega
      have c4 := cell4 HN.out kk hlt4
      generalize hy : [hop, chg, pas, del].getD kk 0 = y at c4
      have HY := Aside0.mk hy
      clear hy
      by_cases hp : withinB y 0 1440 = true
      case neg =>
        have t1 : withinB y 0 1440 = false := by simpa using hp
        have HG : Aside0 (r = 70) := ⟨by rw [HF7.out]; exact r5_minute _ _ _ _ kk hlt4 (by rw [HY.out]; exact t1)⟩
        clear hp HY HI HF7
        go_wp2_with (first | (go_at_call 36; refine (twithin_calls _ _ _ _).mono ?_; rintro e w' ⟨rfl, rfl⟩) | (go_at_call 31; refine (tmust_no _ _).mono ?_; rintro e w' ⟨rfl, rfl⟩))
        exact HZ.out _ 0 _ _ _ HT.out rfl HG.out
      have HI' : Aside0 (∀ j, j < kk + 1 → withinB ([hop, chg, pas, del].getD j 0) 0 1440 = true) := ⟨fun j hj => by
        by_cases h : j = kk
        · rw [h, HY.out]; exact hp
        · exact HI.out j (by omega)⟩
      clear HY HI
      go_wp2_with (first | (go_at_call 36; refine (twithin_calls _ _ _ _).mono ?_; rintro e w' ⟨rfl, rfl⟩) | (go_at_call 31; refine (tmust_ok _ _).mono ?_; rintro e w' ⟨rfl, rfl⟩))
      go_roundg (4 - (kk + 1))
      case measure => omega
      case rel => exact ⟨kk + 1, by omega, by omega, by go_num, HT, HN, HI'⟩
    have hltz : ¬ (kk : Int) < 4 := by omega
    have HF8 : Aside0 (r = 0) := ⟨by rw [HF7.out]; exact r5_go _ _ _ _ (fun j hj => HI.out j (by omega))⟩
    clear HI HF7 HN
    have hres : wr.cell? ⟨w.heap.size + 1, 0, none⟩ = some (.int .i64 0) := (blk_cell HT.out.res 0).trans rfl
    have hfz : wr.frozen? ⟨w.heap.size + 1, 0, none⟩ = false := blk_frozen HT.out.res 0
    go_wp2_with fail
    exact HQ.out _ 0 _ (HT.out.below.setCell (by simp) _) ((blk_cell (blk_set HT.out.res 0 (.int .i64 0)) 0).trans rfl) rfl HF8.out
def tariff_Right.f (l0_0 : List (S49)) (l0_1 : List (S51)) (l0_2 : List (S53)) (a0_3 : Nat) (a0_4 : Int) (a0_5 : Int) (a0_6 : Int) (a0_7 : Int) (a0_8 : Int) (a0_9 : Int) (a0_10 : Int) (a0_11 : Int) (a0_12 : Int) (a0_13 : Int) : Option (Int) := some (tariffR l0_0 l0_1 l0_2 a0_3 a0_4 a0_5 a0_6 a0_7 a0_8 a0_9 a0_10 a0_11 a0_12 a0_13)
theorem tariff_Right.calls (A0_0 : Option Addr) (c0_0 : Nat) (l0_0 : List (S49)) (A0_1 : Option Addr) (c0_1 : Nat) (l0_1 : List (S51)) (A0_2 : Option Addr) (c0_2 : Nat) (l0_2 : List (S53)) (a0_3 : Nat) (a0_4 : Int) (a0_5 : Int) (a0_6 : Int) (a0_7 : Int) (a0_8 : Int) (a0_9 : Int) (a0_10 : Int) (a0_11 : Int) (a0_12 : Int) (a0_13 : Int) (r : Int) (w : World) (hr0_0 : Kd.C k49 w A0_0 l0_0.length l0_0) (hc0_0 : l0_0.length ≤ c0_0) (hr0_1 : Kd.C k51 w A0_1 l0_1.length l0_1) (hc0_1 : l0_1.length ≤ c0_1) (hr0_2 : Kd.C k53 w A0_2 l0_2.length l0_2) (hc0_2 : l0_2.length ≤ c0_2) (h : tariff_Right.f l0_0 l0_1 l0_2 a0_3 a0_4 a0_5 a0_6 a0_7 a0_8 a0_9 a0_10 a0_11 a0_12 a0_13 = some r) :
    Calls Try.prog 22 #[.agg #[.slice A0_0 l0_0.length c0_0, .slice A0_1 l0_1.length c0_1, .slice A0_2 l0_2.length c0_2, .float .f64 a0_3, .int .i64 a0_4, .int .i64 a0_5, .int .i64 a0_6, .int .i64 a0_7, .int .i64 a0_8, .int .i64 a0_9, .int .i64 a0_10, .int .i64 a0_11, .int .i64 a0_12, .int .i64 a0_13]] w fun e w' => e = .returned (.int .i64 r) ∧ Below w.heap.size w w' := by
  obtain rfl := Option.some.inj h
  exact tright_core A0_0 A0_1 A0_2 c0_0 c0_1 c0_2 l0_0 l0_1 l0_2 a0_3 a0_4 a0_5 a0_6 a0_7 a0_8 a0_9 a0_10 a0_11 a0_12 a0_13 w hr0_0 hc0_0 hr0_1 hc0_1 hr0_2 hc0_2


-- NOT PRINTED: function 23 (api_Priced_23)

-- NOT PRINTED: function 24 (api_Priced_24)

end Go.Proofs.Ytafgogllekpmiaa.PR
