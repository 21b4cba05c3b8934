/- Lists of the call's own that grow; a copy of a list. -/
import Derived.Test.YtgmbfecfkdbfaaaMRecordOutages4
set_option linter.unusedVariables false
set_option linter.unusedSimpArgs false
namespace Go.Proofs.Ytgmbfecfkdbfaaa.Wi
open Go Go.RowKit Go.Proofs.YtgmbfecfkdbfaaaW.PrintWords
section
variable {α : Type} {enc : α → List Value} {m : Nat} {w w' : World} {E : TypeId} {base : Nat} {v : Value} {xs : List α}
theorem owns_el (h : w.ownsRow base E m v xs.length (xs.flatMap enc)) (henc : ∀ x, (enc x).length = m) : ∃ A c, v = .slice A xs.length c ∧ xs.length ≤ c ∧ ElAt enc m w A xs := by
  rcases h.2 with ⟨rfl, hn⟩ | ⟨g, cap, cur, rfl, _, hq, hnc, _, hsz, ht⟩
  · obtain rfl := List.eq_nil_of_length_eq_zero hn
    exact ⟨none, 0, rfl, Nat.le_refl _, ElAt.nil _ _⟩
  · refine ⟨_, _, rfl, hnc, fun i hi => ⟨_, rfl, fun j u hu => ?_⟩⟩
    have hj : j < m := by
      have := (List.getElem?_eq_some_iff.1 hu).1
      rwa [henc] at this
    have hlt : i * m + j < xs.length * m := by
      have h1 : (i + 1) * m ≤ xs.length * m := Nat.mul_le_mul_right m hi
      rw [Nat.succ_mul] at h1
      omega
    rw [addz_, blk_cell hq]
    have h2 := flat_get henc xs i hi j hj
    rw [← ht, List.getElem?_take_of_lt hlt, hu] at h2
    simpa using h2
theorem RowAt.owns (h : RowAt enc E base w v xs) (henc : ∀ x, (enc x).length = m) (hl : xs.length ≤ 9223372036854775807) : w.ownsRow base E m v xs.length (xs.flatMap enc) := by
  refine ⟨flat_len henc xs, ?_⟩
  rcases h with ⟨rfl, rfl⟩ | ⟨hn, nb, hb, rfl, hq⟩
  · exact .inl ⟨rfl, rfl⟩
  · refine .inr ⟨nb, xs.length, _, rfl, hb, hq, Nat.le_refl _, by simpa [maxLen] using hl, by rw [List.size_toArray, flat_len henc], ?_⟩
    rw [← flat_len henc xs]
    exact List.take_length
theorem flat_cells {A : Addr} (henc : ∀ x, (enc x).length = m) (hx : ElAt enc m w (some A) xs) : ∀ j u, (xs.flatMap enc)[j]? = some u → w.cell? (A.add j) = some u := fun j u hu => by
  have hlt := (List.getElem?_eq_some_iff.1 hu).1
  rw [flat_len henc] at hlt
  have hm : 0 < m := by
    rcases Nat.eq_zero_or_pos m with h0 | h0
    · subst h0; simp at hlt
    · exact h0
  have hd : j / m < xs.length := Nat.div_lt_of_lt_mul (by rwa [Nat.mul_comm])
  have hg := flat_get henc xs (j / m) hd (j % m) (Nat.mod_lt _ hm)
  rw [Nat.div_add_mod' j m, hu] at hg
  obtain ⟨ad, e, hc⟩ := hx (j / m) hd
  obtain rfl := Option.some.inj e
  have h := hc (j % m) u hg.symm
  rwa [Nat.div_add_mod' j m] at h
/-- append(v, ys...): v a row of the call's own, ys a slice that is read, nil let in. -/
theorem run_append_els {P : Program} {W : World} (base : Nat) (t ty e : TypeId) (z : Value) (size bytes : Nat) (henc : ∀ x, (enc x).length = size) (h1 : ∀ x, ∀ u ∈ enc x, u.oneCell' = true)
    (ht : P.underlying t = some (.slice e)) (hinfo : (P.info? e).map (fun i => (i.zero, i.size, i.bytes)) = some (some z, size, bytes)) (hzs : z.cells.size = size) (hsz : 0 < size) (hb0 : 0 < bytes)
    (v : Value) (xs ys : List α) (A : Option Addr) (c : Nat) (HO : W.ownsRow base e size v xs.length (xs.flatMap enc)) (HR : ElAt enc size W A ys) (hbase : base ≤ W.heap.size) (hl : (xs.length + ys.length) * bytes ≤ 140737488355328) :
    ∃ v1 w1, (Builtin.append_ #[t, t] ty #[v, .slice A ys.length c]).run P W = .ok v1 w1 ∧ w1.ownsRow base e size v1 (xs ++ ys).length ((xs ++ ys).flatMap enc) ∧ W.grownBy w1 v.ownBlock ∧ (v1.ownBlock = v.ownBlock ∨ v1.ownBlock = some W.heap.size) := by
  obtain ⟨i0, hi, hzz⟩ := Option.map_eq_some_iff.1 hinfo
  simp only [Prod.mk.injEq] at hzz
  obtain ⟨hz0, hz1, hz2⟩ := hzz
  have hlen : xs.length + ys.length ≤ 140737488355328 := Nat.le_trans (Nat.le_mul_of_pos_right _ hb0) hl
  rcases A with _ | ad
  · obtain rfl : ys = [] := by
      cases ys with
      | nil => rfl
      | cons y r =>
        obtain ⟨ad, h, _⟩ := HR 0 (by simp)
        cases h
    refine ⟨v, W, ?_, by simpa using HO, World.grownBy.refl W _, .inl rfl⟩
    rcases HO.2 with ⟨rfl, hn⟩ | ⟨g, cap, cur, rfl, _, _, hnc, _⟩
    · simp [Builtin.append_, run_underlying ht, sizeOf, typeInfo, hi, Builtin.lenOf, Builtin.firstCells]
    · simp [Builtin.append_, run_underlying ht, sizeOf, typeInfo, hi, Builtin.lenOf, Builtin.firstCells, hnc, storeCells]
  · obtain ⟨v1, w1, hr, h2, h3, _, h5⟩ := run_append_own_at (P := P) W base t ty e i0 z size bytes ht hi hz0 hz1 hz2 hzs hsz v xs.length (xs.flatMap enc) HO ad ys.length c (ys.flatMap enc) (flat_len henc ys) (flat_cells henc HR)
      (by intro u hu; obtain ⟨x, _, hx⟩ := List.mem_flatMap.1 hu; exact h1 x u hx) (by simp only [maxLen]; omega) hl hbase
    exact ⟨v1, w1, hr, by rw [List.length_append, List.flatMap_append]; exact h2, h3, h5⟩
section
variable {P : Program} {ops : Array Oper} {rest : List Oper} {o : Oper} {a : Act} {Q : Exit → Act → World → Prop} {K : Act → World → Prop}
theorem wp_append_els {W : World} (base : Nat) (s x : Operand) (t e : TypeId) (z : Value) (size bytes : Nat)
    (ho : o.op = .call { callee := .builtin .append, args := #[s, x], argTypes := #[t, t] }) (henc : ∀ x, (enc x).length = size) (h1 : ∀ x, ∀ u ∈ enc x, u.oneCell' = true)
    (ht : P.underlying t = some (.slice e)) (hinfo : (P.info? e).map (fun i => (i.zero, i.size, i.bytes)) = some (some z, size, bytes)) (hzs : z.cells.size = size) (hsz : 0 < size) (hb0 : 0 < bytes)
    (v : Value) (xs ys : List α) (A : Option Addr) (n c : Nat) (hn : n = ys.length) (hs : a.eval s = v) (hx : a.eval x = .slice A n c)
    (HO : W.ownsRow base e size v xs.length (xs.flatMap enc)) (HR : ElAt enc size W A ys) (hbase : base ≤ W.heap.size) (hl : (xs.length + ys.length) * bytes ≤ 140737488355328)
    (h : ∀ v1 w1, w1.ownsRow base e size v1 (xs ++ ys).length ((xs ++ ys).flatMap enc) → W.grownBy w1 v.ownBlock → (v1.ownBlock = v.ownBlock ∨ v1.ownBlock = some W.heap.size) → K (a.put o.dst v1) w1) : o.wp P a W K Q := by
  subst hn
  obtain ⟨v1, w1, hr, h1, h2, h3⟩ := run_append_els (enc := enc) (P := P) base t o.type e z size bytes henc h1 ht hinfo hzs hsz hb0 v xs ys A c HO HR hbase hl
  unfold Oper.wp execOp
  simp only [ho, resolve, invoke, builtin, Sem.run_bind, Sem.run_pure, Result.andThen_ok, List.map_toArray, List.map_cons, List.map_nil, hs, hx, hr]
  exact h v1 w1 h1 h2 h3
theorem wpList_append_els {W : World} (base : Nat) (hgd : o.guard = none) (s x : Operand) (t e : TypeId) (z : Value) (size bytes : Nat)
    (ho : o.op = .call { callee := .builtin .append, args := #[s, x], argTypes := #[t, t] }) (henc : ∀ x, (enc x).length = size) (h1 : ∀ x, ∀ u ∈ enc x, u.oneCell' = true)
    (ht : P.underlying t = some (.slice e)) (hinfo : (P.info? e).map (fun i => (i.zero, i.size, i.bytes)) = some (some z, size, bytes)) (hzs : z.cells.size = size) (hsz : 0 < size) (hb0 : 0 < bytes)
    (v : Value) (xs ys : List α) (A : Option Addr) (n c : Nat) (hn : n = ys.length) (hs : a.eval s = v) (hx : a.eval x = .slice A n c)
    (HO : W.ownsRow base e size v xs.length (xs.flatMap enc)) (HR : ElAt enc size W A ys) (hbase : base ≤ W.heap.size) (hl : (xs.length + ys.length) * bytes ≤ 140737488355328)
    (h : ∀ v1 w1, w1.ownsRow base e size v1 (xs ++ ys).length ((xs ++ ys).flatMap enc) → W.grownBy w1 v.ownBlock → (v1.ownBlock = v.ownBlock ∨ v1.ownBlock = some W.heap.size) → wpList P ops Q rest (a.put o.dst v1) w1) : wpList P ops Q (o :: rest) a W :=
  wpList_plain hgd fun K hK => wp_append_els (enc := enc) base s x t e z size bytes ho henc h1 ht hinfo hzs hsz hb0 v xs ys A n c hn hs hx HO HR hbase hl (fun v1 w1 h1 h2 h3 => hK _ _ (h v1 w1 h1 h2 h3))
end
theorem ElAt.grown {A : Option Addr} {row : Option Nat} (h : ElAt enc m w A xs) (hg : w.grownBy w' row) (hr : ∀ ad, A = some ad → 0 < xs.length → some ad.block ≠ row) : ElAt enc m w' A xs := fun i hi => by
  obtain ⟨ad, e, hc⟩ := h i hi
  refine ⟨ad, e, fun j u hu => ?_⟩
  have h1 := hc j u hu
  have hb := World.block_lt_of_cell? w _ h1
  rw [add_block] at hb
  rw [World.cell?_of_block (w := w) (by rw [add_block]; exact hg.block _ hb (hr ad e (by omega)))]
  exact h1
end
theorem one_I3 : ∀ x : I3, ∀ u ∈ encI3 x, u.oneCell' = true := fun x u hu => by
  simp only [encI3, List.mem_cons, List.not_mem_nil, or_false] at hu
  rcases hu with rfl | rfl | rfl <;> rfl
theorem one_I2 : ∀ x : I2, ∀ u ∈ encI2 x, u.oneCell' = true := fun x u hu => by
  simp only [encI2, List.mem_cons, List.not_mem_nil, or_false] at hu
  rcases hu with rfl | rfl <;> rfl
theorem one_I5 : ∀ x : I5, ∀ u ∈ encI5 x, u.oneCell' = true := fun x u hu => by
  simp only [encI5, List.mem_cons, List.not_mem_nil, or_false] at hu
  rcases hu with rfl | rfl | rfl | rfl | rfl <;> rfl
theorem one_Str : ∀ x : ByteArray, ∀ u ∈ encStr x, u.oneCell' = true := fun x u hu => by
  simp only [encStr, List.mem_cons, List.not_mem_nil, or_false] at hu
  rcases hu with rfl <;> rfl
set_option maxHeartbeats 1600000 in
set_option maxRecDepth 100000 in
theorem cloneOt_calls (A : Option Addr) (c : Nat) (xs : List I3) (w : World) (hx : ElAt encI3 3 w A xs) (hn : A = none → xs = []) (hl : xs.length * 24 ≤ 140737488355328) :
    Calls Try.prog 72 #[.slice A xs.length c] w fun e w' => ∃ v, e = .returned v ∧ w'.ownsRow w.heap.size 52 3 v xs.length (xs.flatMap encI3) ∧ Below w.heap.size w w' := by
  cases A with
  | none =>
    obtain rfl := hn rfl
    have hq : ∀ W : World, (binOp .eql 50 (.slice none 0 c) (.slice none 0 0)).run Try.prog W = .ok (.bool true) W := fun _ => by rfl
    go_enter Try.func72, Try.ntmps72
    go_wp2
    go_ret
    exact ⟨_, rfl, own_nil _ _ _ _, Below.refl _ _⟩
  | some ad =>
    have hq : ∀ W : World, (binOp .eql 50 (.slice (some ad) xs.length c) (.slice none 0 0)).run Try.prog W = .ok (.bool false) W := fun _ => by rfl
    have HX := Aside0.mk (hx.below (below1 (.cells #[] 52)))
    have HB := Aside0.mk (below1 (w := w) (.cells #[] 52))
    have HO := Aside0.mk (show (w.alloc (.cells #[] 52)).ownsRow w.heap.size 52 3 (.slice (some ⟨w.heap.size, 0, none⟩) 0 0) ([] : List I3).length (([] : List I3).flatMap encI3) from
      ⟨rfl, .inr ⟨w.heap.size, 0, #[], rfl, Nat.le_refl _, heap_alloc_new w _, Nat.le_refl _, by decide, rfl, rfl⟩⟩)
    have HBS := Aside0.mk HB.out.size
    clear hx hn
    go_enter Try.func72, Try.ntmps72
    go_wp2_with (at_builtin; refine wpList_append_els (enc := encI3) w.heap.size rfl _ (.tmp 6) 50 52 _ 3 24 rfl (fun _ => rfl) one_I3 Try.underlying50 infoOt (by decide) (by decide) (by decide) (.slice (some ⟨w.heap.size, 0, none⟩) 0 0) [] xs (some ad) xs.length c rfl (by rfl) (by rfl) HO.out HX.out HBS.out (by simpa using hl) ?_; intro v1 w1 ho1 hg1 _)
    go_ret
    exact ⟨v1, rfl, by simpa using ho1, HB.out.grown hg1 HBS.out (fun k hk => by obtain rfl := Option.some.inj hk; exact Nat.le_refl _)⟩
end Go.Proofs.Ytgmbfecfkdbfaaa.Wi
/- Which outages may be; two lists of them, held against each other. -/
set_option linter.unusedVariables false
set_option linter.unusedSimpArgs false
namespace Go.Proofs.Ytgmbfecfkdbfaaa.Wi
open Go Go.RowKit Go.Proofs.YtgmbfecfkdbfaaaW.PrintWords
theorem el3 {w : World} {A : Option Addr} {xs : List I3} (h : ElAt encI3 3 w A xs) (i : Nat) (hi : i < xs.length) : ∃ ad, A = some ad ∧ w.cell? (ad.add (i * 3)) = some (.int .i64 (xs[i]'hi).a) ∧ w.cell? ⟨(ad.add (i * 3)).block, (ad.add (i * 3)).off + 1, none⟩ = some (.int .i64 (xs[i]'hi).b) ∧ w.cell? ⟨(ad.add (i * 3)).block, (ad.add (i * 3)).off + 2, none⟩ = some (.int .i64 (xs[i]'hi).c) := by
  obtain ⟨ad, e, hc⟩ := h i hi
  exact ⟨ad, e, hc 0 _ rfl, by rw [← add_field _ _ 1 (by omega)]; exact hc 1 _ rfl, by rw [← add_field _ _ 2 (by omega)]; exact hc 2 _ rfl⟩
def okOt (x : I3) : Bool := inB x.a 1 65535 && inB x.b 0 2147483648 && inB x.c 0 2147483648 && !(decide (x.c ≤ x.b))
def outsRight (xs : List I3) : Bool := decide (xs.length ≤ 100) && xs.all okOt
set_option maxHeartbeats 8000000 in
set_option maxRecDepth 100000 in
theorem outBad_calls (x : I3) (w : World) : Calls Try.prog 120 #[.agg #[.int .i64 x.a, .int .i64 x.b, .int .i64 x.c]] w fun e w' => e = .returned (.bool (!okOt x)) ∧ Below w.heap.size w w' := by
  obtain ⟨a, b, c⟩ := x
  have HB := Aside0.mk (below1 (w := w) (.cells #[.int .i64 a, .int .i64 b, .int .i64 c] 52))
  unfold okOt
  simp only
  have HW0 := Aside0.mk (fun W => within_calls a 1 65535 W)
  have HW1 := Aside0.mk (fun W => cright_calls b W)
  have HW2 := Aside0.mk (fun W => cright_calls c W)
  generalize inB a 1 65535 = b0 at *
  generalize inB b 0 2147483648 = b1 at *
  generalize inB c 0 2147483648 = b2 at *
  cases b0 with
  | false =>
    go_enter Try.func120, Try.ntmps120
    go_wp2_with (first | (go_at_call 93; (with_reducible refine (HW0.out _).mono ?_); rintro e w1 ⟨rfl, rfl⟩) | (go_at_call 94; first | ((with_reducible refine (HW1.out _).mono ?_); rintro e w1 ⟨rfl, rfl⟩) | ((with_reducible refine (HW2.out _).mono ?_); rintro e w1 ⟨rfl, rfl⟩)))
    go_ret
    exact ⟨by first | rfl | (simp; done) | (simp [*]; done), below1 _⟩
  | true =>
    cases b1 with
    | false =>
      go_enter Try.func120, Try.ntmps120
      go_wp2_with (first | (go_at_call 93; (with_reducible refine (HW0.out _).mono ?_); rintro e w1 ⟨rfl, rfl⟩) | (go_at_call 94; first | ((with_reducible refine (HW1.out _).mono ?_); rintro e w1 ⟨rfl, rfl⟩) | ((with_reducible refine (HW2.out _).mono ?_); rintro e w1 ⟨rfl, rfl⟩)))
      go_ret
      exact ⟨by first | rfl | (simp; done) | (simp [*]; done), below1 _⟩
    | true =>
      cases b2 with
      | false =>
        go_enter Try.func120, Try.ntmps120
        go_wp2_with (first | (go_at_call 93; (with_reducible refine (HW0.out _).mono ?_); rintro e w1 ⟨rfl, rfl⟩) | (go_at_call 94; first | ((with_reducible refine (HW1.out _).mono ?_); rintro e w1 ⟨rfl, rfl⟩) | ((with_reducible refine (HW2.out _).mono ?_); rintro e w1 ⟨rfl, rfl⟩)))
        go_ret
        exact ⟨by first | rfl | (simp; done) | (simp [*]; done), below1 _⟩
      | true =>
        by_cases hz : c ≤ b
        · have hzd : decide (c ≤ b) = true := decide_eq_true hz
          go_enter Try.func120, Try.ntmps120
          go_wp2_with (first | (go_at_call 93; (with_reducible refine (HW0.out _).mono ?_); rintro e w1 ⟨rfl, rfl⟩) | (go_at_call 94; first | ((with_reducible refine (HW1.out _).mono ?_); rintro e w1 ⟨rfl, rfl⟩) | ((with_reducible refine (HW2.out _).mono ?_); rintro e w1 ⟨rfl, rfl⟩)))
          go_ret
          exact ⟨by first | rfl | (simp; done) | (simp [*]; done), below1 _⟩
        · have hzd : decide (c ≤ b) = false := decide_eq_false hz
          go_enter Try.func120, Try.ntmps120
          go_wp2_with (first | (go_at_call 93; (with_reducible refine (HW0.out _).mono ?_); rintro e w1 ⟨rfl, rfl⟩) | (go_at_call 94; first | ((with_reducible refine (HW1.out _).mono ?_); rintro e w1 ⟨rfl, rfl⟩) | ((with_reducible refine (HW2.out _).mono ?_); rintro e w1 ⟨rfl, rfl⟩)))
          go_ret
          exact ⟨by first | rfl | (simp; done) | (simp [*]; done), below1 _⟩
set_option maxHeartbeats 8000000 in
set_option maxRecDepth 100000 in
theorem outIndex_calls (A : Option Addr) (c : Nat) (xs : List I3) (w : World) (hx : ElAt encI3 3 w A xs) (hl : xs.length ≤ 140737488355328) :
    Calls Try.prog 160 #[.slice A xs.length c, .func (.func 120) #[] #[]] w fun e w' => ∃ n : Int, e = .returned (.int .i64 n) ∧ decide (0 ≤ n) = !(xs.all okOt) ∧ Below w.heap.size w w' := by
  have HX := Aside0.mk hx
  clear hx
  go_enter Try.func160, Try.ntmps160
  go_wp2
  go_loopg [5, 8] xs.length (fun gg s5 s8 wr => ∃ (kk : Nat), kk ≤ xs.length ∧ xs.length - kk ≤ gg ∧ s8 = .int .i64 kk ∧ Aside0 ((xs.take kk).all okOt = true) ∧ Aside0 (Below w.heap.size w wr))
  case atStart => exact ⟨0, by omega, by omega, rfl, ⟨rfl⟩, ⟨Below.refl _ _⟩⟩
  case round =>
    obtain ⟨kk, hkk, hgg, rfl, HA, HB⟩ := hrel
    by_cases hlt : kk < xs.length
    · have hltz : (kk : Int) < (xs.length : Int) := by omega
      obtain ⟨ad, rfl, c0, c1, c2⟩ := el3 (HX.out.below HB.out) kk hlt
      have HT := Aside0.mk (show (xs.take (kk + 1)).all okOt = okOt xs[kk] from by rw [List.take_succ_eq_append_getElem hlt, List.all_append, HA.out]; simp)
      have HM := Aside0.mk (List.getElem_mem hlt)
      have C := Aside0.mk (fun W => outBad_calls xs[kk] W)
      generalize xs[kk] = x at *
      obtain ⟨xa, xb, xc⟩ := x
      simp only at c0 c1 c2 C
      obtain ⟨o, ho⟩ : ∃ o, okOt ⟨xa, xb, xc⟩ = o := ⟨_, rfl⟩
      rw [ho] at C HT
      cases o with
      | false =>
        have HN : Aside0 (xs.all okOt = false) := ⟨by
          cases h : xs.all okOt with
          | false => rfl
          | true =>
            have := List.all_eq_true.1 h _ HM.out
            rw [ho] at this
            cases this⟩
        clear ho
        go_wp2_with (go_at_call 120; refine (C.out _).mono ?_; rintro e w1 ⟨rfl, hb1⟩)
        go_ret
        exact ⟨kk, rfl, by rw [HN.out]; exact decide_eq_true (by omega), below_then HB.out HB.out.size hb1⟩
      | true =>
        clear ho
        go_wp2_with (go_at_call 120; refine (C.out _).mono ?_; rintro e w1 ⟨rfl, hb1⟩; have HB1 := Aside0.mk (below_then HB.out HB.out.size hb1); clear hb1)
        go_roundg (xs.length - (kk + 1))
        case measure => omega
        case rel => exact ⟨kk + 1, by omega, by omega, by go_num, HT, HB1⟩
    · have hltz : ¬ (kk : Int) < (xs.length : Int) := by omega
      have hke : xs.take kk = xs := List.take_of_length_le (by omega)
      rw [hke] at HA
      clear hke
      go_wp2
      go_ret
      exact ⟨-1, rfl, by rw [HA.out]; rfl, HB.out⟩
set_option maxHeartbeats 1600000 in
set_option maxRecDepth 100000 in
theorem outContains_calls (A : Option Addr) (c : Nat) (xs : List I3) (w : World) (hx : ElAt encI3 3 w A xs) (hl : xs.length ≤ 140737488355328) :
    Calls Try.prog 119 #[.slice A xs.length c, .func (.func 120) #[] #[]] w fun e w' => e = .returned (.bool (!(xs.all okOt))) ∧ Below w.heap.size w w' := by
  have C := Aside0.mk (outIndex_calls A c xs w hx hl)
  clear hx
  go_enter Try.func119, Try.ntmps119
  go_wp2_with (go_at_call 160; refine C.out.mono ?_; rintro e w1 ⟨n, rfl, hn, hb1⟩)
  go_ret
  exact ⟨by rw [← hn]; rfl, hb1⟩
theorem rightOutages_calls (A : Option Addr) (c : Nat) (xs : List I3) (w : World) (hx : ElAt encI3 3 w A xs) (hl : xs.length ≤ 140737488355328) :
    Calls Try.prog 74 #[.slice A xs.length c] w fun e w' => e = .returned (.int .i64 (if outsRight xs = true then 0 else 80)) ∧ Below w.heap.size w w' := by
  have C := Aside0.mk (fun W (h : ElAt encI3 3 W A xs) => outContains_calls A c xs W h hl)
  have HX := Aside0.mk hx
  unfold outsRight
  clear hx
  generalize xs.all okOt = o at *
  by_cases h : xs.length ≤ 100
  · have hz : ((xs.length : Int) ≤ 100) := by omega
    rw [decide_eq_true h, Bool.true_and]
    cases o with
    | true =>
      go_enter Try.func74, Try.ntmps74
      go_wp2_with (first | (go_at_call 119; refine (C.out _ HX.out).mono ?_; rintro e w1 ⟨rfl, hb1⟩) | (go_at_call 92; refine (when_calls _ _).mono ?_; rintro e w2 ⟨rfl, rfl⟩))
      go_ret
      exact ⟨rfl, hb1⟩
    | false =>
      go_enter Try.func74, Try.ntmps74
      go_wp2_with (first | (go_at_call 119; refine (C.out _ HX.out).mono ?_; rintro e w1 ⟨rfl, hb1⟩) | (go_at_call 92; refine (when_calls _ _).mono ?_; rintro e w2 ⟨rfl, rfl⟩))
      go_ret
      exact ⟨rfl, hb1⟩
  · have hz : ¬ ((xs.length : Int) ≤ 100) := by omega
    rw [decide_eq_false h, Bool.false_and]
    go_enter Try.func74, Try.ntmps74
    go_wp2_with (first | (go_at_call 119; refine (C.out _ HX.out).mono ?_; rintro e w1 ⟨rfl, hb1⟩) | (go_at_call 92; refine (when_calls _ _).mono ?_; rintro e w2 ⟨rfl, rfl⟩))
    go_ret
    exact ⟨by first | rfl | (simp; done), Below.refl _ _⟩
set_option maxHeartbeats 8000000 in
set_option maxRecDepth 100000 in
theorem rOutRight_calls (A : Option Addr) (cA : Nat) (xs : List I3) (w : World) (hx : ElAt encI3 3 w A xs) :
    Calls Try.prog 75 #[.slice A xs.length cA] w fun e w' => e = .returned (.bool (outsRight xs)) ∧ Below w.heap.size w w' := by
  have HX := Aside0.mk hx
  unfold outsRight
  clear hx
  by_cases h : xs.length ≤ 100
  case neg =>
    have hz : (xs.length : Int) > 100 := by omega
    rw [decide_eq_false h, Bool.false_and]
    go_enter Try.func75, Try.ntmps75
    go_wp2
    go_ret
    exact ⟨rfl, Below.refl _ _⟩
  have hz : ¬ (xs.length : Int) > 100 := by omega
  rw [decide_eq_true h, Bool.true_and]
  go_enter Try.func75, Try.ntmps75
  go_wp2
  go_loopg [3] xs.length (fun gg s3 wr => ∃ (kk : Nat), kk ≤ xs.length ∧ xs.length - kk ≤ gg ∧ s3 = .int .i64 kk ∧ Aside0 ((xs.take kk).all okOt = true) ∧ Aside0 (Below w.heap.size w wr))
  case atStart => exact ⟨0, by omega, by omega, rfl, ⟨rfl⟩, ⟨Below.refl _ _⟩⟩
  case round =>
    obtain ⟨kk, hkk, hgg, rfl, HA, HB⟩ := hrel
    by_cases hlt : kk < xs.length
    · have hltz : (kk : Int) < (xs.length : Int) := by omega
      obtain ⟨ad, rfl, c0, c1, c2⟩ := el3 (HX.out.below HB.out) kk hlt
      have HTT := Aside0.mk (show okOt xs[kk] = true → (xs.take (kk + 1)).all okOt = true from fun h => by rw [List.take_succ_eq_append_getElem hlt, List.all_append, HA.out]; simp [h])
      have HNN := Aside0.mk (show okOt xs[kk] = false → xs.all okOt = false from fun h => by
        cases h2 : xs.all okOt with
        | false => rfl
        | true =>
          have := List.all_eq_true.1 h2 _ (List.getElem_mem hlt)
          rw [h] at this
          cases this)
      generalize xs[kk] = x at *
      obtain ⟨a, b, c⟩ := x
      unfold okOt at HTT HNN
      simp only at c0 c1 c2 HTT HNN
      have HW0 := Aside0.mk (fun W => rwithin_calls a 1 65535 W)
      have HW1 := Aside0.mk (fun W => rright_calls b W)
      have HW2 := Aside0.mk (fun W => rright_calls c W)
      generalize inB a 1 65535 = b0 at *
      generalize inB b 0 2147483648 = b1 at *
      generalize inB c 0 2147483648 = b2 at *
      have HWQ := Aside0.mk (fun W => (HW0.out W).mono (fun e w' h => (⟨h.1, h.2.symm⟩ : e = .returned (.bool b0) ∧ w' = W)))
      cases b0 with
      | false =>
        have HN : Aside0 (xs.all okOt = false) := ⟨HNN.out (by first | rfl | (simp [*]; done) | simp [*])⟩
        go_wp2_with (go_at_call 98; first | ((with_reducible refine (HW1.out _).mono ?_); rintro e w1 ⟨rfl, rfl⟩) | ((with_reducible refine (HW2.out _).mono ?_); rintro e w1 ⟨rfl, rfl⟩))
        go_quiet ((go_at_call 99; exact Calls.quiet_of_same (HWQ.out _)))
        go_wp2
        go_ret
        exact ⟨by rw [HN.out]; rfl, below_drewN HB.out _⟩
      | true =>
        cases b1 with
        | false =>
          have HN : Aside0 (xs.all okOt = false) := ⟨HNN.out (by first | rfl | (simp [*]; done) | simp [*])⟩
          go_wp2_with (go_at_call 98; first | ((with_reducible refine (HW1.out _).mono ?_); rintro e w1 ⟨rfl, rfl⟩) | ((with_reducible refine (HW2.out _).mono ?_); rintro e w1 ⟨rfl, rfl⟩))
          go_quiet ((go_at_call 99; exact Calls.quiet_of_same (HWQ.out _)))
          go_wp2
          go_ret
          exact ⟨by rw [HN.out]; rfl, below_drewN HB.out _⟩
        | true =>
          cases b2 with
          | false =>
            have HN : Aside0 (xs.all okOt = false) := ⟨HNN.out (by first | rfl | (simp [*]; done) | simp [*])⟩
            go_wp2_with (go_at_call 98; first | ((with_reducible refine (HW1.out _).mono ?_); rintro e w1 ⟨rfl, rfl⟩) | ((with_reducible refine (HW2.out _).mono ?_); rintro e w1 ⟨rfl, rfl⟩))
            go_quiet ((go_at_call 99; exact Calls.quiet_of_same (HWQ.out _)))
            go_wp2
            go_ret
            exact ⟨by rw [HN.out]; rfl, below_drewN HB.out _⟩
          | true =>
            by_cases hz : c ≤ b
            · have hzd : decide (c ≤ b) = true := decide_eq_true hz
              have HN : Aside0 (xs.all okOt = false) := ⟨HNN.out (by first | rfl | (simp [*]; done) | simp [*])⟩
              go_wp2_with (go_at_call 98; first | ((with_reducible refine (HW1.out _).mono ?_); rintro e w1 ⟨rfl, rfl⟩) | ((with_reducible refine (HW2.out _).mono ?_); rintro e w1 ⟨rfl, rfl⟩))
              go_quiet ((go_at_call 99; exact Calls.quiet_of_same (HWQ.out _)))
              go_wp2
              go_ret
              exact ⟨by rw [HN.out]; rfl, below_drewN HB.out _⟩
            · have hzd : decide (c ≤ b) = false := decide_eq_false hz
              have HT := Aside0.mk (HTT.out (by simp [*]))
              go_wp2_with (go_at_call 98; first | ((with_reducible refine (HW1.out _).mono ?_); rintro e w1 ⟨rfl, rfl⟩) | ((with_reducible refine (HW2.out _).mono ?_); rintro e w1 ⟨rfl, rfl⟩))
              go_quiet ((go_at_call 99; exact Calls.quiet_of_same (HWQ.out _)))
              go_wp2
              go_roundg (xs.length - (kk + 1))
              case measure => omega
              case rel => exact ⟨kk + 1, by omega, by omega, by go_num, HT, ⟨below_drewN HB.out _⟩⟩
    · have hltz : ¬ (kk : Int) < (xs.length : Int) := by omega
      have hke : xs.take kk = xs := List.take_of_length_le (by omega)
      rw [hke] at HA
      clear hke
      go_wp2
      go_ret
      exact ⟨by rw [HA.out]; rfl, HB.out⟩
end Go.Proofs.Ytgmbfecfkdbfaaa.Wi
/- Two lists of outages, held against each other. -/
set_option linter.unusedVariables false
set_option linter.unusedSimpArgs false
namespace Go.Proofs.Ytgmbfecfkdbfaaa.Wi
open Go Go.RowKit Go.Proofs.YtgmbfecfkdbfaaaW.PrintWords
set_option maxHeartbeats 8000000 in
set_option maxRecDepth 100000 in
theorem sameOuts_calls (A B : Option Addr) (cA cB : Nat) (xs : List I3) (w : World) (hx : ElAt encI3 3 w A xs) (hy : ElAt encI3 3 w B xs) (hl : xs.length ≤ 140737488355328) :
    Calls Try.prog 29 #[.slice A xs.length cA, .slice B xs.length cB] w fun e w' => e = .returned (.bool true) ∧ Below w.heap.size w w' := by
  have HX := Aside0.mk hx
  have HY := Aside0.mk hy
  clear hx hy
  go_enter Try.func29, Try.ntmps29
  go_wp2
  go_loopg [5] xs.length (fun gg s5 wr => ∃ (kk : Nat), kk ≤ xs.length ∧ xs.length - kk ≤ gg ∧ s5 = .int .i64 kk ∧ Aside0 (Below w.heap.size w wr))
  case atStart => exact ⟨0, by omega, by omega, rfl, ⟨Below.refl _ _⟩⟩
  case round =>
    obtain ⟨kk, hkk, hgg, rfl, HB⟩ := hrel
    by_cases hlt : kk < xs.length
    · have hltz : (kk : Int) < (xs.length : Int) := by omega
      obtain ⟨ad, rfl, c0, c1, c2⟩ := el3 (HX.out.below HB.out) kk hlt
      obtain ⟨ad', rfl, d0, d1, d2⟩ := el3 (HY.out.below HB.out) kk hlt
      generalize xs[kk] = x at *
      obtain ⟨a, b, c⟩ := x
      simp only at c0 c1 c2 d0 d1 d2
      go_wp2
      go_quiet (fail)
      go_wp2
      go_roundg (xs.length - (kk + 1))
      case measure => omega
      case rel => exact ⟨kk + 1, by omega, by omega, by go_num, ⟨below_drewN HB.out _⟩⟩
    · have hltz : ¬ (kk : Int) < (xs.length : Int) := by omega
      go_wp2
      go_ret
      exact ⟨rfl, HB.out⟩
end Go.Proofs.Ytgmbfecfkdbfaaa.Wi
/- Outages as bytes. -/
set_option linter.unusedVariables false
set_option linter.unusedSimpArgs false
namespace Go.Proofs.Ytgmbfecfkdbfaaa.Wi
open Go Go.RowKit Go.Proofs.YtgmbfecfkdbfaaaW.PrintWords
theorem LPost.from {B g : Nat} {ro : Option Nat} {bt : Nat} {T : TypeId} {cs : Array Value} {s : WS} {w w1 w' : World} {e : Ending} (h : LPost B g ro bt T cs s w1 e w') (hb : Below w.heap.size w w1) : LPost B g ro bt T cs s w e w' := by
  obtain ⟨he, ro', hw, hg, hq, hf⟩ := h
  exact ⟨he, ro', hw, hg.elim .inl (fun ⟨b, h, h2⟩ => .inr ⟨b, h, Nat.le_trans hb.size h2⟩), hq, (Fr.of_below hb).trans hf (fun _ _ h => h)⟩
theorem LRPost.from {α : Type} {enc : α → List Value} {E : TypeId} {B g : Nat} {ro : Option Nat} {bs : List Int} {bt : Nat} {T : TypeId} {cs : Array Value} {k : Nat} {xs : List α} {r : RS} {w w1 w' : World} {e : Ending} (h : LRPost enc E B g ro bs bt T cs k xs r w1 e w') (hb : Below w.heap.size w w1) : LRPost enc E B g ro bs bt T cs k xs r w e w' := by
  obtain ⟨he, hr, ⟨v, hq, hv⟩, hf⟩ := h
  exact ⟨he, hr, ⟨v, hq, hv.from hb.size⟩, (Fr.of_below hb).trans hf (fun _ _ h => h)⟩
theorem BytesPost.from_ {xs : List Int} {e2 : Int} {w w1 w' : World} {e : Ending} (h : BytesPost xs e2 w1 e w') (hb : Below w.heap.size w w1) : BytesPost xs e2 w e w' := by
  obtain ⟨v, he, ho, hb'⟩ := h
  exact ⟨v, he, own_upto ho (fun k hk => Nat.le_trans hb.size (own_base ho k hk)), below_then hb hb.size hb'⟩
set_option maxHeartbeats 8000000 in
set_option maxRecDepth 100000 in
theorem overOuts_w {w : World} {B g : Nat} {ro : Option Nat} {s : WS} {bt : Nat} (xs : List I3) (A : Option Addr) (c : Nat) (hq : w.heap[bt]? = some (.cells #[.slice A xs.length c] 50 (0, 0)))
    (hx : ElAt encI3 3 w A xs) (hok : ∀ x ∈ xs, I3.Ok x) (hn : xs.length ≤ 1000) (hA : ∀ ad, A = some ad → 0 < xs.length → ad.block ≠ g ∧ ro ≠ some ad.block)
    (hg : bt ≠ g) (hr : ro ≠ some bt) (hw : Wr w B g ro s) (hB : B ≤ w.heap.size) (hl : s.xs.length ≤ 10000000000) :
    Calls Try.prog 73 #[.agg #[.pointer (some ⟨g, 0, none⟩), .pointer none], .pointer (some ⟨bt, 0, none⟩)] w (LPost B g ro bt 50 (if xs.length = 0 then #[.slice none 0 0] else #[.slice A xs.length c]) (putL putOt s xs) w) := by
  have HB1 := Aside0.mk (below1 (w := w) (.cells #[.pointer (some ⟨g, 0, none⟩), .pointer none] 97))
  have C := Aside0.mk (listOt_w 0 _ 50 xs A c 100 (blk_b hq HB1.out) rfl (hx.below HB1.out) hok hn hA hg hr (hw.below HB1.out) (Nat.le_trans hB HB1.out.size) hl)
  clear hq hx hok hA hg hr hw hB
  have e : (#[Value.slice A xs.length c] : Array Value).setIfInBounds 0 (.slice none 0 0) = #[.slice none 0 0] := rfl
  rw [e] at C
  clear e
  have HF : Aside0 (∀ e w', LPost B g ro bt 50 (if xs.length = 0 then #[.slice none 0 0] else #[.slice A xs.length c]) (putL putOt s xs) (w.alloc (.cells #[.pointer (some ⟨g, 0, none⟩), .pointer none] 97)) e w' → e = .returned (.tuple #[]) ∧ LPost B g ro bt 50 (if xs.length = 0 then #[.slice none 0 0] else #[.slice A xs.length c]) (putL putOt s xs) w e w') := ⟨fun e w' h => ⟨h.1, h.from HB1.out⟩⟩
  generalize LPost B g ro bt 50 (if xs.length = 0 then #[.slice none 0 0] else #[.slice A xs.length c]) (putL putOt s xs) w = PP at *
  go_enter Try.func73, Try.ntmps73
  go_wp2_with (go_at_call 117; refine C.out.mono ?_; intro e w1 hP; obtain ⟨rfl, hP2⟩ := HF.out e w1 hP; clear hP)
  go_end0
  exact hP2
set_option maxHeartbeats 8000000 in
set_option maxRecDepth 100000 in
theorem overOuts_r {w : World} {B g : Nat} {ro : Option Nat} {bs : List Int} {r : RS} {bt : Nat} (hq : w.heap[bt]? = some (.cells #[.slice none 0 0] 50 (0, 0))) (hr : Rd w B g ro bs r) (hB : B ≤ w.heap.size) :
    Calls Try.prog 73 #[.agg #[.pointer none, .pointer (some ⟨g, 0, none⟩)], .pointer (some ⟨bt, 0, none⟩)] w (LRPost encI3 52 B g ro bs bt 50 #[.slice none 0 0] 0 (getL bs (getOt bs) 100 r).1 (getL bs (getOt bs) 100 r).2 w) := by
  have HB1 := Aside0.mk (below1 (w := w) (.cells #[.pointer none, .pointer (some ⟨g, 0, none⟩)] 97))
  have C := Aside0.mk (listOt_r 0 #[.slice none 0 0] 50 100 (by omega) (by omega) (blk_b hq HB1.out) rfl (by decide) (by decide) (hr.below HB1.out) (Nat.le_trans hB HB1.out.size))
  clear hq hr hB
  have HF : Aside0 (∀ e w', LRPost encI3 52 B g ro bs bt 50 #[.slice none 0 0] 0 (getL bs (getOt bs) 100 r).1 (getL bs (getOt bs) 100 r).2 (w.alloc (.cells #[.pointer none, .pointer (some ⟨g, 0, none⟩)] 97)) e w' → e = .returned (.tuple #[]) ∧ LRPost encI3 52 B g ro bs bt 50 #[.slice none 0 0] 0 (getL bs (getOt bs) 100 r).1 (getL bs (getOt bs) 100 r).2 w e w') := ⟨fun e w' h => ⟨h.1, h.from HB1.out⟩⟩
  generalize LRPost encI3 52 B g ro bs bt 50 #[.slice none 0 0] 0 (getL bs (getOt bs) 100 r).1 (getL bs (getOt bs) 100 r).2 w = PP at *
  go_enter Try.func73, Try.ntmps73
  go_wp2_with (go_at_call 117; refine C.out.mono ?_; intro e w1 hP; obtain ⟨rfl, hP2⟩ := HF.out e w1 hP; clear hP)
  go_end0
  exact hP2
def outsPut (xs : List I3) : WS := putL putOt ⟨[], false⟩ xs
def outsOut (xs : List I3) : List Int := if outsRight xs = true then (outsPut xs).out else []
def outsErr (xs : List I3) : Int := if outsRight xs = true then (outsPut xs).err else 80
theorem outsPut_len (xs : List I3) (h : xs.length ≤ 1000) : (outsPut xs).xs.length ≤ 1000000000 := by
  unfold outsPut putL
  have h1 := foldl_len (put := putOt) putOt_len xs ((⟨[], false⟩ : WS).put (pNumber xs.length 2))
  have h2 := putNum_len (⟨[], false⟩ : WS) xs.length 2
  have h3 : (⟨[], false⟩ : WS).xs.length = 0 := rfl
  have h4 := Nat.mul_le_mul_right 400000 h
  omega
theorem outsRight_len {xs : List I3} (h : outsRight xs = true) : xs.length ≤ 100 := by
  unfold outsRight at h
  simp only [Bool.and_eq_true, decide_eq_true_eq] at h
  exact h.1
set_option maxHeartbeats 8000000 in
set_option maxRecDepth 100000 in
theorem writtenOuts_calls (xs : List I3) (A : Option Addr) (c : Nat) (w : World) (hx : ElAt encI3 3 w A xs) (hok : ∀ x ∈ xs, I3.Ok x) (hl : xs.length ≤ 140737488355328) :
    Calls Try.prog 71 #[.slice A xs.length c, .func (.func 73) #[] #[], .func (.func 74) #[] #[]] w (BytesPost (outsOut xs) (outsErr xs) w) := by
  have HT := Aside0.mk (fun W (h : ElAt encI3 3 W A xs) => rightOutages_calls A c xs W h hl)
  have HQ := Aside0.mk (show (w.alloc (.cells #[.slice A xs.length c] 50)).heap[w.heap.size]? = _ from heap_alloc_new w _)
  have HB0 := Aside0.mk (below1 (w := w) (.cells #[.slice A xs.length c] 50))
  have HX := Aside0.mk hx
  have HLT := Aside0.mk (hx.lt (fun _ => by simp [encI3]))
  unfold BytesPost
  cases hr : outsRight xs with
  | false =>
    have HO : Aside0 (outsOut xs = [] ∧ outsErr xs = 80) := ⟨by simp [outsOut, outsErr, hr]⟩
    rw [hr] at HT
    simp only [Bool.false_eq_true, ↓reduceIte] at HT
    clear HQ hr hx hok
    rw [HO.out.1, HO.out.2]
    go_enter Try.func71, Try.ntmps71
    go_wp2_with (go_at_call 74; refine (HT.out _ (HX.out.below HB0.out)).mono ?_; rintro e w1 ⟨rfl, hb1⟩)
    go_ret2
    exact ⟨_, rfl, own_nil _ _ _ _, below_then HB0.out HB0.out.size hb1⟩
  | true =>
    have hn := outsRight_len hr
    have HO : Aside0 (outsOut xs = (outsPut xs).out ∧ outsErr xs = (outsPut xs).err) := ⟨by simp [outsOut, outsErr, hr]⟩
    have HSL := Aside0.mk (show (outsPut xs).xs.length ≤ 140737488355328 by have := outsPut_len xs (by omega); omega)
    have HO5 := Aside0.mk (fun (W : World) (g : Nat) (hq : W.heap[w.heap.size]? = _) (hX : ElAt encI3 3 W A xs) (hA : ∀ ad, A = some ad → 0 < xs.length → ad.block ≠ g ∧ (none : Option Nat) ≠ some ad.block) (hg : w.heap.size ≠ g) (hw : Wr W g g none ⟨[], false⟩) (hB : g ≤ W.heap.size) => overOuts_w xs A c hq hX hok (by omega) hA hg (by simp) hw hB (by simp))
    rw [hr] at HT
    simp only [↓reduceIte] at HT
    rw [HO.out.1, HO.out.2]
    unfold outsPut at HSL ⊢
    clear hr HO hx hok hn
    generalize putL putOt ⟨[], false⟩ xs = s' at *
    generalize (if xs.length = 0 then #[Value.slice none 0 0] else #[Value.slice A xs.length c]) = cf at *
    unfold LPost at HO5
    go_enter Try.func71, Try.ntmps71
    go_wp2_with (first
      | (go_at_call 74; refine (HT.out _ (HX.out.below HB0.out)).mono ?_; rintro e w1 ⟨rfl, hb1⟩; have HB1 := Aside0.mk (below_then HB0.out HB0.out.size hb1); have HQ1 := Aside0.mk ((Fr.of_below (S := fun _ => False) hb1).blk HQ.out (fun h => h)); clear hb1)
      | (go_at_call 51; refine (newWriter_calls _).mono ?_; rintro e w2 ⟨rfl, S0, hb2⟩; have HS0 := Aside0.mk S0; have HB2 := Aside0.mk hb2; have HB2' := Aside0.mk (below1 (w := w2) (.cells #[.pointer (some ⟨w1.heap.size, 0, none⟩), .pointer none] 97)); have HBX := Aside0.mk (heap_alloc_new w2 (.cells #[.pointer (some ⟨w1.heap.size, 0, none⟩), .pointer none] 97)); clear S0 hb2)
      | (go_at_call 73; refine (HO5.out _ w1.heap.size ((Fr.of_below (S := fun _ => False) HB2'.out).blk ((Fr.of_below (S := fun _ => False) HB2.out).blk HQ1.out (fun h => h)) (fun h => h)) (((HX.out.below HB1.out).below HB2.out).below HB2'.out) (fun ad e h => ⟨by have h1 := HLT.out ad e h; have h2 := blk_lt HQ1.out; omega, by simp⟩) (by have := blk_lt HQ1.out; omega) (HS0.out.below HB2'.out) (Nat.le_trans HB2.out.size HB2'.out.size)).mono ?_; rintro e w3 ⟨rfl, ro3, hw3, _, _, hf3⟩; have HW3 := Aside0.mk hw3; have HF3 := Aside0.mk hf3; have hx3 := hf3.blk HBX.out (fun h => h.elim (fun h => h.elim (fun e => by have := HS0.out.lt; omega) (fun e => nomatch e)) (fun e => by have h1 := HS0.out.lt; have h2 := blk_lt HQ1.out; omega)); have c0 : _ = some (Value.pointer (some ⟨w1.heap.size, 0, none⟩)) := blk_cell hx3 0; clear hw3 hf3 hx3)
      | (go_at_call 55; refine (wBytes_calls HW3.out HSL.out).mono ?_; rintro e w4 ⟨v4, rfl, hv4, hb4⟩; have HV4 := Aside0.mk hv4; have HB4 := Aside0.mk hb4; clear hv4 hb4))
    go_ret2
    have hbw : Below w.heap.size w w3 := (below_then (below_then HB1.out HB1.out.size HB2.out) (Nat.le_trans HB1.out.size HB2.out.size) HB2'.out).trans (HF3.out.below (Nat.le_trans (Nat.le_trans HB1.out.size HB2.out.size) HB2'.out.size) (fun i hi => by
      rcases hi with (rfl | e) | rfl
      · exact HB1.out.size
      · cases e
      · exact Nat.le_refl _))
    exact ⟨_, rfl, own_upto HV4.out (fun k hk => Nat.le_trans hbw.size (own_base HV4.out k hk)), below_then hbw hbw.size HB4.out⟩
set_option maxHeartbeats 8000000 in
set_option maxRecDepth 100000 in
theorem recOuts_calls (xs : List I3) (A : Option Addr) (c : Nat) (w : World) (hx : ElAt encI3 3 w A xs) (hn : A = none → xs = []) (hok : ∀ x ∈ xs, I3.Ok x) (hl : xs.length * 24 ≤ 140737488355328) :
    Calls Try.prog 28 #[.slice A xs.length c] w (BytesPost (outsOut xs) (outsErr xs) w) := by
  have HC := Aside0.mk (cloneOt_calls A c xs w hx hn hl)
  have HW := Aside0.mk (fun A' c' W (h : ElAt encI3 3 W A' xs) => writtenOuts_calls xs A' c' W h hok (by omega))
  clear hx hn hok
  go_enter Try.func28, Try.ntmps28
  go_wp2_with (first
    | (go_at_call 72; refine HC.out.mono ?_; rintro e w1 ⟨v, rfl, ho, hb⟩; obtain ⟨A1, c1, rfl, _, he⟩ := owns_el ho (fun _ => rfl); have HE := Aside0.mk he; have HB := Aside0.mk hb; clear ho he hb)
    | (go_at_call 71; refine (HW.out A1 c1 _ HE.out).mono ?_; rintro e w2 ⟨v2, rfl, ho2, hb2⟩))
  go_ret2
  exact BytesPost.from_ (w1 := w1) ⟨v2, rfl, ho2, hb2⟩ HB.out
end Go.Proofs.Ytgmbfecfkdbfaaa.Wi
/- Outages out of bytes. -/
set_option linter.unusedVariables false
set_option linter.unusedSimpArgs false
namespace Go.Proofs.Ytgmbfecfkdbfaaa.Wi
open Go Go.RowKit Go.Proofs.YtgmbfecfkdbfaaaW.PrintWords
/-- out of bytes; the fault's code and place -/
def outsOf (bs : List Int) : List I3 × Int × Int :=
  let p := getL bs (getOt bs) 100 ⟨0, 0, 0, 0⟩
  let r := p.2.end_ bs.length
  if r.code = 0 then (if outsRight p.1 = true then (p.1, 0, r.fat) else ([], 80, -1)) else ([], r.code, r.fat)
def outsRPost (bs : List Int) (w : World) (e : Ending) (w' : World) : Prop := ∃ v, e = .returned (.tuple #[v, .agg #[.int .i64 (outsOf bs).2.1, .int .i64 (outsOf bs).2.2]]) ∧ RowAt encI3 52 w.heap.size w' v (outsOf bs).1 ∧ Below w.heap.size w w'
theorem fltFin {w W5 : World} {b : Nat} (h2 : W5.heap[b]? = some (.cells #[.int .i64 0, .int .i64 0] 31 (0, 0))) (hw : Below w.heap.size w W5) (hb : w.heap.size ≤ b) (c0 c1 : Int) {W' : World}
    (e : W' = ((W5.setCell ⟨b, 0, none⟩ (.int .i64 c0)).setCell ⟨b, 1, none⟩ (.int .i64 c1)).drew) :
    W'.cell? ⟨b, 0, none⟩ = some (.int .i64 c0) ∧ W'.cell? ⟨b, 1, none⟩ = some (.int .i64 c1) ∧ Below w.heap.size w W' ∧ Fr (fun i => i = b) W5 W' := by
  have q1 := blk_set (blk_set h2 0 (.int .i64 c0)) 1 (.int .i64 c1)
  have hw2 : Below w.heap.size w W' := by
    rw [e]
    exact ((hw.setCell hb _).setCell hb _).drew
  have hf : Fr (fun i => i = b) W5 W' := by
    rw [e]
    exact (((Fr.refl (fun i => i = b) W5).set_ (p := ⟨b, 0, none⟩) (.inl rfl) _).set_ (p := ⟨b, 1, none⟩) (.inl rfl) _).drew
  generalize (W5.setCell ⟨b, 0, none⟩ (.int .i64 c0)).setCell ⟨b, 1, none⟩ (.int .i64 c1) = W6 at *
  subst e
  have q1' : W6.drew.heap[b]? = some (.cells _ 31 (0, 0)) := q1
  exact ⟨(blk_cell q1' 0).trans (by simp), (blk_cell q1' 1).trans (by simp), hw2, hf⟩
theorem fltFin' {w W5 : World} {b : Nat} (h2 : W5.heap[b]? = some (.cells #[.int .i64 0, .int .i64 0] 31 (0, 0))) (hw : Below w.heap.size w W5) (hb : w.heap.size ≤ b) (c0 c1 : Int) {W' : World}
    (e : W' = (W5.setCell ⟨b, 0, none⟩ (.int .i64 c0)).setCell ⟨b, 1, none⟩ (.int .i64 c1)) :
    W'.cell? ⟨b, 0, none⟩ = some (.int .i64 c0) ∧ W'.cell? ⟨b, 1, none⟩ = some (.int .i64 c1) ∧ Below w.heap.size w W' ∧ Fr (fun i => i = b) W5 W' := by
  obtain ⟨l0, l1, hbl, hf⟩ := fltFin h2 hw hb c0 c1 rfl
  rw [← e] at l0 l1 hbl hf
  exact ⟨l0, l1, ⟨hbl.os, hbl.tape, hbl.output, hbl.size, hbl.block⟩, ⟨hf.os, hf.tape, hf.output, hf.size, hf.block⟩⟩
set_option maxHeartbeats 8000000 in
set_option maxRecDepth 100000 in
theorem takenOuts_calls (A : Option Addr) (c : Nat) (bs : List Int) (w : World) (hr : ReadsInt w .u8 A bs.length bs) (hby : Bytes bs) (hl : bs.length ≤ 140737488355328) :
    Calls Try.prog 77 #[.slice A bs.length c, .func (.func 73) #[] #[], .func (.func 74) #[] #[]] w (outsRPost bs w) := by
  have HR := Aside0.mk hr
  have HBY := Aside0.mk hby
  clear hr hby
  go_enter Try.func77, Try.ntmps77
  go_upto_region 2 with (fail)
  have hb4 : Below w.heap.size w ((w.alloc (.cells #[.int .i64 0, .int .i64 0] 31)).alloc (.cells #[.slice none 0 0] 50)) := below2 _ _
  have q6 := two_0 w (.cells #[.int .i64 0, .int .i64 0] 31) (.cells #[.slice none 0 0] 50)
  have q7 := two_1 w (.cells #[.int .i64 0, .int .i64 0] 31) (.cells #[.slice none 0 0] 50)
  have HB4 := Aside0.mk hb4
  have HQ6 := Aside0.mk q6
  have HQ7 := Aside0.mk q7
  clear hb4 q6 q7
  generalize ((w.alloc (.cells #[.int .i64 0, .int .i64 0] 31)).alloc (.cells #[.slice none 0 0] 50)) = W4 at *
  obtain ⟨b, hb⟩ : ∃ b, w.heap.size = b := ⟨_, rfl⟩
  rw [hb] at HQ6 HQ7
  rw [show (some (⟨w.heap.size, 0, none⟩ : Addr)) = some ⟨b, 0, none⟩ by rw [hb], show (some (⟨w.heap.size + 1, 0, none⟩ : Addr)) = some ⟨b + 1, 0, none⟩ by rw [hb]]
  have HBE := Aside0.mk hb
  clear hb
  have hlb : b + 1 < W4.heap.size := blk_lt HQ7.out
  have HLB := Aside0.mk hlb
  clear hlb
  have hoe : outsOf bs = (let p := getL bs (getOt bs) 100 ⟨0, 0, 0, 0⟩; let r := p.2.end_ bs.length; if r.code = 0 then (if outsRight p.1 = true then (p.1, 0, r.fat) else ([], 80, -1)) else ([], r.code, r.fat)) := rfl
  have HOV := Aside0.mk (fun (W : World) (B g : Nat) (ro : Option Nat) (hq : W.heap[b + 1]? = _) (hr : Rd W B g ro bs ⟨0, 0, 0, 0⟩) (hB : B ≤ W.heap.size) => overOuts_r hq hr hB)
  have hgl : (getL bs (getOt bs) 100 ⟨0, 0, 0, 0⟩).1.length ≤ 100 := by
    unfold getL
    rw [getN_len]
    have := rCou_range bs ⟨0, 0, 0, 0⟩ 100 (by omega)
    omega
  generalize getL bs (getOt bs) 100 ⟨0, 0, 0, 0⟩ = p at *
  obtain ⟨xs, r1⟩ := p
  unfold LRPost at HOV
  simp only at hoe HOV hgl
  have HEND := Aside0.mk (fun (W : World) (B g : Nat) (ro : Option Nat) (h : Rd W B g ro bs r1) => rEnd_calls h)
  generalize r1.end_ bs.length = r2 at *
  have HRT := Aside0.mk hoe
  clear hoe
  go_upto_region 5 with (first
    | (go_at_call 100; refine (newReader_calls A c bs _ (HR.out.below HB4.out) HBY.out hl).mono ?_; rintro e w2 ⟨g, ro, rfl, R2, hb2⟩; have HR2 := Aside0.mk (R2.below (below1 (.cells #[.pointer none, .pointer (some ⟨g, 0, none⟩)] 97))); have HG2 := Aside0.mk (And.intro R2.lt R2.base); have HBX := Aside0.mk (heap_alloc_new w2 (.cells #[.pointer none, .pointer (some ⟨g, 0, none⟩)] 97)); have HB2 := Aside0.mk (show Below W4.heap.size W4 (w2.alloc (.cells #[.pointer none, .pointer (some ⟨g, 0, none⟩)] 97)) from below_then hb2 hb2.size (below1 _)); have HG3 := Aside0.mk (show g < (w2.alloc (.cells #[.pointer none, .pointer (some ⟨g, 0, none⟩)] 97)).heap.size from (R2.below (below1 (.cells #[.pointer none, .pointer (some ⟨g, 0, none⟩)] 97))).lt); clear R2 hb2)
    | (go_at_call 73; refine (HOV.out _ _ _ _ (blk_b HQ7.out HB2.out) HR2.out HB2.out.size).mono ?_; rintro e w3 ⟨rfl, R3, ⟨v, hq3, hv3⟩, f3⟩; have HR3 := Aside0.mk R3; have HQ3 := Aside0.mk hq3; have HV3 := Aside0.mk hv3; have HF3 := Aside0.mk f3; have hx3 := f3.blk HBX.out (by have := HG2.out; have := HLB.out; omega); have c1 : _ = some (Value.pointer (some ⟨g, 0, none⟩)) := blk_cell hx3 1; clear R3 hq3 hv3 f3 hx3)
    | (go_at_call 101; refine (HEND.out _ _ _ _ HR3.out).mono ?_; rintro e w4 ⟨rfl, R4, f4⟩; have HF4 := Aside0.mk f4; clear R4 f4))
  clear c1 HBX HOV HEND
  have HWB := Aside0.mk (show Below w.heap.size w w4 from by
    have h1 := HB4.out.size
    have h2 := HB2.out.size
    have h3 := HF3.out.size
    have h5 := HG2.out.2
    exact ((below_then HB4.out h1 HB2.out).trans (HF3.out.below (by omega) (fun i hi => by rcases hi with e | e <;> (have := HBE.out; omega)))).trans (HF4.out.below (by omega) (fun i hi => by subst hi; omega)))
  have hng : ∀ k, k ≤ b + 1 → k ≠ g := fun k hk e => by have := HLB.out; have := HG2.out.2; omega
  have hq7 := HF4.out.blk HQ3.out (hng _ (by omega))
  have hq6 := HF4.out.blk (HF3.out.blk (blk_b HQ6.out HB2.out) (fun h => h.elim (hng b (by omega)) (by omega))) (hng b (by omega))
  have hv4 : RowAt encI3 52 w.heap.size w4 v xs := (HV3.out.keep HF4.out (fun k hk e => by have h1 := (HV3.out.own k hk).1; have h2 := HG3.out; omega)).from (by have := HWB.out.size; have h2 := HB2.out.size; have h3 := HLB.out; have := HBE.out; omega)
  have hvb : ∀ k, v.ownBlock = some k → b + 1 < k := fun k hk => by have h1 := (HV3.out.own k hk).1; have h2 := HB2.out.size; have h3 := HLB.out; omega
  have e7 : (#[Value.slice none 0 0] : Array Value).setIfInBounds 0 v = #[v] := rfl
  rw [e7] at hq7
  clear e7 hng HF3 HF4 HR3 HQ3 HQ6 HQ7 HR2 HB2 HG2 HG3 HB4 HLB HR HBY HV3
  obtain ⟨at_, last, code, fat⟩ := r2
  simp only at HRT ⊢
  have h5 := below1 (w := w4) (.cells #[.int .i64 code, .int .i64 fat] 31)
  have HW5 := Aside0.mk (below_then HWB.out HWB.out.size h5)
  have HV5 := Aside0.mk (hv4.below h5)
  have HVB := Aside0.mk hvb
  have g6 := blk_b hq6 h5
  have g7 := blk_b hq7 h5
  have gf := heap_alloc_new w4 (.cells #[.int .i64 code, .int .i64 fat] 31)
  have hfb : b + 1 < w4.heap.size := blk_lt hq7
  clear hq6 hq7 h5 HWB hv4 hvb
  generalize w4.alloc (.cells #[.int .i64 code, .int .i64 fat] 31) = W5 at *
  generalize w4.heap.size = f at *
  have HG := Aside0.mk (And.intro g6 (And.intro g7 gf))
  clear g6 g7 gf
  obtain ⟨AV, rfl⟩ := HV5.out.slice
  have f0 : _ = some (Value.int .i64 code) := blk_cell HG.out.2.2 0
  have f1 : _ = some (Value.int .i64 fat) := blk_cell HG.out.2.2 1
  by_cases hc : code = 0
  case neg =>
    have hcb : (code == 0) = false := beq_eq_false_iff_ne.2 hc
    have hcn : (code != 0) = true := bne_iff_ne.2 hc
    rw [if_neg hc] at HRT
    go_wp2
    have t0 : _ = some (Value.int .i64 0) := blk_cell HG.out.1 0
    have y0 := blk_frozen HG.out.1 0
    have t1 : _ = some (Value.int .i64 0) := blk_cell HG.out.1 1
    have y1 := blk_frozen HG.out.1 1
    go_region
    generalize hWE : World.drew _ = WE
    obtain ⟨l0, l1, hbl, hoth⟩ := fltFin HG.out.1 HW5.out (by have := HBE.out; omega) code fat hWE.symm
    clear hWE
    go_wp2
    refine bodyPost_ret (v := .tuple #[.slice none 0 0, .agg #[.int .i64 code, .int .i64 fat]]) (by simp [results, Try.results77, go_sem, l0, l1]) rfl ?_
    unfold outsRPost
    rw [HRT.out]
    exact ⟨_, rfl, .inl ⟨rfl, rfl⟩, hbl⟩
  case pos =>
    subst hc
    rw [if_pos rfl] at HRT
    have v0 : _ = some (Value.slice AV xs.length xs.length) := blk_cell HG.out.2.1 0
    obtain ⟨AW, eAW, hel⟩ := HV5.out.el (m := 3) (fun _ => rfl)
    injection eAW with eAW _ _
    subst eAW
    have HT := Aside0.mk (fun W (h : ElAt encI3 3 W AV xs) => rightOutages_calls AV xs.length xs W h (by omega))
    have HEL := Aside0.mk hel
    clear hel
    obtain ⟨rr, hrr⟩ : ∃ rr, outsRight xs = rr := ⟨_, rfl⟩
    cases rr with
    | true =>
      simp only [hrr, ↓reduceIte] at HT HRT
      clear hrr
      go_upto_region 7 with (go_at_call 74; refine (HT.out _ HEL.out).mono ?_; rintro e w6 ⟨rfl, hb6⟩)
      have HG6 := Aside0.mk (And.intro (blk_b HG.out.1 hb6) (And.intro (blk_b HG.out.2.1 hb6) (blk_b HG.out.2.2 hb6)))
      have HW6 := Aside0.mk (below_then HW5.out HW5.out.size hb6)
      have HV6 := Aside0.mk (HV5.out.below hb6)
      clear HG HW5 HV5 hb6 f0 f1 v0 HEL
      have f0 : _ = some (Value.int .i64 0) := blk_cell HG6.out.2.2 0
      have f1 : _ = some (Value.int .i64 fat) := blk_cell HG6.out.2.2 1
      have v0 : _ = some (Value.slice AV xs.length xs.length) := blk_cell HG6.out.2.1 0
      go_wp2
      have t0 : _ = some (Value.int .i64 0) := blk_cell HG6.out.1 0
      have y0 := blk_frozen HG6.out.1 0
      have t1 : _ = some (Value.int .i64 0) := blk_cell HG6.out.1 1
      have y1 := blk_frozen HG6.out.1 1
      go_region
      generalize hWE : World.drew _ = WE
      obtain ⟨l0, l1, hbl, hoth⟩ := fltFin HG6.out.1 HW6.out (by have := HBE.out; omega) 0 fat hWE.symm
      clear hWE
      go_wp2
      refine bodyPost_ret (v := .tuple #[.slice AV xs.length xs.length, .agg #[.int .i64 0, .int .i64 fat]]) (by simp [results, Try.results77, go_sem, l0, l1]) rfl ?_
      unfold outsRPost
      rw [HRT.out]
      exact ⟨_, rfl, HV6.out.keep hoth (fun k hk e => by have := HVB.out k hk; omega), hbl⟩
    | false =>
      simp only [hrr, ↓reduceIte, Bool.false_eq_true] at HT HRT
      clear hrr
      go_upto_region 7 with (go_at_call 74; refine (HT.out _ HEL.out).mono ?_; rintro e w6 ⟨rfl, hb6⟩)
      have HG6 := Aside0.mk (And.intro (blk_b HG.out.1 hb6) (And.intro (blk_b HG.out.2.1 hb6) (blk_b HG.out.2.2 hb6)))
      have HW6 := Aside0.mk (below_then HW5.out HW5.out.size hb6)
      clear HG HW5 HV5 hb6 f0 f1 v0 HEL
      have f0 : _ = some (Value.int .i64 0) := blk_cell HG6.out.2.2 0
      have f1 : _ = some (Value.int .i64 fat) := blk_cell HG6.out.2.2 1
      have f2 := blk_frozen HG6.out.2.2 0
      have f3 := blk_frozen HG6.out.2.2 1
      go_upto_region 9 with (fail)
      have HG7 := Aside0.mk (And.intro (blk_far (blk_far HG6.out.1 (p := ⟨f, 0, none⟩) (by show b ≠ f; omega) (.int .i64 80)) (p := ⟨f, 1, none⟩) (by show b ≠ f; omega) (.int .i64 (-1))) (blk_set (blk_set HG6.out.2.2 0 (.int .i64 80)) 1 (.int .i64 (-1))))
      have HW7 := Aside0.mk (show Below w.heap.size w ((w6.setCell ⟨f, 0, none⟩ (.int .i64 80)).setCell ⟨f, 1, none⟩ (.int .i64 (-1))) from (HW6.out.setCell (by have := HBE.out; show w.heap.size ≤ f; omega) _).setCell (by have := HBE.out; show w.heap.size ≤ f; omega) _)
      clear HG6 HW6 f0 f1 f2 f3
      generalize (w6.setCell ⟨f, 0, none⟩ (.int .i64 80)).setCell ⟨f, 1, none⟩ (.int .i64 (-1)) = w7 at *
      have f0 : w7.cell? ⟨f, 0, none⟩ = some (Value.int .i64 80) := (blk_cell HG7.out.2 0).trans (by simp)
      have f1 : w7.cell? ⟨f, 1, none⟩ = some (Value.int .i64 (-1)) := (blk_cell HG7.out.2 1).trans (by simp)
      go_wp2
      have t0 : _ = some (Value.int .i64 0) := blk_cell HG7.out.1 0
      have y0 := blk_frozen HG7.out.1 0
      have t1 : _ = some (Value.int .i64 0) := blk_cell HG7.out.1 1
      have y1 := blk_frozen HG7.out.1 1
      go_region
      generalize hWE : World.drew _ = WE
      obtain ⟨l0, l1, hbl, hoth⟩ := fltFin HG7.out.1 HW7.out (by have := HBE.out; omega) 80 (-1) hWE.symm
      clear hWE
      go_wp2
      refine bodyPost_ret (v := .tuple #[.slice none 0 0, .agg #[.int .i64 80, .int .i64 (-1)]]) (by simp [results, Try.results77, go_sem, l0, l1]) rfl ?_
      unfold outsRPost
      rw [HRT.out]
      exact ⟨_, rfl, .inl ⟨rfl, rfl⟩, hbl⟩
set_option maxHeartbeats 8000000 in
set_option maxRecDepth 100000 in
theorem recReadOuts_calls (A : Option Addr) (c : Nat) (bs : List Int) (w : World) (hr : ReadsInt w .u8 A bs.length bs) (hby : Bytes bs) (hl : bs.length ≤ 140737488355328) :
    Calls Try.prog 31 #[.slice A bs.length c] w (outsRPost bs w) := by
  have hb2 : Below w.heap.size w (w.alloc (.cells #[.int .i64 0, .int .i64 0] 31)) := below1 _
  have HC := Aside0.mk (takenOuts_calls A c bs _ (hr.below hb2) hby hl)
  have HQ7 := Aside0.mk (heap_alloc_new w (.cells #[.int .i64 0, .int .i64 0] 31))
  have HB2 := Aside0.mk hb2
  obtain ⟨⟨xs, c0, c1⟩, hp⟩ : ∃ p, outsOf bs = p := ⟨_, rfl⟩
  unfold outsRPost at HC ⊢
  rw [hp] at HC ⊢
  simp only at HC ⊢
  clear hb2 hr hby hp
  go_enter Try.func31, Try.ntmps31
  go_wp2_with (go_at_call 77; refine HC.out.mono ?_; rintro e w1 ⟨v, rfl, hv, hb1⟩; obtain ⟨AV, rfl⟩ := hv.slice; have HV := Aside0.mk hv; have HW1 := Aside0.mk (below_then HB2.out HB2.out.size hb1); have g7 := blk_b HQ7.out hb1; have HG7 := Aside0.mk g7; have t0 : _ = some (Value.int .i64 0) := blk_cell g7 0; have y0 := blk_frozen g7 0; have t1 : _ = some (Value.int .i64 0) := blk_cell g7 1; have y1 := blk_frozen g7 1; clear hv hb1 g7)
  clear t0 t1 y0 y1
  obtain ⟨l0, l1, hbl, hoth⟩ := fltFin' HG7.out HW1.out (Nat.le_refl _) c0 c1 rfl
  generalize (w1.setCell ⟨w.heap.size, 0, none⟩ (.int .i64 c0)).setCell ⟨w.heap.size, 1, none⟩ (.int .i64 c1) = WE at *
  refine bodyPost_ret (v := .tuple #[.slice AV xs.length xs.length, .agg #[.int .i64 c0, .int .i64 c1]]) (by simp [results, Try.results31, go_sem, l0, l1]) rfl ?_
  exact ⟨_, rfl, (HV.out.keep hoth (fun k hk e => by have h1 := (HV.out.own k hk).1; have h2 : w.heap.size < (w.alloc (.cells #[.int .i64 0, .int .i64 0] 31)).heap.size := blk_lt HQ7.out; omega)).from HB2.out.size, hbl⟩
end Go.Proofs.Ytgmbfecfkdbfaaa.Wi
/- The document's outages as bytes. -/
set_option linter.unusedVariables false
set_option linter.unusedSimpArgs false
namespace Go.Proofs.Ytgmbfecfkdbfaaa.Wi
open Go Go.RowKit Go.Proofs.YtgmbfecfkdbfaaaW.PrintWords
def outsFPost (xs : List I3) (w : World) (e : Ending) (w' : World) : Prop := ∃ A c, e = .returned (.tuple #[.slice A (outsOut xs).length c, .int .i64 (outsErr xs)]) ∧ ReadsInt w' .u8 A (outsOut xs).length (outsOut xs) ∧ Below w.heap.size w w'
set_option maxHeartbeats 8000000 in
set_option maxRecDepth 100000 in
theorem refOuts_calls (xs : List I3) (A : Option Addr) (cA : Nat) (w : World) (hx : ElAt encI3 3 w A xs) (hok : ∀ x ∈ xs, I3.Ok x) :
    Calls Try.prog 30 #[.slice A xs.length cA] w (outsFPost xs w) := by
  have HT := Aside0.mk (rOutRight_calls A cA xs w hx)
  have HX := Aside0.mk hx
  have HLT := Aside0.mk (hx.lt (fun _ => by simp [encI3]))
  have HOK := Aside0.mk hok
  unfold outsFPost
  cases hr : outsRight xs with
  | false =>
    have HO : Aside0 (outsOut xs = [] ∧ outsErr xs = 80) := ⟨by simp [outsOut, outsErr, hr]⟩
    rw [hr] at HT
    rw [HO.out.1, HO.out.2]
    clear hr hx hok
    go_enter Try.func30, Try.ntmps30
    go_wp2_with (go_at_call 75; refine HT.out.mono ?_; rintro e w1 ⟨rfl, hb1⟩)
    go_ret2
    exact ⟨none, 0, rfl, ⟨rfl, by simp, fun h => absurd h (by simp)⟩, hb1⟩
  | true =>
    have hn := outsRight_len hr
    have HO : Aside0 (outsOut xs = (outsPut xs).out ∧ outsErr xs = (outsPut xs).err) := ⟨by simp [outsOut, outsErr, hr]⟩
    have HPL := Aside0.mk (fun kk => foldl_len (put := putOt) putOt_len (xs.take kk) ((⟨[], false⟩ : WS).put (pNumber xs.length 2)))
    have HTL := Aside0.mk (fun kk => (by rw [List.length_take]; omega : (xs.take kk).length ≤ 1000))
    have HPN := Aside0.mk (show ((⟨[], false⟩ : WS).put (pNumber xs.length 2)).xs.length ≤ 65537 from by
      have h1 := putNum_len (⟨[], false⟩ : WS) xs.length 2
      have h2 : (⟨[], false⟩ : WS).xs.length = 0 := rfl
      omega)
    rw [hr] at HT
    rw [HO.out.1, HO.out.2]
    unfold outsPut putL
    clear hr HO hx hok
    go_enter Try.func30, Try.ntmps30
    go_upto_region 5 with (go_at_call 75; refine HT.out.mono ?_; rintro e w1 ⟨rfl, hb1⟩; have HB1 := Aside0.mk hb1; clear hb1)
    have hb3 := below1 (w := w1) (.cells #[.slice none 0 0, .bool false] 81)
    have qw := heap_alloc_new w1 (.cells #[.slice none 0 0, .bool false] 81)
    have HX1 := Aside0.mk ((HX.out.below HB1.out).below hb3)
    have H0 := Aside0.mk (show OV (w1.alloc (.cells #[.slice none 0 0, .bool false] 81)) (w1.alloc (.cells #[.slice none 0 0, .bool false] 81)) w1.heap.size w1.heap.size none ⟨[], false⟩ from ⟨hb3.size, none, ⟨⟨_, qw, own_nil _ _ _ _, rfl⟩, Nat.le_refl _⟩, .inl rfl, Fr.refl _ _⟩)
    have HW1 := Aside0.mk (below_then HB1.out HB1.out.size hb3)
    have HGE := Aside0.mk HB1.out.size
    clear hb3 qw HB1
    generalize w1.alloc (.cells #[.slice none 0 0, .bool false] 81) = W1 at *
    generalize w1.heap.size = g at *
    have HEL : Aside0 (∀ W, Fr (WrS g none) W1 W → ElAt encI3 3 W A xs) := ⟨fun W hf => HX1.out.keep hf (fun ad e h hs => hs.elim (fun e' => by have := HLT.out ad e h; have := HGE.out; omega) (fun e' => nomatch e'))⟩
    go_wp2_with (go_at_call 76; refine (OV.call H0.out (fun ro hw hB => vCount_calls (xs.length : Int) (by omega) hw hB (by have := HPN.out; omega))).mono ?_; rintro e w2 ⟨rfl, H1'⟩; have H1 := Aside0.mk H1'; clear H1')
    generalize hs1 : (⟨[], false⟩ : WS).put (pNumber (xs.length : Int) 2) = s1 at *
    have HS1 := Aside0.mk hs1
    clear hs1
    go_loopg [6] xs.length (fun gg s6 wr => ∃ (kk : Nat), kk ≤ xs.length ∧ xs.length - kk ≤ gg ∧ s6 = .int .i64 kk ∧ Aside0 (OV W1 wr g g none ((xs.take kk).foldl putOt s1)))
    case atStart => exact ⟨0, by omega, by omega, rfl, H1⟩
    case round =>
      obtain ⟨kk, hkk, hgg, rfl, H0⟩ := hrel
      clear H1
      by_cases hlt : kk < xs.length
      · have hltz : (kk : Int) < (xs.length : Int) := by omega
        obtain ⟨ad, rfl, c0, c1, c2⟩ := el3 (HEL.out _ H0.out.fr) kk hlt
        have hfl : ((xs.take kk).foldl putOt s1).xs.length ≤ 90000000000 := by
          have h1 := HPN.out
          have h3 := HPL.out kk
          have h2 := Nat.mul_le_mul_right 400000 (HTL.out kk)
          omega
        have HSN := Aside0.mk (fold_snoc (put := putOt) s1 xs kk hlt)
        have hok := HOK.out xs[kk] (List.getElem_mem hlt)
        have HK : Aside0 (∀ W, Fr (WrS g none) W1 W → W.cell? (ad.add (kk * 3)) = some (.int .i64 xs[kk].a) ∧ W.cell? ⟨(ad.add (kk * 3)).block, (ad.add (kk * 3)).off + 1, none⟩ = some (.int .i64 xs[kk].b) ∧ W.cell? ⟨(ad.add (kk * 3)).block, (ad.add (kk * 3)).off + 2, none⟩ = some (.int .i64 xs[kk].c)) := ⟨fun W hf => by
          obtain ⟨ad', e', h⟩ := el3 (HEL.out W hf) kk hlt
          obtain rfl := Option.some.inj e'
          exact h⟩
        generalize xs[kk] = x at *
        obtain ⟨⟨_, ha⟩, ⟨_, hb⟩, ⟨_, hc⟩⟩ := hok
        obtain ⟨a, b, c⟩ := x
        generalize (xs.take kk).foldl putOt s1 = s2 at *
        simp only at c0 c1 c2 ha hb hc HSN HK
        have L0 := putNum_len s2 a 2
        have L1 := putNum_len (s2.put (pNumber a 2)) b 4
        have L2 := putNum_len ((s2.put (pNumber a 2)).put (pNumber b 4)) c 4
        have HL := Aside0.mk (And.intro hfl (And.intro L0 (And.intro L1 L2)))
        clear hfl L0 L1 L2
        go_wp2_with (go_at_call 43; first | ((with_reducible refine (OV.call H0.out (fun ro hw hB => vNumber_calls a 2 ha hw hB (by have := HL.out; omega))).mono ?_); rintro e v1 ⟨rfl, H1'⟩; have H1 := Aside0.mk H1'; have q1 := HK.out _ H1'.fr; obtain ⟨c0, c1, c2⟩ := q1; clear H1') | ((with_reducible refine (OV.call H1.out (fun ro hw hB => vNumber_calls b 4 hb hw hB (by have := HL.out; omega))).mono ?_); rintro e v2 ⟨rfl, H2'⟩; have H2 := Aside0.mk H2'; have q2 := HK.out _ H2'.fr; obtain ⟨c0, c1, c2⟩ := q2; clear H2') | ((with_reducible refine (OV.call H2.out (fun ro hw hB => vNumber_calls c 4 hc hw hB (by have := HL.out; omega))).mono ?_); rintro e v3 ⟨rfl, H3'⟩; have H3 := Aside0.mk H3'; have q3 := HK.out _ H3'.fr; obtain ⟨c0, c1, c2⟩ := q3; clear H3'))
        go_roundg (xs.length - (kk + 1))
        case measure => omega
        case rel => exact ⟨kk + 1, by omega, by omega, by go_num, ⟨by rw [HSN.out]; exact H3.out⟩⟩
      · have hltz : ¬ (kk : Int) < (xs.length : Int) := by omega
        have hke : xs.take kk = xs := List.take_of_length_le (by omega)
        have hfl := HPL.out kk
        rw [hke] at H0 hfl
        have HFL := Aside0.mk (show (xs.foldl putOt s1).xs.length ≤ 140737488355328 from by
          have h1 := HPN.out
          have h2 : xs.length * 400000 ≤ 1000 * 400000 := Nat.mul_le_mul_right 400000 (by omega)
          omega)
        clear hke hfl
        go_wp2_with (go_at_call 56; refine (vBytes_calls H0.out.2.choose_spec.1 HFL.out).mono ?_; rintro e wf ⟨Av, cv, rfl, hrv, hb⟩; have HBF := Aside0.mk hb; have HRV := Aside0.mk hrv; clear hb hrv)
        go_ret2
        have hbw := HW1.out.trans (H0.out.fr.below HW1.out.size (fun i hi => hi.elim (fun e => by subst e; exact HGE.out) (fun e => nomatch e)))
        rw [HS1.out]
        exact ⟨Av, cv, rfl, HRV.out, below_then hbw hbw.size HBF.out⟩
end Go.Proofs.Ytgmbfecfkdbfaaa.Wi
/- The document's outages out of bytes. -/
set_option linter.unusedVariables false
set_option linter.unusedSimpArgs false
namespace Go.Proofs.Ytgmbfecfkdbfaaa.Wi
open Go Go.RowKit Go.Proofs.YtgmbfecfkdbfaaaW.PrintWords
/-- the document's reader and what it has laid down -/
structure OXT (W1 W : World) (gx bt : Nat) (T : TypeId) (A : Option Addr) (c : Nat) (bs : List Int) (cs : Array Value) (r : RS) : Prop where
  xr : XR W gx A c bs r
  blk : W.heap[bt]? = some (.cells cs T (0, 0))
  fr : Fr (fun i => i = gx ∨ i = bt) W1 W
theorem OXT.step {W1 W W' : World} {gx bt : Nat} {T : TypeId} {A : Option Addr} {c : Nat} {bs : List Int} {cs cs' : Array Value} {r r' : RS} (h : OXT W1 W gx bt T A c bs cs r) (hx : XR W' gx A c bs r') (hf : Fr (fun i => i = gx) W W') (k : Nat) (u : Value) (hfb : bt ≠ gx ∧ ∀ ad, A = some ad → 0 < bs.length → ad.block ≠ bt) (e : cs.setIfInBounds k u = cs') : OXT W1 (W'.setCell ⟨bt, k, none⟩ u) gx bt T A c bs cs' r' := by
  have hq := hf.blk h.blk hfb.1
  exact ⟨hx.far_ hfb.1 hfb.2 k u, blk_put hq k u e, ((h.fr.trans (hf.mono (S' := fun i => i = gx ∨ i = bt) (fun i _ h => .inl h)) (fun _ _ h => h))).set_ (p := ⟨bt, k, none⟩) (.inl (.inr rfl)) u⟩
theorem XR.fr_ {w w' : World} {gx : Nat} {A : Option Addr} {c : Nat} {bs : List Int} {r : RS} {S : Nat → Prop} (h : XR w gx A c bs r) (hf : Fr S w w') (hg : ¬ S gx) (hA : ∀ ad, A = some ad → 0 < bs.length → ¬ S ad.block) : XR w' gx A c bs r := by
  refine ⟨hf.blk h.blk hg, ⟨h.rd_.1, h.rd_.2.1, fun hn => ?_⟩, h.far, h.le, h.len, h.byt, h.cap⟩
  obtain ⟨ad, e, hc⟩ := h.rd_.2.2 hn
  refine ⟨ad, e, fun j hj => ?_⟩
  have h1 := hc j hj
  have hb := World.block_lt_of_cell? w _ h1
  rw [add_block] at hb
  rw [World.cell?_of_block (w := w) (by rw [add_block]; exact hf.block _ hb (hA ad e hn))]
  exact h1
def outsEPost (bs : List Int) (w : World) (e : Ending) (w' : World) : Prop := ∃ A c, e = .returned (.tuple #[.slice A (outsOf bs).1.length c, .agg #[.int .i64 (outsOf bs).2.1, .int .i64 (outsOf bs).2.2]]) ∧ ElAt encI3 3 w' A (outsOf bs).1 ∧ Below w.heap.size w w'
set_option maxHeartbeats 8000000 in
set_option maxRecDepth 100000 in
theorem refReadOuts_calls (A : Option Addr) (c : Nat) (bs : List Int) (w : World) (hr : ReadsInt w .u8 A bs.length bs) (hc : bs.length ≤ c) (hby : Bytes bs) (hl : bs.length ≤ 140737488355328) :
    Calls Try.prog 32 #[.slice A bs.length c] w (outsEPost bs w) := by
  have hb2 : Below w.heap.size w ((w.alloc (.cells #[.int .i64 0, .int .i64 0] 31)).alloc (.cells #[.slice A bs.length c, .int .i64 0, .int .i64 0, .int .i64 0, .int .i64 0] 89)) := below2 _ _
  have hfar : ∀ ad, A = some ad → 0 < bs.length → ad.block < w.heap.size := fun ad ea hn => by
    obtain ⟨ad', e', hcell⟩ := hr.2.2 hn
    rw [ea] at e'
    obtain rfl := Option.some.inj e'
    have := World.block_lt_of_cell? w _ (hcell 0 hn)
    rwa [add_block] at this
  have HFAR := Aside0.mk hfar
  have HQF := Aside0.mk (two_0 w (.cells #[.int .i64 0, .int .i64 0] 31) (.cells #[.slice A bs.length c, .int .i64 0, .int .i64 0, .int .i64 0, .int .i64 0] 89))
  have HXR := Aside0.mk (show XR ((w.alloc (.cells #[.int .i64 0, .int .i64 0] 31)).alloc (.cells #[.slice A bs.length c, .int .i64 0, .int .i64 0, .int .i64 0, .int .i64 0] 89)) (w.heap.size + 1) A c bs ⟨0, 0, 0, 0⟩ from ⟨two_1 w (.cells #[.int .i64 0, .int .i64 0] 31) (.cells #[.slice A bs.length c, .int .i64 0, .int .i64 0, .int .i64 0, .int .i64 0] 89), hr.below hb2, fun ad ea hn => by have := hfar ad ea hn; omega, Nat.zero_le _, hl, hby, hc⟩)
  have HB2 := Aside0.mk hb2
  have hoe : outsOf bs = (let p := getL bs (getOt bs) 100 ⟨0, 0, 0, 0⟩; let r := p.2.end_ bs.length; if r.code = 0 then (if outsRight p.1 = true then (p.1, 0, r.fat) else ([], 80, -1)) else ([], r.code, r.fat)) := rfl
  have HOE := Aside0.mk hoe
  have HRG := rCou_range bs ⟨0, 0, 0, 0⟩ 100 (by omega)
  unfold getL at HOE
  obtain ⟨⟨n, r1⟩, hp⟩ : ∃ p, rCou bs ⟨0, 0, 0, 0⟩ 100 = p := ⟨_, rfl⟩
  have CC := Aside0.mk (fun (W : World) (h : XR W (w.heap.size + 1) A c bs ⟨0, 0, 0, 0⟩) => xCou_calls 100 h)
  rw [hp] at CC HRG HOE
  simp only at CC HRG HOE
  obtain ⟨nn, hnn⟩ : ∃ nn : Nat, n = (nn : Int) := ⟨n.toNat, by omega⟩
  subst hnn
  rw [Int.toNat_natCast] at HOE
  have hn : nn ≤ 100 := by omega
  clear hoe hb2 hfar hr hby hp HRG
  go_enter Try.func32, Try.ntmps32
  go_upto_region 2 with (fail)
  obtain ⟨b, hb⟩ : ∃ b, w.heap.size = b := ⟨_, rfl⟩
  have HBE := Aside0.mk hb
  rw [hb] at HQF HXR CC
  rw [show (some (⟨w.heap.size, 0, none⟩ : Addr)) = some ⟨b, 0, none⟩ by rw [hb], show (some (⟨w.heap.size + 1, 0, none⟩ : Addr)) = some ⟨b + 1, 0, none⟩ by rw [hb]]
  clear hb
  generalize (w.alloc (.cells #[.int .i64 0, .int .i64 0] 31)).alloc (.cells #[.slice A bs.length c, .int .i64 0, .int .i64 0, .int .i64 0, .int .i64 0] 89) = W2 at *
  go_wp2_with (go_at_call 78; refine (CC.out _ HXR.out).mono ?_; rintro e w2 ⟨rfl, x2, f2⟩; have HX2 := Aside0.mk x2; have HF2 := Aside0.mk f2; clear x2 f2)
  have HQ2 := Aside0.mk (HF2.out.blk HQF.out (by omega))
  have HW2 := Aside0.mk (show Below w.heap.size w w2 from HB2.out.trans (HF2.out.below HB2.out.size (fun i hi => by have := HBE.out; omega)))
  clear HXR HF2 HQF CC HB2
  go_loopg [6, 7, 8] nn (fun gg s6 s7 s8 wr => ∃ (kk : Nat) (v : Value), kk ≤ nn ∧ nn - kk ≤ gg ∧ s7 = .int .i64 kk ∧ v = s6 ∧ Aside0 (XR wr (b + 1) A c bs (getN (getOt bs) kk r1).2) ∧ Aside0 (wr.ownsRow (b + 2) 52 3 v (getN (getOt bs) kk r1).1.length ((getN (getOt bs) kk r1).1.flatMap encI3)) ∧ Aside0 (wr.heap[b]? = some (.cells #[.int .i64 0, .int .i64 0] 31 (0, 0))) ∧ Aside0 (Below w.heap.size w wr))
  case atStart => exact ⟨0, .slice none 0 0, by omega, by omega, rfl, rfl, HX2, ⟨own_nil _ _ _ _⟩, HQ2, HW2⟩
  case round =>
    obtain ⟨kk, v, hkk, hgg, rfl, rfl, HX3, HO3, HQ3, HW3⟩ := hrel
    clear HX2 HQ2 HW2
    by_cases hlt : kk < nn
    · have hltz : (kk : Int) < (nn : Int) := by omega
      have hlen := getN_len (getOt bs) kk r1
      have HGN : Aside0 (getN (getOt bs) (kk + 1) r1 = ((getN (getOt bs) kk r1).1 ++ [(getOt bs (getN (getOt bs) kk r1).2).1], (getOt bs (getN (getOt bs) kk r1).2).2)) := ⟨rfl⟩
      generalize getN (getOt bs) kk r1 = q at *
      obtain ⟨ys, q0⟩ := q
      simp only at HX3 HO3 HGN hlen
      have HLN := Aside0.mk hlen
      clear hlen
      obtain ⟨⟨ma, q1⟩, e0⟩ : ∃ p, rNum bs q0 2 = p := ⟨_, rfl⟩
      obtain ⟨⟨mb, q2⟩, e1⟩ : ∃ p, rNum bs q1 4 = p := ⟨_, rfl⟩
      obtain ⟨⟨mc, q3⟩, e2⟩ : ∃ p, rNum bs q2 4 = p := ⟨_, rfl⟩
      have HGT : Aside0 (getOt bs q0 = (⟨ma, mb, mc⟩, q3)) := ⟨by simp [getOt, e0, e1, e2]⟩
      have C0 := Aside0.mk (fun (W : World) (h : XR W (b + 1) A c bs q0) => xNum_calls 2 h)
      have C1 := Aside0.mk (fun (W : World) (h : XR W (b + 1) A c bs q1) => xNum_calls 4 h)
      have C2 := Aside0.mk (fun (W : World) (h : XR W (b + 1) A c bs q2) => xNum_calls 4 h)
      rw [e0] at C0
      rw [e1] at C1
      rw [e2] at C2
      simp only at C0 C1 C2
      have hbig : b + 1 < wr.heap.size := blk_lt HX3.out.blk
      have hbw := below1 (w := wr) (.cells #[.int .i64 0, .int .i64 0, .int .i64 0] 52)
      have H0 := Aside0.mk (show OXT (wr.alloc (.cells #[.int .i64 0, .int .i64 0, .int .i64 0] 52)) (wr.alloc (.cells #[.int .i64 0, .int .i64 0, .int .i64 0] 52)) (b + 1) wr.heap.size 52 A c bs #[.int .i64 0, .int .i64 0, .int .i64 0] q0 from ⟨HX3.out.below hbw, heap_alloc_new wr _, Fr.refl _ _⟩)
      have HFB : Aside0 (wr.heap.size ≠ b + 1 ∧ ∀ ad, A = some ad → 0 < bs.length → ad.block ≠ wr.heap.size) := ⟨⟨by omega, fun ad ea hn => by have := HFAR.out ad ea hn; have := HBE.out; omega⟩⟩
      have HNE : Aside0 (wr.heap.size ≠ b + 1) := ⟨by omega⟩
      have HOL := Aside0.mk (own_lt HO3.out)
      have HOB := Aside0.mk (own_base HO3.out)
      have HO4 := Aside0.mk ((Fr.of_below (S := fun _ => False) hbw).own HO3.out (fun _ _ h => h))
      have HQ4 := Aside0.mk (blk_b HQ3.out hbw)
      have HW4 := Aside0.mk (below_then HW3.out HW3.out.size hbw)
      have HLB := Aside0.mk hbw.size
      obtain ⟨Av, cv, hv⟩ : ∃ Av cv, v = .slice Av ys.length cv := by
        obtain ⟨Av, cv, e, _⟩ := owns_el HO3.out (fun _ => rfl)
        exact ⟨Av, cv, e⟩
      subst hv
      clear e0 e1 e2 hbw HX3 HO3 HQ3 HW3
      go_upto_region 8 with (fail)
      generalize wr.alloc (.cells #[.int .i64 0, .int .i64 0, .int .i64 0] 52) = W0 at *
      obtain ⟨bt, hbt⟩ : ∃ bt, wr.heap.size = bt := ⟨_, rfl⟩
      rw [hbt] at H0 HFB HNE hbig HOL HLB
      rw [show (some (⟨wr.heap.size, 0, none⟩ : Addr)) = some ⟨bt, 0, none⟩ by rw [hbt]]
      clear hbt
      go_upto_region 11 with (go_at_call 48; first | ((with_reducible refine (C0.out _ H0.out.xr).mono ?_); rintro e w1 ⟨rfl, x1, f1⟩; have H1 := Aside0.mk (show OXT W0 (w1.setCell ⟨bt, 0, none⟩ (.int .i64 ma)) (b + 1) bt 52 A c bs #[.int .i64 ma, .int .i64 0, .int .i64 0] q1 from OXT.step H0.out x1 f1 0 (.int .i64 ma) HFB.out rfl); have qq1 := f1.blk H0.out.blk HNE.out; have cc1 := (blk_cell qq1 0).trans rfl; have zz1 := blk_frozen qq1 0; clear x1 f1 qq1) | ((with_reducible refine (C1.out _ H1.out.xr).mono ?_); rintro e w2 ⟨rfl, x2, f2⟩; have H2 := Aside0.mk (show OXT W0 (w2.setCell ⟨bt, 1, none⟩ (.int .i64 mb)) (b + 1) bt 52 A c bs #[.int .i64 ma, .int .i64 mb, .int .i64 0] q2 from OXT.step H1.out x2 f2 1 (.int .i64 mb) HFB.out rfl); have qq2 := f2.blk H1.out.blk HNE.out; have cc2 := (blk_cell qq2 1).trans rfl; have zz2 := blk_frozen qq2 1; clear x2 f2 qq2) | ((with_reducible refine (C2.out _ H2.out.xr).mono ?_); rintro e w3 ⟨rfl, x3, f3⟩; have H3 := Aside0.mk (show OXT W0 (w3.setCell ⟨bt, 2, none⟩ (.int .i64 mc)) (b + 1) bt 52 A c bs #[.int .i64 ma, .int .i64 mb, .int .i64 mc] q3 from OXT.step H2.out x3 f3 2 (.int .i64 mc) HFB.out rfl); have qq3 := f3.blk H2.out.blk HNE.out; have cc3 := (blk_cell qq3 2).trans rfl; have zz3 := blk_frozen qq3 2; clear x3 f3 qq3))
      generalize w3.setCell ⟨bt, 2, none⟩ (.int .i64 mc) = W3 at H3 ⊢
      have HO5 := Aside0.mk (H3.out.fr.own HO4.out (fun k hk e => by have h1 := HOB.out k hk; have h2 := HOL.out k hk; omega))
      have HQ5 := Aside0.mk (H3.out.fr.blk HQ4.out (by omega))
      have HW5 := Aside0.mk (HW4.out.trans (H3.out.fr.below HW4.out.size (fun i hi => by have := HBE.out; omega)))
      have x0 : _ = some (Value.int .i64 ma) := blk_cell H3.out.blk 0
      have x1 : _ = some (Value.int .i64 mb) := blk_cell H3.out.blk 1
      have x2 : _ = some (Value.int .i64 mc) := blk_cell H3.out.blk 2
      have hb6 := below1 (w := W3) (.cells #[.int .i64 ma, .int .i64 mb, .int .i64 mc] 52)
      have HX6 := Aside0.mk (H3.out.xr.below hb6)
      have HO6 := Aside0.mk ((Fr.of_below (S := fun _ => False) hb6).own HO5.out (fun _ _ h => h))
      have HQ6 := Aside0.mk (blk_b HQ5.out hb6)
      have HW6 := Aside0.mk (below_then HW5.out HW5.out.size hb6)
      have HE6 := Aside0.mk (show ElAt encI3 3 (W3.alloc (.cells #[.int .i64 ma, .int .i64 mb, .int .i64 mc] 52)) (some ⟨W3.heap.size, 0, none⟩) [(⟨ma, mb, mc⟩ : I3)] from fun i hi => by
        obtain rfl : i = 0 := by simp at hi; exact hi
        refine ⟨_, rfl, fun j u hu => ?_⟩
        rw [addz_, blk_cell (heap_alloc_new W3 _), ← hu]
        simp [encI3])
      have HLB6 := Aside0.mk (show b + 2 ≤ (W3.alloc (.cells #[.int .i64 ma, .int .i64 mb, .int .i64 mc] 52)).heap.size from by have h1 := hb6.size; have h2 := H3.out.fr.size; have h3 := HLB.out; omega)
      clear H0 H1 H2 H3 HO4 HO5 HQ4 HQ5 HW4 HW5 C0 C1 C2 hb6 HOL HOB HLB
      go_wp2_with (at_builtin; refine wpList_append_els (enc := encI3) (b + 2) rfl _ (.tmp 32) 50 52 _ 3 24 rfl (fun _ => rfl) one_I3 Try.underlying50 infoOt (by decide) (by decide) (by decide) (.slice Av ys.length cv) ys [(⟨ma, mb, mc⟩ : I3)] (some ⟨W3.heap.size, 0, none⟩) 1 1 rfl (by rfl) (by rfl) HO6.out HE6.out HLB6.out (by have := HLN.out; simp; omega) ?_; intro v1 w7 ho7 hg7 hat7; have HO7 := Aside0.mk ho7; have HG7 := Aside0.mk hg7; have HAT7 := Aside0.mk hat7; clear ho7 hg7 hat7)
      have hrow : ∀ k, (Value.slice Av ys.length cv).ownBlock = some k → b + 2 ≤ k := fun k hk => own_base HO6.out k hk
      have hfg := (Fr.refl (fun i => (Value.slice Av ys.length cv).ownBlock = some i) (W3.alloc (.cells #[.int .i64 ma, .int .i64 mb, .int .i64 mc] 52))).grown HG7.out (fun k hk => .inl hk)
      have HX7 := Aside0.mk (HX6.out.fr_ hfg (fun h => by have := hrow _ h; omega) (fun ad ea hn h => by have := hrow _ h; have := HFAR.out ad ea hn; have := HBE.out; omega))
      have HQ7 := Aside0.mk (hfg.blk HQ6.out (fun h => by have := hrow _ h; omega))
      have HW7 := Aside0.mk (HW6.out.trans (hfg.below HW6.out.size (fun i hi => by have := hrow _ hi; have := HBE.out; omega)))
      clear hrow hfg HX6 HQ6 HW6 HG7 HO6 HE6
      go_roundg (nn - (kk + 1))
      case measure => omega
      case rel => exact ⟨kk + 1, _, by omega, by omega, by go_num, rfl, ⟨by rw [HGN.out, HGT.out]; exact HX7.out⟩, ⟨by rw [HGN.out, HGT.out]; exact HO7.out⟩, HQ7, HW7⟩
    · have hltz : ¬ (kk : Int) < (nn : Int) := by omega
      obtain rfl : kk = nn := by omega
      have hlen := getN_len (getOt bs) kk r1
      generalize getN (getOt bs) kk r1 = q at *
      obtain ⟨ys, q0⟩ := q
      simp only at HX3 HO3 HOE hlen
      clear hlen
      obtain ⟨Av, cv, hv, hcvl, hel⟩ := owns_el HO3.out (fun _ => rfl)
      subst hv
      have HEL := Aside0.mk hel
      have hoe := HOE.out
      obtain ⟨rr, hrr⟩ : ∃ rr, outsRight ys = rr := ⟨_, rfl⟩
      obtain ⟨⟨code, fat⟩, hec⟩ : ∃ p, endC q0 bs.length rr = p := ⟨_, rfl⟩
      have HRT0 : Aside0 (outsOf bs = if code = 0 then (ys, code, fat) else ([], code, fat)) := ⟨by
        rw [hoe, hrr]
        unfold endC at hec
        cases rr with
        | true =>
          rw [if_neg (by simp)] at hec
          injection hec with e1 e2
          by_cases h0 : code = 0
          · rw [if_pos h0, if_pos (by rw [e1, h0]), if_pos rfl, e2, h0]
          · rw [if_neg h0, if_neg (by rw [e1]; exact h0), e1, e2]
        | false =>
          by_cases h1 : (q0.end_ bs.length).code = 0
          · rw [if_pos ⟨h1, rfl⟩] at hec
            injection hec with e1 e2
            subst e1 e2
            rw [if_pos h1]
            simp
          · rw [if_neg (fun h => h1 h.1)] at hec
            injection hec with e1 e2
            rw [if_neg h1, if_neg (by rw [← e1]; exact h1), e1, e2]⟩
      have HEC := Aside0.mk (fun (W : World) (h : XR W (b + 1) A c bs q0) => ended_calls rr h)
      rw [hec] at HEC
      have HT := Aside0.mk (fun (W : World) (h : ElAt encI3 3 W Av ys) => rOutRight_calls Av cv ys W h)
      rw [hrr] at HT
      simp only at HEC
      have HAV := Aside0.mk (show ∀ ad, Av = some ad → 0 < ys.length → b + 2 ≤ ad.block from fun ad e h => own_base HO3.out _ (by rw [e]; rfl))
      clear hoe hrr hec HOE hel hcvl
      go_upto_region 13 with (first
        | (go_at_call 75; refine (HT.out _ HEL.out).mono ?_; rintro e w7 ⟨rfl, hb7⟩; have HB7 := Aside0.mk hb7; clear hb7)
        | (go_at_call 50; refine (HEC.out _ (HX3.out.below HB7.out)).mono ?_; rintro e w8 ⟨rfl, x8, f8⟩; have HF8 := Aside0.mk f8; clear x8 f8))
      have hb9 := below1 (w := w8) (.cells #[.int .i64 code, .int .i64 fat] 31)
      have HG := Aside0.mk (And.intro (blk_b (HF8.out.blk (blk_b HQ3.out HB7.out) (by omega)) hb9) (heap_alloc_new w8 (.cells #[.int .i64 code, .int .i64 fat] 31)))
      have HW9 := Aside0.mk (show Below w.heap.size w (w8.alloc (.cells #[.int .i64 code, .int .i64 fat] 31)) from by
        have h7 := below_then HW3.out HW3.out.size HB7.out
        have h8 := h7.trans (HF8.out.below h7.size (fun i hi => by have := HBE.out; omega))
        exact below_then h8 h8.size hb9)
      have HE9 := Aside0.mk (((HEL.out.below HB7.out).keep HF8.out (fun ad e h hs => by have := HAV.out ad e h; omega)).below hb9)
      have hgf : b + 1 < w8.heap.size := by have h1 := blk_lt HX3.out.blk; have h2 := HB7.out.size; have h3 := HF8.out.size; omega
      clear hb9 HF8 HB7 HQ3 HW3 HX3 HO3 HEL HT HEC
      generalize w8.alloc (.cells #[.int .i64 code, .int .i64 fat] 31) = w9 at *
      generalize w8.heap.size = gf at *
      have f0 : _ = some (Value.int .i64 code) := blk_cell HG.out.2 0
      have f1 : _ = some (Value.int .i64 fat) := blk_cell HG.out.2 1
      by_cases hc0 : code = 0
      case neg =>
        have hcn : (code != 0) = true := bne_iff_ne.2 hc0
        have HRT : Aside0 (outsOf bs = ([], code, fat)) := ⟨by rw [HRT0.out, if_neg hc0]⟩
        clear HRT0 hc0
        go_wp2
        have t0 : _ = some (Value.int .i64 0) := blk_cell HG.out.1 0
        have y0 := blk_frozen HG.out.1 0
        have t1 : _ = some (Value.int .i64 0) := blk_cell HG.out.1 1
        have y1 := blk_frozen HG.out.1 1
        go_region
        generalize hWE : World.drew _ = WE
        obtain ⟨l0, l1, hbl, hoth⟩ := fltFin HG.out.1 HW9.out (by have := HBE.out; omega) code fat hWE.symm
        clear hWE
        go_wp2
        refine bodyPost_ret (v := .tuple #[.slice none 0 0, .agg #[.int .i64 code, .int .i64 fat]]) (by simp [results, Try.results32, go_sem, l0, l1]) rfl ?_
        unfold outsEPost
        rw [HRT.out]
        exact ⟨none, 0, rfl, ElAt.nil _ _, hbl⟩
      case pos =>
        subst hc0
        have HRT : Aside0 (outsOf bs = (ys, 0, fat)) := ⟨by rw [HRT0.out, if_pos rfl]⟩
        clear HRT0
        go_wp2
        have t0 : _ = some (Value.int .i64 0) := blk_cell HG.out.1 0
        have y0 := blk_frozen HG.out.1 0
        have t1 : _ = some (Value.int .i64 0) := blk_cell HG.out.1 1
        have y1 := blk_frozen HG.out.1 1
        go_region
        generalize hWE : World.drew _ = WE
        obtain ⟨l0, l1, hbl, hoth⟩ := fltFin HG.out.1 HW9.out (by have := HBE.out; omega) 0 fat hWE.symm
        clear hWE
        go_wp2
        refine bodyPost_ret (v := .tuple #[.slice Av ys.length cv, .agg #[.int .i64 0, .int .i64 fat]]) (by simp [results, Try.results32, go_sem, l0, l1]) rfl ?_
        unfold outsEPost
        rw [HRT.out]
        exact ⟨Av, cv, rfl, HE9.out.keep hoth (fun ad e h hs => by have := HAV.out ad e h; omega), hbl⟩
end Go.Proofs.Ytgmbfecfkdbfaaa.Wi
/- RecordOutages: the walk. -/
set_option linter.unusedVariables false
set_option linter.unusedSimpArgs false
namespace Go.Proofs.Ytgmbfecfkdbfaaa.Wi
open Go Go.RowKit Go.Proofs.YtgmbfecfkdbfaaaW.PrintWords
def kI3 : Kd I3 := Kd.iso (Kd.pair kI (Kd.pair kI kI)) (fun t : I3 => (t.a, t.b, t.c))
theorem kI3_open {w : World} {t : I3} {cs : List Value} (h : kI3.K w t cs) : cs = encI3 t ∧ t.Ok := by
  obtain ⟨_, _, rfl, ⟨rfl, h1⟩, ⟨_, _, rfl, ⟨rfl, h2⟩, ⟨rfl, h3⟩⟩⟩ := h
  exact ⟨rfl, ⟨h1, h2, h3⟩⟩
theorem el_I3 {w : World} {A : Option Addr} {l : List I3} (h : kI3.C w A l.length l) : ElAt encI3 3 w A l ∧ ∀ x ∈ l, I3.Ok x := by
  refine ⟨fun i hi => ?_, fun x hx => ?_⟩
  · obtain ⟨ad, c, e, _, hK, hc0⟩ := Kd.C_get h ⟨0, 0, 0⟩ (i : Int) (by omega) (by omega)
    simp only [Int.toNat_natCast] at hK hc0
    have hg : l.getD i ⟨0, 0, 0⟩ = l[i]'hi := by simp [List.getD_eq_getElem?_getD, List.getElem?_eq_getElem hi]
    rw [hg] at hK
    obtain ⟨rfl, hok⟩ := kI3_open hK
    exact ⟨ad, e, hc0⟩
  · obtain ⟨i, hi, rfl⟩ := List.getElem_of_mem hx
    obtain ⟨ad, c, e, _, hK, hc0⟩ := Kd.C_get h ⟨0, 0, 0⟩ (i : Int) (by omega) (by omega)
    simp only [Int.toNat_natCast] at hK
    have hg : l.getD i ⟨0, 0, 0⟩ = l[i]'hi := by simp [List.getD_eq_getElem?_getD, List.getElem?_eq_getElem hi]
    rw [hg] at hK
    exact (kI3_open hK).2
theorem ElAt.none_nil {α : Type} {enc : α → List Value} {m : Nat} {w : World} {A : Option Addr} {xs : List α} (h : ElAt enc m w A xs) (e : A = none) : xs = [] := by
  cases xs with
  | nil => rfl
  | cons x r =>
    obtain ⟨ad, e', _⟩ := h 0 (by simp)
    rw [e] at e'
    cases e'
theorem el_one3 (w : World) (T : TypeId) (a b c : Int) : ElAt encI3 3 (w.alloc (.cells #[.int .i64 a, .int .i64 b, .int .i64 c] T)) (some ⟨w.heap.size, 0, none⟩) [(⟨a, b, c⟩ : I3)] := fun i hi => by
  obtain rfl : i = 0 := by simp at hi; exact hi
  refine ⟨_, rfl, fun j u hu => ?_⟩
  rw [addz_, blk_cell (heap_alloc_new w _), ← hu]
  simp [encI3]
theorem ElAt.left {α : Type} {enc : α → List Value} {m : Nat} {w : World} {A : Option Addr} {xs ys : List α} (h : ElAt enc m w A (xs ++ ys)) : ElAt enc m w A xs := fun i hi => by
  obtain ⟨ad, e, hc⟩ := h i (by rw [List.length_append]; omega)
  rw [List.getElem_append_left hi] at hc
  exact ⟨ad, e, hc⟩
theorem outsOut_len (xs : List I3) : (outsOut xs).length ≤ 1000000000 := by
  unfold outsOut
  split
  · rename_i h
    have := outsRight_len h
    unfold WS.out
    split
    · simp
    · exact outsPut_len xs (by omega)
  · simp
set_option maxHeartbeats 32000000 in
set_option maxRecDepth 100000 in
theorem recordOutages_calls (AL : Option Addr) (cL : Nat) (l : List I3) (A : Option Addr) (c : Nat) (bs : List Int) (w : World) (hL : kI3.C w AL l.length l) (hcL : l.length ≤ cL) (hlL : l.length * 24 ≤ 140737488351232) (hb : kB.C w A bs.length bs) (hc : bs.length ≤ c) (hbl : bs.length ≤ 140737488351232) :
    Calls Try.prog 6 #[.slice AL l.length cL, .slice A bs.length c] w fun e w' => e = .returned (.bool true) ∧ Below w.heap.size w w' := by
  obtain ⟨hrd, hby⟩ := kB_reads hb
  obtain ⟨hel, hok⟩ := el_I3 hL
  have HRD := Aside0.mk hrd
  have HEL := Aside0.mk hel
  have CO := Aside0.mk (fun A' c' (W : World) (h : ElAt encI3 3 W A' l) (hn : A' = none → l = []) => recOuts_calls l A' c' W h hn hok (by omega))
  have CF := Aside0.mk (fun (W : World) (h : ElAt encI3 3 W AL l) => refOuts_calls l AL cL W h hok)
  have RO := Aside0.mk (fun (W : World) (h : ReadsInt W .u8 A bs.length bs) => recReadOuts_calls A c bs W h hby (by omega))
  have RF := Aside0.mk (fun (W : World) (h : ReadsInt W .u8 A bs.length bs) => refReadOuts_calls A c bs W h hc hby (by omega))
  have SO := Aside0.mk (fun A1 A2 c1 c2 (W : World) (h1 : ElAt encI3 3 W A1 l) (h2 : ElAt encI3 3 W A2 l) => sameOuts_calls A1 A2 c1 c2 l W h1 h2 (by omega))
  unfold BytesPost at CO
  unfold outsFPost at CF
  unfold outsRPost at RO
  unfold outsEPost at RF
  obtain ⟨⟨u, c0, c1⟩, hp⟩ : ∃ p, outsOf bs = p := ⟨_, rfl⟩
  have hul : u.length ≤ 140737488355328 := by
    have h1 : (outsOf bs).1.length ≤ 100 := by
      unfold outsOf
      simp only
      have h2 : (getL bs (getOt bs) 100 ⟨0, 0, 0, 0⟩).1.length ≤ 100 := by
        unfold getL
        rw [getN_len]
        have := rCou_range bs ⟨0, 0, 0, 0⟩ 100 (by omega)
        omega
      split
      · split
        · exact h2
        · simp
      · simp
    rw [hp] at h1
    simp only at h1
    omega
  have SU := Aside0.mk (fun A1 A2 c1 c2 (W : World) (h1 : ElAt encI3 3 W A1 u) (h2 : ElAt encI3 3 W A2 u) => sameOuts_calls A1 A2 c1 c2 u W h1 h2 hul)
  rw [hp] at RO RF
  simp only at RO RF
  generalize outsOut l = ox at *
  generalize outsErr l = ex at *
  obtain ⟨i0, hi, hzz⟩ := Option.map_eq_some_iff.1 infoOt
  simp only [Prod.mk.injEq] at hzz
  obtain ⟨hz0, hz1, hz2⟩ := hzz
  have hmk : ∀ W : World, (Instr.makeSlice 50 (.int .i64 0) (.int .i64 ((l.length : Int) + 1))).run Try.prog W = .ok (.slice (some ⟨W.heap.size, 0, none⟩) 0 (l.length + 1)) (W.alloc (.cells (madeCells #[.int .i64 0, .int .i64 0, .int .i64 0] ((l.length + 1) * 3)) 52)) := fun W => by
    have h := run_make (P := Try.prog) W 50 52 i0 (.agg #[.int .i64 0, .int .i64 0, .int .i64 0]) Try.underlying50 hi hz0 .i64 .i64 0 ((l.length : Int) + 1) (by omega) (by omega) (by rw [hz2]; omega) (by omega)
    rw [hz1, show ((l.length : Int) + 1).toNat = l.length + 1 by omega] at h
    exact h
  have hsl : ∀ (g2 c2 : Nat) (W : World), l.length + 1 ≤ c2 → (Instr.slice 50 (.slice (some ⟨g2, 0, none⟩) (l.length + 1) c2) none (some (.int .i64 (l.length : Int))) none).run Try.prog W = .ok (.slice (some ⟨g2, 0, none⟩) l.length c2) W := fun g2 c2 W hc2 => by
    have hee : Try.prog.elem 50 = 52 := by simp [Program.elem, Try.underlying50]
    have hu : Try.prog.underlying 50 = some (.slice (Try.prog.elem 50)) := by rw [hee]; exact Try.underlying50
    rw [run_slice_h W 50 (some ⟨g2, 0, none⟩) (l.length + 1) c2 hu .i64 (l.length : Int) (by omega) (by omega), hee]
    simp [sizeOf, typeInfo, hi, hz1, sliced, Result.andThen, Addr.add]
  have HSL := Aside0.mk hsl
  have HLL := Aside0.mk hlL
  have hll : l.length ≤ 140737488351232 := by omega
  clear hb hL hrd hby hel hok hp hul hsl hi hz0 hz1 hz2 hcL hlL
  go_enter Try.func6, Try.ntmps6
  go_upto_region 2 with (go_at_call 9; refine (awake8_calls _).mono ?_; rintro e w1 ⟨rfl, hb1⟩; have HB1 := Aside0.mk hb1; clear hb1)
  have HBM := Aside0.mk (below_then HB1.out HB1.out.size (below1 (.cells (madeCells #[.int .i64 0, .int .i64 0, .int .i64 0] ((l.length + 1) * 3)) 52)))
  have HOM := Aside0.mk (show (w1.alloc (.cells (madeCells #[.int .i64 0, .int .i64 0, .int .i64 0] ((l.length + 1) * 3)) 52)).ownsRow w.heap.size 52 3 (.slice (some ⟨w1.heap.size, 0, none⟩) 0 (l.length + 1)) ([] : List I3).length (([] : List I3).flatMap encI3) from
    ⟨rfl, .inr ⟨w1.heap.size, l.length + 1, _, rfl, HB1.out.size, heap_alloc_new w1 _, Nat.zero_le _, by have := HLL.out; simp only [maxLen]; omega, size_madeCells _ _, by simp⟩⟩)
  have HEM := Aside0.mk (HEL.out.below HBM.out)
  have HSM := Aside0.mk HBM.out.size
  go_upto_region 3 with (first
    | (refine gate_ (.call { callee := .builtin .append, args := #[.tmp 20, .tmp 21], argTypes := #[50, 50] }) rfl ?_; refine wpList_append_els (enc := encI3) w.heap.size rfl _ (.tmp 21) 50 52 _ 3 24 rfl (fun _ => rfl) one_I3 Try.underlying50 infoOt (by decide) (by decide) (by decide) (.slice (some ⟨w1.heap.size, 0, none⟩) 0 (l.length + 1)) [] l AL l.length cL rfl (by rfl) (by rfl) HOM.out HEM.out HSM.out (by have := HLL.out; simp only [List.length_cons, List.length_nil]; omega) ?_; intro v1 w2 ho2 hg2 _; have HB2 := Aside0.mk (HBM.out.grown hg2 HSM.out (fun k hk => (Option.some.inj hk) ▸ HB1.out.size)); have ho2' : w2.ownsRow w.heap.size 52 3 v1 l.length (l.flatMap encI3) := ho2; clear ho2 hg2; obtain ⟨A2, c2, hv2, _, _⟩ := owns_el ho2' (fun _ => rfl); subst hv2; have HB3 := Aside0.mk (below_then HB2.out HB2.out.size (below1 (.cells #[.int .i64 (-7), .int .i64 0, .int .i64 0] 52))); have HO3 := Aside0.mk ((Fr.of_below (S := fun _ => False) (below1 (w := w2) (.cells #[.int .i64 (-7), .int .i64 0, .int .i64 0] 52))).own ho2' (fun _ _ h => h)); have HS3 := Aside0.mk HB3.out.size; have HE3 := Aside0.mk (el_one3 w2 52 (-7) 0 0); clear ho2')
    | (refine gate_ (.call { callee := .builtin .append, args := #[.tmp 22, .tmp 24], argTypes := #[50, 50] }) rfl ?_; refine wpList_append_els (enc := encI3) w.heap.size rfl _ (.tmp 24) 50 52 _ 3 24 rfl (fun _ => rfl) one_I3 Try.underlying50 infoOt (by decide) (by decide) (by decide) (.slice A2 l.length c2) l [(⟨-7, 0, 0⟩ : I3)] (some ⟨w2.heap.size, 0, none⟩) 1 1 rfl (by rfl) (by rfl) HO3.out HE3.out HS3.out (by have := HLL.out; simp only [List.length_cons, List.length_nil]; omega) ?_; intro v3 w3 ho3 hg3 _; have HB4 := Aside0.mk (HB3.out.grown hg3 HS3.out (fun k hk => own_base HO3.out k hk)); have HO4 := Aside0.mk ho3; clear ho3 hg3))
  obtain ⟨g3, c3, hv3, hc3, hel3⟩ : ∃ g3 c3, v3 = .slice (some ⟨g3, 0, none⟩) (l.length + 1) c3 ∧ l.length + 1 ≤ c3 ∧ ElAt encI3 3 w3 (some ⟨g3, 0, none⟩) (l ++ [⟨-7, 0, 0⟩]) := by
    have h := HO4.out
    obtain ⟨A3, c3, hv, hcc, he⟩ := owns_el h (fun _ => rfl)
    rcases h.2 with ⟨rfl, h0⟩ | ⟨g, cap, cur, rfl, _, _, _, _⟩
    · simp at h0
    · injection hv with h1 h2 h3
      subst h1 h3
      rw [List.length_append, List.length_singleton] at hcc
      exact ⟨g, cap, by rw [List.length_append, List.length_singleton], hcc, he⟩
  subst hv3
  have hsl := fun W => HSL.out g3 c3 W hc3
  have HE4 := Aside0.mk hel3
  clear hel3 HO4 HO3 HE3 HS3 HB3 HB2 HOM HEM HSM HBM HB1 HSL hmk hc3
  go_upto_region 4 with (go_at_call 28; refine (CO.out (some ⟨g3, 0, none⟩) c3 _ HE4.out.left (fun e => nomatch e)).mono ?_; rintro e w4 ⟨v4, rfl, ho4, hb4⟩; obtain ⟨A4, c4, _, hv4, _, hr4⟩ := own_reads'' ho4; subst hv4; have HR4 := Aside0.mk hr4; have HB5 := Aside0.mk hb4; clear ho4 hr4 hb4)
  have HB6 := Aside0.mk (below_then HB4.out HB4.out.size HB5.out)
  have HE6 := Aside0.mk (HE4.out.below HB5.out)
  have HL6 := Aside0.mk (HEL.out.below HB6.out)
  have h7 : w4.cell? ⟨g3, l.length * 3, none⟩ = some (.int .i64 (-7)) := by
    obtain ⟨ad, e, h, _, _⟩ := el3 HE6.out l.length (by simp)
    obtain rfl := Option.some.inj e
    rw [addz_] at h
    simpa using h
  have hlt7 : (l.length : Int) < (l.length : Int) + 1 := by omega
  go_upto_region 6 with (first
    | (go_at_call 29; refine (SO.out (some ⟨g3, 0, none⟩) AL c3 cL _ HE6.out.left HL6.out).mono ?_; rintro e w5 ⟨rfl, hb5⟩; have HB7 := Aside0.mk (below_then HB6.out HB6.out.size hb5); have HR5 := Aside0.mk (HR4.out.below hb5); have HL7 := Aside0.mk (HL6.out.below hb5); clear hb5)
    | (go_at_call 30; refine (CF.out _ HL7.out).mono ?_; rintro e w6 ⟨A6, c6, rfl, hr6, hb6⟩; have HR6 := Aside0.mk hr6; have HR7 := Aside0.mk (HR5.out.below hb6); have HB8 := Aside0.mk (below_then HB7.out HB7.out.size hb6); clear hr6 hb6))
  have HD8 := Aside0.mk (HRD.out.below HB8.out)
  clear h7 hlt7 HE4 HE6 HL6 HL7 HR4 HR5 HB4 HB5 HB6 HB7 HRD HEL CO CF SO
  go_upto_region 7 with (go_at_call 31; refine (RO.out _ HD8.out).mono ?_; rintro e w7 ⟨v7, rfl, hv7, hb7⟩; obtain ⟨A7, hv, he7⟩ := hv7.el (m := 3) (fun _ => rfl); subst hv; have HE7 := Aside0.mk he7; have HC7 := Aside0.mk hb7; clear hv7 he7 hb7)
  have hd7 := below_then HC7.out HC7.out.size (below1 (w := w7) (.cells #[.int .i64 c0, .int .i64 c1] 31))
  have HQ7 := Aside0.mk (heap_alloc_new w7 (.cells #[.int .i64 c0, .int .i64 c1] 31))
  have HE8 := Aside0.mk (HE7.out.below (below1 (.cells #[.int .i64 c0, .int .i64 c1] 31)))
  have HB9 := Aside0.mk (below_then HB8.out HB8.out.size hd7)
  have HR8 := Aside0.mk (HR6.out.below hd7)
  have HR9 := Aside0.mk (HR7.out.below hd7)
  have HD9 := Aside0.mk (HD8.out.below hd7)
  clear hd7 HC7 HE7 HB8 HR6 HR7 HD8
  generalize w7.alloc (.cells #[.int .i64 c0, .int .i64 c1] 31) = x7 at *
  generalize w7.heap.size = g7 at *
  go_upto_region 8 with (go_at_call 32; refine (RF.out _ HD9.out).mono ?_; rintro e w8 ⟨A8, c8, rfl, he8, hb8⟩; have HE9 := Aside0.mk he8; have HC8 := Aside0.mk hb8; clear he8 hb8)
  have hd8 := below_then HC8.out HC8.out.size (below1 (w := w8) (.cells #[.int .i64 c0, .int .i64 c1] 31))
  have HQ8 := Aside0.mk (heap_alloc_new w8 (.cells #[.int .i64 c0, .int .i64 c1] 31))
  have HQ9 := Aside0.mk (blk_b HQ7.out hd8)
  have HEA := Aside0.mk (HE9.out.below (below1 (.cells #[.int .i64 c0, .int .i64 c1] 31)))
  have HEB := Aside0.mk (HE8.out.below hd8)
  have HBA := Aside0.mk (below_then HB9.out HB9.out.size hd8)
  have HRA := Aside0.mk (HR8.out.below hd8)
  have HRB := Aside0.mk (HR9.out.below hd8)
  clear hd8 HC8 HE9 HE8 HB9 HR8 HR9 HD9 HQ7
  generalize w8.alloc (.cells #[.int .i64 c0, .int .i64 c1] 31) = x8 at *
  generalize w8.heap.size = g8 at *
  have SX := Aside0.mk (same_eq A4 A6 c4 c6 ox x8 HRB.out HRA.out)
  have SV := Aside0.mk (SU.out A7 A8 u.length c8 x8 HEB.out HEA.out)
  go_wp2_with (first
    | (go_at_call 16; (with_reducible refine SX.out.mono ?_); rintro e wb ⟨rfl, rfl⟩)
    | (go_at_call 29; refine SV.out.mono ?_; rintro e wc ⟨rfl, hbc⟩; have i0 : _ = some (Value.int .i64 c0) := blk_cell (blk_b HQ9.out hbc) 0; have i1 : _ = some (Value.int .i64 c1) := blk_cell (blk_b HQ9.out hbc) 1; have j0 : _ = some (Value.int .i64 c0) := blk_cell (blk_b HQ8.out hbc) 0; have j1 : _ = some (Value.int .i64 c1) := blk_cell (blk_b HQ8.out hbc) 1; have HBC := Aside0.mk (below_then HBA.out HBA.out.size hbc); clear hbc))
  go_ret
  exact ⟨by first | rfl | (simp; done), HBC.out⟩
end Go.Proofs.Ytgmbfecfkdbfaaa.Wi
