/- Lists of the call's own that grow; a copy of a list. -/
import Derived.Test.YtgmbfecfkdbfaaaMRecordDeltas4
set_option linter.unusedVariables false
set_option linter.unusedSimpArgs false
namespace Go.Proofs.Ytgmbfecfkdbfaaa.Wi
open Go Go.RowKit Go.Proofs.YtgmbfecfkdbfaaaW.PrintWords
section
variable {α : Type} {enc : α → List Value} {m : Nat} {w w' : World} {E : TypeId} {base : Nat} {v : Value} {xs : List α}
theorem owns_el (h : w.ownsRow base E m v xs.length (xs.flatMap enc)) (henc : ∀ x, (enc x).length = m) : ∃ A c, v = .slice A xs.length c ∧ xs.length ≤ c ∧ ElAt enc m w A xs := by
  rcases h.2 with ⟨rfl, hn⟩ | ⟨g, cap, cur, rfl, _, hq, hnc, _, hsz, ht⟩
  · obtain rfl := List.eq_nil_of_length_eq_zero hn
    exact ⟨none, 0, rfl, Nat.le_refl _, ElAt.nil _ _⟩
  · refine ⟨_, _, rfl, hnc, fun i hi => ⟨_, rfl, fun j u hu => ?_⟩⟩
    have hj : j < m := by
      have := (List.getElem?_eq_some_iff.1 hu).1
      rwa [henc] at this
    have hlt : i * m + j < xs.length * m := by
      have h1 : (i + 1) * m ≤ xs.length * m := Nat.mul_le_mul_right m hi
      rw [Nat.succ_mul] at h1
      omega
    rw [addz_, blk_cell hq]
    have h2 := flat_get henc xs i hi j hj
    rw [← ht, List.getElem?_take_of_lt hlt, hu] at h2
    simpa using h2
theorem RowAt.owns (h : RowAt enc E base w v xs) (henc : ∀ x, (enc x).length = m) (hl : xs.length ≤ 9223372036854775807) : w.ownsRow base E m v xs.length (xs.flatMap enc) := by
  refine ⟨flat_len henc xs, ?_⟩
  rcases h with ⟨rfl, rfl⟩ | ⟨hn, nb, hb, rfl, hq⟩
  · exact .inl ⟨rfl, rfl⟩
  · refine .inr ⟨nb, xs.length, _, rfl, hb, hq, Nat.le_refl _, by simpa [maxLen] using hl, by rw [List.size_toArray, flat_len henc], ?_⟩
    rw [← flat_len henc xs]
    exact List.take_length
theorem flat_cells {A : Addr} (henc : ∀ x, (enc x).length = m) (hx : ElAt enc m w (some A) xs) : ∀ j u, (xs.flatMap enc)[j]? = some u → w.cell? (A.add j) = some u := fun j u hu => by
  have hlt := (List.getElem?_eq_some_iff.1 hu).1
  rw [flat_len henc] at hlt
  have hm : 0 < m := by
    rcases Nat.eq_zero_or_pos m with h0 | h0
    · subst h0; simp at hlt
    · exact h0
  have hd : j / m < xs.length := Nat.div_lt_of_lt_mul (by rwa [Nat.mul_comm])
  have hg := flat_get henc xs (j / m) hd (j % m) (Nat.mod_lt _ hm)
  rw [Nat.div_add_mod' j m, hu] at hg
  obtain ⟨ad, e, hc⟩ := hx (j / m) hd
  obtain rfl := Option.some.inj e
  have h := hc (j % m) u hg.symm
  rwa [Nat.div_add_mod' j m] at h
/-- append(v, ys...): v a row of the call's own, ys a slice that is read, nil let in. -/
theorem run_append_els {P : Program} {W : World} (base : Nat) (t ty e : TypeId) (z : Value) (size bytes : Nat) (henc : ∀ x, (enc x).length = size) (h1 : ∀ x, ∀ u ∈ enc x, u.oneCell' = true)
    (ht : P.underlying t = some (.slice e)) (hinfo : (P.info? e).map (fun i => (i.zero, i.size, i.bytes)) = some (some z, size, bytes)) (hzs : z.cells.size = size) (hsz : 0 < size) (hb0 : 0 < bytes)
    (v : Value) (xs ys : List α) (A : Option Addr) (c : Nat) (HO : W.ownsRow base e size v xs.length (xs.flatMap enc)) (HR : ElAt enc size W A ys) (hbase : base ≤ W.heap.size) (hl : (xs.length + ys.length) * bytes ≤ 140737488355328) :
    ∃ v1 w1, (Builtin.append_ #[t, t] ty #[v, .slice A ys.length c]).run P W = .ok v1 w1 ∧ w1.ownsRow base e size v1 (xs ++ ys).length ((xs ++ ys).flatMap enc) ∧ W.grownBy w1 v.ownBlock ∧ (v1.ownBlock = v.ownBlock ∨ v1.ownBlock = some W.heap.size) := by
  obtain ⟨i0, hi, hzz⟩ := Option.map_eq_some_iff.1 hinfo
  simp only [Prod.mk.injEq] at hzz
  obtain ⟨hz0, hz1, hz2⟩ := hzz
  have hlen : xs.length + ys.length ≤ 140737488355328 := Nat.le_trans (Nat.le_mul_of_pos_right _ hb0) hl
  rcases A with _ | ad
  · obtain rfl : ys = [] := by
      cases ys with
      | nil => rfl
      | cons y r =>
        obtain ⟨ad, h, _⟩ := HR 0 (by simp)
        cases h
    refine ⟨v, W, ?_, by simpa using HO, World.grownBy.refl W _, .inl rfl⟩
    rcases HO.2 with ⟨rfl, hn⟩ | ⟨g, cap, cur, rfl, _, _, hnc, _⟩
    · simp [Builtin.append_, run_underlying ht, sizeOf, typeInfo, hi, Builtin.lenOf, Builtin.firstCells]
    · simp [Builtin.append_, run_underlying ht, sizeOf, typeInfo, hi, Builtin.lenOf, Builtin.firstCells, hnc, storeCells]
  · obtain ⟨v1, w1, hr, h2, h3, _, h5⟩ := run_append_own_at (P := P) W base t ty e i0 z size bytes ht hi hz0 hz1 hz2 hzs hsz v xs.length (xs.flatMap enc) HO ad ys.length c (ys.flatMap enc) (flat_len henc ys) (flat_cells henc HR)
      (by intro u hu; obtain ⟨x, _, hx⟩ := List.mem_flatMap.1 hu; exact h1 x u hx) (by simp only [maxLen]; omega) hl hbase
    exact ⟨v1, w1, hr, by rw [List.length_append, List.flatMap_append]; exact h2, h3, h5⟩
section
variable {P : Program} {ops : Array Oper} {rest : List Oper} {o : Oper} {a : Act} {Q : Exit → Act → World → Prop} {K : Act → World → Prop}
theorem wp_append_els {W : World} (base : Nat) (s x : Operand) (t e : TypeId) (z : Value) (size bytes : Nat)
    (ho : o.op = .call { callee := .builtin .append, args := #[s, x], argTypes := #[t, t] }) (henc : ∀ x, (enc x).length = size) (h1 : ∀ x, ∀ u ∈ enc x, u.oneCell' = true)
    (ht : P.underlying t = some (.slice e)) (hinfo : (P.info? e).map (fun i => (i.zero, i.size, i.bytes)) = some (some z, size, bytes)) (hzs : z.cells.size = size) (hsz : 0 < size) (hb0 : 0 < bytes)
    (v : Value) (xs ys : List α) (A : Option Addr) (n c : Nat) (hn : n = ys.length) (hs : a.eval s = v) (hx : a.eval x = .slice A n c)
    (HO : W.ownsRow base e size v xs.length (xs.flatMap enc)) (HR : ElAt enc size W A ys) (hbase : base ≤ W.heap.size) (hl : (xs.length + ys.length) * bytes ≤ 140737488355328)
    (h : ∀ v1 w1, w1.ownsRow base e size v1 (xs ++ ys).length ((xs ++ ys).flatMap enc) → W.grownBy w1 v.ownBlock → (v1.ownBlock = v.ownBlock ∨ v1.ownBlock = some W.heap.size) → K (a.put o.dst v1) w1) : o.wp P a W K Q := by
  subst hn
  obtain ⟨v1, w1, hr, h1, h2, h3⟩ := run_append_els (enc := enc) (P := P) base t o.type e z size bytes henc h1 ht hinfo hzs hsz hb0 v xs ys A c HO HR hbase hl
  unfold Oper.wp execOp
  simp only [ho, resolve, invoke, builtin, Sem.run_bind, Sem.run_pure, Result.andThen_ok, List.map_toArray, List.map_cons, List.map_nil, hs, hx, hr]
  exact h v1 w1 h1 h2 h3
theorem wpList_append_els {W : World} (base : Nat) (hgd : o.guard = none) (s x : Operand) (t e : TypeId) (z : Value) (size bytes : Nat)
    (ho : o.op = .call { callee := .builtin .append, args := #[s, x], argTypes := #[t, t] }) (henc : ∀ x, (enc x).length = size) (h1 : ∀ x, ∀ u ∈ enc x, u.oneCell' = true)
    (ht : P.underlying t = some (.slice e)) (hinfo : (P.info? e).map (fun i => (i.zero, i.size, i.bytes)) = some (some z, size, bytes)) (hzs : z.cells.size = size) (hsz : 0 < size) (hb0 : 0 < bytes)
    (v : Value) (xs ys : List α) (A : Option Addr) (n c : Nat) (hn : n = ys.length) (hs : a.eval s = v) (hx : a.eval x = .slice A n c)
    (HO : W.ownsRow base e size v xs.length (xs.flatMap enc)) (HR : ElAt enc size W A ys) (hbase : base ≤ W.heap.size) (hl : (xs.length + ys.length) * bytes ≤ 140737488355328)
    (h : ∀ v1 w1, w1.ownsRow base e size v1 (xs ++ ys).length ((xs ++ ys).flatMap enc) → W.grownBy w1 v.ownBlock → (v1.ownBlock = v.ownBlock ∨ v1.ownBlock = some W.heap.size) → wpList P ops Q rest (a.put o.dst v1) w1) : wpList P ops Q (o :: rest) a W :=
  wpList_plain hgd fun K hK => wp_append_els (enc := enc) base s x t e z size bytes ho henc h1 ht hinfo hzs hsz hb0 v xs ys A n c hn hs hx HO HR hbase hl (fun v1 w1 h1 h2 h3 => hK _ _ (h v1 w1 h1 h2 h3))
end
theorem ElAt.grown {A : Option Addr} {row : Option Nat} (h : ElAt enc m w A xs) (hg : w.grownBy w' row) (hr : ∀ ad, A = some ad → 0 < xs.length → some ad.block ≠ row) : ElAt enc m w' A xs := fun i hi => by
  obtain ⟨ad, e, hc⟩ := h i hi
  refine ⟨ad, e, fun j u hu => ?_⟩
  have h1 := hc j u hu
  have hb := World.block_lt_of_cell? w _ h1
  rw [add_block] at hb
  rw [World.cell?_of_block (w := w) (by rw [add_block]; exact hg.block _ hb (hr ad e (by omega)))]
  exact h1
end
theorem one_I3 : ∀ x : I3, ∀ u ∈ encI3 x, u.oneCell' = true := fun x u hu => by
  simp only [encI3, List.mem_cons, List.not_mem_nil, or_false] at hu
  rcases hu with rfl | rfl | rfl <;> rfl
theorem one_I2 : ∀ x : I2, ∀ u ∈ encI2 x, u.oneCell' = true := fun x u hu => by
  simp only [encI2, List.mem_cons, List.not_mem_nil, or_false] at hu
  rcases hu with rfl | rfl <;> rfl
theorem one_I5 : ∀ x : I5, ∀ u ∈ encI5 x, u.oneCell' = true := fun x u hu => by
  simp only [encI5, List.mem_cons, List.not_mem_nil, or_false] at hu
  rcases hu with rfl | rfl | rfl | rfl | rfl <;> rfl
theorem one_Str : ∀ x : ByteArray, ∀ u ∈ encStr x, u.oneCell' = true := fun x u hu => by
  simp only [encStr, List.mem_cons, List.not_mem_nil, or_false] at hu
  rcases hu with rfl <;> rfl
set_option maxHeartbeats 1600000 in
set_option maxRecDepth 100000 in
theorem cloneOt_calls (A : Option Addr) (c : Nat) (xs : List I3) (w : World) (hx : ElAt encI3 3 w A xs) (hn : A = none → xs = []) (hl : xs.length * 24 ≤ 140737488355328) :
    Calls Try.prog 72 #[.slice A xs.length c] w fun e w' => ∃ v, e = .returned v ∧ w'.ownsRow w.heap.size 52 3 v xs.length (xs.flatMap encI3) ∧ Below w.heap.size w w' := by
  cases A with
  | none =>
    obtain rfl := hn rfl
    have hq : ∀ W : World, (binOp .eql 50 (.slice none 0 c) (.slice none 0 0)).run Try.prog W = .ok (.bool true) W := fun _ => by rfl
    go_enter Try.func72, Try.ntmps72
    go_wp2
    go_ret
    exact ⟨_, rfl, own_nil _ _ _ _, Below.refl _ _⟩
  | some ad =>
    have hq : ∀ W : World, (binOp .eql 50 (.slice (some ad) xs.length c) (.slice none 0 0)).run Try.prog W = .ok (.bool false) W := fun _ => by rfl
    have HX := Aside0.mk (hx.below (below1 (.cells #[] 52)))
    have HB := Aside0.mk (below1 (w := w) (.cells #[] 52))
    have HO := Aside0.mk (show (w.alloc (.cells #[] 52)).ownsRow w.heap.size 52 3 (.slice (some ⟨w.heap.size, 0, none⟩) 0 0) ([] : List I3).length (([] : List I3).flatMap encI3) from
      ⟨rfl, .inr ⟨w.heap.size, 0, #[], rfl, Nat.le_refl _, heap_alloc_new w _, Nat.le_refl _, by decide, rfl, rfl⟩⟩)
    have HBS := Aside0.mk HB.out.size
    clear hx hn
    go_enter Try.func72, Try.ntmps72
    go_wp2_with (at_builtin; refine wpList_append_els (enc := encI3) w.heap.size rfl _ (.tmp 6) 50 52 _ 3 24 rfl (fun _ => rfl) one_I3 Try.underlying50 infoOt (by decide) (by decide) (by decide) (.slice (some ⟨w.heap.size, 0, none⟩) 0 0) [] xs (some ad) xs.length c rfl (by rfl) (by rfl) HO.out HX.out HBS.out (by simpa using hl) ?_; intro v1 w1 ho1 hg1 _)
    go_ret
    exact ⟨v1, rfl, by simpa using ho1, HB.out.grown hg1 HBS.out (fun k hk => by obtain rfl := Option.some.inj hk; exact Nat.le_refl _)⟩
end Go.Proofs.Ytgmbfecfkdbfaaa.Wi
/- Which outages may be; two lists of them, held against each other. -/
set_option linter.unusedVariables false
set_option linter.unusedSimpArgs false
namespace Go.Proofs.Ytgmbfecfkdbfaaa.Wi
open Go Go.RowKit Go.Proofs.YtgmbfecfkdbfaaaW.PrintWords
theorem el3 {w : World} {A : Option Addr} {xs : List I3} (h : ElAt encI3 3 w A xs) (i : Nat) (hi : i < xs.length) : ∃ ad, A = some ad ∧ w.cell? (ad.add (i * 3)) = some (.int .i64 (xs[i]'hi).a) ∧ w.cell? ⟨(ad.add (i * 3)).block, (ad.add (i * 3)).off + 1, none⟩ = some (.int .i64 (xs[i]'hi).b) ∧ w.cell? ⟨(ad.add (i * 3)).block, (ad.add (i * 3)).off + 2, none⟩ = some (.int .i64 (xs[i]'hi).c) := by
  obtain ⟨ad, e, hc⟩ := h i hi
  exact ⟨ad, e, hc 0 _ rfl, by rw [← add_field _ _ 1 (by omega)]; exact hc 1 _ rfl, by rw [← add_field _ _ 2 (by omega)]; exact hc 2 _ rfl⟩
def okOt (x : I3) : Bool := inB x.a 1 65535 && inB x.b 0 2147483648 && inB x.c 0 2147483648 && !(decide (x.c ≤ x.b))
def outsRight (xs : List I3) : Bool := decide (xs.length ≤ 100) && xs.all okOt
set_option maxHeartbeats 8000000 in
set_option maxRecDepth 100000 in
theorem outBad_calls (x : I3) (w : World) : Calls Try.prog 120 #[.agg #[.int .i64 x.a, .int .i64 x.b, .int .i64 x.c]] w fun e w' => e = .returned (.bool (!okOt x)) ∧ Below w.heap.size w w' := by
  obtain ⟨a, b, c⟩ := x
  have HB := Aside0.mk (below1 (w := w) (.cells #[.int .i64 a, .int .i64 b, .int .i64 c] 52))
  unfold okOt
  simp only
  have HW0 := Aside0.mk (fun W => within_calls a 1 65535 W)
  have HW1 := Aside0.mk (fun W => cright_calls b W)
  have HW2 := Aside0.mk (fun W => cright_calls c W)
  generalize inB a 1 65535 = b0 at *
  generalize inB b 0 2147483648 = b1 at *
  generalize inB c 0 2147483648 = b2 at *
  cases b0 with
  | false =>
    go_enter Try.func120, Try.ntmps120
    go_wp2_with (first | (go_at_call 93; (with_reducible refine (HW0.out _).mono ?_); rintro e w1 ⟨rfl, rfl⟩) | (go_at_call 94; first | ((with_reducible refine (HW1.out _).mono ?_); rintro e w1 ⟨rfl, rfl⟩) | ((with_reducible refine (HW2.out _).mono ?_); rintro e w1 ⟨rfl, rfl⟩)))
    go_ret
    exact ⟨by first | rfl | (simp; done) | (simp [*]; done), below1 _⟩
  | true =>
    cases b1 with
    | false =>
      go_enter Try.func120, Try.ntmps120
      go_wp2_with (first | (go_at_call 93; (with_reducible refine (HW0.out _).mono ?_); rintro e w1 ⟨rfl, rfl⟩) | (go_at_call 94; first | ((with_reducible refine (HW1.out _).mono ?_); rintro e w1 ⟨rfl, rfl⟩) | ((with_reducible refine (HW2.out _).mono ?_); rintro e w1 ⟨rfl, rfl⟩)))
      go_ret
      exact ⟨by first | rfl | (simp; done) | (simp [*]; done), below1 _⟩
    | true =>
      cases b2 with
      | false =>
        go_enter Try.func120, Try.ntmps120
        go_wp2_with (first | (go_at_call 93; (with_reducible refine (HW0.out _).mono ?_); rintro e w1 ⟨rfl, rfl⟩) | (go_at_call 94; first | ((with_reducible refine (HW1.out _).mono ?_); rintro e w1 ⟨rfl, rfl⟩) | ((with_reducible refine (HW2.out _).mono ?_); rintro e w1 ⟨rfl, rfl⟩)))
        go_ret
        exact ⟨by first | rfl | (simp; done) | (simp [*]; done), below1 _⟩
      | true =>
        by_cases hz : c ≤ b
        · have hzd : decide (c ≤ b) = true := decide_eq_true hz
          go_enter Try.func120, Try.ntmps120
          go_wp2_with (first | (go_at_call 93; (with_reducible refine (HW0.out _).mono ?_); rintro e w1 ⟨rfl, rfl⟩) | (go_at_call 94; first | ((with_reducible refine (HW1.out _).mono ?_); rintro e w1 ⟨rfl, rfl⟩) | ((with_reducible refine (HW2.out _).mono ?_); rintro e w1 ⟨rfl, rfl⟩)))
          go_ret
          exact ⟨by first | rfl | (simp; done) | (simp [*]; done), below1 _⟩
        · have hzd : decide (c ≤ b) = false := decide_eq_false hz
          go_enter Try.func120, Try.ntmps120
          go_wp2_with (first | (go_at_call 93; (with_reducible refine (HW0.out _).mono ?_); rintro e w1 ⟨rfl, rfl⟩) | (go_at_call 94; first | ((with_reducible refine (HW1.out _).mono ?_); rintro e w1 ⟨rfl, rfl⟩) | ((with_reducible refine (HW2.out _).mono ?_); rintro e w1 ⟨rfl, rfl⟩)))
          go_ret
          exact ⟨by first | rfl | (simp; done) | (simp [*]; done), below1 _⟩
set_option maxHeartbeats 8000000 in
set_option maxRecDepth 100000 in
theorem outIndex_calls (A : Option Addr) (c : Nat) (xs : List I3) (w : World) (hx : ElAt encI3 3 w A xs) (hl : xs.length ≤ 140737488355328) :
    Calls Try.prog 160 #[.slice A xs.length c, .func (.func 120) #[] #[]] w fun e w' => ∃ n : Int, e = .returned (.int .i64 n) ∧ decide (0 ≤ n) = !(xs.all okOt) ∧ Below w.heap.size w w' := by
  have HX := Aside0.mk hx
  clear hx
  go_enter Try.func160, Try.ntmps160
  go_wp2
  go_loopg [5, 8] xs.length (fun gg s5 s8 wr => ∃ (kk : Nat), kk ≤ xs.length ∧ xs.length - kk ≤ gg ∧ s8 = .int .i64 kk ∧ Aside0 ((xs.take kk).all okOt = true) ∧ Aside0 (Below w.heap.size w wr))
  case atStart => exact ⟨0, by omega, by omega, rfl, ⟨rfl⟩, ⟨Below.refl _ _⟩⟩
  case round =>
    obtain ⟨kk, hkk, hgg, rfl, HA, HB⟩ := hrel
    by_cases hlt : kk < xs.length
    · have hltz : (kk : Int) < (xs.length : Int) := by omega
      obtain ⟨ad, rfl, c0, c1, c2⟩ := el3 (HX.out.below HB.out) kk hlt
      have HT := Aside0.mk (show (xs.take (kk + 1)).all okOt = okOt xs[kk] from by rw [List.take_succ_eq_append_getElem hlt, List.all_append, HA.out]; simp)
      have HM := Aside0.mk (List.getElem_mem hlt)
      have C := Aside0.mk (fun W => outBad_calls xs[kk] W)
      generalize xs[kk] = x at *
      obtain ⟨xa, xb, xc⟩ := x
      simp only at c0 c1 c2 C
      obtain ⟨o, ho⟩ : ∃ o, okOt ⟨xa, xb, xc⟩ = o := ⟨_, rfl⟩
      rw [ho] at C HT
      cases o with
      | false =>
        have HN : Aside0 (xs.all okOt = false) := ⟨by
          cases h : xs.all okOt with
          | false => rfl
          | true =>
            have := List.all_eq_true.1 h _ HM.out
            rw [ho] at this
            cases this⟩
        clear ho
        go_wp2_with (go_at_call 120; refine (C.out _).mono ?_; rintro e w1 ⟨rfl, hb1⟩)
        go_ret
        exact ⟨kk, rfl, by rw [HN.out]; exact decide_eq_true (by omega), below_then HB.out HB.out.size hb1⟩
      | true =>
        clear ho
        go_wp2_with (go_at_call 120; refine (C.out _).mono ?_; rintro e w1 ⟨rfl, hb1⟩; have HB1 := Aside0.mk (below_then HB.out HB.out.size hb1); clear hb1)
        go_roundg (xs.length - (kk + 1))
        case measure => omega
        case rel => exact ⟨kk + 1, by omega, by omega, by go_num, HT, HB1⟩
    · have hltz : ¬ (kk : Int) < (xs.length : Int) := by omega
      have hke : xs.take kk = xs := List.take_of_length_le (by omega)
      rw [hke] at HA
      clear hke
      go_wp2
      go_ret
      exact ⟨-1, rfl, by rw [HA.out]; rfl, HB.out⟩
set_option maxHeartbeats 1600000 in
set_option maxRecDepth 100000 in
theorem outContains_calls (A : Option Addr) (c : Nat) (xs : List I3) (w : World) (hx : ElAt encI3 3 w A xs) (hl : xs.length ≤ 140737488355328) :
    Calls Try.prog 119 #[.slice A xs.length c, .func (.func 120) #[] #[]] w fun e w' => e = .returned (.bool (!(xs.all okOt))) ∧ Below w.heap.size w w' := by
  have C := Aside0.mk (outIndex_calls A c xs w hx hl)
  clear hx
  go_enter Try.func119, Try.ntmps119
  go_wp2_with (go_at_call 160; refine C.out.mono ?_; rintro e w1 ⟨n, rfl, hn, hb1⟩)
  go_ret
  exact ⟨by rw [← hn]; rfl, hb1⟩
theorem rightOutages_calls (A : Option Addr) (c : Nat) (xs : List I3) (w : World) (hx : ElAt encI3 3 w A xs) (hl : xs.length ≤ 140737488355328) :
    Calls Try.prog 74 #[.slice A xs.length c] w fun e w' => e = .returned (.int .i64 (if outsRight xs = true then 0 else 80)) ∧ Below w.heap.size w w' := by
  have C := Aside0.mk (fun W (h : ElAt encI3 3 W A xs) => outContains_calls A c xs W h hl)
  have HX := Aside0.mk hx
  unfold outsRight
  clear hx
  generalize xs.all okOt = o at *
  by_cases h : xs.length ≤ 100
  · have hz : ((xs.length : Int) ≤ 100) := by omega
    rw [decide_eq_true h, Bool.true_and]
    cases o with
    | true =>
      go_enter Try.func74, Try.ntmps74
      go_wp2_with (first | (go_at_call 119; refine (C.out _ HX.out).mono ?_; rintro e w1 ⟨rfl, hb1⟩) | (go_at_call 92; refine (when_calls _ _).mono ?_; rintro e w2 ⟨rfl, rfl⟩))
      go_ret
      exact ⟨rfl, hb1⟩
    | false =>
      go_enter Try.func74, Try.ntmps74
      go_wp2_with (first | (go_at_call 119; refine (C.out _ HX.out).mono ?_; rintro e w1 ⟨rfl, hb1⟩) | (go_at_call 92; refine (when_calls _ _).mono ?_; rintro e w2 ⟨rfl, rfl⟩))
      go_ret
      exact ⟨rfl, hb1⟩
  · have hz : ¬ ((xs.length : Int) ≤ 100) := by omega
    rw [decide_eq_false h, Bool.false_and]
    go_enter Try.func74, Try.ntmps74
    go_wp2_with (first | (go_at_call 119; refine (C.out _ HX.out).mono ?_; rintro e w1 ⟨rfl, hb1⟩) | (go_at_call 92; refine (when_calls _ _).mono ?_; rintro e w2 ⟨rfl, rfl⟩))
    go_ret
    exact ⟨by first | rfl | (simp; done), Below.refl _ _⟩
set_option maxHeartbeats 8000000 in
set_option maxRecDepth 100000 in
theorem rOutRight_calls (A : Option Addr) (cA : Nat) (xs : List I3) (w : World) (hx : ElAt encI3 3 w A xs) :
    Calls Try.prog 75 #[.slice A xs.length cA] w fun e w' => e = .returned (.bool (outsRight xs)) ∧ Below w.heap.size w w' := by
  have HX := Aside0.mk hx
  unfold outsRight
  clear hx
  by_cases h : xs.length ≤ 100
  case neg =>
    have hz : (xs.length : Int) > 100 := by omega
    rw [decide_eq_false h, Bool.false_and]
    go_enter Try.func75, Try.ntmps75
    go_wp2
    go_ret
    exact ⟨rfl, Below.refl _ _⟩
  have hz : ¬ (xs.length : Int) > 100 := by omega
  rw [decide_eq_true h, Bool.true_and]
  go_enter Try.func75, Try.ntmps75
  go_wp2
  go_loopg [3] xs.length (fun gg s3 wr => ∃ (kk : Nat), kk ≤ xs.length ∧ xs.length - kk ≤ gg ∧ s3 = .int .i64 kk ∧ Aside0 ((xs.take kk).all okOt = true) ∧ Aside0 (Below w.heap.size w wr))
  case atStart => exact ⟨0, by omega, by omega, rfl, ⟨rfl⟩, ⟨Below.refl _ _⟩⟩
  case round =>
    obtain ⟨kk, hkk, hgg, rfl, HA, HB⟩ := hrel
    by_cases hlt : kk < xs.length
    · have hltz : (kk : Int) < (xs.length : Int) := by omega
      obtain ⟨ad, rfl, c0, c1, c2⟩ := el3 (HX.out.below HB.out) kk hlt
      have HTT := Aside0.mk (show okOt xs[kk] = true → (xs.take (kk + 1)).all okOt = true from fun h => by rw [List.take_succ_eq_append_getElem hlt, List.all_append, HA.out]; simp [h])
      have HNN := Aside0.mk (show okOt xs[kk] = false → xs.all okOt = false from fun h => by
        cases h2 : xs.all okOt with
        | false => rfl
        | true =>
          have := List.all_eq_true.1 h2 _ (List.getElem_mem hlt)
          rw [h] at this
          cases this)
      generalize xs[kk] = x at *
      obtain ⟨a, b, c⟩ := x
      unfold okOt at HTT HNN
      simp only at c0 c1 c2 HTT HNN
      have HW0 := Aside0.mk (fun W => rwithin_calls a 1 65535 W)
      have HW1 := Aside0.mk (fun W => rright_calls b W)
      have HW2 := Aside0.mk (fun W => rright_calls c W)
      generalize inB a 1 65535 = b0 at *
      generalize inB b 0 2147483648 = b1 at *
      generalize inB c 0 2147483648 = b2 at *
      have HWQ := Aside0.mk (fun W => (HW0.out W).mono (fun e w' h => (⟨h.1, h.2.symm⟩ : e = .returned (.bool b0) ∧ w' = W)))
      cases b0 with
      | false =>
        have HN : Aside0 (xs.all okOt = false) := ⟨HNN.out (by first | rfl | (simp [*]; done) | simp [*])⟩
        go_wp2_with (go_at_call 98; first | ((with_reducible refine (HW1.out _).mono ?_); rintro e w1 ⟨rfl, rfl⟩) | ((with_reducible refine (HW2.out _).mono ?_); rintro e w1 ⟨rfl, rfl⟩))
        go_quiet ((go_at_call 99; exact Calls.quiet_of_same (HWQ.out _)))
        go_wp2
        go_ret
        exact ⟨by rw [HN.out]; rfl, below_drewN HB.out _⟩
      | true =>
        cases b1 with
        | false =>
          have HN : Aside0 (xs.all okOt = false) := ⟨HNN.out (by first | rfl | (simp [*]; done) | simp [*])⟩
          go_wp2_with (go_at_call 98; first | ((with_reducible refine (HW1.out _).mono ?_); rintro e w1 ⟨rfl, rfl⟩) | ((with_reducible refine (HW2.out _).mono ?_); rintro e w1 ⟨rfl, rfl⟩))
          go_quiet ((go_at_call 99; exact Calls.quiet_of_same (HWQ.out _)))
          go_wp2
          go_ret
          exact ⟨by rw [HN.out]; rfl, below_drewN HB.out _⟩
        | true =>
          cases b2 with
          | false =>
            have HN : Aside0 (xs.all okOt = false) := ⟨HNN.out (by first | rfl | (simp [*]; done) | simp [*])⟩
            go_wp2_with (go_at_call 98; first | ((with_reducible refine (HW1.out _).mono ?_); rintro e w1 ⟨rfl, rfl⟩) | ((with_reducible refine (HW2.out _).mono ?_); rintro e w1 ⟨rfl, rfl⟩))
            go_quiet ((go_at_call 99; exact Calls.quiet_of_same (HWQ.out _)))
            go_wp2
            go_ret
            exact ⟨by rw [HN.out]; rfl, below_drewN HB.out _⟩
          | true =>
            by_cases hz : c ≤ b
            · have hzd : decide (c ≤ b) = true := decide_eq_true hz
              have HN : Aside0 (xs.all okOt = false) := ⟨HNN.out (by first | rfl | (simp [*]; done) | simp [*])⟩
              go_wp2_with (go_at_call 98; first | ((with_reducible refine (HW1.out _).mono ?_); rintro e w1 ⟨rfl, rfl⟩) | ((with_reducible refine (HW2.out _).mono ?_); rintro e w1 ⟨rfl, rfl⟩))
              go_quiet ((go_at_call 99; exact Calls.quiet_of_same (HWQ.out _)))
              go_wp2
              go_ret
              exact ⟨by rw [HN.out]; rfl, below_drewN HB.out _⟩
            · have hzd : decide (c ≤ b) = false := decide_eq_false hz
              have HT := Aside0.mk (HTT.out (by simp [*]))
              go_wp2_with (go_at_call 98; first | ((with_reducible refine (HW1.out _).mono ?_); rintro e w1 ⟨rfl, rfl⟩) | ((with_reducible refine (HW2.out _).mono ?_); rintro e w1 ⟨rfl, rfl⟩))
              go_quiet ((go_at_call 99; exact Calls.quiet_of_same (HWQ.out _)))
              go_wp2
              go_roundg (xs.length - (kk + 1))
              case measure => omega
              case rel => exact ⟨kk + 1, by omega, by omega, by go_num, HT, ⟨below_drewN HB.out _⟩⟩
    · have hltz : ¬ (kk : Int) < (xs.length : Int) := by omega
      have hke : xs.take kk = xs := List.take_of_length_le (by omega)
      rw [hke] at HA
      clear hke
      go_wp2
      go_ret
      exact ⟨by rw [HA.out]; rfl, HB.out⟩
end Go.Proofs.Ytgmbfecfkdbfaaa.Wi
/- Two lists of outages, held against each other. -/
set_option linter.unusedVariables false
set_option linter.unusedSimpArgs false
namespace Go.Proofs.Ytgmbfecfkdbfaaa.Wi
open Go Go.RowKit Go.Proofs.YtgmbfecfkdbfaaaW.PrintWords
set_option maxHeartbeats 8000000 in
set_option maxRecDepth 100000 in
theorem sameOuts_calls (A B : Option Addr) (cA cB : Nat) (xs : List I3) (w : World) (hx : ElAt encI3 3 w A xs) (hy : ElAt encI3 3 w B xs) (hl : xs.length ≤ 140737488355328) :
    Calls Try.prog 29 #[.slice A xs.length cA, .slice B xs.length cB] w fun e w' => e = .returned (.bool true) ∧ Below w.heap.size w w' := by
  have HX := Aside0.mk hx
  have HY := Aside0.mk hy
  clear hx hy
  go_enter Try.func29, Try.ntmps29
  go_wp2
  go_loopg [5] xs.length (fun gg s5 wr => ∃ (kk : Nat), kk ≤ xs.length ∧ xs.length - kk ≤ gg ∧ s5 = .int .i64 kk ∧ Aside0 (Below w.heap.size w wr))
  case atStart => exact ⟨0, by omega, by omega, rfl, ⟨Below.refl _ _⟩⟩
  case round =>
    obtain ⟨kk, hkk, hgg, rfl, HB⟩ := hrel
    by_cases hlt : kk < xs.length
    · have hltz : (kk : Int) < (xs.length : Int) := by omega
      obtain ⟨ad, rfl, c0, c1, c2⟩ := el3 (HX.out.below HB.out) kk hlt
      obtain ⟨ad', rfl, d0, d1, d2⟩ := el3 (HY.out.below HB.out) kk hlt
      generalize xs[kk] = x at *
      obtain ⟨a, b, c⟩ := x
      simp only at c0 c1 c2 d0 d1 d2
      go_wp2
      go_quiet (fail)
      go_wp2
      go_roundg (xs.length - (kk + 1))
      case measure => omega
      case rel => exact ⟨kk + 1, by omega, by omega, by go_num, ⟨below_drewN HB.out _⟩⟩
    · have hltz : ¬ (kk : Int) < (xs.length : Int) := by omega
      go_wp2
      go_ret
      exact ⟨rfl, HB.out⟩
end Go.Proofs.Ytgmbfecfkdbfaaa.Wi
/- A token at any address, put; a token in a list, laid down. -/
set_option linter.unusedVariables false
set_option linter.unusedSimpArgs false
namespace Go.Proofs.Ytgmbfecfkdbfaaa.Wi
open Go Go.RowKit Go.Proofs.YtgmbfecfkdbfaaaW.PrintWords
def putStr (s : WS) (x : ByteArray) : WS := s.put (pFixed x 8)
def getStr (bs : List Int) (r : RS) : ByteArray × RS := (strOfNums (rFix bs r 8).1, (rFix bs r 8).2)
theorem putStr_len (s : WS) (x : ByteArray) : (putStr s x).xs.length ≤ s.xs.length + 400000 := by
  unfold putStr
  have L0 := putFix_len s x
  omega
set_option maxHeartbeats 3200000 in
set_option maxRecDepth 100000 in
theorem tokenA_w {w : World} {B g : Nat} {ro : Option Nat} {s : WS} (bt o : Nat) (sp : Option Nat) (y : ByteArray) (hy : y.size ≤ 9223372036854775807) (hp : w.cell? ⟨bt, o, sp⟩ = some (.string y)) (hbg : bt ≠ g) (hbr : ro ≠ some bt) (hw : Wr w B g ro s) (hB : B ≤ w.heap.size) (hl : (s.put (pFixed y 8)).xs.length ≤ 140737488355328) :
    Calls Try.prog 53 #[.agg #[.pointer (some ⟨g, 0, none⟩), .pointer none], .pointer (some ⟨bt, o, sp⟩)] w (WPost B g ro (s.put (pFixed y 8)) w) := by
  have hbt : bt < w.heap.size := World.block_lt_of_cell? w _ hp
  have hgl := hw.lt
  have hrl := hw.ro_lt
  have HW := Aside0.mk ((hw.below (below1 (.cells #[.pointer (some ⟨g, 0, none⟩), .pointer none] 97))).below (Below.refl _ _).drew)
  have HB := Aside0.mk (Nat.le_trans hB (below1 (w := w) (.cells #[.pointer (some ⟨g, 0, none⟩), .pointer none] 97)).size)
  have hp1 : (w.alloc (.cells #[.pointer (some ⟨g, 0, none⟩), .pointer none] 97)).cell? ⟨bt, o, sp⟩ = some (.string y) := (World.cell?_alloc_lt w _ _ hbt).trans hp
  have hq := heap_alloc_new w (.cells #[.pointer (some ⟨g, 0, none⟩), .pointer none] 97)
  have HS0 := Aside0.mk (show (w.alloc (.cells #[.pointer (some ⟨g, 0, none⟩), .pointer none] 97)).drew.cell? ⟨w.heap.size, 0, none⟩ = some (.pointer (some ⟨g, 0, none⟩)) ∧ (w.alloc (.cells #[.pointer (some ⟨g, 0, none⟩), .pointer none] 97)).drew.cell? ⟨bt, o, sp⟩ = some (.string y) from ⟨(blk_cell hq 0).trans rfl, hp1⟩)
  have HBL := Aside0.mk (show Below w.heap.size w (w.alloc (.cells #[.pointer (some ⟨g, 0, none⟩), .pointer none] 97)).drew from (below1 (.cells #[.pointer (some ⟨g, 0, none⟩), .pointer none] 97)).drew)
  have HK : Aside0 (∀ W, Fr (WrS g ro) (w.alloc (.cells #[.pointer (some ⟨g, 0, none⟩), .pointer none] 97)).drew W → W.cell? ⟨w.heap.size, 0, none⟩ = some (.pointer (some ⟨g, 0, none⟩)) ∧ W.cell? ⟨bt, o, sp⟩ = some (.string y)) := ⟨fun W hf => by
    have e1 : ∀ k, k < (w.alloc (.cells #[.pointer (some ⟨g, 0, none⟩), .pointer none] 97)).drew.heap.size → ¬ WrS g ro k → ∀ p : Addr, p.block = k → W.cell? p = (w.alloc (.cells #[.pointer (some ⟨g, 0, none⟩), .pointer none] 97)).drew.cell? p := fun k hk hn p hpk => World.cell?_of_block (by rw [hpk]; exact hf.block k hk hn)
    have hsz := (below1 (w := w) (.cells #[.pointer (some ⟨g, 0, none⟩), .pointer none] 97)).size
    have hsz2 : w.heap.size < (w.alloc (.cells #[.pointer (some ⟨g, 0, none⟩), .pointer none] 97)).drew.heap.size := blk_lt hq
    refine ⟨(e1 _ hsz2 ?_ _ rfl).trans HS0.out.1, (e1 bt (by show bt < (w.alloc (.cells #[.pointer (some ⟨g, 0, none⟩), .pointer none] 97)).heap.size; omega) ?_ _ rfl).trans HS0.out.2⟩
    · rintro (e | e)
      · omega
      · have := (hrl _ e).2
        omega
    · rintro (e | e)
      · exact hbg e
      · exact hbr e⟩
  clear hw hB hp hp1 hq hbt hgl hrl
  go_enter Try.func53, Try.ntmps53
  go_wp2
  refine YtgmbfecfkdbfaaaG.wp_region_door 99 YtgmbfecfkdbfaaaG.keepT (fun _ _ => False) (fun W => W.cell? ⟨w.heap.size, 0, none⟩ = some (.pointer (some ⟨g, 0, none⟩)) ∧ W.cell? ⟨bt, o, sp⟩ = some (.string y)) (by kernel_rfl) trivial (fun _ _ _ _ h => h.elim) ?_
  refine YtgmbfecfkdbfaaaG.wpAnyG_take 0 (v := .pointer (some ⟨w.heap.size, 0, none⟩)) rfl (by kernel_rfl) (by kernel_rfl) (by kernel_rfl) (by kernel_rfl) (by decide) (fun a u => YtgmbfecfkdbfaaaG.keepT_put a u) HS0.out trivial (by rfl) (by rintro W ⟨h0, h1⟩; go_simp; done) ?_
  try simp only [Act.put, List.getElem_toArray, List.getElem_cons_zero, List.getElem_cons_succ, List.setIfInBounds_toArray, List.set_cons_zero, List.set_cons_succ]
  refine YtgmbfecfkdbfaaaG.wpAnyG_take 1 (v := .pointer (some ⟨g, 0, none⟩)) rfl (by kernel_rfl) (by kernel_rfl) (by kernel_rfl) (by kernel_rfl) (by decide) (fun a u => YtgmbfecfkdbfaaaG.keepT_put a u) HS0.out trivial (by rfl) (by rintro W ⟨h0, h1⟩; go_simp; done) ?_
  try simp only [Act.put, List.getElem_toArray, List.getElem_cons_zero, List.getElem_cons_succ, List.setIfInBounds_toArray, List.set_cons_zero, List.set_cons_succ]
  refine YtgmbfecfkdbfaaaG.wpAnyG_take 2 (v := .pointer (some ⟨bt, o, sp⟩)) rfl (by kernel_rfl) (by kernel_rfl) (by kernel_rfl) (by kernel_rfl) (by decide) (fun a u => YtgmbfecfkdbfaaaG.keepT_put a u) HS0.out trivial (by rfl) (by rintro W ⟨h0, h1⟩; go_simp; done) ?_
  try simp only [Act.put, List.getElem_toArray, List.getElem_cons_zero, List.getElem_cons_succ, List.setIfInBounds_toArray, List.set_cons_zero, List.set_cons_succ]
  refine YtgmbfecfkdbfaaaG.wpAnyG_take 3 (v := .pointer (some ⟨bt, o, sp⟩)) rfl (by kernel_rfl) (by kernel_rfl) (by kernel_rfl) (by kernel_rfl) (by decide) (fun a u => YtgmbfecfkdbfaaaG.keepT_put a u) HS0.out trivial (by rfl) (by rintro W ⟨h0, h1⟩; go_simp; done) ?_
  try simp only [Act.put, List.getElem_toArray, List.getElem_cons_zero, List.getElem_cons_succ, List.setIfInBounds_toArray, List.set_cons_zero, List.set_cons_succ]
  refine YtgmbfecfkdbfaaaG.wpAnyG_take 4 (v := .string y) rfl (by kernel_rfl) (by kernel_rfl) (by kernel_rfl) (by kernel_rfl) (by decide) (fun a u => YtgmbfecfkdbfaaaG.keepT_put a u) HS0.out trivial (by rfl) (by rintro W ⟨h0, h1⟩; go_simp; done) ?_
  try simp only [Act.put, List.getElem_toArray, List.getElem_cons_zero, List.getElem_cons_succ, List.setIfInBounds_toArray, List.set_cons_zero, List.set_cons_succ]
  refine YtgmbfecfkdbfaaaG.wpAnyG_one 5 rfl (by kernel_rfl) (by rfl) (fun K hK => ?_)
  go_simp
  refine (wFixed_calls y 8 hy HW.out HB.out hl).mono ?_
  rintro e w5 ⟨rfl, hP⟩
  obtain ⟨ro', hw', hgr, hf⟩ := hP
  refine hK _ _ (HK.out _ hf) trivial ?_
  clear hK K
  refine YtgmbfecfkdbfaaaG.wpAnyG_done (by kernel_rfl) ?_ _
  go_wp2
  go_end0
  exact WPost.from (w1 := (w.alloc (.cells #[.pointer (some ⟨g, 0, none⟩), .pointer none] 97)).drew) ⟨rfl, ro', hw', hgr, hf⟩ HBL.out
theorem eachStr_w {w : World} {B g : Nat} {ro : Option Nat} {s : WS} (p : Addr) (x : ByteArray) (hx : StrOk x) (hp : ∀ j u, (encStr x)[j]? = some u → w.cell? (p.add j) = some u)
    (hg : p.block ≠ g) (hr : ro ≠ some p.block) (hw : Wr w B g ro s) (hB : B ≤ w.heap.size) (hl : s.xs.length ≤ 90000000000) :
    Calls Try.prog 53 #[.agg #[.pointer (some ⟨g, 0, none⟩), .pointer none], .pointer (some p)] w (WPost B g ro (putStr s x) w) := by
  obtain ⟨pb, po, ps⟩ := p
  exact tokenA_w pb po ps x hx (hp 0 _ rfl) hg hr hw hB (by have := putFix_len s x; omega)
theorem eachStr_r {w : World} {B g : Nat} {ro : Option Nat} {bs : List Int} {r : RS} {bt : Nat} {cs : Array Value} {T : TypeId} (o : Nat) (ho : o + 1 ≤ cs.size) (hq : w.heap[bt]? = some (.cells cs T (0, 0))) (h1 : T ≠ 202) (h2 : T ≠ 5)
    (hr : Rd w B g ro bs r) (hB : B ≤ w.heap.size) :
    Calls Try.prog 53 #[.agg #[.pointer none, .pointer (some ⟨g, 0, none⟩)], .pointer (some ⟨bt, o, none⟩)] w (SPost B g ro bs bt T (putAt cs o (encStr (getStr bs r).1)) (getStr bs r).2 w) :=
  token_r o ho hq h1 h2 hr hB
end Go.Proofs.Ytgmbfecfkdbfaaa.Wi
/- A list of tokens, put. -/
set_option linter.unusedVariables false
set_option linter.unusedSimpArgs false
namespace Go.Proofs.Ytgmbfecfkdbfaaa.Wi
open Go Go.RowKit Go.Proofs.YtgmbfecfkdbfaaaW.PrintWords
set_option maxHeartbeats 8000000 in
set_option maxRecDepth 100000 in
theorem listStr_w {w : World} {B g : Nat} {ro : Option Nat} {s : WS} {bt : Nat} (k : Nat) (cs : Array Value) (T : TypeId) (xs : List ByteArray) (A : Option Addr) (c : Nat) (most : Int)
    (hq : w.heap[bt]? = some (.cells cs T (0, 0))) (hk : cs[k]? = some (.slice A xs.length c)) (hx : ElAt encStr 1 w A xs) (hok : ∀ x ∈ xs, StrOk x) (hn : xs.length ≤ 1000)
    (hA : ∀ ad, A = some ad → 0 < xs.length → ad.block ≠ g ∧ ro ≠ some ad.block) (hg : bt ≠ g) (hr : ro ≠ some bt) (hw : Wr w B g ro s) (hB : B ≤ w.heap.size) (hl : s.xs.length ≤ 10000000000) :
    Calls Try.prog 121 #[.agg #[.pointer (some ⟨g, 0, none⟩), .pointer none], .pointer (some ⟨bt, k, none⟩), .int .i64 most, .func (.func 53) #[] #[]] w (LPost B g ro bt T (if xs.length = 0 then cs.setIfInBounds k (.slice none 0 0) else cs) (putL putStr s xs) w) := by
  have hgl := hw.lt
  have hrl := hw.ro_lt
  have hbl := blk_lt hq
  have HB1 := Aside0.mk (below1 (w := w) (.cells #[.pointer (some ⟨g, 0, none⟩), .pointer none] 97))
  have hbx := heap_alloc_new w (.cells #[.pointer (some ⟨g, 0, none⟩), .pointer none] 97)
  have HK : Aside0 (∀ W, Fr (WrS g ro) (w.alloc (.cells #[.pointer (some ⟨g, 0, none⟩), .pointer none] 97)) W → W.cell? ⟨w.heap.size, 0, none⟩ = some (.pointer (some ⟨g, 0, none⟩)) ∧ W.cell? ⟨w.heap.size, 1, none⟩ = some (.pointer none) ∧ W.heap[bt]? = some (.cells cs T (0, 0)) ∧ ElAt encStr 1 W A xs) := ⟨fun W hf => by
    have hx1 := hf.blk hbx (by
      rintro (e | e)
      · omega
      · have := (hrl _ e).2
        omega)
    refine ⟨(blk_cell hx1 0).trans rfl, (blk_cell hx1 1).trans rfl, hf.blk (blk_b hq HB1.out) (fun h => h.elim hg hr), (hx.below HB1.out).keep hf (fun ad e h => ?_)⟩
    rintro (e' | e')
    · exact (hA ad e h).1 e'
    · exact (hA ad e h).2 e'⟩
  have HW := Aside0.mk (hw.below HB1.out)
  have HB := Aside0.mk (Nat.le_trans hB HB1.out.size)
  have HCK := Aside0.mk hk
  have HOK := Aside0.mk hok
  have HA := Aside0.mk hA
  have HNE := Aside0.mk (And.intro hg hr)
  have HLT := Aside0.mk (hx.lt (fun _ => by simp [encStr]))
  have HBG := Aside0.mk (And.intro hbl (And.intro hgl hrl))
  have HPN := Aside0.mk (show (s.put (pNumber xs.length 2)).xs.length ≤ s.xs.length + 65537 from putNum_len s xs.length 2)
  have HPL := Aside0.mk (fun kk => foldl_len (put := putStr) putStr_len (xs.take kk) (s.put (pNumber xs.length 2)))
  have HTL := Aside0.mk (fun kk => (by rw [List.length_take]; omega : (xs.take kk).length ≤ 1000))
  have h0 := HK.out _ (Fr.refl _ _)
  have b0 := h0.1
  have b1 := h0.2.1
  have bk : (w.alloc (.cells #[.pointer (some ⟨g, 0, none⟩), .pointer none] 97)).cell? ⟨bt, k, none⟩ = some (.slice A xs.length c) := (blk_cell h0.2.2.1 k).trans hk
  obtain ⟨cf, hcf⟩ : ∃ cf, (if xs.length = 0 then cs.setIfInBounds k (.slice none 0 0) else cs) = cf := ⟨_, rfl⟩
  rw [hcf]
  have HCF := Aside0.mk hcf
  have HCNT := Aside0.mk (wCount_calls (xs.length : Int) (by omega) HW.out HB.out (by have := HPN.out; omega))
  unfold LPost putL
  generalize s.put (pNumber (xs.length : Int) 2) = s1 at *
  clear hcf hw hB hq hk hx hok hA hg hr hbx hgl hrl hbl h0
  go_enter Try.func121, Try.ntmps121
  generalize hgb : w.heap.size = gb at HK b0 b1
  generalize hW1 : w.alloc (.cells #[.pointer (some ⟨g, 0, none⟩), .pointer none] 97) = W1 at *
  go_wp2_with (go_at_call 158; refine HCNT.out.mono ?_; rintro e w2 ⟨rfl, ro2, hw2, hg2, hf2⟩; have HW2 := Aside0.mk hw2; have HG2 := Aside0.mk hg2; have HF2 := Aside0.mk hf2; have hk2 := HK.out _ hf2; have c0 := hk2.1; have c1 := hk2.2.1; have ck : w2.cell? ⟨bt, k, none⟩ = some (.slice A xs.length c) := (blk_cell hk2.2.2.1 k).trans HCK.out; clear hw2 hg2 hf2 hk2)
  clear b0 b1 bk c0 c1 ck
  go_loopg [9, 30] xs.length (fun gg s9 s30 wr => ∃ (kk : Nat) (ro' : Option Nat), kk ≤ xs.length ∧ xs.length - kk ≤ gg ∧ s30 = .int .i64 kk ∧ Aside0 (Wr wr B g ro' ((xs.take kk).foldl putStr s1)) ∧ Aside0 (ro' = ro ∨ ∃ b, ro' = some b ∧ W1.heap.size ≤ b) ∧ Aside0 (Fr (WrS g ro) W1 wr))
  case atStart => exact ⟨0, ro2, by omega, by omega, rfl, HW2, HG2, HF2⟩
  case round =>
    obtain ⟨kk, ro', hkk, hgg, rfl, HW3, HG3, HF3⟩ := hrel
    clear HW2 HG2 HF2
    by_cases hlt : kk < xs.length
    · have hltz : (kk : Int) < (xs.length : Int) := by omega
      obtain ⟨hb0, hb1, hbk, hel⟩ := HK.out _ HF3.out
      have hck : wr.cell? ⟨bt, k, none⟩ = some (.slice A xs.length c) := (blk_cell hbk k).trans HCK.out
      obtain ⟨ad, rfl, hcells⟩ := hel kk hlt
      have HE := Aside0.mk (show ∀ j u, (encStr xs[kk])[j]? = some u → wr.drew.cell? ((ad.add kk).add j) = some u from fun j u hu => by have h := hcells j u hu; rw [Nat.mul_one] at h; rw [add_add_]; exact h)
      have HS0 := Aside0.mk (show wr.drew.cell? ⟨gb, 0, none⟩ = some (.pointer (some ⟨g, 0, none⟩)) ∧ wr.drew.cell? ⟨gb, 1, none⟩ = some (.pointer none) ∧ wr.drew.cell? ⟨bt, k, none⟩ = some (.slice (some ad) xs.length c) from ⟨hb0, hb1, hck⟩)
      have HKK : Aside0 (∀ W, Fr (WrS g ro) W1 W → W.cell? ⟨gb, 0, none⟩ = some (.pointer (some ⟨g, 0, none⟩)) ∧ W.cell? ⟨gb, 1, none⟩ = some (.pointer none) ∧ W.cell? ⟨bt, k, none⟩ = some (.slice (some ad) xs.length c)) := ⟨fun W hf => by
        obtain ⟨h0, h1, h2, _⟩ := HK.out W hf
        exact ⟨h0, h1, (blk_cell h2 k).trans HCK.out⟩⟩
      have HWD := Aside0.mk (HW3.out.below (Below.refl _ _).drew)
      have HBW := Aside0.mk (show B ≤ wr.drew.heap.size from Nat.le_trans HB.out HF3.out.size)
      have HAD := Aside0.mk (show (ad.add kk).block ≠ g ∧ ro' ≠ some (ad.add kk).block from by
        obtain ⟨h1, h2⟩ := HA.out ad rfl (by omega)
        rw [add_block]
        refine ⟨h1, ?_⟩
        rintro rfl
        rcases HG3.out with h | ⟨b, h, h3⟩
        · exact h2 h.symm
        · have h4 := Option.some.inj h
          have h5 := hel 0 (by omega)
          obtain ⟨ad', e', hc'⟩ := h5
          obtain rfl := Option.some.inj e'
          have h6 : ad.block < w.heap.size := HLT.out ad rfl (by omega)
          have h7 := HB1.out.size
          omega)
      have hfl := HPL.out kk
      have htl := HTL.out kk
      have hfl' : ((xs.take kk).foldl putStr s1).xs.length ≤ 90000000000 := by
        have h1 := HPN.out
        have h2 := Nat.mul_le_mul_right 400000 htl
        omega
      have HLE := Aside0.mk hfl'
      have HOKK := Aside0.mk (HOK.out xs[kk] (List.getElem_mem hlt))
      have HSN := Aside0.mk (fold_snoc (put := putStr) s1 xs kk hlt)
      clear hb0 hb1 hbk hel hck hcells hfl htl hfl'
      generalize xs[kk] = x at *
      go_wp2
      refine YtgmbfecfkdbfaaaG.wp_region_door 99 YtgmbfecfkdbfaaaG.keepT (fun _ _ => False) (fun W => W.cell? ⟨gb, 0, none⟩ = some (.pointer (some ⟨g, 0, none⟩)) ∧ W.cell? ⟨gb, 1, none⟩ = some (.pointer none) ∧ W.cell? ⟨bt, k, none⟩ = some (.slice (some ad) xs.length c)) (by kernel_rfl) trivial (fun _ _ _ _ h => h.elim) ?_
      refine YtgmbfecfkdbfaaaG.wpAnyG_take 0 (v := .func (.func 53) #[] #[]) rfl (by kernel_rfl) (by kernel_rfl) (by kernel_rfl) (by kernel_rfl) (by decide) (fun a u => YtgmbfecfkdbfaaaG.keepT_put a u) HS0.out trivial (by rfl) (by rintro W ⟨h0, h1, h2⟩; go_simp; done) ?_
      try simp only [Act.put, List.getElem_toArray, List.getElem_cons_zero, List.getElem_cons_succ, List.setIfInBounds_toArray, List.set_cons_zero, List.set_cons_succ]
      refine YtgmbfecfkdbfaaaG.wpAnyG_take 1 (v := .agg #[.pointer (some ⟨g, 0, none⟩), .pointer none]) rfl (by kernel_rfl) (by kernel_rfl) (by kernel_rfl) (by kernel_rfl) (by decide) (fun a u => YtgmbfecfkdbfaaaG.keepT_put a u) HS0.out trivial (by rfl) (by rintro W ⟨h0, h1, h2⟩; go_simp; done) ?_
      try simp only [Act.put, List.getElem_toArray, List.getElem_cons_zero, List.getElem_cons_succ, List.setIfInBounds_toArray, List.set_cons_zero, List.set_cons_succ]
      refine YtgmbfecfkdbfaaaG.wpAnyG_take 2 (v := .pointer (some ⟨bt, k, none⟩)) rfl (by kernel_rfl) (by kernel_rfl) (by kernel_rfl) (by kernel_rfl) (by decide) (fun a u => YtgmbfecfkdbfaaaG.keepT_put a u) HS0.out trivial (by rfl) (by rintro W ⟨h0, h1, h2⟩; go_simp; done) ?_
      try simp only [Act.put, List.getElem_toArray, List.getElem_cons_zero, List.getElem_cons_succ, List.setIfInBounds_toArray, List.set_cons_zero, List.set_cons_succ]
      refine YtgmbfecfkdbfaaaG.wpAnyG_take 3 (v := .pointer (some ⟨bt, k, none⟩)) rfl (by kernel_rfl) (by kernel_rfl) (by kernel_rfl) (by kernel_rfl) (by decide) (fun a u => YtgmbfecfkdbfaaaG.keepT_put a u) HS0.out trivial (by rfl) (by rintro W ⟨h0, h1, h2⟩; go_simp; done) ?_
      try simp only [Act.put, List.getElem_toArray, List.getElem_cons_zero, List.getElem_cons_succ, List.setIfInBounds_toArray, List.set_cons_zero, List.set_cons_succ]
      refine YtgmbfecfkdbfaaaG.wpAnyG_take 4 (v := .slice (some ad) xs.length c) rfl (by kernel_rfl) (by kernel_rfl) (by kernel_rfl) (by kernel_rfl) (by decide) (fun a u => YtgmbfecfkdbfaaaG.keepT_put a u) HS0.out trivial (by rfl) (by rintro W ⟨h0, h1, h2⟩; go_simp; done) ?_
      try simp only [Act.put, List.getElem_toArray, List.getElem_cons_zero, List.getElem_cons_succ, List.setIfInBounds_toArray, List.set_cons_zero, List.set_cons_succ]
      refine YtgmbfecfkdbfaaaG.wpAnyG_take 5 (v := .int .i64 kk) rfl (by kernel_rfl) (by kernel_rfl) (by kernel_rfl) (by kernel_rfl) (by decide) (fun a u => YtgmbfecfkdbfaaaG.keepT_put a u) HS0.out trivial (by rfl) (by rintro W ⟨h0, h1, h2⟩; go_simp; done) ?_
      try simp only [Act.put, List.getElem_toArray, List.getElem_cons_zero, List.getElem_cons_succ, List.setIfInBounds_toArray, List.set_cons_zero, List.set_cons_succ]
      refine YtgmbfecfkdbfaaaG.wpAnyG_take 6 (v := .pointer (some (ad.add kk))) rfl (by kernel_rfl) (by kernel_rfl) (by kernel_rfl) (by kernel_rfl) (by decide) (fun a u => YtgmbfecfkdbfaaaG.keepT_put a u) HS0.out trivial (by rfl) (by rintro W ⟨h0, h1, h2⟩; go_simp; done) ?_
      try simp only [Act.put, List.getElem_toArray, List.getElem_cons_zero, List.getElem_cons_succ, List.setIfInBounds_toArray, List.set_cons_zero, List.set_cons_succ]
      refine YtgmbfecfkdbfaaaG.wpAnyG_one 7 rfl (by kernel_rfl) (by rfl) (fun K hK => ?_)
      go_simp
      refine (eachStr_w (ad.add kk) x HOKK.out HE.out HAD.out.1 HAD.out.2 HWD.out HBW.out HLE.out).mono ?_
      rintro e w5 ⟨rfl, ro5, hw5, hg5, hf5⟩
      have HF5 := Aside0.mk (show Fr (WrS g ro) W1 w5 from HF3.out.drew.trans hf5 (fun i hi hs => by
        rcases hs with e | e
        · exact .inl e
        · rcases HG3.out with h | ⟨b, h, h3⟩
          · exact .inr (by rw [← h, e])
          · rw [h] at e
            obtain rfl := Option.some.inj e
            omega))
      have HG5 := Aside0.mk (show ro5 = ro ∨ ∃ b, ro5 = some b ∧ W1.heap.size ≤ b from by
        rcases hg5 with h | ⟨b, h, hb⟩
        · rw [h]; exact HG3.out
        · exact .inr ⟨b, h, Nat.le_trans HF3.out.size hb⟩)
      have HW5 := Aside0.mk hw5
      clear hw5 hg5 hf5
      refine hK _ _ (HKK.out _ HF5.out) trivial ?_
      clear hK K
      refine YtgmbfecfkdbfaaaG.wpAnyG_done (by kernel_rfl) ?_ _
      go_wp2
      go_roundg (xs.length - (kk + 1))
      case measure => omega
      case rel =>
        refine ⟨kk + 1, ro5, by omega, by omega, by go_num, ⟨?_⟩, HG5, HF5⟩
        rw [HSN.out]
        exact HW5.out
    · have hltz : ¬ (kk : Int) < (xs.length : Int) := by omega
      have hke : xs.take kk = xs := List.take_of_length_le (by omega)
      rw [hke] at HW3
      clear hke
      obtain ⟨_, _, hbk, _⟩ := HK.out _ HF3.out
      have hfw := (Fr.of_below (S := fun i => WrS g ro i ∨ i = bt) HB1.out).trans (HF3.out.mono (S' := fun i => WrS g ro i ∨ i = bt) (fun _ _ h => .inl h)) (fun _ _ h => h)
      have hgw : ro' = ro ∨ ∃ b, ro' = some b ∧ gb ≤ b := HG3.out.elim .inl (fun ⟨b, h, hb⟩ => .inr ⟨b, h, by rw [← hgb]; exact Nat.le_trans HB1.out.size hb⟩)
      have HFW := Aside0.mk hfw
      have HGW := Aside0.mk hgw
      have HBK := Aside0.mk hbk
      clear hbk hfw hgw
      by_cases hz : xs.length = 0
      · have hzb : ((xs.length : Int) == 0) = true := beq_iff_eq.2 (by omega)
        have hzf := blk_frozen HBK.out k
        have hck : wr.cell? ⟨bt, k, none⟩ = some (.slice A xs.length c) := (blk_cell HBK.out k).trans HCK.out
        have hcf := HCF.out
        rw [if_pos hz] at hcf
        subst hcf
        have hnr : ∀ k', ro' = some k' → ¬ k' = bt := fun k' hk' e => by
          subst e
          rcases HG3.out with h | ⟨b, h, hb⟩
          · exact HNE.out.2 (by rw [← h, hk'])
          · rw [hk'] at h
            have h2 := Option.some.inj h
            have h3 := HBG.out.1
            have h4 := HB1.out.size
            omega
        have hfs : Fr (fun i => i = bt) wr (wr.setCell ⟨bt, k, none⟩ (.slice none 0 0)) := (Fr.refl (fun i => i = bt) wr).set_ (p := ⟨bt, k, none⟩) (.inl rfl) _
        have HWK := Aside0.mk (HW3.out.keep hfs (fun e => HNE.out.1 e.symm) hnr)
        clear hnr hfs
        go_wp2
        go_end0
        exact ⟨rfl, ro', HWK.out, HGW.out, blk_put HBK.out k _ rfl, HFW.out.set_ (p := ⟨bt, k, none⟩) (.inl (.inr rfl)) _⟩
      · have hzb : ((xs.length : Int) == 0) = false := beq_eq_false_iff_ne.2 (by omega)
        have hcf := HCF.out
        rw [if_neg hz] at hcf
        subst hcf
        go_wp2
        go_end0
        exact ⟨rfl, ro', HW3.out, HGW.out, HBK.out, HFW.out⟩
end Go.Proofs.Ytgmbfecfkdbfaaa.Wi
/- A list of tokens, laid down. -/
set_option linter.unusedVariables false
set_option linter.unusedSimpArgs false
namespace Go.Proofs.Ytgmbfecfkdbfaaa.Wi
open Go Go.RowKit Go.Proofs.YtgmbfecfkdbfaaaW.PrintWords
theorem infoStr : (Try.prog.info? 9).map (fun i => (i.zero, i.size, i.bytes)) = some (some (.string ⟨#[]⟩), 1, 16) := by kernel_rfl
theorem makeStr (n : Nat) (hn : n ≤ 1000) (W : World) : (Instr.makeSlice 58 (.int .i64 (n : Int)) (.int .i64 (n : Int))).run Try.prog W = .ok (.slice (some ⟨W.heap.size, 0, none⟩) n n) (W.alloc (.cells ((List.replicate n (⟨#[]⟩ : ByteArray)).flatMap encStr).toArray 9)) := by
  obtain ⟨i0, hi, hzz⟩ := Option.map_eq_some_iff.1 infoStr
  simp only [Prod.mk.injEq] at hzz
  obtain ⟨hz0, hz1, hz2⟩ := hzz
  have h := run_make (P := Try.prog) W 58 9 i0 (.string ⟨#[]⟩) Try.underlying58 hi hz0 .i64 .i64 (n : Int) (n : Int) (by omega) (Int.le_refl _) (by rw [hz2]; omega) (by omega)
  rw [Int.toNat_natCast, hz1, made_flat (enc := encStr) (m := 1) (⟨#[]⟩ : ByteArray) (fun _ => rfl) ((.string ⟨#[]⟩) : Value).cells rfl] at h
  exact h
set_option maxHeartbeats 8000000 in
set_option maxRecDepth 100000 in
theorem listStr_r {w : World} {B g : Nat} {ro : Option Nat} {bs : List Int} {r : RS} {bt : Nat} (k : Nat) (cs : Array Value) (T : TypeId) (most : Int) (hm0 : 0 ≤ most) (hm1 : most ≤ 1000)
    (hq : w.heap[bt]? = some (.cells cs T (0, 0))) (hk : cs[k]? = some (.slice none 0 0)) (h1 : T ≠ 202) (h2 : T ≠ 5) (hr : Rd w B g ro bs r) (hB : B ≤ w.heap.size) :
    Calls Try.prog 121 #[.agg #[.pointer none, .pointer (some ⟨g, 0, none⟩)], .pointer (some ⟨bt, k, none⟩), .int .i64 most, .func (.func 53) #[] #[]] w (LRPost encStr 9 B g ro bs bt T cs k (getL bs (getStr bs) most r).1 (getL bs (getStr bs) most r).2 w) := by
  obtain ⟨hbg, hbr⟩ := hr.ne_ hq h1 h2
  have HB1 := Aside0.mk (below1 (w := w) (.cells #[.pointer none, .pointer (some ⟨g, 0, none⟩)] 97))
  have hbx := heap_alloc_new w (.cells #[.pointer none, .pointer (some ⟨g, 0, none⟩)] 97)
  have HBX := Aside0.mk hbx
  have HQ1 := Aside0.mk (blk_b hq HB1.out)
  have HR1 := Aside0.mk (hr.below HB1.out)
  have HLT := Aside0.mk (And.intro (blk_lt hq) hr.lt)
  have HBG := Aside0.mk hbg
  have HBR := Aside0.mk hbr
  have HCK := Aside0.mk hk
  have HRG := rCou_range bs r most hm0
  have C := Aside0.mk (rCount_calls most HR1.out (Nat.le_trans hB HB1.out.size))
  unfold getL
  obtain ⟨⟨n, r1⟩, hp⟩ : ∃ p, rCou bs r most = p := ⟨_, rfl⟩
  rw [hp] at HRG ⊢
  unfold rCou at hp
  rw [hp] at C
  simp only at HRG C ⊢
  obtain ⟨nn, hnn⟩ : ∃ nn : Nat, n = (nn : Int) := ⟨n.toNat, by omega⟩
  subst hnn
  rw [Int.toNat_natCast]
  have hn : nn ≤ 1000 := by omega
  have hmk := makeStr nn hn
  have HBB := Aside0.mk (Nat.le_trans hB HB1.out.size)
  have b0 : (w.alloc (.cells #[.pointer none, .pointer (some ⟨g, 0, none⟩)] 97)).cell? ⟨w.heap.size, 0, none⟩ = some (.pointer none) := (blk_cell hbx 0).trans rfl
  have b1 : (w.alloc (.cells #[.pointer none, .pointer (some ⟨g, 0, none⟩)] 97)).cell? ⟨w.heap.size, 1, none⟩ = some (.pointer (some ⟨g, 0, none⟩)) := (blk_cell hbx 1).trans rfl
  have bk : (w.alloc (.cells #[.pointer none, .pointer (some ⟨g, 0, none⟩)] 97)).cell? ⟨bt, k, none⟩ = some (.slice none 0 0) := (blk_cell HQ1.out k).trans hk
  have HGB : Aside0 (w.heap.size ≤ w.heap.size) := ⟨Nat.le_refl _⟩
  clear hq hk hr hB hbg hbr hbx hp HRG
  go_enter Try.func121, Try.ntmps121
  generalize hgb : w.heap.size = gb at HBX b0 b1
  have HGE : Aside0 (gb = w.heap.size) := ⟨hgb.symm⟩
  have HL1 := Aside0.mk (blk_lt HBX.out)
  generalize hW1 : w.alloc (.cells #[.pointer none, .pointer (some ⟨g, 0, none⟩)] 97) = W1 at *
  go_wp2_with (go_at_call 159; refine C.out.mono ?_; rintro e w2 ⟨rfl, R2, f2⟩; have HR2 := Aside0.mk R2; have HF2 := Aside0.mk f2; have qk := blk_b (f2.blk HQ1.out HBG.out) (below1 (.cells ((List.replicate nn (⟨#[]⟩ : ByteArray)).flatMap encStr).toArray 9)); have ck := (blk_cell qk k).trans HCK.out; have zk := blk_frozen qk k; have HQ2 := Aside0.mk qk; have qn := heap_alloc_new w2 (.cells ((List.replicate nn (⟨#[]⟩ : ByteArray)).flatMap encStr).toArray 9); have HQN := Aside0.mk qn; have hx2 := blk_b (f2.blk HBX.out (by have := HLT.out.2; have := HGE.out; omega)) (below1 (.cells ((List.replicate nn (⟨#[]⟩ : ByteArray)).flatMap encStr).toArray 9)); have HX2 := Aside0.mk hx2; clear R2 f2 qk qn hx2)
  have hnb : gb < w2.heap.size ∧ bt < w2.heap.size ∧ g < w2.heap.size := by
    have h1 := HF2.out.size
    have h2 := HL1.out
    have h3 := HLT.out
    have h4 := HB1.out.size
    exact ⟨by omega, by omega, by omega⟩
  have HQ3 := Aside0.mk (blk_set HQ2.out k (.slice (some ⟨w2.heap.size, 0, none⟩) nn nn))
  have HQN3 := Aside0.mk (blk_far HQN.out (p := ⟨bt, k, none⟩) (by show w2.heap.size ≠ bt; omega) (.slice (some ⟨w2.heap.size, 0, none⟩) nn nn))
  have HX3 := Aside0.mk (blk_far HX2.out (p := ⟨bt, k, none⟩) (by show gb ≠ bt; have := HLT.out; have := HGE.out; omega) (.slice (some ⟨w2.heap.size, 0, none⟩) nn nn))
  have HR3 := Aside0.mk ((HR2.out.below (below1 (.cells ((List.replicate nn (⟨#[]⟩ : ByteArray)).flatMap encStr).toArray 9))).keep ((Fr.refl (fun i => i = bt) (w2.alloc (.cells ((List.replicate nn (⟨#[]⟩ : ByteArray)).flatMap encStr).toArray 9))).set_ (p := ⟨bt, k, none⟩) (.inl rfl) (.slice (some ⟨w2.heap.size, 0, none⟩) nn nn)) (fun e => HBG.out e.symm) (fun k hk e => HBR.out (by rw [hk, e])))
  have HF3 := Aside0.mk ((((Fr.of_below (S := fun i => i = g ∨ i = bt) HB1.out).trans (HF2.out.mono (S' := fun i => i = g ∨ i = bt) (fun i _ h => .inl h)) (fun _ _ h => h)).then_below (below1 (.cells ((List.replicate nn (⟨#[]⟩ : ByteArray)).flatMap encStr).toArray 9))).set_ (p := ⟨bt, k, none⟩) (.inl (.inr rfl)) (.slice (some ⟨w2.heap.size, 0, none⟩) nn nn))
  have HNB := Aside0.mk hnb
  have HBN := Aside0.mk (show B ≤ ((w2.alloc (.cells ((List.replicate nn (⟨#[]⟩ : ByteArray)).flatMap encStr).toArray 9)).setCell ⟨bt, k, none⟩ (.slice (some ⟨w2.heap.size, 0, none⟩) nn nn)).heap.size from Nat.le_trans HBB.out (Nat.le_trans HF2.out.size (by simp [World.setCell])))
  clear HQ2 HQN HX2 HR2 HF2 ck zk b0 b1 bk hnb HBX HQ1 HR1 C
  generalize hW3 : (w2.alloc (.cells ((List.replicate nn (⟨#[]⟩ : ByteArray)).flatMap encStr).toArray 9)).setCell ⟨bt, k, none⟩ (.slice (some ⟨w2.heap.size, 0, none⟩) nn nn) = W3 at *
  generalize w2.heap.size = nb at *
  clear hW3
  go_loopg [9, 30] nn (fun gg s9 s30 wr => ∃ (kk : Nat), kk ≤ nn ∧ nn - kk ≤ gg ∧ s30 = .int .i64 kk ∧ Aside0 (Rd wr B g ro bs (getN (getStr bs) kk r1).2) ∧ Aside0 (wr.heap[nb]? = some (.cells (((getN (getStr bs) kk r1).1 ++ List.replicate (nn - kk) (⟨#[]⟩ : ByteArray)).flatMap encStr).toArray 9 (0, 0))) ∧ Aside0 (Fr (fun i => i = g ∨ i = nb) W3 wr))
  case atStart => exact ⟨0, by omega, by omega, rfl, HR3, ⟨by simpa [getN] using HQN3.out⟩, ⟨Fr.refl _ _⟩⟩
  case round =>
    obtain ⟨kk, hkk, hgg, rfl, HR4, HQ4, HF4⟩ := hrel
    have HX4 := Aside0.mk (HF4.out.blk HX3.out (by have := HNB.out; have := HLT.out; have := HGE.out; omega))
    have HT4 := Aside0.mk (HF4.out.blk HQ3.out (by have := HNB.out; have := HBG.out; omega))
    by_cases hlt : kk < nn
    · have hltz : (kk : Int) < (nn : Int) := by omega
      have hks : k < cs.size := (Array.getElem?_eq_some_iff.1 HCK.out).1
      have HS0 := Aside0.mk (show wr.drew.cell? ⟨gb, 0, none⟩ = some (.pointer none) ∧ wr.drew.cell? ⟨gb, 1, none⟩ = some (.pointer (some ⟨g, 0, none⟩)) ∧ wr.drew.cell? ⟨bt, k, none⟩ = some (.slice (some ⟨nb, 0, none⟩) nn nn) from ⟨(blk_cell HX4.out 0).trans rfl, (blk_cell HX4.out 1).trans rfl, (blk_cell HT4.out k).trans (by simp [hks])⟩)
      have HKK : Aside0 (∀ W, Fr (fun i => i = g ∨ i = nb) W3 W → W.cell? ⟨gb, 0, none⟩ = some (.pointer none) ∧ W.cell? ⟨gb, 1, none⟩ = some (.pointer (some ⟨g, 0, none⟩)) ∧ W.cell? ⟨bt, k, none⟩ = some (.slice (some ⟨nb, 0, none⟩) nn nn)) := ⟨fun W hf => by
        have hx := hf.blk HX3.out (by have := HNB.out; have := HLT.out; have := HGE.out; omega)
        have ht := hf.blk HQ3.out (by have := HNB.out; have := HBG.out; omega)
        exact ⟨(blk_cell hx 0).trans rfl, (blk_cell hx 1).trans rfl, (blk_cell ht k).trans (by simp [hks])⟩⟩
      have HRD := Aside0.mk (HR4.out.below (Below.refl _ _).drew)
      have HBW := Aside0.mk (show B ≤ wr.drew.heap.size from Nat.le_trans HBN.out HF4.out.size)
      have hlen := getN_len (getStr bs) kk r1
      have hst := row_step (enc := encStr) (m := 1) (fun _ => rfl) (getN (getStr bs) kk r1).1 (⟨#[]⟩ : ByteArray) (getStr bs (getN (getStr bs) kk r1).2).1 nn kk hlt hlen
      rw [Nat.mul_one] at hst
      have HST := Aside0.mk hst
      clear hst
      have HSZ := Aside0.mk (show kk * 1 + 1 ≤ (((getN (getStr bs) kk r1).1 ++ List.replicate (nn - kk) (⟨#[]⟩ : ByteArray)).flatMap encStr).toArray.size from by
        rw [List.size_toArray, flat_len (m := 1) (fun _ => rfl), List.length_append, hlen, List.length_replicate, show kk + (nn - kk) = nn by omega, ← Nat.succ_mul]
        exact Nat.mul_le_mul_right 1 hlt)
      have HGN : Aside0 (getN (getStr bs) (kk + 1) r1 = ((getN (getStr bs) kk r1).1 ++ [(getStr bs (getN (getStr bs) kk r1).2).1], (getStr bs (getN (getStr bs) kk r1).2).2)) := ⟨rfl⟩
      have HQD := Aside0.mk (show wr.drew.heap[nb]? = _ from HQ4.out)
      clear hlen
      generalize getN (getStr bs) kk r1 = q at *
      obtain ⟨ys, r4⟩ := q
      simp only at HR4 HQ4 HRD HST HSZ HGN HQD
      go_wp2
      refine YtgmbfecfkdbfaaaG.wp_region_door 99 YtgmbfecfkdbfaaaG.keepT (fun _ _ => False) (fun W => W.cell? ⟨gb, 0, none⟩ = some (.pointer none) ∧ W.cell? ⟨gb, 1, none⟩ = some (.pointer (some ⟨g, 0, none⟩)) ∧ W.cell? ⟨bt, k, none⟩ = some (.slice (some ⟨nb, 0, none⟩) nn nn)) (by kernel_rfl) trivial (fun _ _ _ _ h => h.elim) ?_
      refine YtgmbfecfkdbfaaaG.wpAnyG_take 0 (v := .func (.func 53) #[] #[]) rfl (by kernel_rfl) (by kernel_rfl) (by kernel_rfl) (by kernel_rfl) (by decide) (fun a u => YtgmbfecfkdbfaaaG.keepT_put a u) HS0.out trivial (by rfl) (by rintro W ⟨h0, h1, h2⟩; go_simp; done) ?_
      try simp only [Act.put, List.getElem_toArray, List.getElem_cons_zero, List.getElem_cons_succ, List.setIfInBounds_toArray, List.set_cons_zero, List.set_cons_succ]
      refine YtgmbfecfkdbfaaaG.wpAnyG_take 1 (v := .agg #[.pointer none, .pointer (some ⟨g, 0, none⟩)]) rfl (by kernel_rfl) (by kernel_rfl) (by kernel_rfl) (by kernel_rfl) (by decide) (fun a u => YtgmbfecfkdbfaaaG.keepT_put a u) HS0.out trivial (by rfl) (by rintro W ⟨h0, h1, h2⟩; go_simp; done) ?_
      try simp only [Act.put, List.getElem_toArray, List.getElem_cons_zero, List.getElem_cons_succ, List.setIfInBounds_toArray, List.set_cons_zero, List.set_cons_succ]
      refine YtgmbfecfkdbfaaaG.wpAnyG_take 2 (v := .pointer (some ⟨bt, k, none⟩)) rfl (by kernel_rfl) (by kernel_rfl) (by kernel_rfl) (by kernel_rfl) (by decide) (fun a u => YtgmbfecfkdbfaaaG.keepT_put a u) HS0.out trivial (by rfl) (by rintro W ⟨h0, h1, h2⟩; go_simp; done) ?_
      try simp only [Act.put, List.getElem_toArray, List.getElem_cons_zero, List.getElem_cons_succ, List.setIfInBounds_toArray, List.set_cons_zero, List.set_cons_succ]
      refine YtgmbfecfkdbfaaaG.wpAnyG_take 3 (v := .pointer (some ⟨bt, k, none⟩)) rfl (by kernel_rfl) (by kernel_rfl) (by kernel_rfl) (by kernel_rfl) (by decide) (fun a u => YtgmbfecfkdbfaaaG.keepT_put a u) HS0.out trivial (by rfl) (by rintro W ⟨h0, h1, h2⟩; go_simp; done) ?_
      try simp only [Act.put, List.getElem_toArray, List.getElem_cons_zero, List.getElem_cons_succ, List.setIfInBounds_toArray, List.set_cons_zero, List.set_cons_succ]
      refine YtgmbfecfkdbfaaaG.wpAnyG_take 4 (v := .slice (some ⟨nb, 0, none⟩) nn nn) rfl (by kernel_rfl) (by kernel_rfl) (by kernel_rfl) (by kernel_rfl) (by decide) (fun a u => YtgmbfecfkdbfaaaG.keepT_put a u) HS0.out trivial (by rfl) (by rintro W ⟨h0, h1, h2⟩; go_simp; done) ?_
      try simp only [Act.put, List.getElem_toArray, List.getElem_cons_zero, List.getElem_cons_succ, List.setIfInBounds_toArray, List.set_cons_zero, List.set_cons_succ]
      refine YtgmbfecfkdbfaaaG.wpAnyG_take 5 (v := .int .i64 kk) rfl (by kernel_rfl) (by kernel_rfl) (by kernel_rfl) (by kernel_rfl) (by decide) (fun a u => YtgmbfecfkdbfaaaG.keepT_put a u) HS0.out trivial (by rfl) (by rintro W ⟨h0, h1, h2⟩; go_simp; done) ?_
      try simp only [Act.put, List.getElem_toArray, List.getElem_cons_zero, List.getElem_cons_succ, List.setIfInBounds_toArray, List.set_cons_zero, List.set_cons_succ]
      refine YtgmbfecfkdbfaaaG.wpAnyG_take 6 (v := .pointer (some ((⟨nb, 0, none⟩ : Addr).add kk))) rfl (by kernel_rfl) (by kernel_rfl) (by kernel_rfl) (by kernel_rfl) (by decide) (fun a u => YtgmbfecfkdbfaaaG.keepT_put a u) HS0.out trivial (by rfl) (by rintro W ⟨h0, h1, h2⟩; go_simp; done) ?_
      try simp only [Act.put, List.getElem_toArray, List.getElem_cons_zero, List.getElem_cons_succ, List.setIfInBounds_toArray, List.set_cons_zero, List.set_cons_succ]
      refine YtgmbfecfkdbfaaaG.wpAnyG_one 7 rfl (by kernel_rfl) (by rfl) (fun K hK => ?_)
      go_simp
      try rw [addz_]
      refine (eachStr_r kk (by have := HSZ.out; omega) HQD.out (by decide) (by decide) HRD.out HBW.out).mono ?_
      rintro e w5 ⟨rfl, R5, hq5, f5⟩
      have HR5 := Aside0.mk R5
      have HF5 := Aside0.mk (show Fr (fun i => i = g ∨ i = nb) W3 w5 from HF4.out.drew.trans f5 (fun _ _ h => h))
      have HQ5 := Aside0.mk (hq5.trans (by rw [HST.out]))
      clear R5 hq5 f5
      refine hK _ _ (HKK.out _ HF5.out) trivial ?_
      clear hK K
      refine YtgmbfecfkdbfaaaG.wpAnyG_done (by kernel_rfl) ?_ _
      go_wp2
      go_roundg (nn - (kk + 1))
      case measure => omega
      case rel => exact ⟨kk + 1, by omega, by omega, by go_num, ⟨by rw [HGN.out]; exact HR5.out⟩, ⟨by rw [HGN.out]; exact HQ5.out⟩, HF5⟩
    · have hltz : ¬ (kk : Int) < (nn : Int) := by omega
      obtain rfl : kk = nn := by omega
      have HFE := Aside0.mk (show Fr (fun i => i = g ∨ i = bt) w wr from HF3.out.trans HF4.out (fun i hi h => by
        rcases h with h | h
        · exact .inl h
        · have := HNB.out
          have := HGE.out
          omega))
      rw [Nat.sub_self, List.replicate_zero, List.append_nil] at HQ4
      by_cases hz : kk = 0
      · subst hz
        have hzf := blk_frozen HT4.out k
        have hks : k < cs.size := (Array.getElem?_eq_some_iff.1 HCK.out).1
        have hck : wr.cell? ⟨bt, k, none⟩ = some (.slice (some ⟨nb, 0, none⟩) 0 0) := (blk_cell HT4.out k).trans (by simp [hks])
        go_wp2
        go_end0
        refine ⟨rfl, HR4.out.keep ((Fr.refl (fun i => i = bt) wr).set_ (p := ⟨bt, k, none⟩) (.inl rfl) _) (fun e => HBG.out e.symm) (fun k hk e => HBR.out (by rw [hk, e])), ⟨.slice none 0 0, blk_put HT4.out k _ (by simp), .inl ⟨rfl, rfl⟩⟩, HFE.out.set_ (p := ⟨bt, k, none⟩) (.inl (.inr rfl)) _⟩
      · have hzb : ((kk : Int) == 0) = false := beq_eq_false_iff_ne.2 (by omega)
        go_wp2
        go_end0
        refine ⟨rfl, HR4.out, ⟨.slice (some ⟨nb, 0, none⟩) kk kk, HT4.out, .inr ⟨by rw [getN_len]; omega, nb, by have := HNB.out; have := HGE.out; omega, by rw [getN_len], HQ4.out⟩⟩, HFE.out⟩
end Go.Proofs.Ytgmbfecfkdbfaaa.Wi
/- Words for records with lists. -/
set_option linter.unusedVariables false
set_option linter.unusedSimpArgs false
namespace Go.Proofs.Ytgmbfecfkdbfaaa.Wi
open Go Go.RowKit Go.Proofs.YtgmbfecfkdbfaaaW.PrintWords
theorem putFlo_len (s : WS) (n : Nat) : (s.put (pFloat n)).xs.length ≤ s.xs.length + 65537 := put_len s _ (fun ys h => by
  obtain rfl := Option.some.inj h
  rw [be_length]
  omega)
section
variable {W1 W W' : World} {B g : Nat} {ro : Option Nat} {s s' : WS} {bs : List Int} {r r' : RS} {bt : Nat} {cs cs' : Array Value} {T : TypeId} {F : Nat} {args : Array Value}
/-- a record with lists half put -/
structure OWL (W1 W : World) (B g : Nat) (ro : Option Nat) (s : WS) (bt : Nat) (T : TypeId) (cs : Array Value) : Prop where
  base : B ≤ W1.heap.size
  wr : ∃ ro', Wr W B g ro' s ∧ (ro' = ro ∨ ∃ b, ro' = some b ∧ W1.heap.size ≤ b)
  blk : W.heap[bt]? = some (.cells cs T (0, 0))
  fr : Fr (fun i => WrS g ro i ∨ i = bt) W1 W
theorem OWL.then_ (h : OWL W1 W B g ro s bt T cs) (hb : Below W.heap.size W W') : OWL W1 W' B g ro s bt T cs := by
  obtain ⟨h0, ⟨ro', h1, h2⟩, h3, h4⟩ := h
  exact ⟨h0, ⟨ro', h1.below hb, h2⟩, blk_b h3 hb, h4.then_below hb⟩
theorem OWL.list (h : OWL W1 W B g ro s bt T cs) (hbt : bt < W1.heap.size) (hg : bt ≠ g) (hr : ro ≠ some bt)
    (hC : ∀ ro', Wr W B g ro' s → B ≤ W.heap.size → ro' ≠ some bt → (∀ k, k < W1.heap.size → ro ≠ some k → ro' ≠ some k) → Calls Try.prog F args W (LPost B g ro' bt T cs' s' W)) :
    Calls Try.prog F args W fun e W' => e = .returned (.tuple #[]) ∧ OWL W1 W' B g ro s' bt T cs' := by
  obtain ⟨h0, ⟨ro', h1, h2⟩, h3, h4⟩ := h
  have hfar : ∀ k, k < W1.heap.size → ro ≠ some k → ro' ≠ some k := fun k hk hn e => by
    rcases h2 with h | ⟨b, h, hb⟩
    · exact hn (by rw [← h, e])
    · rw [h] at e
      obtain rfl := Option.some.inj e
      omega
  refine (hC ro' h1 (Nat.le_trans h0 h4.size) (hfar bt hbt hr) hfar).mono fun e W' hP => ?_
  obtain ⟨he, ro2, hw2, hg2, hq2, hf2⟩ := hP
  refine ⟨he, h0, ⟨ro2, hw2, ?_⟩, hq2, h4.trans hf2 (fun i hi hs => ?_)⟩
  · rcases hg2 with h | ⟨b, h, hb⟩
    · rw [h]; exact h2
    · exact .inr ⟨b, h, Nat.le_trans h4.size hb⟩
  · rcases hs with (e | e) | e
    · exact .inl (.inl e)
    · rcases h2 with h | ⟨b, h, hb⟩
      · exact .inl (.inr (by rw [← h, e]))
      · rw [h] at e
        obtain rfl := Option.some.inj e
        omega
    · exact .inr e
theorem OWL.call (h : OWL W1 W B g ro s bt T cs) (hbt : bt < W1.heap.size) (hg : bt ≠ g) (hr : ro ≠ some bt)
    (hC : ∀ ro', Wr W B g ro' s → B ≤ W.heap.size → ro' ≠ some bt → Calls Try.prog F args W (WPost B g ro' s' W)) :
    Calls Try.prog F args W fun e W' => e = .returned (.tuple #[]) ∧ OWL W1 W' B g ro s' bt T cs := by
  have hq := h.blk
  refine h.list hbt hg hr fun ro' h1 h2 h3 _ => (hC ro' h1 h2 h3).mono fun e W' hP => ?_
  obtain ⟨he, ro2, hw2, hg2, hf2⟩ := hP
  exact ⟨he, ro2, hw2, hg2, hf2.blk hq (fun h => h.elim hg h3), hf2.mono (fun _ _ h => .inl h)⟩
theorem OR_.list {α : Type} {enc : α → List Value} {E : TypeId} {k : Nat} {xs : List α} (h : OR_ W1 W B g ro bs bt T cs r) (hC : Calls Try.prog F args W (LRPost enc E B g ro bs bt T cs k xs r' W)) :
    Calls Try.prog F args W fun e W' => e = .returned (.tuple #[]) ∧ ∃ v, OR_ W1 W' B g ro bs bt T (cs.setIfInBounds k v) r' ∧ RowAt enc E W.heap.size W' v xs := by
  refine hC.mono fun e W' hP => ?_
  obtain ⟨he, hr, ⟨v, hq, hv⟩, hf⟩ := hP
  exact ⟨he, v, ⟨h.base, hr, hq, h.fr.trans hf (fun _ _ h => h)⟩, hv⟩
theorem ifset_get {p : Prop} [Decidable p] {cs : Array Value} {k j : Nat} {v : Value} (h : k ≠ j) : (if p then cs.setIfInBounds k v else cs)[j]? = cs[j]? := by
  split
  · rw [Array.getElem?_setIfInBounds_ne h]
  · rfl
end
section
variable {W1 W W' : World} {B g : Nat} {ro : Option Nat} {s : WS} {bs : List Int} {r : RS} {bt : Nat} {cs : Array Value} {T : TypeId}
theorem OWL.num1 (h : OWL W1 W B g ro s bt T cs) (k0 : Nat) (n0 : Int) (size : Int) (hbt : bt < W1.heap.size) (hg : bt ≠ g) (hr : ro ≠ some bt) (hk0 : cs[k0]? = some (.int .i64 n0)) (hn0 : n0 ≤ 9223372036854775807) (hl : s.xs.length ≤ 100000000000) :
    Calls Try.prog 54 #[.agg #[.pointer (some ⟨g, 0, none⟩), .pointer none], .int .i64 size, .slice (some ⟨W.heap.size, 0, none⟩) 1 1] (W.alloc (.cells #[.pointer (some ⟨bt, k0, none⟩)] 101)) fun e W' => e = .returned (.tuple #[]) ∧ OWL W1 W' B g ro (s.put (pNumber n0 size)) bt T cs := by
  have hq := heap_alloc_new W (.cells #[.pointer (some ⟨bt, k0, none⟩)] 101)
  have hb := below1 (w := W) (.cells #[.pointer (some ⟨bt, k0, none⟩)] 101)
  have hgl : g < W.heap.size := by
    obtain ⟨ro', h1, _⟩ := h.wr
    exact h1.lt
  have h2 := h.then_ hb
  refine h2.call hbt hg hr fun ro' h3 h4 h5 => ?_
  have hng : W.heap.size ≠ g ∧ ro' ≠ some W.heap.size := ⟨by omega, fun e => by
    obtain ⟨v, _, ho, hro⟩ := h3.at_
    exact own_ne ho hq (by decide) (by rw [hro, e])⟩
  exact number_w size ⟨W.heap.size, 0, none⟩ 1 [⟨bt, k0, none⟩] [n0] rfl (fun m hm => by rw [List.mem_singleton.1 hm]; exact hn0) (by simp)
    (fun i hi => by
      match i, hi with
      | 0, _ => exact ⟨(blk_cell hq 0).trans rfl, hng⟩
      | i + 1, hi => exact absurd hi (by simp))
    (fun i hi hj => by
      match i, hi, hj with
      | 0, _, _ => exact ⟨(blk_cell h2.blk k0).trans hk0, hg, h5⟩
      | i + 1, hi, _ => exact absurd hi (by simp)) h3 h4 hl
theorem OR_.numF1 (h : OR_ W1 W B g ro bs bt T cs r) (k0 : Nat) (size : Int) (hk0 : k0 < cs.size) (h1 : T ≠ 202) (h2 : T ≠ 5) :
    Calls Try.prog 54 #[.agg #[.pointer none, .pointer (some ⟨g, 0, none⟩)], .int .i64 size, .slice (some ⟨W.heap.size, 0, none⟩) 1 1] (W.alloc (.cells #[.pointer (some ⟨bt, k0, none⟩)] 101)) fun e W' => e = .returned (.tuple #[]) ∧ OR_ W1 W' B g ro bs bt T (cs.setIfInBounds k0 (.int .i64 (rNum bs r size).1)) (rNum bs r size).2 ∧ Fr (fun i => i = g ∨ i = bt) W W' := by
  have hb := below1 (w := W) (.cells #[.pointer (some ⟨bt, k0, none⟩)] 101)
  have hq := heap_alloc_new W (.cells #[.pointer (some ⟨bt, k0, none⟩)] 101)
  have h3 := h.then_ hb
  have hgl := h.rd_.lt
  have hbl := blk_lt h.blk
  have C := number_r size ⟨W.heap.size, 0, none⟩ 1 [k0] (fun m hm => by rw [List.mem_singleton.1 hm]; exact hk0) (by simp)
    (fun i hi => by
      match i, hi with
      | 0, _ => exact ⟨(blk_cell hq 0).trans rfl, by show W.heap.size ≠ g; omega, by show W.heap.size ≠ bt; omega⟩
      | i + 1, hi => exact absurd hi (by simp)) h3.blk h1 h2 h3.rd_ (Nat.le_trans h.base (Nat.le_trans h.fr.size hb.size))
  exact C.mono fun e W' ⟨he, hr, hq, hf⟩ => ⟨he, ⟨h.base, hr, hq, h3.fr.trans hf (fun _ _ h => h)⟩, (Fr.of_below hb).trans hf (fun _ _ h => h)⟩
theorem OWL.num2 (h : OWL W1 W B g ro s bt T cs) (k0 : Nat) (n0 : Int) (k1 : Nat) (n1 : Int) (size : Int) (hbt : bt < W1.heap.size) (hg : bt ≠ g) (hr : ro ≠ some bt) (hk0 : cs[k0]? = some (.int .i64 n0)) (hn0 : n0 ≤ 9223372036854775807) (hk1 : cs[k1]? = some (.int .i64 n1)) (hn1 : n1 ≤ 9223372036854775807) (hl : s.xs.length ≤ 100000000000) :
    Calls Try.prog 54 #[.agg #[.pointer (some ⟨g, 0, none⟩), .pointer none], .int .i64 size, .slice (some ⟨W.heap.size, 0, none⟩) 2 2] (W.alloc (.cells #[.pointer (some ⟨bt, k0, none⟩), .pointer (some ⟨bt, k1, none⟩)] 101)) fun e W' => e = .returned (.tuple #[]) ∧ OWL W1 W' B g ro ((s.put (pNumber n0 size)).put (pNumber n1 size)) bt T cs := by
  have hq := heap_alloc_new W (.cells #[.pointer (some ⟨bt, k0, none⟩), .pointer (some ⟨bt, k1, none⟩)] 101)
  have hb := below1 (w := W) (.cells #[.pointer (some ⟨bt, k0, none⟩), .pointer (some ⟨bt, k1, none⟩)] 101)
  have hgl : g < W.heap.size := by
    obtain ⟨ro', h1, _⟩ := h.wr
    exact h1.lt
  have h2 := h.then_ hb
  refine h2.call hbt hg hr fun ro' h3 h4 h5 => ?_
  have hng : W.heap.size ≠ g ∧ ro' ≠ some W.heap.size := ⟨by omega, fun e => by
    obtain ⟨v, _, ho, hro⟩ := h3.at_
    exact own_ne ho hq (by decide) (by rw [hro, e])⟩
  exact number_w size ⟨W.heap.size, 0, none⟩ 2 [⟨bt, k0, none⟩, ⟨bt, k1, none⟩] [n0, n1] rfl (fun m hm => by
        simp only [List.mem_cons, List.not_mem_nil, or_false] at hm
        rcases hm with rfl | rfl
        · exact hn0
        · exact hn1) (by simp)
    (fun i hi => by
      match i, hi with
      | 0, _ => exact ⟨(blk_cell hq 0).trans rfl, hng⟩
      | 1, _ => exact ⟨(blk_cell hq 1).trans rfl, hng⟩
      | i + 2, hi => exact absurd hi (by simp))
    (fun i hi hj => by
      match i, hi, hj with
      | 0, _, _ => exact ⟨(blk_cell h2.blk k0).trans hk0, hg, h5⟩
      | 1, _, _ => exact ⟨(blk_cell h2.blk k1).trans hk1, hg, h5⟩
      | i + 2, hi, _ => exact absurd hi (by simp)) h3 h4 hl
theorem OR_.numF2 (h : OR_ W1 W B g ro bs bt T cs r) (k0 : Nat) (k1 : Nat) (size : Int) (hk0 : k0 < cs.size) (hk1 : k1 < cs.size) (h1 : T ≠ 202) (h2 : T ≠ 5) :
    Calls Try.prog 54 #[.agg #[.pointer none, .pointer (some ⟨g, 0, none⟩)], .int .i64 size, .slice (some ⟨W.heap.size, 0, none⟩) 2 2] (W.alloc (.cells #[.pointer (some ⟨bt, k0, none⟩), .pointer (some ⟨bt, k1, none⟩)] 101)) fun e W' => e = .returned (.tuple #[]) ∧ OR_ W1 W' B g ro bs bt T ((cs.setIfInBounds k0 (.int .i64 (rNum bs r size).1)).setIfInBounds k1 (.int .i64 (rNum bs (rNum bs r size).2 size).1)) (rNum bs (rNum bs r size).2 size).2 ∧ Fr (fun i => i = g ∨ i = bt) W W' := by
  have hb := below1 (w := W) (.cells #[.pointer (some ⟨bt, k0, none⟩), .pointer (some ⟨bt, k1, none⟩)] 101)
  have hq := heap_alloc_new W (.cells #[.pointer (some ⟨bt, k0, none⟩), .pointer (some ⟨bt, k1, none⟩)] 101)
  have h3 := h.then_ hb
  have hgl := h.rd_.lt
  have hbl := blk_lt h.blk
  have C := number_r size ⟨W.heap.size, 0, none⟩ 2 [k0, k1] (fun m hm => by
      simp only [List.mem_cons, List.not_mem_nil, or_false] at hm
      rcases hm with rfl | rfl
      · exact hk0
      · exact hk1) (by simp)
    (fun i hi => by
      match i, hi with
      | 0, _ => exact ⟨(blk_cell hq 0).trans rfl, by show W.heap.size ≠ g; omega, by show W.heap.size ≠ bt; omega⟩
      | 1, _ => exact ⟨(blk_cell hq 1).trans rfl, by show W.heap.size ≠ g; omega, by show W.heap.size ≠ bt; omega⟩
      | i + 2, hi => exact absurd hi (by simp)) h3.blk h1 h2 h3.rd_ (Nat.le_trans h.base (Nat.le_trans h.fr.size hb.size))
  exact C.mono fun e W' ⟨he, hr, hq, hf⟩ => ⟨he, ⟨h.base, hr, hq, h3.fr.trans hf (fun _ _ h => h)⟩, (Fr.of_below hb).trans hf (fun _ _ h => h)⟩
theorem OWL.num3 (h : OWL W1 W B g ro s bt T cs) (k0 : Nat) (n0 : Int) (k1 : Nat) (n1 : Int) (k2 : Nat) (n2 : Int) (size : Int) (hbt : bt < W1.heap.size) (hg : bt ≠ g) (hr : ro ≠ some bt) (hk0 : cs[k0]? = some (.int .i64 n0)) (hn0 : n0 ≤ 9223372036854775807) (hk1 : cs[k1]? = some (.int .i64 n1)) (hn1 : n1 ≤ 9223372036854775807) (hk2 : cs[k2]? = some (.int .i64 n2)) (hn2 : n2 ≤ 9223372036854775807) (hl : s.xs.length ≤ 100000000000) :
    Calls Try.prog 54 #[.agg #[.pointer (some ⟨g, 0, none⟩), .pointer none], .int .i64 size, .slice (some ⟨W.heap.size, 0, none⟩) 3 3] (W.alloc (.cells #[.pointer (some ⟨bt, k0, none⟩), .pointer (some ⟨bt, k1, none⟩), .pointer (some ⟨bt, k2, none⟩)] 101)) fun e W' => e = .returned (.tuple #[]) ∧ OWL W1 W' B g ro (((s.put (pNumber n0 size)).put (pNumber n1 size)).put (pNumber n2 size)) bt T cs := by
  have hq := heap_alloc_new W (.cells #[.pointer (some ⟨bt, k0, none⟩), .pointer (some ⟨bt, k1, none⟩), .pointer (some ⟨bt, k2, none⟩)] 101)
  have hb := below1 (w := W) (.cells #[.pointer (some ⟨bt, k0, none⟩), .pointer (some ⟨bt, k1, none⟩), .pointer (some ⟨bt, k2, none⟩)] 101)
  have hgl : g < W.heap.size := by
    obtain ⟨ro', h1, _⟩ := h.wr
    exact h1.lt
  have h2 := h.then_ hb
  refine h2.call hbt hg hr fun ro' h3 h4 h5 => ?_
  have hng : W.heap.size ≠ g ∧ ro' ≠ some W.heap.size := ⟨by omega, fun e => by
    obtain ⟨v, _, ho, hro⟩ := h3.at_
    exact own_ne ho hq (by decide) (by rw [hro, e])⟩
  exact number_w size ⟨W.heap.size, 0, none⟩ 3 [⟨bt, k0, none⟩, ⟨bt, k1, none⟩, ⟨bt, k2, none⟩] [n0, n1, n2] rfl (fun m hm => by
        simp only [List.mem_cons, List.not_mem_nil, or_false] at hm
        rcases hm with rfl | rfl | rfl
        · exact hn0
        · exact hn1
        · exact hn2) (by simp)
    (fun i hi => by
      match i, hi with
      | 0, _ => exact ⟨(blk_cell hq 0).trans rfl, hng⟩
      | 1, _ => exact ⟨(blk_cell hq 1).trans rfl, hng⟩
      | 2, _ => exact ⟨(blk_cell hq 2).trans rfl, hng⟩
      | i + 3, hi => exact absurd hi (by simp))
    (fun i hi hj => by
      match i, hi, hj with
      | 0, _, _ => exact ⟨(blk_cell h2.blk k0).trans hk0, hg, h5⟩
      | 1, _, _ => exact ⟨(blk_cell h2.blk k1).trans hk1, hg, h5⟩
      | 2, _, _ => exact ⟨(blk_cell h2.blk k2).trans hk2, hg, h5⟩
      | i + 3, hi, _ => exact absurd hi (by simp)) h3 h4 hl
theorem OR_.numF3 (h : OR_ W1 W B g ro bs bt T cs r) (k0 : Nat) (k1 : Nat) (k2 : Nat) (size : Int) (hk0 : k0 < cs.size) (hk1 : k1 < cs.size) (hk2 : k2 < cs.size) (h1 : T ≠ 202) (h2 : T ≠ 5) :
    Calls Try.prog 54 #[.agg #[.pointer none, .pointer (some ⟨g, 0, none⟩)], .int .i64 size, .slice (some ⟨W.heap.size, 0, none⟩) 3 3] (W.alloc (.cells #[.pointer (some ⟨bt, k0, none⟩), .pointer (some ⟨bt, k1, none⟩), .pointer (some ⟨bt, k2, none⟩)] 101)) fun e W' => e = .returned (.tuple #[]) ∧ OR_ W1 W' B g ro bs bt T (((cs.setIfInBounds k0 (.int .i64 (rNum bs r size).1)).setIfInBounds k1 (.int .i64 (rNum bs (rNum bs r size).2 size).1)).setIfInBounds k2 (.int .i64 (rNum bs (rNum bs (rNum bs r size).2 size).2 size).1)) (rNum bs (rNum bs (rNum bs r size).2 size).2 size).2 ∧ Fr (fun i => i = g ∨ i = bt) W W' := by
  have hb := below1 (w := W) (.cells #[.pointer (some ⟨bt, k0, none⟩), .pointer (some ⟨bt, k1, none⟩), .pointer (some ⟨bt, k2, none⟩)] 101)
  have hq := heap_alloc_new W (.cells #[.pointer (some ⟨bt, k0, none⟩), .pointer (some ⟨bt, k1, none⟩), .pointer (some ⟨bt, k2, none⟩)] 101)
  have h3 := h.then_ hb
  have hgl := h.rd_.lt
  have hbl := blk_lt h.blk
  have C := number_r size ⟨W.heap.size, 0, none⟩ 3 [k0, k1, k2] (fun m hm => by
      simp only [List.mem_cons, List.not_mem_nil, or_false] at hm
      rcases hm with rfl | rfl | rfl
      · exact hk0
      · exact hk1
      · exact hk2) (by simp)
    (fun i hi => by
      match i, hi with
      | 0, _ => exact ⟨(blk_cell hq 0).trans rfl, by show W.heap.size ≠ g; omega, by show W.heap.size ≠ bt; omega⟩
      | 1, _ => exact ⟨(blk_cell hq 1).trans rfl, by show W.heap.size ≠ g; omega, by show W.heap.size ≠ bt; omega⟩
      | 2, _ => exact ⟨(blk_cell hq 2).trans rfl, by show W.heap.size ≠ g; omega, by show W.heap.size ≠ bt; omega⟩
      | i + 3, hi => exact absurd hi (by simp)) h3.blk h1 h2 h3.rd_ (Nat.le_trans h.base (Nat.le_trans h.fr.size hb.size))
  exact C.mono fun e W' ⟨he, hr, hq, hf⟩ => ⟨he, ⟨h.base, hr, hq, h3.fr.trans hf (fun _ _ h => h)⟩, (Fr.of_below hb).trans hf (fun _ _ h => h)⟩
theorem OWL.num4 (h : OWL W1 W B g ro s bt T cs) (k0 : Nat) (n0 : Int) (k1 : Nat) (n1 : Int) (k2 : Nat) (n2 : Int) (k3 : Nat) (n3 : Int) (size : Int) (hbt : bt < W1.heap.size) (hg : bt ≠ g) (hr : ro ≠ some bt) (hk0 : cs[k0]? = some (.int .i64 n0)) (hn0 : n0 ≤ 9223372036854775807) (hk1 : cs[k1]? = some (.int .i64 n1)) (hn1 : n1 ≤ 9223372036854775807) (hk2 : cs[k2]? = some (.int .i64 n2)) (hn2 : n2 ≤ 9223372036854775807) (hk3 : cs[k3]? = some (.int .i64 n3)) (hn3 : n3 ≤ 9223372036854775807) (hl : s.xs.length ≤ 100000000000) :
    Calls Try.prog 54 #[.agg #[.pointer (some ⟨g, 0, none⟩), .pointer none], .int .i64 size, .slice (some ⟨W.heap.size, 0, none⟩) 4 4] (W.alloc (.cells #[.pointer (some ⟨bt, k0, none⟩), .pointer (some ⟨bt, k1, none⟩), .pointer (some ⟨bt, k2, none⟩), .pointer (some ⟨bt, k3, none⟩)] 101)) fun e W' => e = .returned (.tuple #[]) ∧ OWL W1 W' B g ro ((((s.put (pNumber n0 size)).put (pNumber n1 size)).put (pNumber n2 size)).put (pNumber n3 size)) bt T cs := by
  have hq := heap_alloc_new W (.cells #[.pointer (some ⟨bt, k0, none⟩), .pointer (some ⟨bt, k1, none⟩), .pointer (some ⟨bt, k2, none⟩), .pointer (some ⟨bt, k3, none⟩)] 101)
  have hb := below1 (w := W) (.cells #[.pointer (some ⟨bt, k0, none⟩), .pointer (some ⟨bt, k1, none⟩), .pointer (some ⟨bt, k2, none⟩), .pointer (some ⟨bt, k3, none⟩)] 101)
  have hgl : g < W.heap.size := by
    obtain ⟨ro', h1, _⟩ := h.wr
    exact h1.lt
  have h2 := h.then_ hb
  refine h2.call hbt hg hr fun ro' h3 h4 h5 => ?_
  have hng : W.heap.size ≠ g ∧ ro' ≠ some W.heap.size := ⟨by omega, fun e => by
    obtain ⟨v, _, ho, hro⟩ := h3.at_
    exact own_ne ho hq (by decide) (by rw [hro, e])⟩
  exact number_w size ⟨W.heap.size, 0, none⟩ 4 [⟨bt, k0, none⟩, ⟨bt, k1, none⟩, ⟨bt, k2, none⟩, ⟨bt, k3, none⟩] [n0, n1, n2, n3] rfl (fun m hm => by
        simp only [List.mem_cons, List.not_mem_nil, or_false] at hm
        rcases hm with rfl | rfl | rfl | rfl
        · exact hn0
        · exact hn1
        · exact hn2
        · exact hn3) (by simp)
    (fun i hi => by
      match i, hi with
      | 0, _ => exact ⟨(blk_cell hq 0).trans rfl, hng⟩
      | 1, _ => exact ⟨(blk_cell hq 1).trans rfl, hng⟩
      | 2, _ => exact ⟨(blk_cell hq 2).trans rfl, hng⟩
      | 3, _ => exact ⟨(blk_cell hq 3).trans rfl, hng⟩
      | i + 4, hi => exact absurd hi (by simp))
    (fun i hi hj => by
      match i, hi, hj with
      | 0, _, _ => exact ⟨(blk_cell h2.blk k0).trans hk0, hg, h5⟩
      | 1, _, _ => exact ⟨(blk_cell h2.blk k1).trans hk1, hg, h5⟩
      | 2, _, _ => exact ⟨(blk_cell h2.blk k2).trans hk2, hg, h5⟩
      | 3, _, _ => exact ⟨(blk_cell h2.blk k3).trans hk3, hg, h5⟩
      | i + 4, hi, _ => exact absurd hi (by simp)) h3 h4 hl
theorem OR_.numF4 (h : OR_ W1 W B g ro bs bt T cs r) (k0 : Nat) (k1 : Nat) (k2 : Nat) (k3 : Nat) (size : Int) (hk0 : k0 < cs.size) (hk1 : k1 < cs.size) (hk2 : k2 < cs.size) (hk3 : k3 < cs.size) (h1 : T ≠ 202) (h2 : T ≠ 5) :
    Calls Try.prog 54 #[.agg #[.pointer none, .pointer (some ⟨g, 0, none⟩)], .int .i64 size, .slice (some ⟨W.heap.size, 0, none⟩) 4 4] (W.alloc (.cells #[.pointer (some ⟨bt, k0, none⟩), .pointer (some ⟨bt, k1, none⟩), .pointer (some ⟨bt, k2, none⟩), .pointer (some ⟨bt, k3, none⟩)] 101)) fun e W' => e = .returned (.tuple #[]) ∧ OR_ W1 W' B g ro bs bt T ((((cs.setIfInBounds k0 (.int .i64 (rNum bs r size).1)).setIfInBounds k1 (.int .i64 (rNum bs (rNum bs r size).2 size).1)).setIfInBounds k2 (.int .i64 (rNum bs (rNum bs (rNum bs r size).2 size).2 size).1)).setIfInBounds k3 (.int .i64 (rNum bs (rNum bs (rNum bs (rNum bs r size).2 size).2 size).2 size).1)) (rNum bs (rNum bs (rNum bs (rNum bs r size).2 size).2 size).2 size).2 ∧ Fr (fun i => i = g ∨ i = bt) W W' := by
  have hb := below1 (w := W) (.cells #[.pointer (some ⟨bt, k0, none⟩), .pointer (some ⟨bt, k1, none⟩), .pointer (some ⟨bt, k2, none⟩), .pointer (some ⟨bt, k3, none⟩)] 101)
  have hq := heap_alloc_new W (.cells #[.pointer (some ⟨bt, k0, none⟩), .pointer (some ⟨bt, k1, none⟩), .pointer (some ⟨bt, k2, none⟩), .pointer (some ⟨bt, k3, none⟩)] 101)
  have h3 := h.then_ hb
  have hgl := h.rd_.lt
  have hbl := blk_lt h.blk
  have C := number_r size ⟨W.heap.size, 0, none⟩ 4 [k0, k1, k2, k3] (fun m hm => by
      simp only [List.mem_cons, List.not_mem_nil, or_false] at hm
      rcases hm with rfl | rfl | rfl | rfl
      · exact hk0
      · exact hk1
      · exact hk2
      · exact hk3) (by simp)
    (fun i hi => by
      match i, hi with
      | 0, _ => exact ⟨(blk_cell hq 0).trans rfl, by show W.heap.size ≠ g; omega, by show W.heap.size ≠ bt; omega⟩
      | 1, _ => exact ⟨(blk_cell hq 1).trans rfl, by show W.heap.size ≠ g; omega, by show W.heap.size ≠ bt; omega⟩
      | 2, _ => exact ⟨(blk_cell hq 2).trans rfl, by show W.heap.size ≠ g; omega, by show W.heap.size ≠ bt; omega⟩
      | 3, _ => exact ⟨(blk_cell hq 3).trans rfl, by show W.heap.size ≠ g; omega, by show W.heap.size ≠ bt; omega⟩
      | i + 4, hi => exact absurd hi (by simp)) h3.blk h1 h2 h3.rd_ (Nat.le_trans h.base (Nat.le_trans h.fr.size hb.size))
  exact C.mono fun e W' ⟨he, hr, hq, hf⟩ => ⟨he, ⟨h.base, hr, hq, h3.fr.trans hf (fun _ _ h => h)⟩, (Fr.of_below hb).trans hf (fun _ _ h => h)⟩
theorem OR_.stepF {F : Nat} {args : Array Value} {cs' : Array Value} {r' : RS} (h : OR_ W1 W B g ro bs bt T cs r) (hC : Calls Try.prog F args W (SPost B g ro bs bt T cs' r' W)) : Calls Try.prog F args W fun e W' => e = .returned (.tuple #[]) ∧ OR_ W1 W' B g ro bs bt T cs' r' ∧ Fr (fun i => i = g ∨ i = bt) W W' :=
  hC.mono fun e W' ⟨he, hr, hq, hf⟩ => ⟨he, ⟨h.base, hr, hq, h.fr.trans hf (fun _ _ h => h)⟩, hf⟩
theorem OR_.listF {F : Nat} {args : Array Value} {r' : RS} {α : Type} {enc : α → List Value} {E : TypeId} {k : Nat} {xs : List α} (h : OR_ W1 W B g ro bs bt T cs r) (hC : Calls Try.prog F args W (LRPost enc E B g ro bs bt T cs k xs r' W)) :
    Calls Try.prog F args W fun e W' => e = .returned (.tuple #[]) ∧ ∃ v, OR_ W1 W' B g ro bs bt T (cs.setIfInBounds k v) r' ∧ RowAt enc E W.heap.size W' v xs ∧ Fr (fun i => i = g ∨ i = bt) W W' := by
  refine hC.mono fun e W' hP => ?_
  obtain ⟨he, hr, ⟨v, hq, hv⟩, hf⟩ := hP
  exact ⟨he, v, ⟨h.base, hr, hq, h.fr.trans hf (fun _ _ h => h)⟩, hv, hf⟩
/-- a row of the call's own, made since W1: the reader's and the record's blocks are none of it -/
theorem RowAt.hold {α : Type} {enc : α → List Value} {E : TypeId} {v : Value} {xs : List α} (h : RowAt enc E W1.heap.size W v xs) (hg : g < W1.heap.size) (hb : bt < W1.heap.size) (hf : Fr (fun i => i = g ∨ i = bt) W W') : RowAt enc E W1.heap.size W' v xs :=
  h.keep hf (fun k hk hs => by have h1 := (h.own k hk).1; rcases hs with e | e <;> omega)
theorem putL_len {α : Type} {put : WS → α → WS} (h : ∀ s x, (put s x).xs.length ≤ s.xs.length + 400000) (s : WS) (xs : List α) (hn : xs.length ≤ 1000) : (putL put s xs).xs.length ≤ s.xs.length + 500000000 := by
  unfold putL
  have h1 := foldl_len h xs (s.put (pNumber xs.length 2))
  have h2 := putNum_len s xs.length 2
  have h4 := Nat.mul_le_mul_right 400000 hn
  omega
end
end Go.Proofs.Ytgmbfecfkdbfaaa.Wi
/- A delta's pieces, put and laid down. -/
set_option linter.unusedVariables false
set_option linter.unusedSimpArgs false
namespace Go.Proofs.Ytgmbfecfkdbfaaa.Wi
open Go Go.RowKit Go.Proofs.YtgmbfecfkdbfaaaW.PrintWords
structure Delta where
  n0 : Int
  l1 : List ByteArray
  l2 : List ByteArray
structure Delta.Ok (t : Delta) : Prop where
  n0 : I64 t.n0
  l1 : ∀ x ∈ t.l1, StrOk x
  l2 : ∀ x ∈ t.l2, StrOk x
def Delta.zero : Delta := ⟨0, [], []⟩
def Delta.putS (s : WS) (t : Delta) : WS := (putL putStr (putL putStr (s.put (pNumber t.n0 8)) t.l1) t.l2)
def Delta.readS (bs : List Int) (r : RS) : Delta × RS :=
  let p0 := rNum bs r 8
  let p1 := getL bs (getStr bs) 1000 p0.2
  let p2 := getL bs (getStr bs) 1000 p1.2
  (⟨p0.1, p1.1, p2.1⟩, p2.2)
/-- a record whose lists are read -/
structure Delta.At (w : World) (t : Delta) (A1 : Option Addr) (c1 : Nat) (A2 : Option Addr) (c2 : Nat) : Prop where
  e1 : ElAt encStr 1 w A1 t.l1
  e2 : ElAt encStr 1 w A2 t.l2
theorem Delta.At.below {w w' : World} {t : Delta} {A1 : Option Addr} {c1 : Nat} {A2 : Option Addr} {c2 : Nat} (h : Delta.At w t A1 c1 A2 c2) (hb : Below w.heap.size w w') : Delta.At w' t A1 c1 A2 c2 := ⟨h.e1.below hb, h.e2.below hb⟩
theorem Delta.At.keep {w w' : World} {t : Delta} {S : Nat → Prop} {A1 : Option Addr} {c1 : Nat} {A2 : Option Addr} {c2 : Nat} (h : Delta.At w t A1 c1 A2 c2) (hf : Fr S w w') (h1 : ∀ ad, A1 = some ad → 0 < t.l1.length → ¬ S ad.block) (h2 : ∀ ad, A2 = some ad → 0 < t.l2.length → ¬ S ad.block) : Delta.At w' t A1 c1 A2 c2 := ⟨h.e1.keep hf h1, h.e2.keep hf h2⟩
set_option maxHeartbeats 16000000 in
set_option maxRecDepth 100000 in
theorem overDelta_w {w : World} {B g : Nat} {ro : Option Nat} {s : WS} {bt : Nat} (t : Delta) (A1 : Option Addr) (c1 : Nat) (A2 : Option Addr) (c2 : Nat) (ht : t.Ok) (hx : Delta.At w t A1 c1 A2 c2) (hn1 : t.l1.length ≤ 1000) (hn2 : t.l2.length ≤ 1000)
    (hA1 : ∀ ad, A1 = some ad → 0 < t.l1.length → ad.block < w.heap.size ∧ ad.block ≠ g ∧ ro ≠ some ad.block ∧ ad.block ≠ bt) (hA2 : ∀ ad, A2 = some ad → 0 < t.l2.length → ad.block < w.heap.size ∧ ad.block ≠ g ∧ ro ≠ some ad.block ∧ ad.block ≠ bt)
    (hq : w.heap[bt]? = some (.cells #[.int .i64 t.n0, .slice A1 t.l1.length c1, .slice A2 t.l2.length c2] 60 (0, 0))) (hg : bt ≠ g) (hr : ro ≠ some bt) (hw : Wr w B g ro s) (hB : B ≤ w.heap.size) (hl : s.xs.length ≤ 1000000000) :
    Calls Try.prog 80 #[.agg #[.pointer (some ⟨g, 0, none⟩), .pointer none], .pointer (some ⟨bt, 0, none⟩)] w fun e w' => e = .returned (.tuple #[]) ∧ ∃ ro', Wr w' B g ro' (Delta.putS s t) ∧ (ro' = ro ∨ ∃ b, ro' = some b ∧ w.heap.size ≤ b) ∧ Fr (fun i => WrS g ro i ∨ i = bt) w w' := by
  unfold Delta.putS
  obtain ⟨⟨_, k_n0⟩, k_l1, k_l2⟩ := ht
  obtain ⟨he1, he2⟩ := hx
  obtain ⟨n0, l1, l2⟩ := t
  simp only at hq k_n0 k_l1 k_l2 hn1 hA1 he1 hn2 hA2 he2 ⊢
  have HB1 := Aside0.mk (below1 (w := w) (.cells #[.pointer (some ⟨g, 0, none⟩), .pointer none] 97))
  have hbx := heap_alloc_new w (.cells #[.pointer (some ⟨g, 0, none⟩), .pointer none] 97)
  have hq1 := (Fr.of_below (S := fun _ => False) HB1.out).blk hq (fun h => h)
  have hbl := blk_lt hq
  have hbl1 : bt < (w.alloc (.cells #[.pointer (some ⟨g, 0, none⟩), .pointer none] 97)).heap.size := blk_lt hq1
  have H0 := Aside0.mk (show OWL (w.alloc (.cells #[.pointer (some ⟨g, 0, none⟩), .pointer none] 97)) (w.alloc (.cells #[.pointer (some ⟨g, 0, none⟩), .pointer none] 97)) B g ro s bt 60 _ from ⟨Nat.le_trans hB HB1.out.size, ⟨ro, hw.below HB1.out, .inl rfl⟩, hq1, Fr.refl _ _⟩)
  have hgl := hw.lt
  have hrl := hw.ro_lt
  have HK : Aside0 (∀ W, Fr (fun i => WrS g ro i ∨ i = bt) (w.alloc (.cells #[.pointer (some ⟨g, 0, none⟩), .pointer none] 97)) W → W.cell? ⟨w.heap.size, 0, none⟩ = some (.pointer (some ⟨g, 0, none⟩)) ∧ W.cell? ⟨w.heap.size, 1, none⟩ = some (.pointer none)) := ⟨fun W hf => by
    have hx := hf.blk hbx (by
      rintro ((e | e) | e)
      · omega
      · have := (hrl _ e).2
        omega
      · omega)
    exact ⟨(blk_cell hx 0).trans rfl, (blk_cell hx 1).trans rfl⟩⟩
  have HE1 : Aside0 (∀ W, Fr (fun i => WrS g ro i ∨ i = bt) (w.alloc (.cells #[.pointer (some ⟨g, 0, none⟩), .pointer none] 97)) W → ElAt encStr 1 W A1 l1) := ⟨fun W hf => (he1.below HB1.out).keep hf (fun ad e h hs => by
    obtain ⟨_, h1, h2, h3⟩ := hA1 ad e h
    rcases hs with (e | e) | e
    · exact h1 e
    · exact h2 e
    · exact h3 e)⟩
  have HN1 : Aside0 (∀ ad, A1 = some ad → 0 < l1.length → ad.block < (w.alloc (.cells #[.pointer (some ⟨g, 0, none⟩), .pointer none] 97)).heap.size ∧ ad.block ≠ g ∧ ro ≠ some ad.block) := ⟨fun ad e h => by
    obtain ⟨h0, h1, h2, _⟩ := hA1 ad e h
    exact ⟨Nat.lt_of_lt_of_le h0 HB1.out.size, h1, h2⟩⟩
  have HE2 : Aside0 (∀ W, Fr (fun i => WrS g ro i ∨ i = bt) (w.alloc (.cells #[.pointer (some ⟨g, 0, none⟩), .pointer none] 97)) W → ElAt encStr 1 W A2 l2) := ⟨fun W hf => (he2.below HB1.out).keep hf (fun ad e h hs => by
    obtain ⟨_, h1, h2, h3⟩ := hA2 ad e h
    rcases hs with (e | e) | e
    · exact h1 e
    · exact h2 e
    · exact h3 e)⟩
  have HN2 : Aside0 (∀ ad, A2 = some ad → 0 < l2.length → ad.block < (w.alloc (.cells #[.pointer (some ⟨g, 0, none⟩), .pointer none] 97)).heap.size ∧ ad.block ≠ g ∧ ro ≠ some ad.block) := ⟨fun ad e h => by
    obtain ⟨h0, h1, h2, _⟩ := hA2 ad e h
    exact ⟨Nat.lt_of_lt_of_le h0 HB1.out.size, h1, h2⟩⟩
  have L0 := putNum_len s n0 8
  have L1 := putL_len putStr_len (s.put (pNumber n0 8)) l1 hn1
  have L2 := putL_len putStr_len (putL putStr (s.put (pNumber n0 8)) l1) l2 hn2
  have HL := Aside0.mk (And.intro hl (And.intro L0 (And.intro L1 L2)))
  have HBT := Aside0.mk hbl1
  clear hq hw hB hbx hq1 hgl hrl hbl hbl1 hl L0 L1 L2 he1 hA1 he2 hA2
  go_enter Try.func80, Try.ntmps80
  go_wp2
  generalize hW1 : w.alloc (.cells #[.pointer (some ⟨g, 0, none⟩), .pointer none] 97) = W1 at *
  generalize hgb : w.heap.size = gb at HK ⊢
  obtain ⟨cs, hcs⟩ : ∃ cs : Array Value, cs = #[.int .i64 n0, .slice A1 l1.length c1, .slice A2 l2.length c2] := ⟨_, rfl⟩
  rw [← hcs] at H0
  have C0 : cs[0]? = some (.int .i64 n0) := by rw [hcs]; rfl
  have C1 : cs[1]? = some (.slice A1 l1.length c1) := by rw [hcs]; rfl
  have C2 : cs[2]? = some (.slice A2 l2.length c2) := by rw [hcs]; rfl
  have HC0 := Aside0.mk (And.intro C0 (And.intro C1 C2))
  clear hcs C0 C1 C2
  have HS0 := Aside0.mk (HK.out _ H0.out.fr)
  have HS0 := Aside0.mk (show (W1).drew.cell? ⟨gb, 0, none⟩ = _ ∧ (W1).drew.cell? ⟨gb, 1, none⟩ = _ from HS0.out)
  refine YtgmbfecfkdbfaaaG.wp_region_door 99 YtgmbfecfkdbfaaaG.keepT (fun _ _ => False) (fun W => W.cell? ⟨gb, 0, none⟩ = some (.pointer (some ⟨g, 0, none⟩)) ∧ W.cell? ⟨gb, 1, none⟩ = some (.pointer none)) (by kernel_rfl) trivial (fun _ _ _ _ h => h.elim) ?_
  refine YtgmbfecfkdbfaaaG.wpAnyG_take 0 (v := .agg #[.pointer (some ⟨g, 0, none⟩), .pointer none]) rfl (by kernel_rfl) (by kernel_rfl) (by kernel_rfl) (by kernel_rfl) (by decide) (fun a u => YtgmbfecfkdbfaaaG.keepT_put a u) HS0.out trivial (by rfl) (by rintro W ⟨h0, h1⟩; go_simp; done) ?_
  try simp only [Act.put, List.getElem_toArray, List.getElem_cons_zero, List.getElem_cons_succ, List.setIfInBounds_toArray, List.set_cons_zero, List.set_cons_succ]
  refine YtgmbfecfkdbfaaaG.wpAnyG_take 1 (v := .pointer (some ⟨bt, 0, none⟩)) rfl (by kernel_rfl) (by kernel_rfl) (by kernel_rfl) (by kernel_rfl) (by decide) (fun a u => YtgmbfecfkdbfaaaG.keepT_put a u) HS0.out trivial (by rfl) (by rintro W ⟨h0, h1⟩; go_simp; done) ?_
  try simp only [Act.put, List.getElem_toArray, List.getElem_cons_zero, List.getElem_cons_succ, List.setIfInBounds_toArray, List.set_cons_zero, List.set_cons_succ]
  refine YtgmbfecfkdbfaaaG.wpAnyG_take 2 (v := .pointer (some ⟨bt, 0, none⟩)) rfl (by kernel_rfl) (by kernel_rfl) (by kernel_rfl) (by kernel_rfl) (by decide) (fun a u => YtgmbfecfkdbfaaaG.keepT_put a u) HS0.out trivial (by rfl) (by rintro W ⟨h0, h1⟩; go_simp; done) ?_
  try simp only [Act.put, List.getElem_toArray, List.getElem_cons_zero, List.getElem_cons_succ, List.setIfInBounds_toArray, List.set_cons_zero, List.set_cons_succ]
  refine YtgmbfecfkdbfaaaG.wpAnyG_take 3 (v := .pointer (some ⟨bt, 0, none⟩)) rfl (by kernel_rfl) (by kernel_rfl) (by kernel_rfl) (by kernel_rfl) (by decide) (fun a u => YtgmbfecfkdbfaaaG.keepT_put a u) HS0.out trivial (by rfl) (by rintro W ⟨h0, h1⟩; go_simp; done) ?_
  try simp only [Act.put, List.getElem_toArray, List.getElem_cons_zero, List.getElem_cons_succ, List.setIfInBounds_toArray, List.set_cons_zero, List.set_cons_succ]
  have HD0 := Aside0.mk (H0.out.then_ (Below.refl _ _).drew)
  refine YtgmbfecfkdbfaaaG.wpAnyG_one 4 rfl (by kernel_rfl) (by rfl) (fun K hK => ?_)
  go_simp
  refine hK _ _ (HK.out _ (HD0.out.then_ (below1 _)).fr) trivial ?_
  try simp only [Act.put, List.getElem_toArray, List.getElem_cons_zero, List.getElem_cons_succ, List.setIfInBounds_toArray, List.set_cons_zero, List.set_cons_succ]
  clear hK K
  refine YtgmbfecfkdbfaaaG.wpAnyG_one 5 rfl (by kernel_rfl) (by rfl) (fun K hK => ?_)
  go_simp
  refine (OWL.num1 HD0.out 0 n0 8 HBT.out hg hr HC0.out.1 k_n0 (by have := HL.out; omega)).mono ?_
  rintro e w1 ⟨rfl, H1'⟩
  have H1 := Aside0.mk H1'
  clear H1'
  refine hK _ _ (HK.out _ H1.out.fr) trivial ?_
  try simp only [Act.put, List.getElem_toArray, List.getElem_cons_zero, List.getElem_cons_succ, List.setIfInBounds_toArray, List.set_cons_zero, List.set_cons_succ]
  clear hK K HS0
  refine YtgmbfecfkdbfaaaG.wpAnyG_done (by kernel_rfl) ?_ _
  go_wp2
  have HS0 := Aside0.mk (HK.out _ H1.out.fr)
  have HS0 := Aside0.mk (show (w1).drew.cell? ⟨gb, 0, none⟩ = _ ∧ (w1).drew.cell? ⟨gb, 1, none⟩ = _ from HS0.out)
  refine YtgmbfecfkdbfaaaG.wp_region_door 99 YtgmbfecfkdbfaaaG.keepT (fun _ _ => False) (fun W => W.cell? ⟨gb, 0, none⟩ = some (.pointer (some ⟨g, 0, none⟩)) ∧ W.cell? ⟨gb, 1, none⟩ = some (.pointer none)) (by kernel_rfl) trivial (fun _ _ _ _ h => h.elim) ?_
  refine YtgmbfecfkdbfaaaG.wpAnyG_take 0 (v := .agg #[.pointer (some ⟨g, 0, none⟩), .pointer none]) rfl (by kernel_rfl) (by kernel_rfl) (by kernel_rfl) (by kernel_rfl) (by decide) (fun a u => YtgmbfecfkdbfaaaG.keepT_put a u) HS0.out trivial (by rfl) (by rintro W ⟨h0, h1⟩; go_simp; done) ?_
  try simp only [Act.put, List.getElem_toArray, List.getElem_cons_zero, List.getElem_cons_succ, List.setIfInBounds_toArray, List.set_cons_zero, List.set_cons_succ]
  refine YtgmbfecfkdbfaaaG.wpAnyG_take 1 (v := .pointer (some ⟨bt, 0, none⟩)) rfl (by kernel_rfl) (by kernel_rfl) (by kernel_rfl) (by kernel_rfl) (by decide) (fun a u => YtgmbfecfkdbfaaaG.keepT_put a u) HS0.out trivial (by rfl) (by rintro W ⟨h0, h1⟩; go_simp; done) ?_
  try simp only [Act.put, List.getElem_toArray, List.getElem_cons_zero, List.getElem_cons_succ, List.setIfInBounds_toArray, List.set_cons_zero, List.set_cons_succ]
  refine YtgmbfecfkdbfaaaG.wpAnyG_take 2 (v := .pointer (some ⟨bt, 0, none⟩)) rfl (by kernel_rfl) (by kernel_rfl) (by kernel_rfl) (by kernel_rfl) (by decide) (fun a u => YtgmbfecfkdbfaaaG.keepT_put a u) HS0.out trivial (by rfl) (by rintro W ⟨h0, h1⟩; go_simp; done) ?_
  try simp only [Act.put, List.getElem_toArray, List.getElem_cons_zero, List.getElem_cons_succ, List.setIfInBounds_toArray, List.set_cons_zero, List.set_cons_succ]
  refine YtgmbfecfkdbfaaaG.wpAnyG_take 3 (v := .pointer (some ⟨bt, 1, none⟩)) rfl (by kernel_rfl) (by kernel_rfl) (by kernel_rfl) (by kernel_rfl) (by decide) (fun a u => YtgmbfecfkdbfaaaG.keepT_put a u) HS0.out trivial (by rfl) (by rintro W ⟨h0, h1⟩; go_simp; done) ?_
  try simp only [Act.put, List.getElem_toArray, List.getElem_cons_zero, List.getElem_cons_succ, List.setIfInBounds_toArray, List.set_cons_zero, List.set_cons_succ]
  have HD1 := Aside0.mk (H1.out.then_ (Below.refl _ _).drew)
  refine YtgmbfecfkdbfaaaG.wpAnyG_one 4 rfl (by kernel_rfl) (by rfl) (fun K hK => ?_)
  go_simp
  refine (OWL.list HD1.out HBT.out hg hr (fun ro' h1 h2 h3 h4 => listStr_w 1 cs 60 l1 A1 c1 1000 HD1.out.blk HC0.out.2.1 (HE1.out _ HD1.out.fr) k_l1 hn1 (fun ad e h => ⟨(HN1.out ad e h).2.1, h4 _ (HN1.out ad e h).1 (HN1.out ad e h).2.2⟩) hg h3 h1 h2 (by have := HL.out; omega))).mono ?_
  rintro e w2 ⟨rfl, H2'⟩
  have H2 := Aside0.mk H2'
  clear H2'
  have HC2 := Aside0.mk (show (if l1.length = 0 then cs.setIfInBounds 1 (.slice none 0 0) else cs)[0]? = some (.int .i64 n0) ∧ True ∧ (if l1.length = 0 then cs.setIfInBounds 1 (.slice none 0 0) else cs)[2]? = some (.slice A2 l2.length c2) from ⟨(ifset_get (by decide)).trans HC0.out.1, trivial, (ifset_get (by decide)).trans HC0.out.2.2⟩)
  clear HC0
  generalize (if l1.length = 0 then cs.setIfInBounds 1 (.slice none 0 0) else cs) = cs2 at *
  refine hK _ _ (HK.out _ H2.out.fr) trivial ?_
  try simp only [Act.put, List.getElem_toArray, List.getElem_cons_zero, List.getElem_cons_succ, List.setIfInBounds_toArray, List.set_cons_zero, List.set_cons_succ]
  clear hK K HS0
  refine YtgmbfecfkdbfaaaG.wpAnyG_done (by kernel_rfl) ?_ _
  go_wp2
  have HS0 := Aside0.mk (HK.out _ H2.out.fr)
  have HS0 := Aside0.mk (show (w2).drew.cell? ⟨gb, 0, none⟩ = _ ∧ (w2).drew.cell? ⟨gb, 1, none⟩ = _ from HS0.out)
  refine YtgmbfecfkdbfaaaG.wp_region_door 99 YtgmbfecfkdbfaaaG.keepT (fun _ _ => False) (fun W => W.cell? ⟨gb, 0, none⟩ = some (.pointer (some ⟨g, 0, none⟩)) ∧ W.cell? ⟨gb, 1, none⟩ = some (.pointer none)) (by kernel_rfl) trivial (fun _ _ _ _ h => h.elim) ?_
  refine YtgmbfecfkdbfaaaG.wpAnyG_take 0 (v := .agg #[.pointer (some ⟨g, 0, none⟩), .pointer none]) rfl (by kernel_rfl) (by kernel_rfl) (by kernel_rfl) (by kernel_rfl) (by decide) (fun a u => YtgmbfecfkdbfaaaG.keepT_put a u) HS0.out trivial (by rfl) (by rintro W ⟨h0, h1⟩; go_simp; done) ?_
  try simp only [Act.put, List.getElem_toArray, List.getElem_cons_zero, List.getElem_cons_succ, List.setIfInBounds_toArray, List.set_cons_zero, List.set_cons_succ]
  refine YtgmbfecfkdbfaaaG.wpAnyG_take 1 (v := .pointer (some ⟨bt, 0, none⟩)) rfl (by kernel_rfl) (by kernel_rfl) (by kernel_rfl) (by kernel_rfl) (by decide) (fun a u => YtgmbfecfkdbfaaaG.keepT_put a u) HS0.out trivial (by rfl) (by rintro W ⟨h0, h1⟩; go_simp; done) ?_
  try simp only [Act.put, List.getElem_toArray, List.getElem_cons_zero, List.getElem_cons_succ, List.setIfInBounds_toArray, List.set_cons_zero, List.set_cons_succ]
  refine YtgmbfecfkdbfaaaG.wpAnyG_take 2 (v := .pointer (some ⟨bt, 0, none⟩)) rfl (by kernel_rfl) (by kernel_rfl) (by kernel_rfl) (by kernel_rfl) (by decide) (fun a u => YtgmbfecfkdbfaaaG.keepT_put a u) HS0.out trivial (by rfl) (by rintro W ⟨h0, h1⟩; go_simp; done) ?_
  try simp only [Act.put, List.getElem_toArray, List.getElem_cons_zero, List.getElem_cons_succ, List.setIfInBounds_toArray, List.set_cons_zero, List.set_cons_succ]
  refine YtgmbfecfkdbfaaaG.wpAnyG_take 3 (v := .pointer (some ⟨bt, 2, none⟩)) rfl (by kernel_rfl) (by kernel_rfl) (by kernel_rfl) (by kernel_rfl) (by decide) (fun a u => YtgmbfecfkdbfaaaG.keepT_put a u) HS0.out trivial (by rfl) (by rintro W ⟨h0, h1⟩; go_simp; done) ?_
  try simp only [Act.put, List.getElem_toArray, List.getElem_cons_zero, List.getElem_cons_succ, List.setIfInBounds_toArray, List.set_cons_zero, List.set_cons_succ]
  have HD2 := Aside0.mk (H2.out.then_ (Below.refl _ _).drew)
  refine YtgmbfecfkdbfaaaG.wpAnyG_one 4 rfl (by kernel_rfl) (by rfl) (fun K hK => ?_)
  go_simp
  refine (OWL.list HD2.out HBT.out hg hr (fun ro' h1 h2 h3 h4 => listStr_w 2 cs2 60 l2 A2 c2 1000 HD2.out.blk HC2.out.2.2 (HE2.out _ HD2.out.fr) k_l2 hn2 (fun ad e h => ⟨(HN2.out ad e h).2.1, h4 _ (HN2.out ad e h).1 (HN2.out ad e h).2.2⟩) hg h3 h1 h2 (by have := HL.out; omega))).mono ?_
  rintro e w3 ⟨rfl, H3'⟩
  have H3 := Aside0.mk H3'
  clear H3'
  have HC3 := Aside0.mk (show (if l2.length = 0 then cs2.setIfInBounds 2 (.slice none 0 0) else cs2)[0]? = some (.int .i64 n0) ∧ True ∧ True from ⟨(ifset_get (by decide)).trans HC2.out.1, trivial, trivial⟩)
  clear HC2
  generalize (if l2.length = 0 then cs2.setIfInBounds 2 (.slice none 0 0) else cs2) = cs3 at *
  refine hK _ _ (HK.out _ H3.out.fr) trivial ?_
  try simp only [Act.put, List.getElem_toArray, List.getElem_cons_zero, List.getElem_cons_succ, List.setIfInBounds_toArray, List.set_cons_zero, List.set_cons_succ]
  clear hK K HS0
  refine YtgmbfecfkdbfaaaG.wpAnyG_done (by kernel_rfl) ?_ _
  go_wp2
  go_end0
  obtain ⟨_, ⟨ro', hw', hr'⟩, _, hf'⟩ := H3.out
  have hfw := (Fr.of_below (S := fun i => WrS g ro i ∨ i = bt) HB1.out).trans hf' (fun _ _ h => h)
  have hsz := HB1.out.size
  exact ⟨rfl, ro', hw', hr'.elim .inl (fun ⟨b, h, hb⟩ => .inr ⟨b, h, by omega⟩), hfw⟩
/-- what a record that is laid down leaves -/
def Delta.LPost (B g : Nat) (ro : Option Nat) (bs : List Int) (bt : Nat) (p : Delta) (r : RS) (w : World) (e : Ending) (w' : World) : Prop :=
  e = .returned (.tuple #[]) ∧ Rd w' B g ro bs r ∧ Fr (fun i => i = g ∨ i = bt) w w' ∧ ∃ v1 v2, w'.heap[bt]? = some (.cells #[.int .i64 p.n0, v1, v2] 60 (0, 0)) ∧ RowAt encStr 9 w.heap.size w' v1 p.l1 ∧ RowAt encStr 9 w.heap.size w' v2 p.l2 ∧ (∀ k, v1.ownBlock = some k → v2.ownBlock ≠ some k)
set_option maxHeartbeats 16000000 in
set_option maxRecDepth 100000 in
theorem overDelta_r {w : World} {B g : Nat} {ro : Option Nat} {bs : List Int} {r : RS} {bt : Nat} (hq : w.heap[bt]? = some (.cells #[.int .i64 0, .slice none 0 0, .slice none 0 0] 60 (0, 0))) (hr : Rd w B g ro bs r) (hB : B ≤ w.heap.size) :
    Calls Try.prog 80 #[.agg #[.pointer none, .pointer (some ⟨g, 0, none⟩)], .pointer (some ⟨bt, 0, none⟩)] w (Delta.LPost B g ro bs bt (Delta.readS bs r).1 (Delta.readS bs r).2 w) := by
  unfold Delta.LPost Delta.readS
  simp only
  have HB1 := Aside0.mk (below1 (w := w) (.cells #[.pointer none, .pointer (some ⟨g, 0, none⟩)] 97))
  have hbx := heap_alloc_new w (.cells #[.pointer none, .pointer (some ⟨g, 0, none⟩)] 97)
  have hq1 := (Fr.of_below (S := fun _ => False) HB1.out).blk hq (fun h => h)
  have H0 := Aside0.mk (show OR_ (w.alloc (.cells #[.pointer none, .pointer (some ⟨g, 0, none⟩)] 97)) (w.alloc (.cells #[.pointer none, .pointer (some ⟨g, 0, none⟩)] 97)) B g ro bs bt 60 _ r from ⟨Nat.le_trans hB HB1.out.size, hr.below HB1.out, hq1, Fr.refl _ _⟩)
  have hgl := hr.lt
  have hbl := blk_lt hq
  have HLT1 := Aside0.mk (And.intro (Nat.lt_of_lt_of_le hgl HB1.out.size) (Nat.lt_of_lt_of_le hbl HB1.out.size))
  have HK : Aside0 (∀ W, Fr (fun i => i = g ∨ i = bt) (w.alloc (.cells #[.pointer none, .pointer (some ⟨g, 0, none⟩)] 97)) W → W.cell? ⟨w.heap.size, 0, none⟩ = some (.pointer none) ∧ W.cell? ⟨w.heap.size, 1, none⟩ = some (.pointer (some ⟨g, 0, none⟩))) := ⟨fun W hf => by
    have hx := hf.blk hbx (by rintro (e | e) <;> omega)
    exact ⟨(blk_cell hx 0).trans rfl, (blk_cell hx 1).trans rfl⟩⟩
  clear hq hr hB hbx hq1 hgl hbl
  go_enter Try.func80, Try.ntmps80
  go_wp2
  generalize hW1 : w.alloc (.cells #[.pointer none, .pointer (some ⟨g, 0, none⟩)] 97) = W1 at *
  generalize hgb : w.heap.size = gb at HK
  have HS0 := Aside0.mk (HK.out _ H0.out.fr)
  have HS0 := Aside0.mk (show (W1).drew.cell? ⟨gb, 0, none⟩ = _ ∧ (W1).drew.cell? ⟨gb, 1, none⟩ = _ from HS0.out)
  refine YtgmbfecfkdbfaaaG.wp_region_door 99 YtgmbfecfkdbfaaaG.keepT (fun _ _ => False) (fun W => W.cell? ⟨gb, 0, none⟩ = some (.pointer none) ∧ W.cell? ⟨gb, 1, none⟩ = some (.pointer (some ⟨g, 0, none⟩))) (by kernel_rfl) trivial (fun _ _ _ _ h => h.elim) ?_
  refine YtgmbfecfkdbfaaaG.wpAnyG_take 0 (v := .agg #[.pointer none, .pointer (some ⟨g, 0, none⟩)]) rfl (by kernel_rfl) (by kernel_rfl) (by kernel_rfl) (by kernel_rfl) (by decide) (fun a u => YtgmbfecfkdbfaaaG.keepT_put a u) HS0.out trivial (by rfl) (by rintro W ⟨h0, h1⟩; go_simp; done) ?_
  try simp only [Act.put, List.getElem_toArray, List.getElem_cons_zero, List.getElem_cons_succ, List.setIfInBounds_toArray, List.set_cons_zero, List.set_cons_succ]
  refine YtgmbfecfkdbfaaaG.wpAnyG_take 1 (v := .pointer (some ⟨bt, 0, none⟩)) rfl (by kernel_rfl) (by kernel_rfl) (by kernel_rfl) (by kernel_rfl) (by decide) (fun a u => YtgmbfecfkdbfaaaG.keepT_put a u) HS0.out trivial (by rfl) (by rintro W ⟨h0, h1⟩; go_simp; done) ?_
  try simp only [Act.put, List.getElem_toArray, List.getElem_cons_zero, List.getElem_cons_succ, List.setIfInBounds_toArray, List.set_cons_zero, List.set_cons_succ]
  refine YtgmbfecfkdbfaaaG.wpAnyG_take 2 (v := .pointer (some ⟨bt, 0, none⟩)) rfl (by kernel_rfl) (by kernel_rfl) (by kernel_rfl) (by kernel_rfl) (by decide) (fun a u => YtgmbfecfkdbfaaaG.keepT_put a u) HS0.out trivial (by rfl) (by rintro W ⟨h0, h1⟩; go_simp; done) ?_
  try simp only [Act.put, List.getElem_toArray, List.getElem_cons_zero, List.getElem_cons_succ, List.setIfInBounds_toArray, List.set_cons_zero, List.set_cons_succ]
  refine YtgmbfecfkdbfaaaG.wpAnyG_take 3 (v := .pointer (some ⟨bt, 0, none⟩)) rfl (by kernel_rfl) (by kernel_rfl) (by kernel_rfl) (by kernel_rfl) (by decide) (fun a u => YtgmbfecfkdbfaaaG.keepT_put a u) HS0.out trivial (by rfl) (by rintro W ⟨h0, h1⟩; go_simp; done) ?_
  try simp only [Act.put, List.getElem_toArray, List.getElem_cons_zero, List.getElem_cons_succ, List.setIfInBounds_toArray, List.set_cons_zero, List.set_cons_succ]
  have HD0 := Aside0.mk (H0.out.then_ (Below.refl _ _).drew)
  refine YtgmbfecfkdbfaaaG.wpAnyG_one 4 rfl (by kernel_rfl) (by rfl) (fun K hK => ?_)
  go_simp
  refine hK _ _ (HK.out _ (HD0.out.then_ (below1 _)).fr) trivial ?_
  try simp only [Act.put, List.getElem_toArray, List.getElem_cons_zero, List.getElem_cons_succ, List.setIfInBounds_toArray, List.set_cons_zero, List.set_cons_succ]
  clear hK K
  refine YtgmbfecfkdbfaaaG.wpAnyG_one 5 rfl (by kernel_rfl) (by rfl) (fun K hK => ?_)
  go_simp
  refine (OR_.numF1 HD0.out 0 8 (by simp) (by decide) (by decide)).mono ?_
  rintro e w1 ⟨rfl, H1', f1⟩
  have H1 := Aside0.mk H1'
  clear H1' f1
  refine hK _ _ (HK.out _ H1.out.fr) trivial ?_
  try simp only [Act.put, List.getElem_toArray, List.getElem_cons_zero, List.getElem_cons_succ, List.setIfInBounds_toArray, List.set_cons_zero, List.set_cons_succ]
  clear hK K HS0
  refine YtgmbfecfkdbfaaaG.wpAnyG_done (by kernel_rfl) ?_ _
  go_wp2
  have HS0 := Aside0.mk (HK.out _ H1.out.fr)
  have HS0 := Aside0.mk (show (w1).drew.cell? ⟨gb, 0, none⟩ = _ ∧ (w1).drew.cell? ⟨gb, 1, none⟩ = _ from HS0.out)
  refine YtgmbfecfkdbfaaaG.wp_region_door 99 YtgmbfecfkdbfaaaG.keepT (fun _ _ => False) (fun W => W.cell? ⟨gb, 0, none⟩ = some (.pointer none) ∧ W.cell? ⟨gb, 1, none⟩ = some (.pointer (some ⟨g, 0, none⟩))) (by kernel_rfl) trivial (fun _ _ _ _ h => h.elim) ?_
  refine YtgmbfecfkdbfaaaG.wpAnyG_take 0 (v := .agg #[.pointer none, .pointer (some ⟨g, 0, none⟩)]) rfl (by kernel_rfl) (by kernel_rfl) (by kernel_rfl) (by kernel_rfl) (by decide) (fun a u => YtgmbfecfkdbfaaaG.keepT_put a u) HS0.out trivial (by rfl) (by rintro W ⟨h0, h1⟩; go_simp; done) ?_
  try simp only [Act.put, List.getElem_toArray, List.getElem_cons_zero, List.getElem_cons_succ, List.setIfInBounds_toArray, List.set_cons_zero, List.set_cons_succ]
  refine YtgmbfecfkdbfaaaG.wpAnyG_take 1 (v := .pointer (some ⟨bt, 0, none⟩)) rfl (by kernel_rfl) (by kernel_rfl) (by kernel_rfl) (by kernel_rfl) (by decide) (fun a u => YtgmbfecfkdbfaaaG.keepT_put a u) HS0.out trivial (by rfl) (by rintro W ⟨h0, h1⟩; go_simp; done) ?_
  try simp only [Act.put, List.getElem_toArray, List.getElem_cons_zero, List.getElem_cons_succ, List.setIfInBounds_toArray, List.set_cons_zero, List.set_cons_succ]
  refine YtgmbfecfkdbfaaaG.wpAnyG_take 2 (v := .pointer (some ⟨bt, 0, none⟩)) rfl (by kernel_rfl) (by kernel_rfl) (by kernel_rfl) (by kernel_rfl) (by decide) (fun a u => YtgmbfecfkdbfaaaG.keepT_put a u) HS0.out trivial (by rfl) (by rintro W ⟨h0, h1⟩; go_simp; done) ?_
  try simp only [Act.put, List.getElem_toArray, List.getElem_cons_zero, List.getElem_cons_succ, List.setIfInBounds_toArray, List.set_cons_zero, List.set_cons_succ]
  refine YtgmbfecfkdbfaaaG.wpAnyG_take 3 (v := .pointer (some ⟨bt, 1, none⟩)) rfl (by kernel_rfl) (by kernel_rfl) (by kernel_rfl) (by kernel_rfl) (by decide) (fun a u => YtgmbfecfkdbfaaaG.keepT_put a u) HS0.out trivial (by rfl) (by rintro W ⟨h0, h1⟩; go_simp; done) ?_
  try simp only [Act.put, List.getElem_toArray, List.getElem_cons_zero, List.getElem_cons_succ, List.setIfInBounds_toArray, List.set_cons_zero, List.set_cons_succ]
  have HD1 := Aside0.mk (H1.out.then_ (Below.refl _ _).drew)
  refine YtgmbfecfkdbfaaaG.wpAnyG_one 4 rfl (by kernel_rfl) (by rfl) (fun K hK => ?_)
  go_simp
  refine (OR_.listF HD1.out (listStr_r 1 _ 60 1000 (by omega) (by omega) HD1.out.blk (by simp) (by decide) (by decide) HD1.out.rd_ (Nat.le_trans HD1.out.base HD1.out.fr.size))).mono ?_
  rintro e w2 ⟨rfl, v1, H2', hv1, f2⟩
  have H2 := Aside0.mk H2'
  have HV1_2 := Aside0.mk (hv1.from (show W1.heap.size ≤ (w1).heap.size from H1.out.fr.size))
  clear H2' hv1 f2
  refine hK _ _ (HK.out _ H2.out.fr) trivial ?_
  try simp only [Act.put, List.getElem_toArray, List.getElem_cons_zero, List.getElem_cons_succ, List.setIfInBounds_toArray, List.set_cons_zero, List.set_cons_succ]
  clear hK K HS0
  refine YtgmbfecfkdbfaaaG.wpAnyG_done (by kernel_rfl) ?_ _
  go_wp2
  have HS0 := Aside0.mk (HK.out _ H2.out.fr)
  have HS0 := Aside0.mk (show (w2).drew.cell? ⟨gb, 0, none⟩ = _ ∧ (w2).drew.cell? ⟨gb, 1, none⟩ = _ from HS0.out)
  refine YtgmbfecfkdbfaaaG.wp_region_door 99 YtgmbfecfkdbfaaaG.keepT (fun _ _ => False) (fun W => W.cell? ⟨gb, 0, none⟩ = some (.pointer none) ∧ W.cell? ⟨gb, 1, none⟩ = some (.pointer (some ⟨g, 0, none⟩))) (by kernel_rfl) trivial (fun _ _ _ _ h => h.elim) ?_
  refine YtgmbfecfkdbfaaaG.wpAnyG_take 0 (v := .agg #[.pointer none, .pointer (some ⟨g, 0, none⟩)]) rfl (by kernel_rfl) (by kernel_rfl) (by kernel_rfl) (by kernel_rfl) (by decide) (fun a u => YtgmbfecfkdbfaaaG.keepT_put a u) HS0.out trivial (by rfl) (by rintro W ⟨h0, h1⟩; go_simp; done) ?_
  try simp only [Act.put, List.getElem_toArray, List.getElem_cons_zero, List.getElem_cons_succ, List.setIfInBounds_toArray, List.set_cons_zero, List.set_cons_succ]
  refine YtgmbfecfkdbfaaaG.wpAnyG_take 1 (v := .pointer (some ⟨bt, 0, none⟩)) rfl (by kernel_rfl) (by kernel_rfl) (by kernel_rfl) (by kernel_rfl) (by decide) (fun a u => YtgmbfecfkdbfaaaG.keepT_put a u) HS0.out trivial (by rfl) (by rintro W ⟨h0, h1⟩; go_simp; done) ?_
  try simp only [Act.put, List.getElem_toArray, List.getElem_cons_zero, List.getElem_cons_succ, List.setIfInBounds_toArray, List.set_cons_zero, List.set_cons_succ]
  refine YtgmbfecfkdbfaaaG.wpAnyG_take 2 (v := .pointer (some ⟨bt, 0, none⟩)) rfl (by kernel_rfl) (by kernel_rfl) (by kernel_rfl) (by kernel_rfl) (by decide) (fun a u => YtgmbfecfkdbfaaaG.keepT_put a u) HS0.out trivial (by rfl) (by rintro W ⟨h0, h1⟩; go_simp; done) ?_
  try simp only [Act.put, List.getElem_toArray, List.getElem_cons_zero, List.getElem_cons_succ, List.setIfInBounds_toArray, List.set_cons_zero, List.set_cons_succ]
  refine YtgmbfecfkdbfaaaG.wpAnyG_take 3 (v := .pointer (some ⟨bt, 2, none⟩)) rfl (by kernel_rfl) (by kernel_rfl) (by kernel_rfl) (by kernel_rfl) (by decide) (fun a u => YtgmbfecfkdbfaaaG.keepT_put a u) HS0.out trivial (by rfl) (by rintro W ⟨h0, h1⟩; go_simp; done) ?_
  try simp only [Act.put, List.getElem_toArray, List.getElem_cons_zero, List.getElem_cons_succ, List.setIfInBounds_toArray, List.set_cons_zero, List.set_cons_succ]
  have HD2 := Aside0.mk (H2.out.then_ (Below.refl _ _).drew)
  refine YtgmbfecfkdbfaaaG.wpAnyG_one 4 rfl (by kernel_rfl) (by rfl) (fun K hK => ?_)
  go_simp
  refine (OR_.listF HD2.out (listStr_r 2 _ 60 1000 (by omega) (by omega) HD2.out.blk (by simp) (by decide) (by decide) HD2.out.rd_ (Nat.le_trans HD2.out.base HD2.out.fr.size))).mono ?_
  rintro e w3 ⟨rfl, v2, H3', hv2, f3⟩
  have H3 := Aside0.mk H3'
  have HJ1_2 := Aside0.mk (show ∀ k, v1.ownBlock = some k → v2.ownBlock ≠ some k from fun k hk e => by have h1 := (HV1_2.out.own k hk).2.1; have h2 : (w2).heap.size ≤ k := (hv2.own k e).1; omega)
  have HV2_3 := Aside0.mk (hv2.from (show W1.heap.size ≤ (w2).heap.size from H2.out.fr.size))
  have HV1_3 := Aside0.mk (((HV1_2.out.below (Below.refl _ _).drew).hold HLT1.out.1 HLT1.out.2 f3))
  clear HV1_2
  clear H3' hv2 f3
  refine hK _ _ (HK.out _ H3.out.fr) trivial ?_
  try simp only [Act.put, List.getElem_toArray, List.getElem_cons_zero, List.getElem_cons_succ, List.setIfInBounds_toArray, List.set_cons_zero, List.set_cons_succ]
  clear hK K HS0
  refine YtgmbfecfkdbfaaaG.wpAnyG_done (by kernel_rfl) ?_ _
  go_wp2
  go_end0
  have hb := H3.out.blk
  simp at hb
  exact ⟨rfl, H3.out.rd_, (Fr.of_below HB1.out).trans H3.out.fr (fun _ _ h => h), v1, v2, hb, HV1_3.out.from HB1.out.size, HV2_3.out.from HB1.out.size, HJ1_2.out⟩
end Go.Proofs.Ytgmbfecfkdbfaaa.Wi
/- Rising lists of tokens. -/
set_option linter.unusedVariables false
set_option linter.unusedSimpArgs false
namespace Go.Proofs.Ytgmbfecfkdbfaaa.Wi
open Go Go.RowKit Go.Proofs.YtgmbfecfkdbfaaaW.PrintWords
theorem el1 {w : World} {A : Option Addr} {xs : List ByteArray} (h : ElAt encStr 1 w A xs) (i : Nat) (hi : i < xs.length) : ∃ ad, A = some ad ∧ w.cell? (ad.add i) = some (.string (xs[i]'hi)) := by
  obtain ⟨ad, e, hc⟩ := h i hi
  have h0 := hc 0 _ rfl
  rw [Nat.mul_one, Nat.add_zero] at h0
  exact ⟨ad, e, h0⟩
def bl (a b : ByteArray) : Bool := Op.bytesLess a.toList b.toList
theorem less_irrefl : ∀ x : List UInt8, Op.bytesLess x x = false
  | [] => rfl
  | a :: x => by simp [Op.bytesLess, less_irrefl x]
theorem less_trans : ∀ x y z : List UInt8, Op.bytesLess x y = true → Op.bytesLess y z = true → Op.bytesLess x z = true
  | _, [], _, h, _ => by cases ‹List UInt8› <;> simp [Op.bytesLess] at h
  | _, _ :: _, [], _, h => by simp [Op.bytesLess] at h
  | [], _ :: _, _ :: _, _, _ => rfl
  | a :: x, b :: y, c :: z, h1, h2 => by
    simp only [Op.bytesLess, Bool.or_eq_true, Bool.and_eq_true, decide_eq_true_eq, beq_iff_eq, UInt8.lt_iff_toNat_lt] at h1 h2 ⊢
    rcases h1 with h1 | ⟨rfl, h1⟩
    · rcases h2 with h2 | ⟨rfl, h2⟩
      · exact .inl (by omega)
      · exact .inl h1
    · rcases h2 with h2 | ⟨rfl, h2⟩
      · exact .inl h2
      · exact .inr ⟨rfl, less_trans x y z h1 h2⟩
theorem less_total : ∀ x y : List UInt8, Op.bytesLess x y = false → Op.bytesLess y x = true ∨ y = x
  | [], [], _ => .inr rfl
  | [], _ :: _, h => by simp [Op.bytesLess] at h
  | _ :: _, [], _ => .inl rfl
  | a :: x, b :: y, h => by
    simp only [Op.bytesLess, Bool.or_eq_false_iff, decide_eq_false_iff_not, Bool.and_eq_false_iff, beq_eq_false_iff_ne, UInt8.lt_iff_toNat_lt] at h
    simp only [Op.bytesLess, Bool.or_eq_true, Bool.and_eq_true, decide_eq_true_eq, beq_iff_eq, UInt8.lt_iff_toNat_lt]
    by_cases e : a = b
    · subst e
      rcases h.2 with h2 | h2
      · exact absurd rfl h2
      · rcases less_total x y h2 with h3 | h3
        · exact .inl (.inr ⟨rfl, h3⟩)
        · exact .inr (by rw [h3])
    · have : a.toNat ≠ b.toNat := fun h => e (UInt8.toNat_inj.1 h)
      exact .inl (.inl (by omega))
theorem ge_eq (a b : ByteArray) : (Op.bytesLess b.toList a.toList || b.toList == a.toList) = !(bl a b) := by
  unfold bl
  cases h : Op.bytesLess a.toList b.toList with
  | false =>
    rcases less_total _ _ h with h2 | h2
    · rw [h2]; rfl
    · rw [h2]; simp
  | true =>
    have h1 : Op.bytesLess b.toList a.toList = false := by
      cases h2 : Op.bytesLess b.toList a.toList with
      | false => rfl
      | true =>
        have := less_trans _ _ _ h h2
        rw [less_irrefl] at this
        cases this
    have h2 : (b.toList == a.toList) = false := beq_eq_false_iff_ne.2 fun e => by
      rw [e, less_irrefl] at h
      cases h
    rw [h1, h2]
    rfl
def zb : ByteArray := ⟨#[]⟩
def tokOk (l : List ByteArray) (i : Nat) : Bool := ((l.getD i zb).size == 8) && (i == 0 || bl (l.getD (i - 1) zb) (l.getD i zb))
def risingR (l : List ByteArray) : Bool := (List.range l.length).all (tokOk l)
def risingB (l : List ByteArray) : Bool := decide (l.length ≤ 1000) && risingR l
theorem range_step (l : List ByteArray) (k : Nat) (h : (List.range k).all (tokOk l) = true) (ho : tokOk l k = true) : (List.range (k + 1)).all (tokOk l) = true := by
  rw [List.range_succ, List.all_append, h]
  simp [ho]
theorem rising_no (l : List ByteArray) (k : Nat) (hk : k < l.length) (ho : tokOk l k = false) : risingR l = false := by
  cases h : risingR l with
  | false => rfl
  | true =>
    have := List.all_eq_true.1 h k (List.mem_range.2 hk)
    rw [ho] at this
    cases this
theorem getD_at (l : List ByteArray) (i : Nat) (h : i < l.length) : l.getD i zb = l[i] := by simp [List.getD_eq_getElem?_getD, List.getElem?_eq_getElem h]
set_option maxHeartbeats 8000000 in
set_option maxRecDepth 100000 in
theorem rising_calls (A : Option Addr) (c : Nat) (xs : List ByteArray) (w : World) (hx : ElAt encStr 1 w A xs) (hl : xs.length ≤ 9223372036854775807) (hok : ∀ x ∈ xs, StrOk x) :
    Calls Try.prog 122 #[.slice A xs.length c] w fun e w' => e = .returned (.bool (risingB xs)) ∧ Below w.heap.size w w' := by
  have HX := Aside0.mk hx
  have HOK := Aside0.mk hok
  unfold risingB
  clear hx hok
  go_enter Try.func122, Try.ntmps122
  go_wp2
  go_loopg [3, 4, 7] xs.length (fun gg s3 s4 s7 wr => ∃ (kk : Nat), kk ≤ xs.length ∧ xs.length - kk ≤ gg ∧ s7 = .int .i64 kk ∧ Aside0 ((List.range kk).all (tokOk xs) = true) ∧ Aside0 (Below w.heap.size w wr))
  case atStart => exact ⟨0, by omega, by omega, rfl, ⟨rfl⟩, ⟨Below.refl _ _⟩⟩
  case round =>
    obtain ⟨kk, hkk, hgg, rfl, HA, HB⟩ := hrel
    by_cases hlt : kk < xs.length
    · have hltz : (kk : Int) < (xs.length : Int) := by omega
      obtain ⟨ad, rfl, c0⟩ := el1 (HX.out.below HB.out) kk hlt
      have hst := HOK.out xs[kk] (List.getElem_mem hlt)
      unfold StrOk at hst
      rcases kk with _ | j
      · have c0' : wr.cell? ad = some (.string xs[0]) := c0
        have HTT := Aside0.mk (show (xs[0].size == 8) = true → (List.range (0 + 1)).all (tokOk xs) = true from fun h => range_step xs 0 rfl (by unfold tokOk; rw [getD_at xs 0 hlt, h]; rfl))
        have HNN := Aside0.mk (show (xs[0].size == 8) = false → risingR xs = false from fun h => rising_no xs 0 hlt (by unfold tokOk; rw [getD_at xs 0 hlt, h]; rfl))
        generalize xs[0] = x at *
        by_cases h8 : x.size = 8
        · have h8d : (x.size == 8) = true := beq_iff_eq.2 h8
          have h8b : ((x.size : Int) != 8) = false := by simp [h8]
          have HT := Aside0.mk (HTT.out h8d)
          clear HTT HNN h8d
          go_wp2
          go_roundg (xs.length - (0 + 1))
          case measure => omega
          case rel => exact ⟨0 + 1, by omega, by omega, by go_num, HT, HB⟩
        · have h8d : (x.size == 8) = false := beq_eq_false_iff_ne.2 h8
          have h8b : ((x.size : Int) != 8) = true := by simp; omega
          have h8e : decide (x.size = 8) = false := decide_eq_false h8
          have HN := Aside0.mk (HNN.out h8d)
          clear HTT HNN h8d
          go_wp2
          go_ret
          exact ⟨by rw [HN.out]; simp, HB.out⟩
      · have hj : j < xs.length := by omega
        have c0' : wr.cell? ⟨ad.block, ad.off + (j + 1), none⟩ = some (.string xs[j + 1]) := by simpa [Addr.add] using c0
        obtain ⟨ad', e', d0⟩ := el1 (HX.out.below HB.out) j hj
        obtain rfl := Option.some.inj e'
        have hst2 := HOK.out xs[j] (List.getElem_mem hj)
        unfold StrOk at hst2
        have hjz : (j : Int) < (xs.length : Int) := by omega
        have HTT := Aside0.mk (show (xs[j + 1].size == 8) = true → bl xs[j] xs[j + 1] = true → (List.range (j + 1 + 1)).all (tokOk xs) = true from fun h h2 => range_step xs (j + 1) HA.out (by unfold tokOk; rw [getD_at xs (j + 1) hlt, show j + 1 - 1 = j by omega, getD_at xs j hj, h, h2]; simp))
        have HNN := Aside0.mk (show ((xs[j + 1].size == 8) = false ∨ bl xs[j] xs[j + 1] = false) → risingR xs = false from fun h => rising_no xs (j + 1) hlt (by unfold tokOk; rw [getD_at xs (j + 1) hlt, show j + 1 - 1 = j by omega, getD_at xs j hj]; rcases h with h | h <;> rw [h] <;> simp))
        generalize xs[j + 1] = x at *
        generalize xs[j] = y at *
        have hge := ge_eq y x
        by_cases h8 : x.size = 8
        · have h8d : (x.size == 8) = true := beq_iff_eq.2 h8
          have h8b : ((x.size : Int) != 8) = false := by simp [h8]
          cases hb : bl y x with
          | true =>
            have HT := Aside0.mk (HTT.out h8d hb)
            rw [hb] at hge
            unfold bl at hb
            simp only [Bool.not_true, Bool.or_eq_false_iff] at hge
            obtain ⟨hg1, hg2⟩ := hge
            clear HTT HNN h8d
            go_wp2
            go_roundg (xs.length - ((j + 1) + 1))
            case measure => omega
            case rel => exact ⟨(j + 1) + 1, by omega, by omega, by go_num, HT, HB⟩
          | false =>
            have HN := Aside0.mk (HNN.out (.inr hb))
            rw [hb] at hge
            unfold bl at hb
            clear HTT HNN h8d
            rcases hg : Op.bytesLess x.toList y.toList with _ | _
            · have hg2 : (x.toList == y.toList) = true := by rw [hg] at hge; simpa using hge
              clear hge
              go_wp2
              go_ret
              exact ⟨by rw [HN.out]; simp, HB.out⟩
            · clear hge
              go_wp2
              go_ret
              exact ⟨by rw [HN.out]; simp, HB.out⟩
        · have h8d : (x.size == 8) = false := beq_eq_false_iff_ne.2 h8
          have h8b : ((x.size : Int) != 8) = true := by simp; omega
          have h8e : decide (x.size = 8) = false := decide_eq_false h8
          have HN := Aside0.mk (HNN.out (.inl h8d))
          clear HTT HNN h8d hge
          go_wp2
          go_ret
          exact ⟨by rw [HN.out]; simp, HB.out⟩
    · have hltz : ¬ (kk : Int) < (xs.length : Int) := by omega
      have hke : kk = xs.length := by omega
      subst hke
      have HR : Aside0 (risingR xs = true) := ⟨HA.out⟩
      clear HA
      by_cases h : xs.length ≤ 1000
      · have hz : (xs.length : Int) ≤ 1000 := by omega
        have HD := Aside0.mk (decide_eq_true h)
        go_wp2
        go_ret
        exact ⟨by rw [HR.out]; simp [h], HB.out⟩
      · have hz : ¬ (xs.length : Int) ≤ 1000 := by omega
        have HD := Aside0.mk (decide_eq_false h)
        go_wp2
        go_ret
        exact ⟨by simp [h], HB.out⟩
end Go.Proofs.Ytgmbfecfkdbfaaa.Wi
/- The document's rising lists of tokens. -/
set_option linter.unusedVariables false
set_option linter.unusedSimpArgs false
namespace Go.Proofs.Ytgmbfecfkdbfaaa.Wi
open Go Go.RowKit Go.Proofs.YtgmbfecfkdbfaaaW.PrintWords
set_option maxHeartbeats 8000000 in
set_option maxRecDepth 100000 in
theorem rRising_calls (A : Option Addr) (c : Nat) (xs : List ByteArray) (w : World) (hx : ElAt encStr 1 w A xs) (hl : xs.length ≤ 9223372036854775807) (hok : ∀ x ∈ xs, StrOk x) :
    Calls Try.prog 126 #[.slice A xs.length c] w fun e w' => e = .returned (.bool (risingB xs)) ∧ Below w.heap.size w w' := by
  have HX := Aside0.mk hx
  have HOK := Aside0.mk hok
  unfold risingB
  clear hx hok
  by_cases h : xs.length ≤ 1000
  case neg =>
    have hz : (xs.length : Int) > 1000 := by omega
    rw [decide_eq_false h, Bool.false_and]
    go_enter Try.func126, Try.ntmps126
    go_wp2
    go_ret
    exact ⟨rfl, Below.refl _ _⟩
  have hz : ¬ (xs.length : Int) > 1000 := by omega
  rw [decide_eq_true h, Bool.true_and]
  go_enter Try.func126, Try.ntmps126
  go_wp2
  go_loopg [3] xs.length (fun gg s3 wr => ∃ (kk : Nat), kk ≤ xs.length ∧ xs.length - kk ≤ gg ∧ s3 = .int .i64 kk ∧ Aside0 ((List.range kk).all (tokOk xs) = true) ∧ Aside0 (Below w.heap.size w wr))
  case atStart => exact ⟨0, by omega, by omega, rfl, ⟨rfl⟩, ⟨Below.refl _ _⟩⟩
  case round =>
    obtain ⟨kk, hkk, hgg, rfl, HA, HB⟩ := hrel
    by_cases hlt : kk < xs.length
    · have hltz : (kk : Int) < (xs.length : Int) := by omega
      obtain ⟨ad, rfl, c0⟩ := el1 (HX.out.below HB.out) kk hlt
      have hst := HOK.out xs[kk] (List.getElem_mem hlt)
      unfold StrOk at hst
      rcases kk with _ | j
      · have c0' : wr.cell? ad = some (.string xs[0]) := c0
        have HTT := Aside0.mk (show (xs[0].size == 8) = true → (List.range (0 + 1)).all (tokOk xs) = true from fun h => range_step xs 0 rfl (by unfold tokOk; rw [getD_at xs 0 hlt, h]; rfl))
        have HNN := Aside0.mk (show (xs[0].size == 8) = false → risingR xs = false from fun h => rising_no xs 0 hlt (by unfold tokOk; rw [getD_at xs 0 hlt, h]; rfl))
        generalize xs[0] = x at *
        by_cases h8 : x.size = 8
        · have h8d : (x.size == 8) = true := beq_iff_eq.2 h8
          have h8b : ((x.size : Int) != 8) = false := by simp [h8]
          have HT := Aside0.mk (HTT.out h8d)
          clear HTT HNN h8d
          go_wp2
          go_quiet (fail)
          go_wp2
          go_roundg (xs.length - (0 + 1))
          case measure => omega
          case rel => exact ⟨0 + 1, by omega, by omega, by go_num, HT, ⟨below_drewN HB.out _⟩⟩
        · have h8d : (x.size == 8) = false := beq_eq_false_iff_ne.2 h8
          have h8b : ((x.size : Int) != 8) = true := by simp; omega
          have h8e : decide (x.size = 8) = false := decide_eq_false h8
          have HN := Aside0.mk (HNN.out h8d)
          clear HTT HNN h8d
          go_wp2
          go_quiet (fail)
          go_wp2
          go_ret
          exact ⟨by rw [HN.out]; simp, below_drewN HB.out _⟩
      · have hj : j < xs.length := by omega
        have c0' : wr.cell? ⟨ad.block, ad.off + (j + 1), none⟩ = some (.string xs[j + 1]) := by simpa [Addr.add] using c0
        obtain ⟨ad', e', d0⟩ := el1 (HX.out.below HB.out) j hj
        obtain rfl := Option.some.inj e'
        have hst2 := HOK.out xs[j] (List.getElem_mem hj)
        unfold StrOk at hst2
        have hjz : (j : Int) < (xs.length : Int) := by omega
        have HTT := Aside0.mk (show (xs[j + 1].size == 8) = true → bl xs[j] xs[j + 1] = true → (List.range (j + 1 + 1)).all (tokOk xs) = true from fun h h2 => range_step xs (j + 1) HA.out (by unfold tokOk; rw [getD_at xs (j + 1) hlt, show j + 1 - 1 = j by omega, getD_at xs j hj, h, h2]; simp))
        have HNN := Aside0.mk (show ((xs[j + 1].size == 8) = false ∨ bl xs[j] xs[j + 1] = false) → risingR xs = false from fun h => rising_no xs (j + 1) hlt (by unfold tokOk; rw [getD_at xs (j + 1) hlt, show j + 1 - 1 = j by omega, getD_at xs j hj]; rcases h with h | h <;> rw [h] <;> simp))
        generalize xs[j + 1] = x at *
        generalize xs[j] = y at *
        have hge := ge_eq y x
        by_cases h8 : x.size = 8
        · have h8d : (x.size == 8) = true := beq_iff_eq.2 h8
          have h8b : ((x.size : Int) != 8) = false := by simp [h8]
          cases hb : bl y x with
          | true =>
            have HT := Aside0.mk (HTT.out h8d hb)
            rw [hb] at hge
            unfold bl at hb
            simp only [Bool.not_true, Bool.or_eq_false_iff] at hge
            obtain ⟨hg1, hg2⟩ := hge
            clear HTT HNN h8d
            go_wp2
            go_quiet (fail)
            go_wp2
            go_roundg (xs.length - ((j + 1) + 1))
            case measure => omega
            case rel => exact ⟨(j + 1) + 1, by omega, by omega, by go_num, HT, ⟨below_drewN HB.out _⟩⟩
          | false =>
            have HN := Aside0.mk (HNN.out (.inr hb))
            rw [hb] at hge
            unfold bl at hb
            clear HTT HNN h8d
            rcases hg : Op.bytesLess x.toList y.toList with _ | _
            · have hg2 : (x.toList == y.toList) = true := by rw [hg] at hge; simpa using hge
              clear hge
              go_wp2
              go_quiet (fail)
              go_wp2
              go_ret
              exact ⟨by rw [HN.out]; simp, below_drewN HB.out _⟩
            · clear hge
              go_wp2
              go_quiet (fail)
              go_wp2
              go_ret
              exact ⟨by rw [HN.out]; simp, below_drewN HB.out _⟩
        · have h8d : (x.size == 8) = false := beq_eq_false_iff_ne.2 h8
          have h8b : ((x.size : Int) != 8) = true := by simp; omega
          have h8e : decide (x.size = 8) = false := decide_eq_false h8
          have HN := Aside0.mk (HNN.out (.inl h8d))
          clear HTT HNN h8d hge
          go_wp2
          go_quiet (fail)
          go_wp2
          go_ret
          exact ⟨by rw [HN.out]; simp, below_drewN HB.out _⟩
    · have hltz : ¬ (kk : Int) < (xs.length : Int) := by omega
      have hke : kk = xs.length := by omega
      subst hke
      have HR : Aside0 (risingR xs = true) := ⟨HA.out⟩
      clear HA
      go_wp2
      go_ret
      exact ⟨by rw [HR.out]; rfl, HB.out⟩
end Go.Proofs.Ytgmbfecfkdbfaaa.Wi
/- A token looked for among rising ones. -/
set_option linter.unusedVariables false
set_option linter.unusedSimpArgs false
namespace Go.Proofs.Ytgmbfecfkdbfaaa.Wi
open Go Go.RowKit Go.Proofs.YtgmbfecfkdbfaaaW.PrintWords
def eqS (a b : ByteArray) : Bool := a.toList == b.toList
theorem sorted_of {l : List ByteArray} (h : risingR l = true) (i j : Nat) (hij : i < j) (hj : j < l.length) : bl (l[i]'(by omega)) (l[j]'hj) = true := by
  induction j with
  | zero => omega
  | succ j ih =>
    have h1 := List.all_eq_true.1 h (j + 1) (List.mem_range.2 hj)
    unfold tokOk at h1
    rw [getD_at l (j + 1) hj, show j + 1 - 1 = j by omega, getD_at l j (by omega)] at h1
    simp only [Bool.and_eq_true, Bool.or_eq_true] at h1
    have h2 : bl (l[j]'(by omega)) (l[j + 1]'hj) = true := by
      rcases h1.2 with h | h
      · simp at h
      · exact h
    by_cases e : i = j
    · subst e; exact h2
    · exact less_trans _ _ _ (ih (by omega) (by omega)) h2
theorem found_at {l : List ByteArray} {t : ByteArray} (h : risingR l = true) (k : Nat) (hk : k ≤ l.length) (h1 : ∀ i, (hi : i < l.length) → i < k → bl l[i] t = true) (h2 : ∀ i, (hi : i < l.length) → k ≤ i → bl l[i] t = false) :
    l.any (fun y => eqS y t) = if hk : k < l.length then eqS l[k] t else false := by
  by_cases hlt : k < l.length
  · rw [dif_pos hlt]
    cases he : eqS l[k] t with
    | true => exact List.any_eq_true.2 ⟨_, List.getElem_mem hlt, he⟩
    | false =>
      refine Bool.eq_false_iff.2 fun ha => ?_
      obtain ⟨y, hy, hyt⟩ := List.any_eq_true.1 ha
      obtain ⟨i, hi, rfl⟩ := List.getElem_of_mem hy
      have e : l[i].toList = t.toList := by unfold eqS at hyt; simpa using hyt
      have hik : k ≤ i := by
        rcases Nat.lt_or_ge i k with h3 | h3
        · have := h1 i hi h3
          unfold bl at this
          rw [e, less_irrefl] at this
          cases this
        · exact h3
      rcases Nat.lt_or_ge k i with h3 | h3
      · have h4 := sorted_of h k i h3 hi
        have h5 := h2 k hlt (Nat.le_refl _)
        unfold bl at h4 h5
        rw [e, h5] at h4
        cases h4
      · obtain rfl : k = i := by omega
        rw [hyt] at he
        cases he
  · rw [dif_neg hlt]
    refine Bool.eq_false_iff.2 fun ha => ?_
    obtain ⟨y, hy, hyt⟩ := List.any_eq_true.1 ha
    obtain ⟨i, hi, rfl⟩ := List.getElem_of_mem hy
    have e : l[i].toList = t.toList := by unfold eqS at hyt; simpa using hyt
    have := h1 i hi (by omega)
    unfold bl at this
    rw [e, less_irrefl] at this
    cases this
set_option maxHeartbeats 1600000 in
set_option maxRecDepth 100000 in
theorem nanS_calls (t : ByteArray) (w : World) : Calls Try.prog 163 #[.string t] w fun e w' => e = .returned (.bool false) ∧ w = w' := by
  have h : (t.toList == t.toList) = true := beq_self_eq_true _
  go_enter Try.func163, Try.ntmps163
  go_wp2
  go_ret
  exact ⟨by first | rfl | (simp; done), rfl⟩
set_option maxHeartbeats 1600000 in
set_option maxRecDepth 100000 in
theorem nanC_calls (t : ByteArray) (w : World) : Calls Try.prog 172 #[.string t] w fun e w' => e = .returned (.bool false) ∧ w = w' := by
  have h : (t.toList == t.toList) = true := beq_self_eq_true _
  go_enter Try.func172, Try.ntmps172
  go_wp2
  go_ret
  exact ⟨by first | rfl | (simp; done), rfl⟩
set_option maxHeartbeats 1600000 in
set_option maxRecDepth 100000 in
theorem lessS_calls (x t : ByteArray) (w : World) : Calls Try.prog 162 #[.string x, .string t] w fun e w' => e = .returned (.bool (bl x t)) ∧ w = w' := by
  unfold bl
  go_enter Try.func162, Try.ntmps162
  go_wp2_with (go_at_call 172; refine (nanC_calls _ _).mono ?_; rintro e w1 ⟨rfl, rfl⟩)
  go_ret
  exact ⟨by first | rfl | (simp; done), rfl⟩
def BsPost (b : Bool) (w : World) (e : Ending) (w' : World) : Prop := ∃ n : Int, e = .returned (.tuple #[.int .i64 n, .bool b]) ∧ Below w.heap.size w w'
set_option maxHeartbeats 8000000 in
set_option maxRecDepth 100000 in
theorem bsearch_calls (A : Option Addr) (c : Nat) (xs : List ByteArray) (t : ByteArray) (w : World) (hx : ElAt encStr 1 w A xs) (hr : risingR xs = true) (hl : xs.length ≤ 1000) :
    Calls Try.prog 125 #[.slice A xs.length c, .string t] w (BsPost (xs.any (fun y => eqS y t)) w) := by
  have HX := Aside0.mk hx
  have HF := Aside0.mk (fun k hk h1 h2 => found_at (l := xs) (t := t) hr k hk h1 h2)
  have HR := Aside0.mk hr
  clear hx hr
  go_enter Try.func125, Try.ntmps125
  go_wp2
  go_loopg [7, 8, 9] xs.length (fun gg s7 s8 s9 wr => ∃ (lo hi : Nat), lo ≤ hi ∧ hi ≤ xs.length ∧ hi - lo ≤ gg ∧ s7 = .int .i64 lo ∧ s8 = .int .i64 hi ∧ Aside0 (∀ i, (h : i < xs.length) → i < lo → bl xs[i] t = true) ∧ Aside0 (∀ i, (h : i < xs.length) → hi ≤ i → bl xs[i] t = false) ∧ Aside0 (Below w.heap.size w wr))
  case atStart => exact ⟨0, xs.length, by omega, by omega, by omega, rfl, rfl, ⟨fun i _ h => by omega⟩, ⟨fun i h h' => by omega⟩, ⟨Below.refl _ _⟩⟩
  case round =>
    obtain ⟨lo, hi, hlh, hhn, hgg, rfl, rfl, H1, H2, HB⟩ := hrel
    by_cases hlt : lo < hi
    · have hltz : (lo : Int) < (hi : Int) := by omega
      obtain ⟨m, hm⟩ : ∃ m : Nat, m = (lo + hi) / 2 := ⟨_, rfl⟩
      have hml : m < xs.length := by omega
      have hmz : (m : Int) < (xs.length : Int) := by omega
      obtain ⟨ad, rfl, c0⟩ := el1 (HX.out.below HB.out) m hml
      have hm1 : m ≤ 1000 := by omega
      have hmi : ((lo : Int) + hi) / 2 = (m : Int) := by omega
      have HLM := Aside0.mk (And.intro hm (And.intro hlh hhn))
      have C := Aside0.mk (fun W => lessS_calls xs[m] t W)
      have HS := Aside0.mk (fun i j h1 h2 => sorted_of HR.out i j h1 h2)
      cases hb : bl xs[m] t with
      | true =>
        have H3 := Aside0.mk (show ∀ i, (h : i < xs.length) → i < m + 1 → bl xs[i] t = true from fun i h h' => by
          by_cases e : i = m
          · subst e; exact hb
          · exact less_trans _ _ _ (HS.out i m (by omega) hml) hb)
        rw [hb] at C
        clear hb hm
        generalize xs[m] = x at *
        go_wp2_with (go_at_call 162; refine (C.out _).mono ?_; rintro e w1 ⟨rfl, rfl⟩)
        go_roundg (hi - (m + 1))
        case measure => have := HLM.out.1; omega
        case rel => exact ⟨m + 1, hi, by have := HLM.out.1; omega, by omega, by omega, by go_num, rfl, H3, H2, HB⟩
      | false =>
        have H3 := Aside0.mk (show ∀ i, (h : i < xs.length) → m ≤ i → bl xs[i] t = false from fun i h h' => by
          by_cases e : i = m
          · subst e; exact hb
          · cases hc : bl xs[i] t with
            | false => rfl
            | true =>
              have h4 := less_trans _ _ _ (HS.out m i (by omega) h) hc
              unfold bl at hb
              rw [hb] at h4
              cases h4)
        rw [hb] at C
        clear hb hm
        generalize xs[m] = x at *
        go_wp2_with (go_at_call 162; refine (C.out _).mono ?_; rintro e w1 ⟨rfl, rfl⟩)
        go_roundg (m - lo)
        case measure => have := HLM.out.1; omega
        case rel => exact ⟨lo, m, by have := HLM.out.1; omega, by omega, by omega, rfl, rfl, H1, H3, HB⟩
    · have hltz : ¬ (lo : Int) < (hi : Int) := by omega
      obtain rfl : lo = hi := by omega
      have HFF := Aside0.mk (HF.out lo hhn H1.out H2.out)
      clear hlh HF H1 H2
      by_cases hln : lo < xs.length
      · have hlnz : (lo : Int) < (xs.length : Int) := by omega
        rw [dif_pos hln] at HFF
        obtain ⟨ad, rfl, c0⟩ := el1 (HX.out.below HB.out) lo hln
        generalize xs[lo] = x at *
        have HE := Aside0.mk (show eqS x t = (x.toList == t.toList) from rfl)
        cases he : (x.toList == t.toList) with
        | true =>
          rw [HE.out, he] at HFF
          go_wp2_with (go_at_call 163; refine (nanS_calls _ _).mono ?_; rintro e w1 ⟨rfl, rfl⟩)
          go_ret2
          exact ⟨_, by rw [HFF.out]; rfl, HB.out⟩
        | false =>
          rw [HE.out, he] at HFF
          go_wp2_with (go_at_call 163; refine (nanS_calls _ _).mono ?_; rintro e w1 ⟨rfl, rfl⟩)
          go_ret2
          exact ⟨_, by rw [HFF.out]; rfl, HB.out⟩
      · have hlnz : ¬ (lo : Int) < (xs.length : Int) := by omega
        rw [dif_neg hln] at HFF
        go_wp2_with (go_at_call 163; refine (nanS_calls _ _).mono ?_; rintro e w1 ⟨rfl, rfl⟩)
        go_ret2
        exact ⟨_, by rw [HFF.out]; rfl, HB.out⟩
end Go.Proofs.Ytgmbfecfkdbfaaa.Wi
/- Which deltas may be. -/
set_option linter.unusedVariables false
set_option linter.unusedSimpArgs false
namespace Go.Proofs.Ytgmbfecfkdbfaaa.Wi
open Go Go.RowKit Go.Proofs.YtgmbfecfkdbfaaaW.PrintWords
def Delta.val (t : Delta) (A1 : Option Addr) (c1 : Nat) (A2 : Option Addr) (c2 : Nat) : Value := .agg #[.int .i64 t.n0, .slice A1 t.l1.length c1, .slice A2 t.l2.length c2]
def inL (l : List ByteArray) (x : ByteArray) : Bool := l.any (fun y => eqS y x)
def deltaRight (t : Delta) : Bool := decide (1 ≤ t.n0) && risingB t.l1 && risingB t.l2 && !(t.l1.any (inL t.l2))
theorem risingB_len {l : List ByteArray} (h : risingB l = true) : l.length ≤ 1000 := by
  unfold risingB at h
  simp only [Bool.and_eq_true, decide_eq_true_eq] at h
  exact h.1
theorem risingB_R {l : List ByteArray} (h : risingB l = true) : risingR l = true := by
  unfold risingB at h
  simp only [Bool.and_eq_true, decide_eq_true_eq] at h
  exact h.2
set_option maxHeartbeats 8000000 in
set_option maxRecDepth 100000 in
theorem deltaHit_calls (x : ByteArray) (bx : Nat) (n0 : Int) (A1 : Option Addr) (c1 : Nat) (l1 : List ByteArray) (A2 : Option Addr) (c2 : Nat) (l2 : List ByteArray) (w : World)
    (hq : w.heap[bx]? = some (.cells #[.int .i64 n0, .slice A1 l1.length c1, .slice A2 l2.length c2] 60 (0, 0))) (hx : ElAt encStr 1 w A2 l2) (hr : risingR l2 = true) (hl : l2.length ≤ 1000) :
    Calls Try.prog 124 #[.string x, .pointer (some ⟨bx, 0, none⟩)] w fun e w' => e = .returned (.bool (inL l2 x)) ∧ Below w.heap.size w w' := by
  have C := Aside0.mk (bsearch_calls A2 c2 l2 x w hx hr hl)
  have k2 : w.cell? ⟨bx, 2, none⟩ = some (.slice A2 l2.length c2) := (blk_cell hq 2).trans rfl
  have HI : Aside0 (inL l2 x = l2.any (fun y => eqS y x)) := ⟨rfl⟩
  rw [HI.out]
  generalize l2.any (fun y => eqS y x) = b at *
  clear hq hx hr HI
  go_enter Try.func124, Try.ntmps124
  go_wp2_with (go_at_call 125; refine C.out.mono ?_; rintro e w1 ⟨n, rfl, hb1⟩)
  go_ret
  exact ⟨rfl, hb1⟩
set_option maxHeartbeats 8000000 in
set_option maxRecDepth 100000 in
theorem deltaIndex_calls (bx : Nat) (n0 : Int) (A1 : Option Addr) (c1 : Nat) (l1 : List ByteArray) (A2 : Option Addr) (c2 : Nat) (l2 : List ByteArray) (w : World)
    (hq : w.heap[bx]? = some (.cells #[.int .i64 n0, .slice A1 l1.length c1, .slice A2 l2.length c2] 60 (0, 0))) (hx1 : ElAt encStr 1 w A1 l1) (hx : ElAt encStr 1 w A2 l2) (hr : risingR l2 = true) (hl : l2.length ≤ 1000) (hl1 : l1.length ≤ 1000) :
    Calls Try.prog 161 #[.slice A1 l1.length c1, .func (.func 124) #[] #[.pointer (some ⟨bx, 0, none⟩)]] w fun e w' => ∃ n : Int, e = .returned (.int .i64 n) ∧ decide (0 ≤ n) = l1.any (inL l2) ∧ Below w.heap.size w w' := by
  have C := Aside0.mk (fun x W (hb : Below w.heap.size w W) => deltaHit_calls x bx n0 A1 c1 l1 A2 c2 l2 W (blk_b hq hb) (hx.below hb) hr hl)
  have HX := Aside0.mk hx1
  clear hx hx1 hq hr
  go_enter Try.func161, Try.ntmps161
  go_wp2
  go_loopg [5, 8] l1.length (fun gg s5 s8 wr => ∃ (kk : Nat), kk ≤ l1.length ∧ l1.length - kk ≤ gg ∧ s8 = .int .i64 kk ∧ Aside0 ((l1.take kk).any (inL l2) = false) ∧ Aside0 (Below w.heap.size w wr))
  case atStart => exact ⟨0, by omega, by omega, rfl, ⟨rfl⟩, ⟨Below.refl _ _⟩⟩
  case round =>
    obtain ⟨kk, hkk, hgg, rfl, HA, HB⟩ := hrel
    by_cases hlt : kk < l1.length
    · have hltz : (kk : Int) < (l1.length : Int) := by omega
      obtain ⟨ad, rfl, c0⟩ := el1 (HX.out.below HB.out) kk hlt
      have HT := Aside0.mk (show (l1.take (kk + 1)).any (inL l2) = inL l2 l1[kk] from by rw [List.take_succ_eq_append_getElem hlt, List.any_append, HA.out]; simp)
      have HM := Aside0.mk (List.getElem_mem hlt)
      have CC := Aside0.mk (C.out l1[kk] wr HB.out)
      generalize l1[kk] = x at *
      obtain ⟨o, ho⟩ : ∃ o, inL l2 x = o := ⟨_, rfl⟩
      rw [ho] at CC HT
      cases o with
      | true =>
        have HN : Aside0 (l1.any (inL l2) = true) := ⟨List.any_eq_true.2 ⟨x, HM.out, ho⟩⟩
        clear ho
        go_wp2_with (go_at_call 124; refine CC.out.mono ?_; rintro e w1 ⟨rfl, hb1⟩)
        go_ret
        exact ⟨kk, rfl, by rw [HN.out]; exact decide_eq_true (by omega), below_then HB.out HB.out.size hb1⟩
      | false =>
        clear ho
        go_wp2_with (go_at_call 124; refine CC.out.mono ?_; rintro e w1 ⟨rfl, hb1⟩; have HB1 := Aside0.mk (below_then HB.out HB.out.size hb1); clear hb1)
        go_roundg (l1.length - (kk + 1))
        case measure => omega
        case rel => exact ⟨kk + 1, by omega, by omega, by go_num, HT, HB1⟩
    · have hltz : ¬ (kk : Int) < (l1.length : Int) := by omega
      have hke : l1.take kk = l1 := List.take_of_length_le (by omega)
      rw [hke] at HA
      clear hke
      go_wp2
      go_ret
      exact ⟨-1, rfl, by rw [HA.out]; rfl, HB.out⟩
set_option maxHeartbeats 1600000 in
set_option maxRecDepth 100000 in
theorem deltaContains_calls (bx : Nat) (n0 : Int) (A1 : Option Addr) (c1 : Nat) (l1 : List ByteArray) (A2 : Option Addr) (c2 : Nat) (l2 : List ByteArray) (w : World)
    (hq : w.heap[bx]? = some (.cells #[.int .i64 n0, .slice A1 l1.length c1, .slice A2 l2.length c2] 60 (0, 0))) (hx1 : ElAt encStr 1 w A1 l1) (hx : ElAt encStr 1 w A2 l2) (hr : risingR l2 = true) (hl : l2.length ≤ 1000) (hl1 : l1.length ≤ 1000) :
    Calls Try.prog 123 #[.slice A1 l1.length c1, .func (.func 124) #[] #[.pointer (some ⟨bx, 0, none⟩)]] w fun e w' => e = .returned (.bool (l1.any (inL l2))) ∧ Below w.heap.size w w' := by
  have C := Aside0.mk (deltaIndex_calls bx n0 A1 c1 l1 A2 c2 l2 w hq hx1 hx hr hl hl1)
  clear hx hx1 hq hr
  go_enter Try.func123, Try.ntmps123
  go_wp2_with (go_at_call 161; refine C.out.mono ?_; rintro e w1 ⟨n, rfl, hn, hb1⟩)
  go_ret
  exact ⟨by rw [← hn]; rfl, hb1⟩
set_option maxHeartbeats 8000000 in
set_option maxRecDepth 100000 in
theorem rightDelta_calls (t : Delta) (A1 : Option Addr) (c1 : Nat) (A2 : Option Addr) (c2 : Nat) (w : World) (ht : t.Ok) (hx : t.At w A1 c1 A2 c2) (hl1 : t.l1.length ≤ 9223372036854775807) (hl2 : t.l2.length ≤ 9223372036854775807) :
    Calls Try.prog 81 #[t.val A1 c1 A2 c2] w fun e w' => e = .returned (.int .i64 (if deltaRight t = true then 0 else 80)) ∧ Below w.heap.size w w' := by
  have hmf : ∀ (fn : Fn) (first cap : Array Value) (w : World), (Instr.makeFunc fn first cap).run Try.prog w = .ok (.func fn first cap) w := fun _ _ _ _ => rfl
  obtain ⟨k0, k1, k2⟩ := ht
  have CR1 := Aside0.mk (fun W (h : t.At W A1 c1 A2 c2) => rising_calls A1 c1 t.l1 W h.e1 hl1 k1)
  have CR2 := Aside0.mk (fun W (h : t.At W A1 c1 A2 c2) => rising_calls A2 c2 t.l2 W h.e2 hl2 k2)
  have CC0 := Aside0.mk (fun (h1 : risingB t.l1 = true) (h2 : risingB t.l2 = true) bx W (hq : W.heap[bx]? = _) (h : t.At W A1 c1 A2 c2) => deltaContains_calls bx t.n0 A1 c1 t.l1 A2 c2 t.l2 W hq h.e1 h.e2 (risingB_R h2) (risingB_len h2) (risingB_len h1))
  have HB0 := Aside0.mk (below1 (w := w) (.cells #[.int .i64 t.n0, .slice A1 t.l1.length c1, .slice A2 t.l2.length c2] 60))
  have HQ := Aside0.mk (heap_alloc_new w (.cells #[.int .i64 t.n0, .slice A1 t.l1.length c1, .slice A2 t.l2.length c2] 60))
  have H0 := Aside0.mk (hx.below HB0.out)
  unfold Delta.val deltaRight
  clear hx k1 k2
  obtain ⟨n0, l1, l2⟩ := t
  simp only at *
  generalize l1.any (inL l2) = b3 at *
  by_cases hz : 1 ≤ n0
  case neg =>
    have hzl : n0 < 1 := by omega
    rw [decide_eq_false hz]
    simp only [Bool.false_and, Bool.false_eq_true, ↓reduceIte]
    clear CC0
    go_enter Try.func81, Try.ntmps81
    go_wp2_with (first
      | (go_at_call 122; first
        | ((with_reducible refine (CR1.out _ H0.out).mono ?_); rintro e w1 ⟨rfl, hb1⟩; have HB1 := Aside0.mk (below_then HB0.out HB0.out.size hb1); have HD1 := Aside0.mk hb1; have q1 := blk_b HQ.out hb1; have HQ1 := Aside0.mk q1; have f0 : _ = some (Value.int .i64 n0) := blk_cell q1 0; have f1 : _ = some (Value.slice A1 l1.length c1) := blk_cell q1 1; have f2 : _ = some (Value.slice A2 l2.length c2) := blk_cell q1 2; clear q1 hb1)
        | ((with_reducible refine (CR2.out _ (H0.out.below HD1.out)).mono ?_); rintro e w2 ⟨rfl, hb2⟩; have HB2 := Aside0.mk (below_then HB1.out HB1.out.size hb2); have HH2 := Aside0.mk ((H0.out.below HD1.out).below hb2); have q2 := blk_b HQ1.out hb2; have HQ2 := Aside0.mk q2; have f0 : _ = some (Value.int .i64 n0) := blk_cell q2 0; have f1 : _ = some (Value.slice A1 l1.length c1) := blk_cell q2 1; have f2 : _ = some (Value.slice A2 l2.length c2) := blk_cell q2 2; clear q2 hb2))
      | (go_at_call 123; refine (CC.out _ HQ2.out HH2.out).mono ?_; rintro e w3 ⟨rfl, hb3⟩; have HB3 := Aside0.mk (below_then HB2.out HB2.out.size hb3); clear hb3)
      | (go_at_call 92; refine (when_calls _ _).mono ?_; rintro e w4 ⟨rfl, rfl⟩))
    go_ret
    exact ⟨by first | rfl | (simp; done) | (simp [*]; done), HB0.out⟩
  have hzl : ¬ n0 < 1 := by omega
  rw [decide_eq_true hz, Bool.true_and]
  cases hb1 : risingB l1 with
  | false =>
    rw [hb1] at CR1
    simp only [Bool.false_and, Bool.false_eq_true, ↓reduceIte]
    clear CC0 hb1
    go_enter Try.func81, Try.ntmps81
    go_wp2_with (first
      | (go_at_call 122; first
        | ((with_reducible refine (CR1.out _ H0.out).mono ?_); rintro e w1 ⟨rfl, hb1⟩; have HB1 := Aside0.mk (below_then HB0.out HB0.out.size hb1); have HD1 := Aside0.mk hb1; have q1 := blk_b HQ.out hb1; have HQ1 := Aside0.mk q1; have f0 : _ = some (Value.int .i64 n0) := blk_cell q1 0; have f1 : _ = some (Value.slice A1 l1.length c1) := blk_cell q1 1; have f2 : _ = some (Value.slice A2 l2.length c2) := blk_cell q1 2; clear q1 hb1)
        | ((with_reducible refine (CR2.out _ (H0.out.below HD1.out)).mono ?_); rintro e w2 ⟨rfl, hb2⟩; have HB2 := Aside0.mk (below_then HB1.out HB1.out.size hb2); have HH2 := Aside0.mk ((H0.out.below HD1.out).below hb2); have q2 := blk_b HQ1.out hb2; have HQ2 := Aside0.mk q2; have f0 : _ = some (Value.int .i64 n0) := blk_cell q2 0; have f1 : _ = some (Value.slice A1 l1.length c1) := blk_cell q2 1; have f2 : _ = some (Value.slice A2 l2.length c2) := blk_cell q2 2; clear q2 hb2))
      | (go_at_call 123; refine (CC.out _ HQ2.out HH2.out).mono ?_; rintro e w3 ⟨rfl, hb3⟩; have HB3 := Aside0.mk (below_then HB2.out HB2.out.size hb3); clear hb3)
      | (go_at_call 92; refine (when_calls _ _).mono ?_; rintro e w4 ⟨rfl, rfl⟩))
    go_ret
    exact ⟨by first | rfl | (simp; done) | (simp [*]; done), HB1.out⟩
  | true =>
    rw [hb1] at CR1
    cases hb2 : risingB l2 with
    | false =>
      rw [hb2] at CR2
      simp only [Bool.true_and, Bool.false_and, Bool.false_eq_true, ↓reduceIte]
      clear CC0 hb1 hb2
      go_enter Try.func81, Try.ntmps81
      go_wp2_with (first
        | (go_at_call 122; first
          | ((with_reducible refine (CR1.out _ H0.out).mono ?_); rintro e w1 ⟨rfl, hb1⟩; have HB1 := Aside0.mk (below_then HB0.out HB0.out.size hb1); have HD1 := Aside0.mk hb1; have q1 := blk_b HQ.out hb1; have HQ1 := Aside0.mk q1; have f0 : _ = some (Value.int .i64 n0) := blk_cell q1 0; have f1 : _ = some (Value.slice A1 l1.length c1) := blk_cell q1 1; have f2 : _ = some (Value.slice A2 l2.length c2) := blk_cell q1 2; clear q1 hb1)
          | ((with_reducible refine (CR2.out _ (H0.out.below HD1.out)).mono ?_); rintro e w2 ⟨rfl, hb2⟩; have HB2 := Aside0.mk (below_then HB1.out HB1.out.size hb2); have HH2 := Aside0.mk ((H0.out.below HD1.out).below hb2); have q2 := blk_b HQ1.out hb2; have HQ2 := Aside0.mk q2; have f0 : _ = some (Value.int .i64 n0) := blk_cell q2 0; have f1 : _ = some (Value.slice A1 l1.length c1) := blk_cell q2 1; have f2 : _ = some (Value.slice A2 l2.length c2) := blk_cell q2 2; clear q2 hb2))
        | (go_at_call 123; refine (CC.out _ HQ2.out HH2.out).mono ?_; rintro e w3 ⟨rfl, hb3⟩; have HB3 := Aside0.mk (below_then HB2.out HB2.out.size hb3); clear hb3)
        | (go_at_call 92; refine (when_calls _ _).mono ?_; rintro e w4 ⟨rfl, rfl⟩))
      go_ret
      exact ⟨by first | rfl | (simp; done) | (simp [*]; done), HB2.out⟩
    | true =>
      rw [hb2] at CR2
      have CC := Aside0.mk (CC0.out hb1 hb2 w.heap.size)
      simp only [Bool.true_and, ↓reduceIte]
      clear CC0 hb1 hb2
      cases b3 with
      | true =>
        simp only [Bool.not_true, Bool.false_eq_true, ↓reduceIte]
        go_enter Try.func81, Try.ntmps81
        go_wp2_with (first
          | (go_at_call 122; first
            | ((with_reducible refine (CR1.out _ H0.out).mono ?_); rintro e w1 ⟨rfl, hb1⟩; have HB1 := Aside0.mk (below_then HB0.out HB0.out.size hb1); have HD1 := Aside0.mk hb1; have q1 := blk_b HQ.out hb1; have HQ1 := Aside0.mk q1; have f0 : _ = some (Value.int .i64 n0) := blk_cell q1 0; have f1 : _ = some (Value.slice A1 l1.length c1) := blk_cell q1 1; have f2 : _ = some (Value.slice A2 l2.length c2) := blk_cell q1 2; clear q1 hb1)
            | ((with_reducible refine (CR2.out _ (H0.out.below HD1.out)).mono ?_); rintro e w2 ⟨rfl, hb2⟩; have HB2 := Aside0.mk (below_then HB1.out HB1.out.size hb2); have HH2 := Aside0.mk ((H0.out.below HD1.out).below hb2); have q2 := blk_b HQ1.out hb2; have HQ2 := Aside0.mk q2; have f0 : _ = some (Value.int .i64 n0) := blk_cell q2 0; have f1 : _ = some (Value.slice A1 l1.length c1) := blk_cell q2 1; have f2 : _ = some (Value.slice A2 l2.length c2) := blk_cell q2 2; clear q2 hb2))
          | (go_at_call 123; refine (CC.out _ HQ2.out HH2.out).mono ?_; rintro e w3 ⟨rfl, hb3⟩; have HB3 := Aside0.mk (below_then HB2.out HB2.out.size hb3); clear hb3)
          | (go_at_call 92; refine (when_calls _ _).mono ?_; rintro e w4 ⟨rfl, rfl⟩))
        go_ret
        exact ⟨by first | rfl | (simp; done) | (simp [*]; done), HB3.out⟩
      | false =>
        simp only [Bool.not_false, ↓reduceIte]
        go_enter Try.func81, Try.ntmps81
        go_wp2_with (first
          | (go_at_call 122; first
            | ((with_reducible refine (CR1.out _ H0.out).mono ?_); rintro e w1 ⟨rfl, hb1⟩; have HB1 := Aside0.mk (below_then HB0.out HB0.out.size hb1); have HD1 := Aside0.mk hb1; have q1 := blk_b HQ.out hb1; have HQ1 := Aside0.mk q1; have f0 : _ = some (Value.int .i64 n0) := blk_cell q1 0; have f1 : _ = some (Value.slice A1 l1.length c1) := blk_cell q1 1; have f2 : _ = some (Value.slice A2 l2.length c2) := blk_cell q1 2; clear q1 hb1)
            | ((with_reducible refine (CR2.out _ (H0.out.below HD1.out)).mono ?_); rintro e w2 ⟨rfl, hb2⟩; have HB2 := Aside0.mk (below_then HB1.out HB1.out.size hb2); have HH2 := Aside0.mk ((H0.out.below HD1.out).below hb2); have q2 := blk_b HQ1.out hb2; have HQ2 := Aside0.mk q2; have f0 : _ = some (Value.int .i64 n0) := blk_cell q2 0; have f1 : _ = some (Value.slice A1 l1.length c1) := blk_cell q2 1; have f2 : _ = some (Value.slice A2 l2.length c2) := blk_cell q2 2; clear q2 hb2))
          | (go_at_call 123; refine (CC.out _ HQ2.out HH2.out).mono ?_; rintro e w3 ⟨rfl, hb3⟩; have HB3 := Aside0.mk (below_then HB2.out HB2.out.size hb3); clear hb3)
          | (go_at_call 92; refine (when_calls _ _).mono ?_; rintro e w4 ⟨rfl, rfl⟩))
        go_ret
        exact ⟨by first | rfl | (simp; done) | (simp [*]; done), HB3.out⟩
end Go.Proofs.Ytgmbfecfkdbfaaa.Wi
