/- The writer's put: a piece, as somebody makes it; what he gives up is caught. -/
import Derived.Test.YtgmbfecfkdbfaaaWiW1
import Derived.Test.YtgmbfecfkdbfaaaWiReg
set_option linter.unusedVariables false
set_option linter.unusedSimpArgs false
namespace Go.Proofs.Ytgmbfecfkdbfaaa.Wi
open Go Go.RowKit Go.Proofs.YtgmbfecfkdbfaaaW.PrintWords
set_option maxHeartbeats 800000 in
theorem wcatch_panicking (p : Addr) (g : Nat) (v : Value) (b : Bool) (e : Int) (older : List PanicEntry) (w : World) (hc : w.cell? p = some (.pointer (some ⟨g, 0, none⟩))) (hg : w.heap[g]? = some (.cells #[v, .bool b] 148 (0, 0))) :
    CallsD Try.prog 143 #[.pointer (some p)] (.panicking ({ v := .iface 26 (.int .i64 e), recovered := false } :: older)) w fun en u' w' =>
      en = .returned (.tuple #[]) ∧ u' = .panicking ({ v := .iface 26 (.int .i64 e), recovered := true } :: older) ∧ w' = w.setCell ⟨g, 1, none⟩ (.bool true) := by
  have c1 : w.cell? ⟨g, 1, none⟩ = some (.bool b) := (blk_cell hg 1).trans rfl
  have f1 : w.frozen? ⟨g, 1, none⟩ = false := blk_frozen hg 1
  refine callsD_of_wpS Try.func143 rfl fun c₀ cs hu => ?_
  apply wpS_seq
  apply wpS_region
  simp [wpOpsS, go_sem, recoverD, hu, Try.ntmps143, Exit.thenS]
  refine wpS_of_wp ?_
  go_wp2
  exact ⟨rfl, _, rfl, .tuple #[], by simp [results, Try.results143], rfl, rfl, rfl⟩
set_option maxHeartbeats 800000 in
theorem wcatch_idle (p : Addr) (w : World) :
    CallsD Try.prog 143 #[.pointer (some p)] .returning w fun en u' w' => en = .returned (.tuple #[]) ∧ u' = .returning ∧ w' = w := by
  refine callsD_of_wpS Try.func143 rfl fun c₀ cs hu => ?_
  apply wpS_seq
  apply wpS_region
  simp [wpOpsS, go_sem, recoverD, hu, Try.ntmps143, Exit.thenS]
  refine wpS_of_wp ?_
  go_wp2
  cases c₀
  simp_all [bodyPostS, results, Try.results143]
/-- what a piece comes to -/
def PieceP (o : Option (List Int)) (W : World) (e : Ending) (w' : World) : Prop :=
  (match o with
    | some ys => ∃ A c, e = .returned (.slice A ys.length c) ∧ ReadsInt w' .u8 A ys.length ys
    | none => e = .panicked (gave 1)) ∧ Below W.heap.size W w'
def putD (h : Nat) : List Deferred := [{ target := Target.fn (Fn.func 143) #[.pointer (some ⟨h, 0, none⟩)], args := #[] }]
/-- what stands while a piece is put: the old memory; the writer's block; the block that holds its address -/
structure PW (w W : World) (g : Nat) (v : Value) (b : Bool) : Prop where
  below : Below w.heap.size w W
  held : W.heap[w.heap.size]? = some (.cells #[.pointer (some ⟨g, 0, none⟩)] 93 (0, 0))
  wr : W.heap[g]? = some (.cells #[v, .bool b] 148 (0, 0))
theorem PW.start {w : World} {g : Nat} {v : Value} {b : Bool} (h : w.heap[g]? = some (.cells #[v, .bool b] 148 (0, 0))) : PW w (w.alloc (.cells #[.pointer (some ⟨g, 0, none⟩)] 93)) g v b :=
  ⟨below_alloc (Below.refl _ _) _, heap_alloc_new w _, (Below.heap_alloc w _ g (blk_lt h)).trans h⟩
theorem PW.drew {w W : World} {g : Nat} {v : Value} {b : Bool} (h : PW w W g v b) : PW w W.drew g v b := ⟨h.below.drew, h.held, h.wr⟩
theorem PW.then_ {w W W' : World} {g : Nat} {v : Value} {b : Bool} (h : PW w W g v b) (hb : Below W.heap.size W W') : PW w W' g v b :=
  ⟨below_then h.below h.below.size hb, (hb.block _ (blk_lt h.held)).trans h.held, (hb.block _ (blk_lt h.wr)).trans h.wr⟩
theorem PW.cells {w W : World} {g : Nat} {v : Value} {b : Bool} (h : PW w W g v b) : W.cell? ⟨w.heap.size, 0, none⟩ = some (.pointer (some ⟨g, 0, none⟩)) ∧ W.cell? ⟨g, 0, none⟩ = some v ∧ W.cell? ⟨g, 1, none⟩ = some (.bool b) :=
  ⟨(blk_cell h.held 0).trans rfl, (blk_cell h.wr 0).trans rfl, (blk_cell h.wr 1).trans rfl⟩
section
variable {w W : World} {B g : Nat} {ro : Option Nat} {s : WS} {v : Value}
/-- the way out where the piece was given up -/
theorem putdoor_panic {tmps : Array Value} (hP : PW w W g v false) (ho : w.ownsRow B 5 1 v s.xs.length (nums .u8 s.xs)) (hr : v.ownBlock = ro) (hB : B ≤ g) (hs : s.bad = false) :
    bodyPostD Try.prog Try.f107 (WPost B g ro (s.put none) w) (.panic (gave 1)) { tmps := tmps, defers := putD w.heap.size } W := by
  show Leaves _ _ _ _ _ _ _
  unfold gave putD
  refine leaves_cons (f := 143) (args := #[.pointer (some ⟨w.heap.size, 0, none⟩)]) (by simp) (by simp [go_sem]) ?_
  refine (wcatch_panicking ⟨w.heap.size, 0, none⟩ g v false 1 [] W hP.cells.1 hP.wr).mono ?_
  rintro e' u' w'' ⟨rfl, rfl, rfl⟩
  have hg := blk_set hP.wr 1 (.bool true)
  have hne : ∀ k, v.ownBlock = some k → ¬ (fun i => i = g) k := by
    rintro k hk rfl
    exact own_ne (pw_own_below ho hP.below) hP.wr (by decide) hk.symm
  have hf : Fr (WrS g ro) w (W.setCell ⟨g, 1, none⟩ (.bool true)) := (Fr.of_below hP.below).set_ (.inl (.inl rfl)) _
  have hf1 : Fr (fun i => i = g) w (W.setCell ⟨g, 1, none⟩ (.bool true)) := (Fr.of_below hP.below).set_ (S := fun i => i = g) (p := ⟨g, 1, none⟩) (.inl rfl) _
  have key : WPost B g ro (s.put none) w (.returned (.tuple #[])) (W.setCell ⟨g, 1, none⟩ (.bool true)) := by
    refine ⟨rfl, ro, ⟨⟨v, ?_, ?_, hr⟩, hB⟩, .inl rfl, hf⟩
    · simpa [WS.put, hs] using hg
    · have : (s.put none).xs = s.xs := by simp [WS.put, hs]
      rw [this]
      exact hf1.own ho hne
  generalize W.setCell ⟨g, 1, none⟩ (.bool true) = W2 at key
  simp [Leaves, settle, results, Try.results107, go_sem, key]
/-- the way out of a piece that was put -/
theorem putdoor_ret {tmps : Array Value} {R : Ending → World → Prop} (hR : R (.returned (.tuple #[])) W) :
    bodyPostD Try.prog Try.f107 R .normal { tmps := tmps, defers := putD w.heap.size } W := by
  show Leaves _ _ _ _ _ _ _
  unfold putD
  refine leaves_cons (f := 143) (args := #[.pointer (some ⟨w.heap.size, 0, none⟩)]) (by simp) (by simp [go_sem]) ?_
  refine (wcatch_idle ⟨w.heap.size, 0, none⟩ W).mono ?_
  rintro e' u' w'' ⟨rfl, rfl, rfl⟩
  simp [Leaves, settle, results, Try.results107, go_sem, hR]
end
set_option maxHeartbeats 4000000 in
set_option maxRecDepth 100000 in
theorem put_calls (f : Nat) (caps : Array Value) (eg : ∀ args w, (callFunc f args).run Try.prog w = .ok (.enter f args) w) (o : Option (List Int)) (B g : Nat) (ro : Option Nat) (s : WS) (w : World)
    (hw : Wr w B g ro s) (hB : B ≤ w.heap.size) (hlen : (s.put o).xs.length ≤ 140737488355328)
    (hp : ∀ W, Below w.heap.size w W → Calls Try.prog f caps W (PieceP o W)) :
    Calls Try.prog 107 #[.pointer (some ⟨g, 0, none⟩), .func (.func f) #[] caps] w (WPost B g ro (s.put o) w) := by
  have hmf : ∀ (fn : Fn) (first cap : Array Value) (w : World), (Instr.makeFunc fn first cap).run Try.prog w = .ok (.func fn first cap) w := fun _ _ _ _ => rfl
  have hbg := hw.base
  obtain ⟨⟨v, hv, ho, hr⟩, -⟩ := hw
  obtain ⟨xs, bad⟩ := s
  simp only at hv ho
  have HP := Aside0.mk (PW.start hv)
  have HO := Aside0.mk ho
  have HR := Aside0.mk hr
  have HPp := Aside0.mk hp
  have HL := Aside0.mk hlen
  have EG := eg
  clear hv ho hr hp hlen
  cases bad with
  | true =>
    obtain ⟨c0, c1, c2⟩ := HP.out.cells
    have key : WPost B g ro ((⟨xs, true⟩ : WS).put o) w (.returned (.tuple #[])) (w.alloc (.cells #[.pointer (some ⟨g, 0, none⟩)] 93)) :=
      ⟨rfl, ro, ⟨⟨v, HP.out.wr, pw_own_below HO.out HP.out.below, HR.out⟩, hbg⟩, .inl rfl, Fr.of_below HP.out.below⟩
    have KEY := Aside0.mk key
    clear key
    go_enter_defers Try.func107, Try.ntmps107
    go_wp2
    exact putdoor_ret KEY.out
  | false =>
    obtain ⟨c0, c1, c2⟩ := HP.out.cells
    go_enter_defers Try.func107, Try.ntmps107
    go_wp2_with fail
    have HS0 := Aside0.mk (And.intro HP.out.drew.cells.1 HP.out.drew.cells.2.1)
    refine YtgmbfecfkdbfaaaG.wp_region_door 10 (YtgmbfecfkdbfaaaG.keepC (putD w.heap.size)) (fun c W => c = gave 1 ∧ o = none ∧ PW w W g v false) (fun W => W.cell? ⟨w.heap.size, 0, none⟩ = some (.pointer (some ⟨g, 0, none⟩)) ∧ W.cell? ⟨g, 0, none⟩ = some v) (by kernel_rfl) rfl ?hQ ?_
    case hQ =>
      rintro c ⟨tm, df⟩ W hd ⟨rfl, rfl, hP⟩
      have hd' : df = putD w.heap.size := hd
      subst hd'
      exact putdoor_panic (s := ⟨xs, false⟩) hP HO.out HR.out hbg rfl
    refine YtgmbfecfkdbfaaaG.wpAnyG_take 0 (v := .pointer (some ⟨g, 0, none⟩)) rfl (by kernel_rfl) (by kernel_rfl) (by kernel_rfl) (by kernel_rfl) (by decide) (fun a u => YtgmbfecfkdbfaaaG.keepC_put a u) HS0.out rfl (by rfl) (by rintro W ⟨h0, h1⟩; go_simp; done) ?_
    try simp only [Act.put, List.setIfInBounds_toArray, List.set_cons_zero, List.set_cons_succ]
    refine YtgmbfecfkdbfaaaG.wpAnyG_take 1 (v := .pointer (some ⟨g, 0, none⟩)) rfl (by kernel_rfl) (by kernel_rfl) (by kernel_rfl) (by kernel_rfl) (by decide) (fun a u => YtgmbfecfkdbfaaaG.keepC_put a u) HS0.out rfl (by rfl) (by rintro W ⟨h0, h1⟩; go_simp; done) ?_
    try simp only [Act.put, List.setIfInBounds_toArray, List.set_cons_zero, List.set_cons_succ]
    refine YtgmbfecfkdbfaaaG.wpAnyG_take 2 (v := .pointer (some ⟨g, 0, none⟩)) rfl (by kernel_rfl) (by kernel_rfl) (by kernel_rfl) (by kernel_rfl) (by decide) (fun a u => YtgmbfecfkdbfaaaG.keepC_put a u) HS0.out rfl (by rfl) (by rintro W ⟨h0, h1⟩; go_simp; done) ?_
    try simp only [Act.put, List.setIfInBounds_toArray, List.set_cons_zero, List.set_cons_succ]
    refine YtgmbfecfkdbfaaaG.wpAnyG_take 3 (v := .pointer (some ⟨g, 0, none⟩)) rfl (by kernel_rfl) (by kernel_rfl) (by kernel_rfl) (by kernel_rfl) (by decide) (fun a u => YtgmbfecfkdbfaaaG.keepC_put a u) HS0.out rfl (by rfl) (by rintro W ⟨h0, h1⟩; go_simp; done) ?_
    try simp only [Act.put, List.setIfInBounds_toArray, List.set_cons_zero, List.set_cons_succ]
    refine YtgmbfecfkdbfaaaG.wpAnyG_take 4 (v := v) rfl (by kernel_rfl) (by kernel_rfl) (by kernel_rfl) (by kernel_rfl) (by decide) (fun a u => YtgmbfecfkdbfaaaG.keepC_put a u) HS0.out rfl (by rfl) (by rintro W ⟨h0, h1⟩; go_simp; done) ?_
    try simp only [Act.put, List.setIfInBounds_toArray, List.set_cons_zero, List.set_cons_succ]
    refine YtgmbfecfkdbfaaaG.wpAnyG_take 5 (v := .func (.func f) #[] caps) rfl (by kernel_rfl) (by kernel_rfl) (by kernel_rfl) (by kernel_rfl) (by decide) (fun a u => YtgmbfecfkdbfaaaG.keepC_put a u) HS0.out rfl (by rfl) (by rintro W ⟨h0, h1⟩; go_simp; done) ?_
    try simp only [Act.put, List.setIfInBounds_toArray, List.set_cons_zero, List.set_cons_succ]
    refine YtgmbfecfkdbfaaaG.wpAnyG_one 6 rfl (by kernel_rfl) (by rfl) (fun K hK => ?_)
    go_simp
    refine (HPp.out _ HP.out.drew.below).mono ?_
    rintro e W1 ⟨hm, hb⟩
    cases o with
    | none =>
      obtain rfl : e = .panicked (gave 1) := hm
      exact ⟨rfl, rfl, HP.out.drew.then_ hb⟩
    | some ys =>
      obtain ⟨A, c, rfl, hrd⟩ := hm
      have HP1 := Aside0.mk (HP.out.drew.then_ hb)
      have HRD := Aside0.mk hrd
      clear hb hrd c0 c1 c2
      refine hK _ _ ⟨HP1.out.cells.1, HP1.out.cells.2.1⟩ rfl ?_
      try simp only [Act.put, List.setIfInBounds_toArray, List.set_cons_zero, List.set_cons_succ]
      clear hK K HS0 HP
      refine YtgmbfecfkdbfaaaG.wpAnyG_one 7 rfl (by kernel_rfl) (by rfl) (fun K hK => ?_)
      refine wp_append_row B (.tmp 14) (.tmp 16) 24 5 .u8 1 rfl Try.underlying24 info_u8 (by decide) v xs.length xs ys A ys.length c (by rfl) (by rfl) (pw_own_below HO.out HP1.out.below) HRD.out (Nat.le_trans hB HP1.out.below.size) (by have := HL.out; simp only [WS.put, Bool.false_eq_true, if_false, List.length_append] at this; omega) ?_
      intro v1 W2 ho1 hg1 hat
      obtain ⟨A1, c1, rfl⟩ := own_slice ho1
      have HO1 := pw_own_below HO.out HP1.out.below
      have hge : ∀ t cs b, W1.heap[b]? = some (.cells cs t (0, 0)) → t ≠ 5 → some b ≠ v.ownBlock := fun t cs b hb ht => own_ne HO1 hb (fun e => ht e.symm)
      have hh2 := blk_grown HP1.out.held hg1 (hge _ _ _ HP1.out.held (by decide))
      have hw2 := blk_grown HP1.out.wr hg1 (hge _ _ _ HP1.out.wr (by decide))
      have HH := Aside0.mk hh2
      have HW := Aside0.mk hw2
      have HO2 := Aside0.mk ho1
      have HG := Aside0.mk hg1
      have HAT := Aside0.mk hat
      clear hge HO1 ho1 hg1 hat hh2 hw2
      refine hK _ _ ⟨(blk_cell HH.out 0).trans rfl, (blk_cell HW.out 0).trans rfl⟩ rfl ?_
      try simp only [Act.put, List.setIfInBounds_toArray, List.set_cons_zero, List.set_cons_succ]
      clear hK K
      refine YtgmbfecfkdbfaaaG.wpAnyG_one 8 rfl (by kernel_rfl) (by rfl) (fun K hK => ?_)
      go_simp
      refine hK _ _ ⟨(blk_cell HH.out 0).trans rfl, (blk_cell HW.out 0).trans rfl⟩ rfl ?_
      try simp only [Act.put, List.setIfInBounds_toArray, List.set_cons_zero, List.set_cons_succ]
      clear hK K
      refine YtgmbfecfkdbfaaaG.wpAnyG_one 9 rfl (by kernel_rfl) (by rfl) (fun K hK => ?_)
      go_simp
      refine hK _ _ ⟨(blk_cell HH.out 0).trans rfl, (blk_cell HW.out 0).trans rfl⟩ rfl ?_
      try simp only [Act.put, List.setIfInBounds_toArray, List.set_cons_zero, List.set_cons_succ]
      clear hK K
      have cg : W2.cell? ⟨g, 0, none⟩ = some v := (blk_cell HW.out 0).trans rfl
      have fg : W2.frozen? ⟨g, 0, none⟩ = false := blk_frozen HW.out 0
      refine YtgmbfecfkdbfaaaG.wpAnyG_last rfl (by kernel_rfl) (by kernel_rfl) (by rfl) (fun K hK => ?_)
      go_simp
      refine hK _ _ ?_
      refine putdoor_ret ?_
      have hne : (Value.slice A1 (xs.length + ys.length) c1).ownBlock ≠ some g := fun e => own_ne HO2.out HW.out (by decide) e.symm
      have hb1 := blk_set HW.out 0 (.slice A1 (xs.length + ys.length) c1)
      have hf : Fr (WrS g ro) w (W2.setCell ⟨g, 0, none⟩ (.slice A1 (xs.length + ys.length) c1)) := ((Fr.of_below HP1.out.below).grown HG.out (fun k hk => .inl (.inr (by rw [← HR.out]; exact hk)))).set_ (.inl (.inl rfl)) _
      refine ⟨rfl, _, ⟨⟨.slice A1 (xs.length + ys.length) c1, ?_, ?_, rfl⟩, hbg⟩, ?_, hf⟩
      · simpa [WS.put] using hb1
      · have : ((⟨xs, false⟩ : WS).put (some ys)).xs = xs ++ ys := by simp [WS.put]
        rw [this, List.length_append]
        exact own_setCell HO2.out (fun e => hne e.symm) _
      · rcases HAT.out with h | h
        · exact .inl (h.trans HR.out)
        · exact .inr ⟨_, h, HP1.out.below.size⟩
end Go.Proofs.Ytgmbfecfkdbfaaa.Wi
