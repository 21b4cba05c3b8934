/- The reader's take, walked. -/
import Derived.Test.YtgmbfecfkdbfaaaWiR3
set_option linter.unusedVariables false
set_option linter.unusedSimpArgs false
namespace Go.Proofs.Ytgmbfecfkdbfaaa.Wi
open Go Go.RowKit Go.Proofs.YtgmbfecfkdbfaaaW.PrintWords
/-- a reader at block g: its bytes lie in row ro, from block B on -/
structure Rd (w : World) (B g : Nat) (ro : Option Nat) (bs : List Int) (r : RS) : Prop where
  at_ : ∃ v, RBlk w g v r.at_ r.last r.code r.fat ∧ w.ownsRow B 5 1 v bs.length (nums .u8 bs) ∧ v.ownBlock = ro
  base : B ≤ g
  le : r.at_ ≤ bs.length
  byt : Bytes bs
  len : bs.length ≤ 140737488355328
section
variable {w w' : World} {B g : Nat} {ro : Option Nat} {bs : List Int} {r : RS}
theorem Rd.lt (h : Rd w B g ro bs r) : g < w.heap.size := by
  obtain ⟨v, hb, _⟩ := h.at_
  exact blk_lt hb
theorem Rd.keep {S : Nat → Prop} (h : Rd w B g ro bs r) (hf : Fr S w w') (hg : ¬ S g) (hr : ∀ k, ro = some k → ¬ S k) : Rd w' B g ro bs r := by
  obtain ⟨v, hb, ho, rfl⟩ := h.at_
  exact ⟨⟨v, hf.blk hb hg, hf.own ho hr, rfl⟩, h.base, h.le, h.byt, h.len⟩
theorem Rd.below (h : Rd w B g ro bs r) (hb : Below w.heap.size w w') : Rd w' B g ro bs r :=
  h.keep (S := fun _ => False) (Fr.of_below hb) (fun h => h) (fun _ _ h => h)
end
/-- what a piece's reader comes to -/
def ReadP (gc gx : Nat) (T : TypeId) (A : Option Addr) (bs : List Int) (c at_ : Nat) (o : Except Int (Value × Nat)) (W : World) (e : Ending) (W' : World) : Prop :=
  (match o with
    | .ok (u, k) => e = .returned (.tuple #[]) ∧ Cur W' gc A bs.length c (at_ + k) ∧ W'.heap[gx]? = some (.cells #[u] T (0, 0))
    | .error k => e = .panicked (gave k) ∧ W'.heap[gx]? = W.heap[gx]?) ∧ Fr (fun i => i = gc ∨ i = gx) W W'
/-- what a call of take leaves -/
def TPost (B g : Nat) (ro : Option Nat) (bs : List Int) (gx : Nat) (T : TypeId) (u : Value) (r : RS) (w : World) (e : Ending) (w' : World) : Prop :=
  e = .returned (.tuple #[]) ∧ Rd w' B g ro bs r ∧ w'.heap[gx]? = some (.cells #[u] T (0, 0)) ∧ Fr (fun i => i = g ∨ i = gx) w w'
def takeD (h0 hc : Nat) : List Deferred := [{ target := Target.fn (Fn.func 167) #[.pointer (some ⟨h0, 0, none⟩), .pointer (some ⟨hc, 0, none⟩)], args := #[] }]
set_option maxHeartbeats 800000 in
theorem take_faulty (fv : Value) (B g : Nat) (ro : Option Nat) (bs : List Int) (r : RS) (gx : Nat) (T : TypeId) (u0 : Value) (w : World) (hr : Rd w B g ro bs r) (hx : w.heap[gx]? = some (.cells #[u0] T (0, 0))) (hc : r.code ≠ 0) :
    Calls Try.prog 144 #[.pointer (some ⟨g, 0, none⟩), fv] w (TPost B g ro bs gx T u0 r w) := by
  have HK := Aside0.mk (show TPost B g ro bs gx T u0 r w (.returned (.tuple #[])) (w.alloc (.cells #[.pointer (some ⟨g, 0, none⟩)] 95)) from
    ⟨rfl, hr.below (below1 _), blk_b hx (below1 _), Fr.of_below (below1 _)⟩)
  obtain ⟨v, hb, _⟩ := hr.at_
  have hg := blk_lt hb
  have c3 : w.cell? ⟨g, 3, none⟩ = some (.int .i64 r.code) := (blk_cell hb 3).trans rfl
  have c3' : (w.alloc (.cells #[.pointer (some ⟨g, 0, none⟩)] 95)).cell? ⟨g, 3, none⟩ = some (.int .i64 r.code) := (World.cell?_alloc_lt w _ _ hg).trans c3
  have t1 : (r.code == 0) = false := beq_eq_false_iff_ne.2 hc
  have t2 : (r.code != 0) = true := bne_iff_ne.2 hc
  clear hr hx hb hc
  go_enter_defers Try.func144, Try.ntmps144
  go_wp2
  show Leaves _ _ _ _ _ _ _
  refine ⟨.tuple #[], by simp [results, Try.results144], HK.out⟩
/-- what stands while a piece is taken: the old memory; the block that holds the reader's address; the cursor's block; the block that holds its address -/
structure TK (w W : World) (g gc hc : Nat) (x : Value) (m : Nat) : Prop where
  below : Below w.heap.size w W
  hh : W.heap[w.heap.size]? = some (.cells #[.pointer (some ⟨g, 0, none⟩)] 95 (0, 0))
  hk : W.heap[hc]? = some (.cells #[.pointer (some ⟨gc, 0, none⟩)] 204 (0, 0))
  cur : W.heap[gc]? = some (.cells #[x, .int .i64 m] 214 (0, 0))
  lo : w.heap.size < gc
theorem three_0 (w : World) (o o' o'' : Obj) : (((w.alloc o).alloc o').alloc o'').heap[w.heap.size]? = some o := blk_b (two_0 w o o') (below1 o'')
theorem three_1 (w : World) (o o' o'' : Obj) : (((w.alloc o).alloc o').alloc o'').heap[w.heap.size + 1]? = some o' := blk_b (two_1 w o o') (below1 o'')
theorem three_2 (w : World) (o o' o'' : Obj) : (((w.alloc o).alloc o').alloc o'').heap[w.heap.size + 2]? = some o'' := by
  have h := two_1 (w.alloc o) o' o''
  have e : (w.alloc o).heap.size = w.heap.size + 1 := by simp
  rw [e] at h
  exact h
/-- the way out of a piece that was taken -/
theorem takedoor_ret {tmps : Array Value} {R : Ending → World → Prop} (h0 hc g gc : Nat) (v x : Value) (at_ last code fat m : Int) (W : World) (hh : W.heap[h0]? = some (.cells #[.pointer (some ⟨g, 0, none⟩)] 95 (0, 0))) (hk : W.heap[hc]? = some (.cells #[.pointer (some ⟨gc, 0, none⟩)] 204 (0, 0)))
    (hcur : W.heap[gc]? = some (.cells #[x, .int .i64 m] 214 (0, 0))) (hg : RBlk W g v at_ last code fat) (hR : ∀ W2, RBlk W2 g v m at_ code fat → Fr (fun i => i = g) W W2 → R (.returned (.tuple #[])) W2) :
    bodyPostD Try.prog Try.f144 R .normal { tmps := tmps, defers := takeD h0 hc } W := by
  show Leaves _ _ _ _ _ _ _
  unfold takeD
  refine leaves_cons (f := 167) (args := #[.pointer (some ⟨h0, 0, none⟩), .pointer (some ⟨hc, 0, none⟩)]) (by simp) (by simp [go_sem]) ?_
  refine (rcatch_idle h0 hc g gc v x at_ last code fat m W hh hk hcur hg).mono ?_
  rintro e' u' w'' ⟨rfl, rfl, h1, h2⟩
  have key := hR _ h1 h2
  simp [Leaves, settle, results, Try.results144, go_sem, key]
/-- the way out of a piece that was given up -/
theorem takedoor_panic {tmps : Array Value} {R : Ending → World → Prop} (h0 hc g : Nat) (v : Value) (at_ last code fat k : Int) (W : World) (hh : W.heap[h0]? = some (.cells #[.pointer (some ⟨g, 0, none⟩)] 95 (0, 0)))
    (hg : RBlk W g v at_ last code fat) (hR : ∀ W2, RBlk W2 g v at_ last k at_ → Fr (fun i => i = g) W W2 → R (.returned (.tuple #[])) W2) :
    bodyPostD Try.prog Try.f144 R (.panic (gave k)) { tmps := tmps, defers := takeD h0 hc } W := by
  show Leaves _ _ _ _ _ _ _
  unfold gave takeD
  refine leaves_cons (f := 167) (args := #[.pointer (some ⟨h0, 0, none⟩), .pointer (some ⟨hc, 0, none⟩)]) (by simp) (by simp [go_sem]) ?_
  refine (rcatch_panicking h0 hc g v at_ last code fat k [] W hh hg).mono ?_
  rintro e' u' w'' ⟨rfl, rfl, h1, h2⟩
  have key := hR _ h1 h2
  simp [Leaves, settle, results, Try.results144, go_sem, key]
set_option maxHeartbeats 8000000 in
set_option maxRecDepth 100000 in
theorem take_calls (f : Nat) (caps : Array Value) (eg : ∀ args w, (callFunc f args).run Try.prog w = .ok (.enter f args) w) (o : Except Int (Value × Nat)) (B g : Nat) (ro : Option Nat) (bs : List Int) (r : RS) (gx : Nat) (T : TypeId) (u0 : Value) (w : World) (hB : B ≤ w.heap.size)
    (hr : Rd w B g ro bs r) (hx : w.heap[gx]? = some (.cells #[u0] T (0, 0))) (hT : T ≠ 202) (hTu : 5 ≠ T) (hc : r.code = 0) (hk : ∀ u k, o = .ok (u, k) → r.at_ + k ≤ bs.length)
    (hp : ∀ (W : World) (gc : Nat) (A : Option Addr) (c : Nat), Below w.heap.size w W → Cur W gc A bs.length c r.at_ → ReadsInt W .u8 A bs.length bs → bs.length ≤ c → (∀ ad, A = some ad → ad.block ≠ gc) → w.heap.size ≤ gc → Calls Try.prog f (#[.pointer (some ⟨gc, 0, none⟩)] ++ caps) W (ReadP gc gx T A bs c r.at_ o W)) :
    Calls Try.prog 144 #[.pointer (some ⟨g, 0, none⟩), .func (.func f) #[] caps] w
      (TPost B g ro bs gx T (match o with | .ok (u, _) => u | .error _ => u0) (match o with | .ok (_, k) => ⟨r.at_ + k, r.at_, 0, r.fat⟩ | .error k => ⟨r.at_, r.last, k, r.at_⟩) w) := by
  have hmf : ∀ (fn : Fn) (first cap : Array Value) (w : World), (Instr.makeFunc fn first cap).run Try.prog w = .ok (.func fn first cap) w := fun _ _ _ _ => rfl
  obtain ⟨v, hb, ho, hro⟩ := hr.at_
  obtain ⟨A, c, rfl, hAc, hrd⟩ := own_reads' ho
  have hg := blk_lt hb
  have c0 : (w.alloc (.cells #[.pointer (some ⟨g, 0, none⟩)] 95)).cell? ⟨g, 0, none⟩ = some (.slice A bs.length c) := (World.cell?_alloc_lt w _ _ hg).trans ((blk_cell hb 0).trans rfl)
  have c1 : (w.alloc (.cells #[.pointer (some ⟨g, 0, none⟩)] 95)).cell? ⟨g, 1, none⟩ = some (.int .i64 r.at_) := (World.cell?_alloc_lt w _ _ hg).trans ((blk_cell hb 1).trans rfl)
  have c3 : (w.alloc (.cells #[.pointer (some ⟨g, 0, none⟩)] 95)).cell? ⟨g, 3, none⟩ = some (.int .i64 0) := (World.cell?_alloc_lt w _ _ hg).trans ((blk_cell hb 3).trans (by rw [hc]; rfl))
  have ch : (w.alloc (.cells #[.pointer (some ⟨g, 0, none⟩)] 95)).cell? ⟨w.heap.size, 0, none⟩ = some (.pointer (some ⟨g, 0, none⟩)) := (blk_cell (heap_alloc_new w _) 0).trans rfl
  have S2 : ∀ o', ((w.alloc (.cells #[.pointer (some ⟨g, 0, none⟩)] 95)).alloc o').cell? ⟨w.heap.size, 0, none⟩ = some (.pointer (some ⟨g, 0, none⟩)) ∧ ((w.alloc (.cells #[.pointer (some ⟨g, 0, none⟩)] 95)).alloc o').cell? ⟨g, 0, none⟩ = some (.slice A bs.length c) ∧ ((w.alloc (.cells #[.pointer (some ⟨g, 0, none⟩)] 95)).alloc o').cell? ⟨g, 1, none⟩ = some (.int .i64 r.at_) := fun o' => ⟨(blk_cell (two_0 w _ o') 0).trans rfl, (blk_cell (blk_b hb (below2 _ o')) 0).trans rfl, (blk_cell (blk_b hb (below2 _ o')) 1).trans rfl⟩
  have S3 : ∀ o' o'', (((w.alloc (.cells #[.pointer (some ⟨g, 0, none⟩)] 95)).alloc o').alloc o'').cell? ⟨w.heap.size, 0, none⟩ = some (.pointer (some ⟨g, 0, none⟩)) ∧ (((w.alloc (.cells #[.pointer (some ⟨g, 0, none⟩)] 95)).alloc o').alloc o'').cell? ⟨g, 0, none⟩ = some (.slice A bs.length c) ∧ (((w.alloc (.cells #[.pointer (some ⟨g, 0, none⟩)] 95)).alloc o').alloc o'').cell? ⟨g, 1, none⟩ = some (.int .i64 r.at_) := fun o' o'' => ⟨(blk_cell (three_0 w _ o' o'') 0).trans rfl, (blk_cell (blk_b hb (below_alloc (below2 _ o') o'')) 0).trans rfl, (blk_cell (blk_b hb (below_alloc (below2 _ o') o'')) 1).trans rfl⟩
  have HB := Aside0.mk hb
  have HO := Aside0.mk ho
  have HRO := Aside0.mk hro
  have HR := Aside0.mk hr
  have HX := Aside0.mk hx
  have HRD := Aside0.mk hrd
  have HP := Aside0.mk hp
  have HC := Aside0.mk hc
  have HK := Aside0.mk hk
  have hEG := eg
  clear hb ho hro hr hx hrd hp hc hk
  go_enter_defers Try.func144, Try.ntmps144
  go_wp2_with fail
  have HS0 := Aside0.mk (show (w.alloc (.cells #[.pointer (some ⟨g, 0, none⟩)] 95)).drew.cell? ⟨w.heap.size, 0, none⟩ = some (.pointer (some ⟨g, 0, none⟩)) ∧ (w.alloc (.cells #[.pointer (some ⟨g, 0, none⟩)] 95)).drew.cell? ⟨g, 0, none⟩ = some (.slice A bs.length c) ∧ (w.alloc (.cells #[.pointer (some ⟨g, 0, none⟩)] 95)).drew.cell? ⟨g, 1, none⟩ = some (.int .i64 r.at_) from ⟨ch, c0, c1⟩)
  refine YtgmbfecfkdbfaaaG.wp_region_door 11 YtgmbfecfkdbfaaaG.keepT (fun _ _ => False) (fun W => W.cell? ⟨w.heap.size, 0, none⟩ = some (.pointer (some ⟨g, 0, none⟩)) ∧ W.cell? ⟨g, 0, none⟩ = some (.slice A bs.length c) ∧ W.cell? ⟨g, 1, none⟩ = some (.int .i64 r.at_)) (by kernel_rfl) trivial (fun _ _ _ _ h => h.elim) ?_
  refine YtgmbfecfkdbfaaaG.wpAnyG_take 0 (v := .pointer (some ⟨g, 0, none⟩)) rfl (by kernel_rfl) (by kernel_rfl) (by kernel_rfl) (by kernel_rfl) (by decide) (fun a u => YtgmbfecfkdbfaaaG.keepT_put a u) HS0.out trivial (by rfl) (by rintro W ⟨q0, q1, q2⟩; go_simp; done) ?_
  try simp only [Act.put, List.getElem_toArray, List.getElem_cons_zero, List.getElem_cons_succ, List.setIfInBounds_toArray, List.set_cons_zero, List.set_cons_succ]
  refine YtgmbfecfkdbfaaaG.wpAnyG_take 1 (v := .pointer (some ⟨g, 0, none⟩)) rfl (by kernel_rfl) (by kernel_rfl) (by kernel_rfl) (by kernel_rfl) (by decide) (fun a u => YtgmbfecfkdbfaaaG.keepT_put a u) HS0.out trivial (by rfl) (by rintro W ⟨q0, q1, q2⟩; go_simp; done) ?_
  try simp only [Act.put, List.getElem_toArray, List.getElem_cons_zero, List.getElem_cons_succ, List.setIfInBounds_toArray, List.set_cons_zero, List.set_cons_succ]
  refine YtgmbfecfkdbfaaaG.wpAnyG_take 2 (v := .pointer (some ⟨g, 0, none⟩)) rfl (by kernel_rfl) (by kernel_rfl) (by kernel_rfl) (by kernel_rfl) (by decide) (fun a u => YtgmbfecfkdbfaaaG.keepT_put a u) HS0.out trivial (by rfl) (by rintro W ⟨q0, q1, q2⟩; go_simp; done) ?_
  try simp only [Act.put, List.getElem_toArray, List.getElem_cons_zero, List.getElem_cons_succ, List.setIfInBounds_toArray, List.set_cons_zero, List.set_cons_succ]
  refine YtgmbfecfkdbfaaaG.wpAnyG_take 3 (v := .slice A bs.length c) rfl (by kernel_rfl) (by kernel_rfl) (by kernel_rfl) (by kernel_rfl) (by decide) (fun a u => YtgmbfecfkdbfaaaG.keepT_put a u) HS0.out trivial (by rfl) (by rintro W ⟨q0, q1, q2⟩; go_simp; done) ?_
  try simp only [Act.put, List.getElem_toArray, List.getElem_cons_zero, List.getElem_cons_succ, List.setIfInBounds_toArray, List.set_cons_zero, List.set_cons_succ]
  refine YtgmbfecfkdbfaaaG.wpAnyG_take 4 (v := .pointer (some ⟨g, 0, none⟩)) rfl (by kernel_rfl) (by kernel_rfl) (by kernel_rfl) (by kernel_rfl) (by decide) (fun a u => YtgmbfecfkdbfaaaG.keepT_put a u) HS0.out trivial (by rfl) (by rintro W ⟨q0, q1, q2⟩; go_simp; done) ?_
  try simp only [Act.put, List.getElem_toArray, List.getElem_cons_zero, List.getElem_cons_succ, List.setIfInBounds_toArray, List.set_cons_zero, List.set_cons_succ]
  refine YtgmbfecfkdbfaaaG.wpAnyG_take 5 (v := .pointer (some ⟨g, 0, none⟩)) rfl (by kernel_rfl) (by kernel_rfl) (by kernel_rfl) (by kernel_rfl) (by decide) (fun a u => YtgmbfecfkdbfaaaG.keepT_put a u) HS0.out trivial (by rfl) (by rintro W ⟨q0, q1, q2⟩; go_simp; done) ?_
  try simp only [Act.put, List.getElem_toArray, List.getElem_cons_zero, List.getElem_cons_succ, List.setIfInBounds_toArray, List.set_cons_zero, List.set_cons_succ]
  refine YtgmbfecfkdbfaaaG.wpAnyG_take 6 (v := .pointer (some ⟨g, 1, none⟩)) rfl (by kernel_rfl) (by kernel_rfl) (by kernel_rfl) (by kernel_rfl) (by decide) (fun a u => YtgmbfecfkdbfaaaG.keepT_put a u) HS0.out trivial (by rfl) (by rintro W ⟨q0, q1, q2⟩; go_simp; done) ?_
  try simp only [Act.put, List.getElem_toArray, List.getElem_cons_zero, List.getElem_cons_succ, List.setIfInBounds_toArray, List.set_cons_zero, List.set_cons_succ]
  refine YtgmbfecfkdbfaaaG.wpAnyG_take 7 (v := .int .i64 r.at_) rfl (by kernel_rfl) (by kernel_rfl) (by kernel_rfl) (by kernel_rfl) (by decide) (fun a u => YtgmbfecfkdbfaaaG.keepT_put a u) HS0.out trivial (by rfl) (by rintro W ⟨q0, q1, q2⟩; go_simp; done) ?_
  try simp only [Act.put, List.getElem_toArray, List.getElem_cons_zero, List.getElem_cons_succ, List.setIfInBounds_toArray, List.set_cons_zero, List.set_cons_succ]
  refine YtgmbfecfkdbfaaaG.wpAnyG_take 8 (v := .agg #[.slice A bs.length c, .int .i64 r.at_]) rfl (by kernel_rfl) (by kernel_rfl) (by kernel_rfl) (by kernel_rfl) (by decide) (fun a u => YtgmbfecfkdbfaaaG.keepT_put a u) HS0.out trivial (by rfl) (by rintro W ⟨q0, q1, q2⟩; go_simp; done) ?_
  try simp only [Act.put, List.getElem_toArray, List.getElem_cons_zero, List.getElem_cons_succ, List.setIfInBounds_toArray, List.set_cons_zero, List.set_cons_succ]
  refine YtgmbfecfkdbfaaaG.wpAnyG_two 9 10 rfl rfl (by kernel_rfl) (by rfl) (by rfl) (fun K hK => ?_) (fun K hK => ?_)
  · go_simp
    refine hK _ _ (S2 _) trivial ?_
    try simp only [Act.put, List.getElem_toArray, List.getElem_cons_zero, List.getElem_cons_succ, List.setIfInBounds_toArray, List.set_cons_zero, List.set_cons_succ]
    clear hK K
    refine YtgmbfecfkdbfaaaG.wpAnyG_one 10 rfl (by kernel_rfl) (by rfl) (fun K hK => ?_)
    go_simp
    refine hK _ _ (S3 _ _) trivial ?_
    try simp only [Act.put, List.getElem_toArray, List.getElem_cons_zero, List.getElem_cons_succ, List.setIfInBounds_toArray, List.set_cons_zero, List.set_cons_succ]
    clear hK K
    refine YtgmbfecfkdbfaaaG.wpAnyG_last rfl (by kernel_rfl) (by kernel_rfl) (by rfl) (fun K hK => ?_)
    go_simp
    refine hK _ _ ?_
    have HTK := Aside0.mk (show TK w (((w.alloc (.cells #[.pointer (some ⟨g, 0, none⟩)] 95)).alloc (.cells #[.slice A bs.length c, .int .i64 r.at_] 214)).alloc (.cells #[.pointer (some ⟨w.heap.size + 1, 0, none⟩)] 204)).drew g (w.heap.size + 1) (w.heap.size + 2) (.slice A bs.length c) r.at_ from ⟨(below_alloc (below2 _ _) _).drew, three_0 w _ _ _, three_2 w _ _ _, three_1 w _ _ _, by omega⟩)
    clear hK K HS0 S2 S3 c0 c1 c3 ch
    go_wp2_with fail
    have HNE : Aside0 (∀ ad, A = some ad → ad.block ≠ w.heap.size + 1) := ⟨fun ad ha => by
      subst ha
      have := own_lt HO.out ad.block rfl
      omega⟩
    have HRD2 := Aside0.mk (HRD.out.below HTK.out.below)
    have CC := Aside0.mk (HP.out _ (w.heap.size + 1) A c HTK.out.below HTK.out.cur HRD2.out hAc HNE.out (by omega))
    have HX2 := Aside0.mk (blk_b HX.out HTK.out.below)
    have HB2 := Aside0.mk (blk_b HB.out HTK.out.below)
    have nxg : gx ≠ g := blk_ne HX.out HB.out hT
    have lx := blk_lt HX.out
    cases o with
    | error k =>
      go_wp2_with ((with_reducible show Calls _ _ _ _ _); refine CC.out.mono ?_; rintro e W1 ⟨⟨rfl, hx1⟩, hf⟩)
      have hh1 := hf.blk HTK.out.hh (by omega)
      have hb1 := hf.blk HB2.out (by omega)
      refine takedoor_panic w.heap.size (w.heap.size + 2) g _ _ _ _ _ k W1 hh1 hb1 ?_
      intro W2 h1 h2
      refine ⟨rfl, ⟨⟨_, h1, ?_, HRO.out⟩, HR.out.base, HR.out.le, HR.out.byt, HR.out.len⟩, ?_, ?_⟩
      · refine h2.own (hf.own (pw_own_below HO.out HTK.out.below) ?_) ?_
        · intro j hj hs
          have := own_lt HO.out j hj
          rcases hs with rfl | rfl
          · omega
          · exact own_ne HO.out HX.out hTu hj.symm
        · rintro j hj rfl
          exact own_ne HO.out HB.out (by decide) hj.symm
      · exact (h2.blk (g := gx) (o := .cells #[u0] T (0, 0)) (hx1.trans HX2.out) nxg)
      · exact ((Fr.of_below HTK.out.below).trans hf (fun i hi h => h.elim (fun e => by omega) (fun e => .inr e))).trans h2 (fun i _ h => .inl h)
    | ok p =>
      obtain ⟨u, k⟩ := p
      go_wp2_with ((with_reducible show Calls _ _ _ _ _); refine CC.out.mono ?_; rintro e W1 ⟨⟨rfl, hcu, hx1⟩, hf⟩)
      have hh1 := hf.blk HTK.out.hh (by omega)
      have hb1 := hf.blk HB2.out (by omega)
      have hk1 := hf.blk HTK.out.hk (by omega)
      refine takedoor_ret w.heap.size (w.heap.size + 2) g (w.heap.size + 1) _ _ _ _ _ _ _ W1 hh1 hk1 hcu hb1 ?_
      intro W2 h1 h2
      rw [HC.out] at h1
      refine ⟨rfl, ⟨⟨_, h1, ?_, HRO.out⟩, HR.out.base, HK.out u k rfl, HR.out.byt, HR.out.len⟩, ?_, ?_⟩
      · refine h2.own (hf.own (pw_own_below HO.out HTK.out.below) ?_) ?_
        · intro j hj hs
          have := own_lt HO.out j hj
          rcases hs with rfl | rfl
          · omega
          · exact own_ne HO.out HX.out hTu hj.symm
        · rintro j hj rfl
          exact own_ne HO.out HB.out (by decide) hj.symm
      · exact h2.blk hx1 nxg
      · exact ((Fr.of_below HTK.out.below).trans hf (fun i hi h => h.elim (fun e => by omega) (fun e => .inr e))).trans h2 (fun i _ h => .inl h)
  · go_simp
    refine hK _ _ (S2 _) trivial ?_
    try simp only [Act.put, List.getElem_toArray, List.getElem_cons_zero, List.getElem_cons_succ, List.setIfInBounds_toArray, List.set_cons_zero, List.set_cons_succ]
    clear hK K
    refine YtgmbfecfkdbfaaaG.wpAnyG_one 9 rfl (by kernel_rfl) (by rfl) (fun K hK => ?_)
    go_simp
    refine hK _ _ (S3 _ _) trivial ?_
    try simp only [Act.put, List.getElem_toArray, List.getElem_cons_zero, List.getElem_cons_succ, List.setIfInBounds_toArray, List.set_cons_zero, List.set_cons_succ]
    clear hK K
    refine YtgmbfecfkdbfaaaG.wpAnyG_last rfl (by kernel_rfl) (by kernel_rfl) (by rfl) (fun K hK => ?_)
    go_simp
    refine hK _ _ ?_
    have HTK := Aside0.mk (show TK w (((w.alloc (.cells #[.pointer (some ⟨g, 0, none⟩)] 95)).alloc (.cells #[.pointer (some ⟨w.heap.size + 2, 0, none⟩)] 204)).alloc (.cells #[.slice A bs.length c, .int .i64 r.at_] 214)).drew g (w.heap.size + 2) (w.heap.size + 1) (.slice A bs.length c) r.at_ from ⟨(below_alloc (below2 _ _) _).drew, three_0 w _ _ _, three_1 w _ _ _, three_2 w _ _ _, by omega⟩)
    clear hK K HS0 S2 S3 c0 c1 c3 ch
    go_wp2_with fail
    have HNE : Aside0 (∀ ad, A = some ad → ad.block ≠ w.heap.size + 2) := ⟨fun ad ha => by
      subst ha
      have := own_lt HO.out ad.block rfl
      omega⟩
    have HRD2 := Aside0.mk (HRD.out.below HTK.out.below)
    have CC := Aside0.mk (HP.out _ (w.heap.size + 2) A c HTK.out.below HTK.out.cur HRD2.out hAc HNE.out (by omega))
    have HX2 := Aside0.mk (blk_b HX.out HTK.out.below)
    have HB2 := Aside0.mk (blk_b HB.out HTK.out.below)
    have nxg : gx ≠ g := blk_ne HX.out HB.out hT
    have lx := blk_lt HX.out
    cases o with
    | error k =>
      go_wp2_with ((with_reducible show Calls _ _ _ _ _); refine CC.out.mono ?_; rintro e W1 ⟨⟨rfl, hx1⟩, hf⟩)
      have hh1 := hf.blk HTK.out.hh (by omega)
      have hb1 := hf.blk HB2.out (by omega)
      refine takedoor_panic w.heap.size (w.heap.size + 1) g _ _ _ _ _ k W1 hh1 hb1 ?_
      intro W2 h1 h2
      refine ⟨rfl, ⟨⟨_, h1, ?_, HRO.out⟩, HR.out.base, HR.out.le, HR.out.byt, HR.out.len⟩, ?_, ?_⟩
      · refine h2.own (hf.own (pw_own_below HO.out HTK.out.below) ?_) ?_
        · intro j hj hs
          have := own_lt HO.out j hj
          rcases hs with rfl | rfl
          · omega
          · exact own_ne HO.out HX.out hTu hj.symm
        · rintro j hj rfl
          exact own_ne HO.out HB.out (by decide) hj.symm
      · exact (h2.blk (g := gx) (o := .cells #[u0] T (0, 0)) (hx1.trans HX2.out) nxg)
      · exact ((Fr.of_below HTK.out.below).trans hf (fun i hi h => h.elim (fun e => by omega) (fun e => .inr e))).trans h2 (fun i _ h => .inl h)
    | ok p =>
      obtain ⟨u, k⟩ := p
      go_wp2_with ((with_reducible show Calls _ _ _ _ _); refine CC.out.mono ?_; rintro e W1 ⟨⟨rfl, hcu, hx1⟩, hf⟩)
      have hh1 := hf.blk HTK.out.hh (by omega)
      have hb1 := hf.blk HB2.out (by omega)
      have hk1 := hf.blk HTK.out.hk (by omega)
      refine takedoor_ret w.heap.size (w.heap.size + 1) g (w.heap.size + 2) _ _ _ _ _ _ _ W1 hh1 hk1 hcu hb1 ?_
      intro W2 h1 h2
      rw [HC.out] at h1
      refine ⟨rfl, ⟨⟨_, h1, ?_, HRO.out⟩, HR.out.base, HK.out u k rfl, HR.out.byt, HR.out.len⟩, ?_, ?_⟩
      · refine h2.own (hf.own (pw_own_below HO.out HTK.out.below) ?_) ?_
        · intro j hj hs
          have := own_lt HO.out j hj
          rcases hs with rfl | rfl
          · omega
          · exact own_ne HO.out HX.out hTu hj.symm
        · rintro j hj rfl
          exact own_ne HO.out HB.out (by decide) hj.symm
      · exact h2.blk hx1 nxg
      · exact ((Fr.of_below HTK.out.below).trans hf (fun i hi h => h.elim (fun e => by omega) (fun e => .inr e))).trans h2 (fun i _ h => .inl h)
end Go.Proofs.Ytgmbfecfkdbfaaa.Wi
