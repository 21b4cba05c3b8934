/- The reader's small functions: what is wrong is given up; bytes of a piece, bits of a number. -/
import Derived.Test.YtgmbfecfkdbfaaaWiW4
set_option linter.unusedVariables false
set_option linter.unusedSimpArgs false
namespace Go.Proofs.Ytgmbfecfkdbfaaa.Wi
open Go Go.RowKit Go.Proofs.YtgmbfecfkdbfaaaW.PrintWords
set_option maxHeartbeats 400000 in
theorem check_ok (e : Int) (w : World) : Calls Try.prog 146 #[.bool true, .int .i64 e] w fun en w' => en = .returned (.tuple #[]) ∧ w = w' := by
  go_enter Try.func146, Try.ntmps146
  go_wp2
  go_end0
  exact ⟨rfl, rfl⟩
set_option maxHeartbeats 400000 in
theorem check_no (e : Int) (w : World) : Calls Try.prog 146 #[.bool false, .int .i64 e] w fun en w' => en = .panicked (gave e) ∧ w = w' := by
  unfold gave
  go_enter Try.func146, Try.ntmps146
  go_wp2
  exact ⟨rfl, rfl, rfl⟩
theorem add_block (a : Addr) (n : Nat) : (a.add n).block = a.block := by unfold Addr.add; split <;> rfl
theorem info_u8_parts : ∃ i, Try.prog.info? 5 = some i ∧ i.size = 1 := by
  obtain ⟨i0, hi, hzz⟩ := Option.map_eq_some_iff.1 info_u8
  simp only [Prod.mk.injEq] at hzz
  exact ⟨i0, hi, hzz.2.1⟩
/-- a cursor's block -/
def Cur (w : World) (gc : Nat) (A : Option Addr) (n c : Nat) (at_ : Nat) : Prop := w.heap[gc]? = some (.cells #[.slice A n c, .int .i64 at_] 214 (0, 0))
/-- what a call on a cursor may turn -/
def CurS (gc : Nat) : Nat → Prop := fun i => i = gc
/-- bytes of a piece: what comes out -/
def CBytes (gc : Nat) (A : Option Addr) (bs : List Int) (c at_ n : Nat) (w : World) (e : Ending) (w' : World) : Prop :=
  (∃ A' c', e = .returned (.slice A' n c') ∧ ReadsInt w' .u8 A' n ((bs.drop at_).take n)) ∧ Cur w' gc A bs.length c (at_ + n) ∧ Fr (CurS gc) w w'
/-- given up -/
def CGave (gc : Nat) (k : Int) (w : World) (e : Ending) (w' : World) : Prop := e = .panicked (gave k) ∧ Fr (CurS gc) w w'
set_option maxHeartbeats 4000000 in
theorem cbytes_short (gc : Nat) (A : Option Addr) (bs : List Int) (c at_ n : Nat) (w : World) (hC : Cur w gc A bs.length c at_) (hat : at_ ≤ bs.length) (hb : bs.length ≤ 140737488355328) (hn : bs.length < at_ + n) (hn2 : n ≤ 140737488355328) :
    Calls Try.prog 147 #[.pointer (some ⟨gc, 0, none⟩), .int .i64 n] w (CGave gc 10 w) := by
  have c0 : w.cell? ⟨gc, 0, none⟩ = some (.slice A bs.length c) := (blk_cell hC 0).trans rfl
  have c1 : w.cell? ⟨gc, 1, none⟩ = some (.int .i64 at_) := (blk_cell hC 1).trans rfl
  have hg := blk_lt hC
  clear hC
  have t1 : decide ((n : Int) ≤ (bs.length : Int) - at_) = false := decide_eq_false (by omega)
  have e1 : IntKind.i64.wrap ((bs.length : Int) - at_) = (bs.length : Int) - at_ := IntWalk.i64_in _ (by omega)
  go_enter Try.func147, Try.ntmps147
  go_wp2
  have HS0 := Aside0.mk (show w.drew.cell? ⟨gc, 0, none⟩ = some (.slice A bs.length c) ∧ w.drew.cell? ⟨gc, 1, none⟩ = some (.int .i64 at_) from ⟨c0, c1⟩)
  refine YtgmbfecfkdbfaaaG.wp_region_door 99 (YtgmbfecfkdbfaaaG.keepC []) (fun ch W => ch = gave 10 ∧ Fr (CurS gc) w W) (fun W => W.cell? ⟨gc, 0, none⟩ = some (.slice A bs.length c) ∧ W.cell? ⟨gc, 1, none⟩ = some (.int .i64 at_)) (by kernel_rfl) rfl (fun ch a W hk h => ⟨hk, by rw [h.1], h.2⟩) ?_
  refine YtgmbfecfkdbfaaaG.wpAnyG_take 0 (v := .int .i64 n) rfl (by kernel_rfl) (by kernel_rfl) (by kernel_rfl) (by kernel_rfl) (by decide) (fun a u => YtgmbfecfkdbfaaaG.keepC_put a u) HS0.out rfl (by rfl) (by rintro W ⟨h0, h1⟩; go_simp; done) ?_
  try simp only [Act.put, List.getElem_toArray, List.getElem_cons_zero, List.getElem_cons_succ, List.setIfInBounds_toArray, List.set_cons_zero, List.set_cons_succ]
  refine YtgmbfecfkdbfaaaG.wpAnyG_take 1 (v := .pointer (some ⟨gc, 0, none⟩)) rfl (by kernel_rfl) (by kernel_rfl) (by kernel_rfl) (by kernel_rfl) (by decide) (fun a u => YtgmbfecfkdbfaaaG.keepC_put a u) HS0.out rfl (by rfl) (by rintro W ⟨h0, h1⟩; go_simp; done) ?_
  try simp only [Act.put, List.getElem_toArray, List.getElem_cons_zero, List.getElem_cons_succ, List.setIfInBounds_toArray, List.set_cons_zero, List.set_cons_succ]
  refine YtgmbfecfkdbfaaaG.wpAnyG_take 2 (v := .pointer (some ⟨gc, 0, none⟩)) rfl (by kernel_rfl) (by kernel_rfl) (by kernel_rfl) (by kernel_rfl) (by decide) (fun a u => YtgmbfecfkdbfaaaG.keepC_put a u) HS0.out rfl (by rfl) (by rintro W ⟨h0, h1⟩; go_simp; done) ?_
  try simp only [Act.put, List.getElem_toArray, List.getElem_cons_zero, List.getElem_cons_succ, List.setIfInBounds_toArray, List.set_cons_zero, List.set_cons_succ]
  refine YtgmbfecfkdbfaaaG.wpAnyG_take 3 (v := .pointer (some ⟨gc, 0, none⟩)) rfl (by kernel_rfl) (by kernel_rfl) (by kernel_rfl) (by kernel_rfl) (by decide) (fun a u => YtgmbfecfkdbfaaaG.keepC_put a u) HS0.out rfl (by rfl) (by rintro W ⟨h0, h1⟩; go_simp; done) ?_
  try simp only [Act.put, List.getElem_toArray, List.getElem_cons_zero, List.getElem_cons_succ, List.setIfInBounds_toArray, List.set_cons_zero, List.set_cons_succ]
  refine YtgmbfecfkdbfaaaG.wpAnyG_take 4 (v := .slice A bs.length c) rfl (by kernel_rfl) (by kernel_rfl) (by kernel_rfl) (by kernel_rfl) (by decide) (fun a u => YtgmbfecfkdbfaaaG.keepC_put a u) HS0.out rfl (by rfl) (by rintro W ⟨h0, h1⟩; go_simp; done) ?_
  try simp only [Act.put, List.getElem_toArray, List.getElem_cons_zero, List.getElem_cons_succ, List.setIfInBounds_toArray, List.set_cons_zero, List.set_cons_succ]
  refine YtgmbfecfkdbfaaaG.wpAnyG_take 5 (v := .int .i64 bs.length) rfl (by kernel_rfl) (by kernel_rfl) (by kernel_rfl) (by kernel_rfl) (by decide) (fun a u => YtgmbfecfkdbfaaaG.keepC_put a u) HS0.out rfl (by rfl) (by rintro W ⟨h0, h1⟩; go_simp; done) ?_
  try simp only [Act.put, List.getElem_toArray, List.getElem_cons_zero, List.getElem_cons_succ, List.setIfInBounds_toArray, List.set_cons_zero, List.set_cons_succ]
  refine YtgmbfecfkdbfaaaG.wpAnyG_take 6 (v := .pointer (some ⟨gc, 0, none⟩)) rfl (by kernel_rfl) (by kernel_rfl) (by kernel_rfl) (by kernel_rfl) (by decide) (fun a u => YtgmbfecfkdbfaaaG.keepC_put a u) HS0.out rfl (by rfl) (by rintro W ⟨h0, h1⟩; go_simp; done) ?_
  try simp only [Act.put, List.getElem_toArray, List.getElem_cons_zero, List.getElem_cons_succ, List.setIfInBounds_toArray, List.set_cons_zero, List.set_cons_succ]
  refine YtgmbfecfkdbfaaaG.wpAnyG_take 7 (v := .pointer (some ⟨gc, 0, none⟩)) rfl (by kernel_rfl) (by kernel_rfl) (by kernel_rfl) (by kernel_rfl) (by decide) (fun a u => YtgmbfecfkdbfaaaG.keepC_put a u) HS0.out rfl (by rfl) (by rintro W ⟨h0, h1⟩; go_simp; done) ?_
  try simp only [Act.put, List.getElem_toArray, List.getElem_cons_zero, List.getElem_cons_succ, List.setIfInBounds_toArray, List.set_cons_zero, List.set_cons_succ]
  refine YtgmbfecfkdbfaaaG.wpAnyG_take 8 (v := .pointer (some ⟨gc, 1, none⟩)) rfl (by kernel_rfl) (by kernel_rfl) (by kernel_rfl) (by kernel_rfl) (by decide) (fun a u => YtgmbfecfkdbfaaaG.keepC_put a u) HS0.out rfl (by rfl) (by rintro W ⟨h0, h1⟩; go_simp; done) ?_
  try simp only [Act.put, List.getElem_toArray, List.getElem_cons_zero, List.getElem_cons_succ, List.setIfInBounds_toArray, List.set_cons_zero, List.set_cons_succ]
  refine YtgmbfecfkdbfaaaG.wpAnyG_take 9 (v := .int .i64 at_) rfl (by kernel_rfl) (by kernel_rfl) (by kernel_rfl) (by kernel_rfl) (by decide) (fun a u => YtgmbfecfkdbfaaaG.keepC_put a u) HS0.out rfl (by rfl) (by rintro W ⟨h0, h1⟩; go_simp; done) ?_
  try simp only [Act.put, List.getElem_toArray, List.getElem_cons_zero, List.getElem_cons_succ, List.setIfInBounds_toArray, List.set_cons_zero, List.set_cons_succ]
  refine YtgmbfecfkdbfaaaG.wpAnyG_take 10 (v := .int .i64 ((bs.length : Int) - at_)) rfl (by kernel_rfl) (by kernel_rfl) (by kernel_rfl) (by kernel_rfl) (by decide) (fun a u => YtgmbfecfkdbfaaaG.keepC_put a u) HS0.out rfl (by rfl) (by rintro W ⟨h0, h1⟩; go_simp; done) ?_
  try simp only [Act.put, List.getElem_toArray, List.getElem_cons_zero, List.getElem_cons_succ, List.setIfInBounds_toArray, List.set_cons_zero, List.set_cons_succ]
  refine YtgmbfecfkdbfaaaG.wpAnyG_take 11 (v := .bool false) rfl (by kernel_rfl) (by kernel_rfl) (by kernel_rfl) (by kernel_rfl) (by decide) (fun a u => YtgmbfecfkdbfaaaG.keepC_put a u) HS0.out rfl (by rfl) (by rintro W ⟨h0, h1⟩; go_simp; done) ?_
  try simp only [Act.put, List.getElem_toArray, List.getElem_cons_zero, List.getElem_cons_succ, List.setIfInBounds_toArray, List.set_cons_zero, List.set_cons_succ]
  refine YtgmbfecfkdbfaaaG.wpAnyG_one 12 rfl (by kernel_rfl) (by rfl) (fun K hK => ?_)
  go_simp
  refine (check_no _ _).mono ?_
  rintro e w' ⟨rfl, rfl⟩
  exact ⟨rfl, (Fr.refl _ _).drew⟩
theorem Cur.set_ {w : World} {gc n c at_ : Nat} {A : Option Addr} (h : Cur w gc A n c at_) (m : Nat) : Cur (w.setCell ⟨gc, 1, none⟩ (.int .i64 m)) gc A n c m := by
  have := blk_set h 1 (.int .i64 m)
  unfold Cur
  simpa using this
set_option maxHeartbeats 4000000 in
theorem cbytes_ok (gc : Nat) (A : Option Addr) (bs : List Int) (c at_ n : Nat) (w : World) (hC : Cur w gc A bs.length c at_) (hR : ReadsInt w .u8 A bs.length bs) (hc : bs.length ≤ c) (hb : bs.length ≤ 140737488355328) (hn : at_ + n ≤ bs.length) (hA : ∀ ad, A = some ad → ad.block ≠ gc) :
    Calls Try.prog 147 #[.pointer (some ⟨gc, 0, none⟩), .int .i64 n] w (CBytes gc A bs c at_ n w) := by
  have c0 : w.cell? ⟨gc, 0, none⟩ = some (.slice A bs.length c) := (blk_cell hC 0).trans rfl
  have c1 : w.cell? ⟨gc, 1, none⟩ = some (.int .i64 at_) := (blk_cell hC 1).trans rfl
  have f1 : w.frozen? ⟨gc, 1, none⟩ = false := blk_frozen hC 1
  have hg := blk_lt hC
  have HC := Aside0.mk hC
  have HR := Aside0.mk hR
  have HA := Aside0.mk hA
  clear hC hR hA
  obtain ⟨u8info, u8info_at, u8info_size⟩ := info_u8_parts
  obtain ⟨A', hsl, hrd, _⟩ := print_mid_int (P := Try.prog) (k := .u8) 24 5 Try.underlying24 (i := u8info) u8info_at u8info_size A c bs (at_ : Int) ((at_ : Int) + n) (by omega) (by omega) (by omega) hc
  have eL : ((bs.take ((at_ : Int) + n).toNat).drop (at_ : Int).toNat) = (bs.drop at_).take n := by
    rw [show ((at_ : Int) + n).toNat = at_ + n by omega, Int.toNat_natCast, List.drop_take, show at_ + n - at_ = n by omega]
  have eN : ((bs.drop at_).take n).length = n := by rw [List.length_take, List.length_drop]; omega
  rw [eL, eN, Int.toNat_natCast] at hsl
  simp only [eL, eN] at hrd
  clear eL eN
  have e3 : IntKind.i64.wrap ((at_ : Int) + n - n) = (at_ : Int) := by rw [show (at_ : Int) + n - n = at_ by omega]; exact IntWalk.i64_in _ (by omega)
  have e5 : IntKind.i64.wrap (at_ : Int) = (at_ : Int) := IntWalk.i64_in _ (by omega)
  have t1 : decide ((n : Int) ≤ (bs.length : Int) - at_) = true := decide_eq_true (by omega)
  have e1 : IntKind.i64.wrap ((bs.length : Int) - at_) = (bs.length : Int) - at_ := IntWalk.i64_in _ (by omega)
  have e2 : IntKind.i64.wrap ((at_ : Int) + n) = (at_ : Int) + n := IntWalk.i64_in _ (by omega)
  go_enter Try.func147, Try.ntmps147
  go_wp2
  have HS0 := Aside0.mk (show w.drew.cell? ⟨gc, 0, none⟩ = some (.slice A bs.length c) ∧ w.drew.cell? ⟨gc, 1, none⟩ = some (.int .i64 at_) from ⟨c0, c1⟩)
  refine YtgmbfecfkdbfaaaG.wp_region_door 99 (YtgmbfecfkdbfaaaG.keepC []) (fun ch W => False) (fun W => W.cell? ⟨gc, 0, none⟩ = some (.slice A bs.length c) ∧ W.cell? ⟨gc, 1, none⟩ = some (.int .i64 at_)) (by kernel_rfl) rfl (fun ch a W hk h => h.elim) ?_
  refine YtgmbfecfkdbfaaaG.wpAnyG_take 0 (v := .int .i64 n) rfl (by kernel_rfl) (by kernel_rfl) (by kernel_rfl) (by kernel_rfl) (by decide) (fun a u => YtgmbfecfkdbfaaaG.keepC_put a u) HS0.out rfl (by rfl) (by rintro W ⟨h0, h1⟩; go_simp; done) ?_
  try simp only [Act.put, List.getElem_toArray, List.getElem_cons_zero, List.getElem_cons_succ, List.setIfInBounds_toArray, List.set_cons_zero, List.set_cons_succ]
  refine YtgmbfecfkdbfaaaG.wpAnyG_take 1 (v := .pointer (some ⟨gc, 0, none⟩)) rfl (by kernel_rfl) (by kernel_rfl) (by kernel_rfl) (by kernel_rfl) (by decide) (fun a u => YtgmbfecfkdbfaaaG.keepC_put a u) HS0.out rfl (by rfl) (by rintro W ⟨h0, h1⟩; go_simp; done) ?_
  try simp only [Act.put, List.getElem_toArray, List.getElem_cons_zero, List.getElem_cons_succ, List.setIfInBounds_toArray, List.set_cons_zero, List.set_cons_succ]
  refine YtgmbfecfkdbfaaaG.wpAnyG_take 2 (v := .pointer (some ⟨gc, 0, none⟩)) rfl (by kernel_rfl) (by kernel_rfl) (by kernel_rfl) (by kernel_rfl) (by decide) (fun a u => YtgmbfecfkdbfaaaG.keepC_put a u) HS0.out rfl (by rfl) (by rintro W ⟨h0, h1⟩; go_simp; done) ?_
  try simp only [Act.put, List.getElem_toArray, List.getElem_cons_zero, List.getElem_cons_succ, List.setIfInBounds_toArray, List.set_cons_zero, List.set_cons_succ]
  refine YtgmbfecfkdbfaaaG.wpAnyG_take 3 (v := .pointer (some ⟨gc, 0, none⟩)) rfl (by kernel_rfl) (by kernel_rfl) (by kernel_rfl) (by kernel_rfl) (by decide) (fun a u => YtgmbfecfkdbfaaaG.keepC_put a u) HS0.out rfl (by rfl) (by rintro W ⟨h0, h1⟩; go_simp; done) ?_
  try simp only [Act.put, List.getElem_toArray, List.getElem_cons_zero, List.getElem_cons_succ, List.setIfInBounds_toArray, List.set_cons_zero, List.set_cons_succ]
  refine YtgmbfecfkdbfaaaG.wpAnyG_take 4 (v := .slice A bs.length c) rfl (by kernel_rfl) (by kernel_rfl) (by kernel_rfl) (by kernel_rfl) (by decide) (fun a u => YtgmbfecfkdbfaaaG.keepC_put a u) HS0.out rfl (by rfl) (by rintro W ⟨h0, h1⟩; go_simp; done) ?_
  try simp only [Act.put, List.getElem_toArray, List.getElem_cons_zero, List.getElem_cons_succ, List.setIfInBounds_toArray, List.set_cons_zero, List.set_cons_succ]
  refine YtgmbfecfkdbfaaaG.wpAnyG_take 5 (v := .int .i64 bs.length) rfl (by kernel_rfl) (by kernel_rfl) (by kernel_rfl) (by kernel_rfl) (by decide) (fun a u => YtgmbfecfkdbfaaaG.keepC_put a u) HS0.out rfl (by rfl) (by rintro W ⟨h0, h1⟩; go_simp; done) ?_
  try simp only [Act.put, List.getElem_toArray, List.getElem_cons_zero, List.getElem_cons_succ, List.setIfInBounds_toArray, List.set_cons_zero, List.set_cons_succ]
  refine YtgmbfecfkdbfaaaG.wpAnyG_take 6 (v := .pointer (some ⟨gc, 0, none⟩)) rfl (by kernel_rfl) (by kernel_rfl) (by kernel_rfl) (by kernel_rfl) (by decide) (fun a u => YtgmbfecfkdbfaaaG.keepC_put a u) HS0.out rfl (by rfl) (by rintro W ⟨h0, h1⟩; go_simp; done) ?_
  try simp only [Act.put, List.getElem_toArray, List.getElem_cons_zero, List.getElem_cons_succ, List.setIfInBounds_toArray, List.set_cons_zero, List.set_cons_succ]
  refine YtgmbfecfkdbfaaaG.wpAnyG_take 7 (v := .pointer (some ⟨gc, 0, none⟩)) rfl (by kernel_rfl) (by kernel_rfl) (by kernel_rfl) (by kernel_rfl) (by decide) (fun a u => YtgmbfecfkdbfaaaG.keepC_put a u) HS0.out rfl (by rfl) (by rintro W ⟨h0, h1⟩; go_simp; done) ?_
  try simp only [Act.put, List.getElem_toArray, List.getElem_cons_zero, List.getElem_cons_succ, List.setIfInBounds_toArray, List.set_cons_zero, List.set_cons_succ]
  refine YtgmbfecfkdbfaaaG.wpAnyG_take 8 (v := .pointer (some ⟨gc, 1, none⟩)) rfl (by kernel_rfl) (by kernel_rfl) (by kernel_rfl) (by kernel_rfl) (by decide) (fun a u => YtgmbfecfkdbfaaaG.keepC_put a u) HS0.out rfl (by rfl) (by rintro W ⟨h0, h1⟩; go_simp; done) ?_
  try simp only [Act.put, List.getElem_toArray, List.getElem_cons_zero, List.getElem_cons_succ, List.setIfInBounds_toArray, List.set_cons_zero, List.set_cons_succ]
  refine YtgmbfecfkdbfaaaG.wpAnyG_take 9 (v := .int .i64 at_) rfl (by kernel_rfl) (by kernel_rfl) (by kernel_rfl) (by kernel_rfl) (by decide) (fun a u => YtgmbfecfkdbfaaaG.keepC_put a u) HS0.out rfl (by rfl) (by rintro W ⟨h0, h1⟩; go_simp; done) ?_
  try simp only [Act.put, List.getElem_toArray, List.getElem_cons_zero, List.getElem_cons_succ, List.setIfInBounds_toArray, List.set_cons_zero, List.set_cons_succ]
  refine YtgmbfecfkdbfaaaG.wpAnyG_take 10 (v := .int .i64 ((bs.length : Int) - at_)) rfl (by kernel_rfl) (by kernel_rfl) (by kernel_rfl) (by kernel_rfl) (by decide) (fun a u => YtgmbfecfkdbfaaaG.keepC_put a u) HS0.out rfl (by rfl) (by rintro W ⟨h0, h1⟩; go_simp; done) ?_
  try simp only [Act.put, List.getElem_toArray, List.getElem_cons_zero, List.getElem_cons_succ, List.setIfInBounds_toArray, List.set_cons_zero, List.set_cons_succ]
  refine YtgmbfecfkdbfaaaG.wpAnyG_take 11 (v := .bool true) rfl (by kernel_rfl) (by kernel_rfl) (by kernel_rfl) (by kernel_rfl) (by decide) (fun a u => YtgmbfecfkdbfaaaG.keepC_put a u) HS0.out rfl (by rfl) (by rintro W ⟨h0, h1⟩; go_simp; done) ?_
  try simp only [Act.put, List.getElem_toArray, List.getElem_cons_zero, List.getElem_cons_succ, List.setIfInBounds_toArray, List.set_cons_zero, List.set_cons_succ]
  refine YtgmbfecfkdbfaaaG.wpAnyG_one 12 rfl (by kernel_rfl) (by rfl) (fun K hK => ?_)
  go_simp
  refine (check_ok _ _).mono ?_
  rintro e w' ⟨rfl, rfl⟩
  refine hK _ _ HS0.out rfl ?_
  try simp only [Act.put, List.getElem_toArray, List.getElem_cons_zero, List.getElem_cons_succ, List.setIfInBounds_toArray, List.set_cons_zero, List.set_cons_succ]
  clear hK K
  refine YtgmbfecfkdbfaaaG.wpAnyG_done (by kernel_rfl) ?_ _
  go_wp2
  have hC2 := (HC.out.set_ (at_ + n))
  have e4 : ((at_ + n : Nat) : Int) = (at_ : Int) + n := by omega
  have HC2 := Aside0.mk hC2
  unfold Cur at hC2
  rw [e4] at hC2
  have HF := Aside0.mk ((Fr.refl (CurS gc) w).set_ (p := ⟨gc, 1, none⟩) (.inl rfl) (.int .i64 ((at_ : Int) + n)))
  have HRD := Aside0.mk (show ReadsInt (w.setCell ⟨gc, 1, none⟩ (.int .i64 ((at_ : Int) + n))) .u8 A' n ((bs.drop at_).take n) from by
    refine hrd _ ⟨HR.out.1, HR.out.2.1, fun hp => ?_⟩
    obtain ⟨ad, ha, hcell⟩ := HR.out.2.2 hp
    refine ⟨ad, ha, fun j hj => ?_⟩
    rw [World.cell?_setCell_other w _ (ad.add j) _ (fun e => HA.out ad ha (by have := congrArg Addr.block e; rw [add_block] at this; exact this.symm))]
    exact hcell j hj)
  rw [e4] at HC2
  clear HC HR HA hrd c0 c1 f1
  generalize w.setCell ⟨gc, 1, none⟩ (.int .i64 ((at_ : Int) + n)) = W2 at hC2 HC2 HF HRD
  have HS0 := Aside0.mk (show W2.drew.drew.cell? ⟨gc, 0, none⟩ = some (.slice A bs.length c) ∧ W2.drew.drew.cell? ⟨gc, 1, none⟩ = some (.int .i64 ((at_ : Int) + n)) from ⟨(blk_cell hC2 0).trans rfl, (blk_cell hC2 1).trans rfl⟩)
  clear hC2
  refine YtgmbfecfkdbfaaaG.wp_region_door 99 (YtgmbfecfkdbfaaaG.keepC []) (fun ch W => False) (fun W => W.cell? ⟨gc, 0, none⟩ = some (.slice A bs.length c) ∧ W.cell? ⟨gc, 1, none⟩ = some (.int .i64 ((at_ : Int) + n))) (by kernel_rfl) rfl (fun ch a W hk h => h.elim) ?_
  refine YtgmbfecfkdbfaaaG.wpAnyG_take 0 (v := .pointer (some ⟨gc, 0, none⟩)) rfl (by kernel_rfl) (by kernel_rfl) (by kernel_rfl) (by kernel_rfl) (by decide) (fun a u => YtgmbfecfkdbfaaaG.keepC_put a u) HS0.out rfl (by rfl) (by rintro W ⟨h0, h1⟩; go_simp; done) ?_
  try simp only [Act.put, List.getElem_toArray, List.getElem_cons_zero, List.getElem_cons_succ, List.setIfInBounds_toArray, List.set_cons_zero, List.set_cons_succ]
  refine YtgmbfecfkdbfaaaG.wpAnyG_take 1 (v := .pointer (some ⟨gc, 0, none⟩)) rfl (by kernel_rfl) (by kernel_rfl) (by kernel_rfl) (by kernel_rfl) (by decide) (fun a u => YtgmbfecfkdbfaaaG.keepC_put a u) HS0.out rfl (by rfl) (by rintro W ⟨h0, h1⟩; go_simp; done) ?_
  try simp only [Act.put, List.getElem_toArray, List.getElem_cons_zero, List.getElem_cons_succ, List.setIfInBounds_toArray, List.set_cons_zero, List.set_cons_succ]
  refine YtgmbfecfkdbfaaaG.wpAnyG_take 2 (v := .pointer (some ⟨gc, 0, none⟩)) rfl (by kernel_rfl) (by kernel_rfl) (by kernel_rfl) (by kernel_rfl) (by decide) (fun a u => YtgmbfecfkdbfaaaG.keepC_put a u) HS0.out rfl (by rfl) (by rintro W ⟨h0, h1⟩; go_simp; done) ?_
  try simp only [Act.put, List.getElem_toArray, List.getElem_cons_zero, List.getElem_cons_succ, List.setIfInBounds_toArray, List.set_cons_zero, List.set_cons_succ]
  refine YtgmbfecfkdbfaaaG.wpAnyG_take 3 (v := .slice A bs.length c) rfl (by kernel_rfl) (by kernel_rfl) (by kernel_rfl) (by kernel_rfl) (by decide) (fun a u => YtgmbfecfkdbfaaaG.keepC_put a u) HS0.out rfl (by rfl) (by rintro W ⟨h0, h1⟩; go_simp; done) ?_
  try simp only [Act.put, List.getElem_toArray, List.getElem_cons_zero, List.getElem_cons_succ, List.setIfInBounds_toArray, List.set_cons_zero, List.set_cons_succ]
  refine YtgmbfecfkdbfaaaG.wpAnyG_take 4 (v := .pointer (some ⟨gc, 0, none⟩)) rfl (by kernel_rfl) (by kernel_rfl) (by kernel_rfl) (by kernel_rfl) (by decide) (fun a u => YtgmbfecfkdbfaaaG.keepC_put a u) HS0.out rfl (by rfl) (by rintro W ⟨h0, h1⟩; go_simp; done) ?_
  try simp only [Act.put, List.getElem_toArray, List.getElem_cons_zero, List.getElem_cons_succ, List.setIfInBounds_toArray, List.set_cons_zero, List.set_cons_succ]
  refine YtgmbfecfkdbfaaaG.wpAnyG_take 5 (v := .pointer (some ⟨gc, 0, none⟩)) rfl (by kernel_rfl) (by kernel_rfl) (by kernel_rfl) (by kernel_rfl) (by decide) (fun a u => YtgmbfecfkdbfaaaG.keepC_put a u) HS0.out rfl (by rfl) (by rintro W ⟨h0, h1⟩; go_simp; done) ?_
  try simp only [Act.put, List.getElem_toArray, List.getElem_cons_zero, List.getElem_cons_succ, List.setIfInBounds_toArray, List.set_cons_zero, List.set_cons_succ]
  refine YtgmbfecfkdbfaaaG.wpAnyG_take 6 (v := .pointer (some ⟨gc, 1, none⟩)) rfl (by kernel_rfl) (by kernel_rfl) (by kernel_rfl) (by kernel_rfl) (by decide) (fun a u => YtgmbfecfkdbfaaaG.keepC_put a u) HS0.out rfl (by rfl) (by rintro W ⟨h0, h1⟩; go_simp; done) ?_
  try simp only [Act.put, List.getElem_toArray, List.getElem_cons_zero, List.getElem_cons_succ, List.setIfInBounds_toArray, List.set_cons_zero, List.set_cons_succ]
  refine YtgmbfecfkdbfaaaG.wpAnyG_take 7 (v := .int .i64 ((at_ : Int) + n)) rfl (by kernel_rfl) (by kernel_rfl) (by kernel_rfl) (by kernel_rfl) (by decide) (fun a u => YtgmbfecfkdbfaaaG.keepC_put a u) HS0.out rfl (by rfl) (by rintro W ⟨h0, h1⟩; go_simp; done) ?_
  try simp only [Act.put, List.getElem_toArray, List.getElem_cons_zero, List.getElem_cons_succ, List.setIfInBounds_toArray, List.set_cons_zero, List.set_cons_succ]
  refine YtgmbfecfkdbfaaaG.wpAnyG_take 8 (v := .int .i64 n) rfl (by kernel_rfl) (by kernel_rfl) (by kernel_rfl) (by kernel_rfl) (by decide) (fun a u => YtgmbfecfkdbfaaaG.keepC_put a u) HS0.out rfl (by rfl) (by rintro W ⟨h0, h1⟩; go_simp; done) ?_
  try simp only [Act.put, List.getElem_toArray, List.getElem_cons_zero, List.getElem_cons_succ, List.setIfInBounds_toArray, List.set_cons_zero, List.set_cons_succ]
  refine YtgmbfecfkdbfaaaG.wpAnyG_take 9 (v := .int .i64 at_) rfl (by kernel_rfl) (by kernel_rfl) (by kernel_rfl) (by kernel_rfl) (by decide) (fun a u => YtgmbfecfkdbfaaaG.keepC_put a u) HS0.out rfl (by rfl) (by rintro W ⟨h0, h1⟩; go_simp; done) ?_
  try simp only [Act.put, List.getElem_toArray, List.getElem_cons_zero, List.getElem_cons_succ, List.setIfInBounds_toArray, List.set_cons_zero, List.set_cons_succ]
  refine YtgmbfecfkdbfaaaG.wpAnyG_take 10 (v := .pointer (some ⟨gc, 0, none⟩)) rfl (by kernel_rfl) (by kernel_rfl) (by kernel_rfl) (by kernel_rfl) (by decide) (fun a u => YtgmbfecfkdbfaaaG.keepC_put a u) HS0.out rfl (by rfl) (by rintro W ⟨h0, h1⟩; go_simp; done) ?_
  try simp only [Act.put, List.getElem_toArray, List.getElem_cons_zero, List.getElem_cons_succ, List.setIfInBounds_toArray, List.set_cons_zero, List.set_cons_succ]
  refine YtgmbfecfkdbfaaaG.wpAnyG_take 11 (v := .pointer (some ⟨gc, 0, none⟩)) rfl (by kernel_rfl) (by kernel_rfl) (by kernel_rfl) (by kernel_rfl) (by decide) (fun a u => YtgmbfecfkdbfaaaG.keepC_put a u) HS0.out rfl (by rfl) (by rintro W ⟨h0, h1⟩; go_simp; done) ?_
  try simp only [Act.put, List.getElem_toArray, List.getElem_cons_zero, List.getElem_cons_succ, List.setIfInBounds_toArray, List.set_cons_zero, List.set_cons_succ]
  refine YtgmbfecfkdbfaaaG.wpAnyG_take 12 (v := .pointer (some ⟨gc, 1, none⟩)) rfl (by kernel_rfl) (by kernel_rfl) (by kernel_rfl) (by kernel_rfl) (by decide) (fun a u => YtgmbfecfkdbfaaaG.keepC_put a u) HS0.out rfl (by rfl) (by rintro W ⟨h0, h1⟩; go_simp; done) ?_
  try simp only [Act.put, List.getElem_toArray, List.getElem_cons_zero, List.getElem_cons_succ, List.setIfInBounds_toArray, List.set_cons_zero, List.set_cons_succ]
  refine YtgmbfecfkdbfaaaG.wpAnyG_take 13 (v := .int .i64 ((at_ : Int) + n)) rfl (by kernel_rfl) (by kernel_rfl) (by kernel_rfl) (by kernel_rfl) (by decide) (fun a u => YtgmbfecfkdbfaaaG.keepC_put a u) HS0.out rfl (by rfl) (by rintro W ⟨h0, h1⟩; go_simp; done) ?_
  try simp only [Act.put, List.getElem_toArray, List.getElem_cons_zero, List.getElem_cons_succ, List.setIfInBounds_toArray, List.set_cons_zero, List.set_cons_succ]
  refine YtgmbfecfkdbfaaaG.wpAnyG_take 14 (v := .slice A' n (c - at_)) rfl (by kernel_rfl) (by kernel_rfl) (by kernel_rfl) (by kernel_rfl) (by decide) (fun a u => YtgmbfecfkdbfaaaG.keepC_put a u) HS0.out rfl (by rfl) (by rintro W ⟨h0, h1⟩; go_simp; done) ?_
  try simp only [Act.put, List.getElem_toArray, List.getElem_cons_zero, List.getElem_cons_succ, List.setIfInBounds_toArray, List.set_cons_zero, List.set_cons_succ]
  refine YtgmbfecfkdbfaaaG.wpAnyG_take 15 (v := .slice A' n (c - at_)) rfl (by kernel_rfl) (by kernel_rfl) (by kernel_rfl) (by kernel_rfl) (by decide) (fun a u => YtgmbfecfkdbfaaaG.keepC_put a u) HS0.out rfl (by rfl) (by rintro W ⟨h0, h1⟩; go_simp; done) ?_
  try simp only [Act.put, List.getElem_toArray, List.getElem_cons_zero, List.getElem_cons_succ, List.setIfInBounds_toArray, List.set_cons_zero, List.set_cons_succ]
  refine YtgmbfecfkdbfaaaG.wpAnyG_done (by kernel_rfl) ?_ _
  go_wp2
  go_ret
  refine ⟨⟨A', c - at_, ?_, HRD.out⟩, HC2.out, HF.out.drewN 2⟩
  simp only [List.set_cons_zero, List.set_cons_succ]
  rfl
end Go.Proofs.Ytgmbfecfkdbfaaa.Wi
