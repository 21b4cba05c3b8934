/- The reader's other methods: where it stands, what is left, what is wrong; a new reader. -/
import Derived.Test.YtgmbfecfkdbfaaaWiR7
set_option linter.unusedVariables false
set_option linter.unusedSimpArgs false
namespace Go.Proofs.Ytgmbfecfkdbfaaa.Wi
open Go Go.RowKit Go.Proofs.YtgmbfecfkdbfaaaW.PrintWords
def RS.fail (r : RS) (e : Int) : RS := if r.code = 0 ∧ e ≠ 0 then { r with code := e, fat := r.last } else r
def RS.end_ (r : RS) (n : Nat) : RS := if r.code = 0 ∧ r.at_ < n then { r with code := 13, fat := r.at_ } else r
section
variable {w : World} {B g : Nat} {ro : Option Nat} {bs : List Int} {r : RS}
set_option maxHeartbeats 1600000 in
set_option maxRecDepth 100000 in
theorem rLeft_calls (hr : Rd w B g ro bs r) : Calls Try.prog 141 #[.pointer (some ⟨g, 0, none⟩)] w fun e w' => e = .returned (.int .i64 ((bs.length : Int) - r.at_)) ∧ Drawn0 w w' := by
  have hle := hr.le
  have hlen := hr.len
  obtain ⟨v, hb, ho, _⟩ := hr.at_
  obtain ⟨A, c, rfl, _, _⟩ := own_reads' ho
  have c0 : w.cell? ⟨g, 0, none⟩ = some (.slice A bs.length c) := (blk_cell hb 0).trans rfl
  have c1 : w.cell? ⟨g, 1, none⟩ = some (.int .i64 r.at_) := (blk_cell hb 1).trans rfl
  clear hr hb ho
  have e1 : IntKind.i64.wrap ((bs.length : Int) - r.at_) = (bs.length : Int) - r.at_ := IntWalk.i64_in _ (by omega)
  go_enter Try.func141, Try.ntmps141
  go_wp2
  go_quiet (fail)
  go_wp2
  go_ret
  exact ⟨rfl, ⟨⟨_, rfl⟩⟩⟩
set_option maxHeartbeats 1600000 in
set_option maxRecDepth 100000 in
theorem rEnd_calls (hr : Rd w B g ro bs r) : Calls Try.prog 101 #[.pointer (some ⟨g, 0, none⟩)] w (RPost B g ro bs (.agg #[.int .i64 (r.end_ bs.length).code, .int .i64 (r.end_ bs.length).fat]) (r.end_ bs.length) w) := by
  obtain ⟨v, hb, ho, hro⟩ := hr.at_
  have hg := blk_lt hb
  have hle := hr.le
  have HR := Aside0.mk hr
  have HB := Aside0.mk hb
  have HO := Aside0.mk ho
  have HRO := Aside0.mk hro
  have c3 : ∀ o : Obj, (w.alloc o).cell? ⟨g, 3, none⟩ = some (.int .i64 r.code) := fun o => (World.cell?_alloc_lt w _ _ hg).trans ((blk_cell hb 3).trans rfl)
  have c4 : ∀ o : Obj, (w.alloc o).cell? ⟨g, 4, none⟩ = some (.int .i64 r.fat) := fun o => (World.cell?_alloc_lt w _ _ hg).trans ((blk_cell hb 4).trans rfl)
  have c1 : ∀ o : Obj, (w.alloc o).cell? ⟨g, 1, none⟩ = some (.int .i64 r.at_) := fun o => (World.cell?_alloc_lt w _ _ hg).trans ((blk_cell hb 1).trans rfl)
  have CL := Aside0.mk (fun o : Obj => rLeft_calls (hr.below (below1 o)))
  clear hr hb ho hro
  by_cases h0 : r.code = 0
  case neg =>
    have t1 : (r.code == 0) = false := beq_eq_false_iff_ne.2 h0
    have HF : Aside0 (r.end_ bs.length = r) := ⟨by simp [RS.end_, h0]⟩
    clear h0
    go_enter Try.func101, Try.ntmps101
    go_wp2
    refine bodyPost_ret (v := .agg #[.int .i64 r.code, .int .i64 r.fat]) (by simp [results, Try.results101, go_sem]) rfl ?_
    rw [HF.out]
    exact ⟨rfl, HR.out.below (below1 _), Fr.of_below (below1 _)⟩
  case pos =>
    have t1 : (r.code == 0) = true := beq_iff_eq.2 h0
    by_cases he : r.at_ < bs.length
    · have t2 : decide (r.at_ < bs.length) = true := decide_eq_true he
      have HF : Aside0 (r.end_ bs.length = { r with code := 13, fat := r.at_ }) := ⟨by simp [RS.end_, he, h0]⟩
      clear h0 he
      go_enter Try.func101, Try.ntmps101
      go_wp2_with (go_at_call 141; refine (CL.out _).mono ?_; rintro e w' ⟨rfl, ⟨n, rfl⟩⟩; have f3 : ((w.alloc (.cells #[.int .i64 0, .int .i64 0] 31)).drewN n).frozen? ⟨g, 3, none⟩ = false := blk_frozen (blk_b HB.out (below1 _)) 3; have f4 : ((w.alloc (.cells #[.int .i64 0, .int .i64 0] 31)).drewN n).frozen? ⟨g, 4, none⟩ = false := blk_frozen (blk_b HB.out (below1 _)) 4)
      have b0 : ((w.alloc (.cells #[.int .i64 0, .int .i64 0] 31)).drewN n).heap[g]? = some _ := blk_b HB.out (pw_below_drewN (below1 _) n)
      have q0 : ((w.alloc (.cells #[.int .i64 0, .int .i64 0] 31)).drewN n).heap[w.heap.size]? = some (.cells #[.int .i64 0, .int .i64 0] 31 (0, 0)) := heap_alloc_new w _
      have hfr : Fr (fun i => i = g) w (((((((w.alloc (.cells #[.int .i64 0, .int .i64 0] 31)).drewN n).setCell ⟨g, 3, none⟩ (.int .i64 13)).setCell ⟨g, 4, none⟩ (.int .i64 r.at_)).setCell ⟨w.heap.size, 0, none⟩ (.int .i64 13)).setCell ⟨w.heap.size, 1, none⟩ (.int .i64 r.at_))) :=
        ((((((Fr.refl (fun i => i = g) w).alloc _).drewN n).set_ (p := ⟨g, 3, none⟩) (.inl rfl) _).set_ (p := ⟨g, 4, none⟩) (.inl rfl) _).set_ (p := ⟨w.heap.size, 0, none⟩) (.inr (Nat.le_refl _)) _).set_ (p := ⟨w.heap.size, 1, none⟩) (.inr (Nat.le_refl _)) _
      have hgn : g ≠ w.heap.size := by omega
      have hb2 := blk_far (blk_far (blk_set (blk_set b0 3 (.int .i64 13)) 4 (.int .i64 r.at_)) (p := ⟨w.heap.size, 0, none⟩) hgn (.int .i64 13)) (p := ⟨w.heap.size, 1, none⟩) hgn (.int .i64 r.at_)
      have hq2 := blk_set (blk_set (blk_far (blk_far q0 (p := ⟨g, 3, none⟩) (Ne.symm hgn) (.int .i64 13)) (p := ⟨g, 4, none⟩) (Ne.symm hgn) (.int .i64 r.at_)) 0 (.int .i64 13)) 1 (.int .i64 r.at_)
      generalize ((((((w.alloc (.cells #[.int .i64 0, .int .i64 0] 31)).drewN n).setCell ⟨g, 3, none⟩ (.int .i64 13)).setCell ⟨g, 4, none⟩ (.int .i64 r.at_)).setCell ⟨w.heap.size, 0, none⟩ (.int .i64 13)).setCell ⟨w.heap.size, 1, none⟩ (.int .i64 r.at_)) = W2 at hfr hb2 hq2
      have k0 : W2.cell? ⟨w.heap.size, 0, none⟩ = some (.int .i64 13) := (blk_cell hq2 0).trans (by simp)
      have k1 : W2.cell? ⟨w.heap.size, 1, none⟩ = some (.int .i64 r.at_) := (blk_cell hq2 1).trans (by simp)
      refine bodyPost_ret (v := .agg #[.int .i64 13, .int .i64 r.at_]) (by simp [results, Try.results101, go_sem, k0, k1]) rfl ?_
      rw [HF.out]
      refine ⟨rfl, ⟨⟨v, ?_, hfr.own HO.out ?_, HRO.out⟩, HR.out.base, HR.out.le, HR.out.byt, HR.out.len⟩, hfr⟩
      · simp at hb2
        exact hb2
      · rintro j hj rfl
        exact own_ne HO.out HB.out (by decide) hj.symm
    · have t2 : decide (r.at_ < bs.length) = false := decide_eq_false he
      have HF : Aside0 (r.end_ bs.length = r) := ⟨by simp [RS.end_, he]⟩
      clear he h0
      go_enter Try.func101, Try.ntmps101
      go_wp2_with (go_at_call 141; refine (CL.out _).mono ?_; rintro e w' ⟨rfl, ⟨n, rfl⟩⟩)
      have b0 : ((w.alloc (.cells #[.int .i64 0, .int .i64 0] 31)).drewN n).heap[g]? = some _ := blk_b HB.out (pw_below_drewN (below1 _) n)
      have q0 : ((w.alloc (.cells #[.int .i64 0, .int .i64 0] 31)).drewN n).heap[w.heap.size]? = some (.cells #[.int .i64 0, .int .i64 0] 31 (0, 0)) := heap_alloc_new w _
      have hbe : Below w.heap.size w ((((w.alloc (.cells #[.int .i64 0, .int .i64 0] 31)).drewN n).setCell ⟨w.heap.size, 0, none⟩ (.int .i64 r.code)).setCell ⟨w.heap.size, 1, none⟩ (.int .i64 r.fat)) :=
        ((pw_below_drewN (below1 _) n).setCell (Nat.le_refl _) _).setCell (Nat.le_refl _) _
      have hq2 := blk_set (blk_set q0 0 (.int .i64 r.code)) 1 (.int .i64 r.fat)
      generalize ((((w.alloc (.cells #[.int .i64 0, .int .i64 0] 31)).drewN n).setCell ⟨w.heap.size, 0, none⟩ (.int .i64 r.code)).setCell ⟨w.heap.size, 1, none⟩ (.int .i64 r.fat)) = W2 at hbe hq2
      have k0 : W2.cell? ⟨w.heap.size, 0, none⟩ = some (.int .i64 r.code) := (blk_cell hq2 0).trans (by simp)
      have k1 : W2.cell? ⟨w.heap.size, 1, none⟩ = some (.int .i64 r.fat) := (blk_cell hq2 1).trans (by simp)
      refine bodyPost_ret (v := .agg #[.int .i64 r.code, .int .i64 r.fat]) (by simp [results, Try.results101, go_sem, k0, k1]) rfl ?_
      rw [HF.out]
      exact ⟨rfl, HR.out.below hbe, Fr.of_below hbe⟩
end
set_option maxHeartbeats 800000 in
set_option maxRecDepth 100000 in
theorem newReader_calls (A : Option Addr) (c : Nat) (bs : List Int) (w : World) (hr : ReadsInt w .u8 A bs.length bs) (hb : Bytes bs) (hl : bs.length ≤ 140737488355328) :
    Calls Try.prog 100 #[.slice A bs.length c] w fun e w' => ∃ g ro, e = .returned (.pointer (some ⟨g, 0, none⟩)) ∧ Rd w' w.heap.size g ro bs ⟨0, 0, 0, 0⟩ ∧ Below w.heap.size w w' := by
  have HR := Aside0.mk hr
  have HBy := Aside0.mk hb
  clear hr hb
  go_enter Try.func100, Try.ntmps100
  go_wp2_with (at_builtin; refine wpList_append_row w.heap.size rfl _ (.tmp 3) 24 5 .u8 1 rfl Try.underlying24 info_u8 (by decide) (.slice none 0 0) 0 [] bs A bs.length c (by rfl) (by rfl) (own_nil _ _ _ _) HR.out (Nat.le_refl _) (by omega) ?_; intro v1 w1 ho1 hg1 _; obtain ⟨A1, c1, rfl⟩ := own_slice ho1)
  simp only [Nat.zero_add, List.nil_append] at ho1
  have hb1 := (Below.refl w.heap.size w).grown hg1 (Nat.le_refl _) (fun k hk => by cases hk)
  have key : Rd (w1.alloc (.cells #[.slice A1 bs.length c1, .int .i64 0, .int .i64 0, .int .i64 0, .int .i64 0] 202)) w.heap.size w1.heap.size _ bs ⟨0, 0, 0, 0⟩ :=
    ⟨⟨_, heap_alloc_new w1 _, ho1.alloc _, rfl⟩, hb1.size, Nat.zero_le _, HBy.out, hl⟩
  have hb2 := below_alloc hb1 (.cells #[.slice A1 bs.length c1, .int .i64 0, .int .i64 0, .int .i64 0, .int .i64 0] 202)
  go_ret
  exact ⟨_, _, rfl, key, hb2⟩
end Go.Proofs.Ytgmbfecfkdbfaaa.Wi
