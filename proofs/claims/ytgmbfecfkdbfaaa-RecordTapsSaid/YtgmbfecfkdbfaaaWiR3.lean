/- The reader's take: a piece, as somebody reads it; what he gives up is caught. -/
import Derived.Test.YtgmbfecfkdbfaaaWiR2
set_option linter.unusedVariables false
set_option linter.unusedSimpArgs false
namespace Go.Proofs.Ytgmbfecfkdbfaaa.Wi
open Go Go.RowKit Go.Proofs.YtgmbfecfkdbfaaaW.PrintWords
/-- a reader's block -/
def RBlk (w : World) (g : Nat) (v : Value) (at_ last code fat : Int) : Prop := w.heap[g]? = some (.cells #[v, .int .i64 at_, .int .i64 last, .int .i64 code, .int .i64 fat] 202 (0, 0))
set_option maxHeartbeats 400000 in
theorem rcatch_panicking (h0 hc g : Nat) (v : Value) (at_ last code fat e : Int) (older : List PanicEntry) (w : World) (hh : w.heap[h0]? = some (.cells #[.pointer (some ⟨g, 0, none⟩)] 95 (0, 0))) (hg : RBlk w g v at_ last code fat) :
    CallsD Try.prog 167 #[.pointer (some ⟨h0, 0, none⟩), .pointer (some ⟨hc, 0, none⟩)] (.panicking ({ v := .iface 26 (.int .i64 e), recovered := false } :: older)) w fun en u' w' =>
      en = .returned (.tuple #[]) ∧ u' = .panicking ({ v := .iface 26 (.int .i64 e), recovered := true } :: older) ∧ RBlk w' g v at_ last e at_ ∧ Fr (fun i => i = g) w w' := by
  have ch : w.cell? ⟨h0, 0, none⟩ = some (.pointer (some ⟨g, 0, none⟩)) := (blk_cell hh 0).trans rfl
  have c1 : w.cell? ⟨g, 1, none⟩ = some (.int .i64 at_) := (blk_cell hg 1).trans rfl
  have c3 : w.cell? ⟨g, 3, none⟩ = some (.int .i64 code) := (blk_cell hg 3).trans rfl
  have c4 : w.cell? ⟨g, 4, none⟩ = some (.int .i64 fat) := (blk_cell hg 4).trans rfl
  have f3 : w.frozen? ⟨g, 3, none⟩ = false := blk_frozen hg 3
  have f4 : w.frozen? ⟨g, 4, none⟩ = false := blk_frozen hg 4
  have HG := Aside0.mk hg
  clear hg
  have hta : ∀ (v : Value) (W : World), (Instr.typeAssert (.iface 26 v) 20 26 true).run Try.prog W = .ok (.tuple #[v, .bool true]) W := fun v W => by first | kernel_rfl | rfl
  refine callsD_of_wpS Try.func167 rfl fun c₀ cs hu => ?_
  apply wpS_seq
  apply wpS_seq
  apply wpS_region
  simp [wpOpsS, go_sem, recoverD, hu, Try.ntmps167, Exit.thenS, hta]
  simp only [← List.toArray_replicate, List.reduceReplicate, List.setIfInBounds_toArray, List.set_cons_zero, List.set_cons_succ, List.append_toArray, List.cons_append, List.nil_append]
  refine wpS_of_wp ?_
  go_wp2
  have HS0 := Aside0.mk (show w.drew.cell? ⟨h0, 0, none⟩ = some (.pointer (some ⟨g, 0, none⟩)) ∧ w.drew.cell? ⟨g, 1, none⟩ = some (.int .i64 at_) from ⟨ch, c1⟩)
  refine YtgmbfecfkdbfaaaG.wp_region_door 9 YtgmbfecfkdbfaaaG.keepT (fun _ _ => False) (fun W => W.cell? ⟨h0, 0, none⟩ = some (.pointer (some ⟨g, 0, none⟩)) ∧ W.cell? ⟨g, 1, none⟩ = some (.int .i64 at_)) (by kernel_rfl) trivial (fun _ _ _ _ h => h.elim) ?_
  refine YtgmbfecfkdbfaaaG.wpAnyG_take 0 (v := .pointer (some ⟨g, 0, none⟩)) rfl (by kernel_rfl) (by kernel_rfl) (by kernel_rfl) (by kernel_rfl) (by decide) (fun a u => YtgmbfecfkdbfaaaG.keepT_put a u) HS0.out trivial (by rfl) (by rintro W ⟨h0, h1⟩; go_simp; done) ?_
  try simp only [Act.put, List.getElem_toArray, List.getElem_cons_zero, List.getElem_cons_succ, List.setIfInBounds_toArray, List.set_cons_zero, List.set_cons_succ]
  refine YtgmbfecfkdbfaaaG.wpAnyG_take 1 (v := .int .i64 e) rfl (by kernel_rfl) (by kernel_rfl) (by kernel_rfl) (by kernel_rfl) (by decide) (fun a u => YtgmbfecfkdbfaaaG.keepT_put a u) HS0.out trivial (by rfl) (by rintro W ⟨h0, h1⟩; go_simp; done) ?_
  try simp only [Act.put, List.getElem_toArray, List.getElem_cons_zero, List.getElem_cons_succ, List.setIfInBounds_toArray, List.set_cons_zero, List.set_cons_succ]
  refine YtgmbfecfkdbfaaaG.wpAnyG_take 2 (v := .pointer (some ⟨g, 0, none⟩)) rfl (by kernel_rfl) (by kernel_rfl) (by kernel_rfl) (by kernel_rfl) (by decide) (fun a u => YtgmbfecfkdbfaaaG.keepT_put a u) HS0.out trivial (by rfl) (by rintro W ⟨h0, h1⟩; go_simp; done) ?_
  try simp only [Act.put, List.getElem_toArray, List.getElem_cons_zero, List.getElem_cons_succ, List.setIfInBounds_toArray, List.set_cons_zero, List.set_cons_succ]
  refine YtgmbfecfkdbfaaaG.wpAnyG_take 3 (v := .pointer (some ⟨g, 0, none⟩)) rfl (by kernel_rfl) (by kernel_rfl) (by kernel_rfl) (by kernel_rfl) (by decide) (fun a u => YtgmbfecfkdbfaaaG.keepT_put a u) HS0.out trivial (by rfl) (by rintro W ⟨h0, h1⟩; go_simp; done) ?_
  try simp only [Act.put, List.getElem_toArray, List.getElem_cons_zero, List.getElem_cons_succ, List.setIfInBounds_toArray, List.set_cons_zero, List.set_cons_succ]
  refine YtgmbfecfkdbfaaaG.wpAnyG_take 4 (v := .pointer (some ⟨g, 1, none⟩)) rfl (by kernel_rfl) (by kernel_rfl) (by kernel_rfl) (by kernel_rfl) (by decide) (fun a u => YtgmbfecfkdbfaaaG.keepT_put a u) HS0.out trivial (by rfl) (by rintro W ⟨h0, h1⟩; go_simp; done) ?_
  try simp only [Act.put, List.getElem_toArray, List.getElem_cons_zero, List.getElem_cons_succ, List.setIfInBounds_toArray, List.set_cons_zero, List.set_cons_succ]
  refine YtgmbfecfkdbfaaaG.wpAnyG_take 5 (v := .int .i64 at_) rfl (by kernel_rfl) (by kernel_rfl) (by kernel_rfl) (by kernel_rfl) (by decide) (fun a u => YtgmbfecfkdbfaaaG.keepT_put a u) HS0.out trivial (by rfl) (by rintro W ⟨h0, h1⟩; go_simp; done) ?_
  try simp only [Act.put, List.getElem_toArray, List.getElem_cons_zero, List.getElem_cons_succ, List.setIfInBounds_toArray, List.set_cons_zero, List.set_cons_succ]
  refine YtgmbfecfkdbfaaaG.wpAnyG_take 6 (v := .agg #[.int .i64 e, .int .i64 at_]) rfl (by kernel_rfl) (by kernel_rfl) (by kernel_rfl) (by kernel_rfl) (by decide) (fun a u => YtgmbfecfkdbfaaaG.keepT_put a u) HS0.out trivial (by rfl) (by rintro W ⟨h0, h1⟩; go_simp; done) ?_
  try simp only [Act.put, List.getElem_toArray, List.getElem_cons_zero, List.getElem_cons_succ, List.setIfInBounds_toArray, List.set_cons_zero, List.set_cons_succ]
  refine YtgmbfecfkdbfaaaG.wpAnyG_one 7 rfl (by kernel_rfl) (by rfl) (fun K hK => ?_)
  go_simp
  refine hK _ _ HS0.out trivial ?_
  try simp only [Act.put, List.getElem_toArray, List.getElem_cons_zero, List.getElem_cons_succ, List.setIfInBounds_toArray, List.set_cons_zero, List.set_cons_succ]
  clear hK K
  refine YtgmbfecfkdbfaaaG.wpAnyG_one 8 rfl (by kernel_rfl) (by rfl) (fun K hK => ?_)
  go_simp
  refine hK _ _ HS0.out trivial ?_
  try simp only [Act.put, List.getElem_toArray, List.getElem_cons_zero, List.getElem_cons_succ, List.setIfInBounds_toArray, List.set_cons_zero, List.set_cons_succ]
  clear hK K
  refine YtgmbfecfkdbfaaaG.wpAnyG_last rfl (by kernel_rfl) (by kernel_rfl) (by rfl) (fun K hK => ?_)
  go_simp
  refine hK _ _ ?_
  go_wp2
  refine ⟨rfl, _, rfl, .tuple #[], by simp [results, Try.results167], rfl, rfl, ?_, ?_⟩
  · have h := blk_set (blk_set HG.out 3 (.int .i64 e)) 4 (.int .i64 at_)
    simp at h
    exact h
  · exact (((Fr.refl (fun i => i = g) w).set_ (p := ⟨g, 3, none⟩) (.inl rfl) _).set_ (p := ⟨g, 4, none⟩) (.inl rfl) _).drew
set_option maxHeartbeats 1600000 in
theorem rcatch_idle (h0 hc g gc : Nat) (v x : Value) (at_ last code fat m : Int) (w : World) (hh : w.heap[h0]? = some (.cells #[.pointer (some ⟨g, 0, none⟩)] 95 (0, 0))) (hk : w.heap[hc]? = some (.cells #[.pointer (some ⟨gc, 0, none⟩)] 204 (0, 0)))
    (hcur : w.heap[gc]? = some (.cells #[x, .int .i64 m] 214 (0, 0))) (hg : RBlk w g v at_ last code fat) :
    CallsD Try.prog 167 #[.pointer (some ⟨h0, 0, none⟩), .pointer (some ⟨hc, 0, none⟩)] .returning w fun en u' w' =>
      en = .returned (.tuple #[]) ∧ u' = .returning ∧ RBlk w' g v m at_ code fat ∧ Fr (fun i => i = g) w w' := by
  have ch : w.cell? ⟨h0, 0, none⟩ = some (.pointer (some ⟨g, 0, none⟩)) := (blk_cell hh 0).trans rfl
  have ck : w.cell? ⟨hc, 0, none⟩ = some (.pointer (some ⟨gc, 0, none⟩)) := (blk_cell hk 0).trans rfl
  have cm : w.cell? ⟨gc, 1, none⟩ = some (.int .i64 m) := (blk_cell hcur 1).trans rfl
  have c1 : w.cell? ⟨g, 1, none⟩ = some (.int .i64 at_) := (blk_cell hg 1).trans rfl
  have c2 : w.cell? ⟨g, 2, none⟩ = some (.int .i64 last) := (blk_cell hg 2).trans rfl
  have f1 : w.frozen? ⟨g, 1, none⟩ = false := blk_frozen hg 1
  have f2 : w.frozen? ⟨g, 2, none⟩ = false := blk_frozen hg 2
  have HG := Aside0.mk hg
  clear hg
  have hta : ∀ (W : World), (Instr.typeAssert .nilIface 20 26 true).run Try.prog W = .ok (.tuple #[.int .i64 0, .bool false]) W := fun W => by first | kernel_rfl | rfl
  refine callsD_of_wpS Try.func167 rfl fun c₀ cs hu => ?_
  apply wpS_seq
  apply wpS_seq
  apply wpS_region
  simp [wpOpsS, go_sem, recoverD, hu, Try.ntmps167, Exit.thenS, hta]
  simp only [← List.toArray_replicate, List.reduceReplicate, List.setIfInBounds_toArray, List.set_cons_zero, List.set_cons_succ, List.append_toArray, List.cons_append, List.nil_append]
  refine wpS_of_wp ?_
  go_wp2
  show Code.wpS _ _ _ _ _ _
  refine wpS_of_wp ?_
  have n0 : h0 ≠ g := blk_ne hh HG.out (by decide)
  have n1 : hc ≠ g := blk_ne hk HG.out (by decide)
  have n2 : gc ≠ g := blk_ne hcur HG.out (by decide)
  have HS0 := Aside0.mk (show w.drew.cell? ⟨h0, 0, none⟩ = some (.pointer (some ⟨g, 0, none⟩)) ∧ w.drew.cell? ⟨g, 1, none⟩ = some (.int .i64 at_) ∧ w.drew.cell? ⟨hc, 0, none⟩ = some (.pointer (some ⟨gc, 0, none⟩)) ∧ w.drew.cell? ⟨gc, 1, none⟩ = some (.int .i64 m) from ⟨ch, c1, ck, cm⟩)
  have HS1 := Aside0.mk (show (w.setCell ⟨g, 2, none⟩ (.int .i64 at_)).cell? ⟨h0, 0, none⟩ = some (.pointer (some ⟨g, 0, none⟩)) ∧ (w.setCell ⟨g, 2, none⟩ (.int .i64 at_)).cell? ⟨g, 1, none⟩ = some (.int .i64 at_) ∧ (w.setCell ⟨g, 2, none⟩ (.int .i64 at_)).cell? ⟨hc, 0, none⟩ = some (.pointer (some ⟨gc, 0, none⟩)) ∧ (w.setCell ⟨g, 2, none⟩ (.int .i64 at_)).cell? ⟨gc, 1, none⟩ = some (.int .i64 m) from
    ⟨(blk_cell (blk_far hh n0 _) 0).trans rfl, (blk_cell (blk_set HG.out 2 (.int .i64 at_)) 1).trans rfl, (blk_cell (blk_far hk n1 _) 0).trans rfl, (blk_cell (blk_far hcur n2 _) 1).trans rfl⟩)
  have g1 : (w.setCell ⟨g, 2, none⟩ (.int .i64 at_)).cell? ⟨g, 1, none⟩ = some (.int .i64 at_) := HS1.out.2.1
  have g2 : (w.setCell ⟨g, 2, none⟩ (.int .i64 at_)).frozen? ⟨g, 1, none⟩ = false := blk_frozen (blk_set HG.out 2 (.int .i64 at_)) 1
  refine YtgmbfecfkdbfaaaG.wp_region_door 15 YtgmbfecfkdbfaaaG.keepT (fun _ _ => False) (fun W => W.cell? ⟨h0, 0, none⟩ = some (.pointer (some ⟨g, 0, none⟩)) ∧ W.cell? ⟨g, 1, none⟩ = some (.int .i64 at_) ∧ W.cell? ⟨hc, 0, none⟩ = some (.pointer (some ⟨gc, 0, none⟩)) ∧ W.cell? ⟨gc, 1, none⟩ = some (.int .i64 m)) (by kernel_rfl) trivial (fun _ _ _ _ h => h.elim) ?_
  refine YtgmbfecfkdbfaaaG.wpAnyG_take 0 (v := .pointer (some ⟨g, 0, none⟩)) rfl (by kernel_rfl) (by kernel_rfl) (by kernel_rfl) (by kernel_rfl) (by decide) (fun a u => YtgmbfecfkdbfaaaG.keepT_put a u) HS0.out trivial (by rfl) (by rintro W ⟨q0, q1, q2, q3⟩; go_simp; done) ?_
  try simp only [Act.put, List.getElem_toArray, List.getElem_cons_zero, List.getElem_cons_succ, List.setIfInBounds_toArray, List.set_cons_zero, List.set_cons_succ]
  refine YtgmbfecfkdbfaaaG.wpAnyG_take 1 (v := .pointer (some ⟨g, 0, none⟩)) rfl (by kernel_rfl) (by kernel_rfl) (by kernel_rfl) (by kernel_rfl) (by decide) (fun a u => YtgmbfecfkdbfaaaG.keepT_put a u) HS0.out trivial (by rfl) (by rintro W ⟨q0, q1, q2, q3⟩; go_simp; done) ?_
  try simp only [Act.put, List.getElem_toArray, List.getElem_cons_zero, List.getElem_cons_succ, List.setIfInBounds_toArray, List.set_cons_zero, List.set_cons_succ]
  refine YtgmbfecfkdbfaaaG.wpAnyG_take 2 (v := .pointer (some ⟨g, 0, none⟩)) rfl (by kernel_rfl) (by kernel_rfl) (by kernel_rfl) (by kernel_rfl) (by decide) (fun a u => YtgmbfecfkdbfaaaG.keepT_put a u) HS0.out trivial (by rfl) (by rintro W ⟨q0, q1, q2, q3⟩; go_simp; done) ?_
  try simp only [Act.put, List.getElem_toArray, List.getElem_cons_zero, List.getElem_cons_succ, List.setIfInBounds_toArray, List.set_cons_zero, List.set_cons_succ]
  refine YtgmbfecfkdbfaaaG.wpAnyG_take 3 (v := .pointer (some ⟨g, 0, none⟩)) rfl (by kernel_rfl) (by kernel_rfl) (by kernel_rfl) (by kernel_rfl) (by decide) (fun a u => YtgmbfecfkdbfaaaG.keepT_put a u) HS0.out trivial (by rfl) (by rintro W ⟨q0, q1, q2, q3⟩; go_simp; done) ?_
  try simp only [Act.put, List.getElem_toArray, List.getElem_cons_zero, List.getElem_cons_succ, List.setIfInBounds_toArray, List.set_cons_zero, List.set_cons_succ]
  refine YtgmbfecfkdbfaaaG.wpAnyG_take 4 (v := .pointer (some ⟨g, 1, none⟩)) rfl (by kernel_rfl) (by kernel_rfl) (by kernel_rfl) (by kernel_rfl) (by decide) (fun a u => YtgmbfecfkdbfaaaG.keepT_put a u) HS0.out trivial (by rfl) (by rintro W ⟨q0, q1, q2, q3⟩; go_simp; done) ?_
  try simp only [Act.put, List.getElem_toArray, List.getElem_cons_zero, List.getElem_cons_succ, List.setIfInBounds_toArray, List.set_cons_zero, List.set_cons_succ]
  refine YtgmbfecfkdbfaaaG.wpAnyG_take 5 (v := .int .i64 at_) rfl (by kernel_rfl) (by kernel_rfl) (by kernel_rfl) (by kernel_rfl) (by decide) (fun a u => YtgmbfecfkdbfaaaG.keepT_put a u) HS0.out trivial (by rfl) (by rintro W ⟨q0, q1, q2, q3⟩; go_simp; done) ?_
  try simp only [Act.put, List.getElem_toArray, List.getElem_cons_zero, List.getElem_cons_succ, List.setIfInBounds_toArray, List.set_cons_zero, List.set_cons_succ]
  refine YtgmbfecfkdbfaaaG.wpAnyG_take 6 (v := .pointer (some ⟨gc, 0, none⟩)) rfl (by kernel_rfl) (by kernel_rfl) (by kernel_rfl) (by kernel_rfl) (by decide) (fun a u => YtgmbfecfkdbfaaaG.keepT_put a u) HS0.out trivial (by rfl) (by rintro W ⟨q0, q1, q2, q3⟩; go_simp; done) ?_
  try simp only [Act.put, List.getElem_toArray, List.getElem_cons_zero, List.getElem_cons_succ, List.setIfInBounds_toArray, List.set_cons_zero, List.set_cons_succ]
  refine YtgmbfecfkdbfaaaG.wpAnyG_take 7 (v := .pointer (some ⟨gc, 0, none⟩)) rfl (by kernel_rfl) (by kernel_rfl) (by kernel_rfl) (by kernel_rfl) (by decide) (fun a u => YtgmbfecfkdbfaaaG.keepT_put a u) HS0.out trivial (by rfl) (by rintro W ⟨q0, q1, q2, q3⟩; go_simp; done) ?_
  try simp only [Act.put, List.getElem_toArray, List.getElem_cons_zero, List.getElem_cons_succ, List.setIfInBounds_toArray, List.set_cons_zero, List.set_cons_succ]
  refine YtgmbfecfkdbfaaaG.wpAnyG_take 8 (v := .pointer (some ⟨gc, 1, none⟩)) rfl (by kernel_rfl) (by kernel_rfl) (by kernel_rfl) (by kernel_rfl) (by decide) (fun a u => YtgmbfecfkdbfaaaG.keepT_put a u) HS0.out trivial (by rfl) (by rintro W ⟨q0, q1, q2, q3⟩; go_simp; done) ?_
  try simp only [Act.put, List.getElem_toArray, List.getElem_cons_zero, List.getElem_cons_succ, List.setIfInBounds_toArray, List.set_cons_zero, List.set_cons_succ]
  refine YtgmbfecfkdbfaaaG.wpAnyG_take 9 (v := .int .i64 m) rfl (by kernel_rfl) (by kernel_rfl) (by kernel_rfl) (by kernel_rfl) (by decide) (fun a u => YtgmbfecfkdbfaaaG.keepT_put a u) HS0.out trivial (by rfl) (by rintro W ⟨q0, q1, q2, q3⟩; go_simp; done) ?_
  try simp only [Act.put, List.getElem_toArray, List.getElem_cons_zero, List.getElem_cons_succ, List.setIfInBounds_toArray, List.set_cons_zero, List.set_cons_succ]
  refine YtgmbfecfkdbfaaaG.wpAnyG_one 10 rfl (by kernel_rfl) (by rfl) (fun K hK => ?_)
  go_simp
  refine hK _ _ HS0.out trivial ?_
  try simp only [Act.put, List.getElem_toArray, List.getElem_cons_zero, List.getElem_cons_succ, List.setIfInBounds_toArray, List.set_cons_zero, List.set_cons_succ]
  clear hK K
  refine YtgmbfecfkdbfaaaG.wpAnyG_one 11 rfl (by kernel_rfl) (by rfl) (fun K hK => ?_)
  go_simp
  refine hK _ _ HS0.out trivial ?_
  try simp only [Act.put, List.getElem_toArray, List.getElem_cons_zero, List.getElem_cons_succ, List.setIfInBounds_toArray, List.set_cons_zero, List.set_cons_succ]
  clear hK K
  refine YtgmbfecfkdbfaaaG.wpAnyG_one 12 rfl (by kernel_rfl) (by rfl) (fun K hK => ?_)
  go_simp
  refine hK _ _ HS1.out trivial ?_
  try simp only [Act.put, List.getElem_toArray, List.getElem_cons_zero, List.getElem_cons_succ, List.setIfInBounds_toArray, List.set_cons_zero, List.set_cons_succ]
  clear hK K
  refine YtgmbfecfkdbfaaaG.wpAnyG_one 13 rfl (by kernel_rfl) (by rfl) (fun K hK => ?_)
  go_simp
  refine hK _ _ HS1.out trivial ?_
  try simp only [Act.put, List.getElem_toArray, List.getElem_cons_zero, List.getElem_cons_succ, List.setIfInBounds_toArray, List.set_cons_zero, List.set_cons_succ]
  clear hK K
  refine YtgmbfecfkdbfaaaG.wpAnyG_one 14 rfl (by kernel_rfl) (by rfl) (fun K hK => ?_)
  go_simp
  refine hK _ _ HS1.out trivial ?_
  try simp only [Act.put, List.getElem_toArray, List.getElem_cons_zero, List.getElem_cons_succ, List.setIfInBounds_toArray, List.set_cons_zero, List.set_cons_succ]
  clear hK K
  refine YtgmbfecfkdbfaaaG.wpAnyG_last rfl (by kernel_rfl) (by kernel_rfl) (by rfl) (fun K hK => ?_)
  go_simp
  refine hK _ _ ?_
  cases c₀
  simp only at hu
  subst hu
  refine ⟨rfl, _, rfl, .tuple #[], by simp [results, Try.results167], rfl, rfl, ?_, ?_⟩
  · have h := blk_set (blk_set HG.out 2 (.int .i64 at_)) 1 (.int .i64 m)
    simp at h
    exact h
  · exact (((Fr.refl (fun i => i = g) w).set_ (p := ⟨g, 2, none⟩) (.inl rfl) _).set_ (p := ⟨g, 1, none⟩) (.inl rfl) _).drew
end Go.Proofs.Ytgmbfecfkdbfaaa.Wi
