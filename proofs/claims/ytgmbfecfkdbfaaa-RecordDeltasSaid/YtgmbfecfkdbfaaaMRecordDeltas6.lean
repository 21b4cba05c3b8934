/- The document's deltas: which may be. -/
import Derived.Test.YtgmbfecfkdbfaaaMRecordDeltas5
set_option linter.unusedVariables false
set_option linter.unusedSimpArgs false
namespace Go.Proofs.Ytgmbfecfkdbfaaa.Wi
open Go Go.RowKit Go.Proofs.YtgmbfecfkdbfaaaW.PrintWords
theorem eqS_comm (a b : ByteArray) : eqS a b = (b.toList == a.toList) := by
  unfold eqS
  rw [Bool.eq_iff_iff, beq_iff_eq, beq_iff_eq]
  exact eq_comm
set_option maxHeartbeats 8000000 in
set_option maxRecDepth 100000 in
theorem rDeltaRight_calls (t : Delta) (A1 : Option Addr) (c1 : Nat) (A2 : Option Addr) (c2 : Nat) (w : World) (ht : t.Ok) (hx : t.At w A1 c1 A2 c2) (hl1 : t.l1.length ≤ 9223372036854775807) (hl2 : t.l2.length ≤ 9223372036854775807) :
    Calls Try.prog 83 #[t.val A1 c1 A2 c2] w fun e w' => e = .returned (.bool (deltaRight t)) ∧ Below w.heap.size w w' := by
  obtain ⟨k0, k1, k2⟩ := ht
  have CR1 := Aside0.mk (fun W (h : t.At W A1 c1 A2 c2) => rRising_calls A1 c1 t.l1 W h.e1 hl1 k1)
  have CR2 := Aside0.mk (fun W (h : t.At W A1 c1 A2 c2) => rRising_calls A2 c2 t.l2 W h.e2 hl2 k2)
  have HB0 := Aside0.mk (below1 (w := w) (.cells #[.int .i64 t.n0, .slice A1 t.l1.length c1, .slice A2 t.l2.length c2] 60))
  have HQ := Aside0.mk (heap_alloc_new w (.cells #[.int .i64 t.n0, .slice A1 t.l1.length c1, .slice A2 t.l2.length c2] 60))
  have H0 := Aside0.mk (hx.below HB0.out)
  have HK1 := Aside0.mk k1
  have HK2 := Aside0.mk k2
  have HR : Aside0 (deltaRight t = (decide (1 ≤ t.n0) && risingB t.l1 && risingB t.l2 && !(t.l1.any (inL t.l2)))) := ⟨rfl⟩
  rw [HR.out]
  unfold Delta.val
  clear hx k0 k1 k2 HR
  obtain ⟨n0, l1, l2⟩ := t
  simp only at *
  obtain ⟨o1, ho1⟩ : ∃ o, risingB l1 = o := ⟨_, rfl⟩
  obtain ⟨o2, ho2⟩ : ∃ o, risingB l2 = o := ⟨_, rfl⟩
  have HO := Aside0.mk (And.intro ho1 ho2)
  rw [ho1] at CR1
  rw [ho2] at CR2
  rw [ho1, ho2]
  clear ho1 ho2
  go_enter Try.func83, Try.ntmps83
  go_upto_region 3 with (go_at_call 126; first
    | ((with_reducible refine (CR1.out _ H0.out).mono ?_); rintro e w1 ⟨rfl, hb1⟩; have HB1 := Aside0.mk (below_then HB0.out HB0.out.size hb1); have HD1 := Aside0.mk (H0.out.below hb1); have q1 := blk_b HQ.out hb1; have HQ1 := Aside0.mk q1; have f0 : _ = some (Value.int .i64 n0) := blk_cell q1 0; have f1 : _ = some (Value.slice A1 l1.length c1) := blk_cell q1 1; have f2 : _ = some (Value.slice A2 l2.length c2) := blk_cell q1 2; clear q1 hb1)
    | ((with_reducible refine (CR2.out _ HD1.out).mono ?_); rintro e w2 ⟨rfl, hb2⟩; have HB2 := Aside0.mk (below_then HB1.out HB1.out.size hb2); have HD2 := Aside0.mk (HD1.out.below hb2); have q2 := blk_b HQ1.out hb2; have HQ2 := Aside0.mk q2; have f0 : _ = some (Value.int .i64 n0) := blk_cell q2 0; have f1 : _ = some (Value.slice A1 l1.length c1) := blk_cell q2 1; have f2 : _ = some (Value.slice A2 l2.length c2) := blk_cell q2 2; clear q2 hb2))
  cases o1 with
  | false =>
    go_wp2
    go_ret
    exact ⟨by first | rfl | (simp; done), HB2.out⟩
  | true =>
  cases o2 with
  | false =>
    go_wp2
    go_ret
    exact ⟨by first | rfl | (simp; done), HB2.out⟩
  | true =>
  by_cases hz : 1 ≤ n0
  case neg =>
    have hzl : n0 < 1 := by omega
    go_wp2
    go_ret
    exact ⟨by first | rfl | (rw [decide_eq_false (show ¬ 1 ≤ n0 by omega)]; rfl) | (simp; done) | (simp; omega), HB2.out⟩
  have hzl : ¬ n0 < 1 := by omega
  have hn1 : l1.length ≤ 1000 := risingB_len HO.out.1
  have hn2 : l2.length ≤ 1000 := risingB_len HO.out.2
  have HZ := Aside0.mk (decide_eq_true hz)
  clear hl1 hl2 CR1 CR2 HB1 HD1 HQ1 HB0 H0 HQ HO hz
  go_wp2
  go_loopg [5, 6] l1.length (fun gg s5 s6 wr => ∃ (i : Nat), i ≤ l1.length ∧ l1.length - i ≤ gg ∧ s5 = .int .i64 i ∧ Aside0 ((l1.take i).any (inL l2) = false) ∧ Aside0 (Below w2.heap.size w2 wr))
  case atStart => exact ⟨0, by omega, by omega, rfl, ⟨rfl⟩, ⟨Below.refl _ _⟩⟩
  case round =>
    obtain ⟨i, hin, hgg, rfl, HA, HB⟩ := hrel
    have q3 := blk_b HQ2.out HB.out
    have HQ3 := Aside0.mk q3
    have f0 : _ = some (Value.int .i64 n0) := blk_cell q3 0
    have f1 : _ = some (Value.slice A1 l1.length c1) := blk_cell q3 1
    have f2 : _ = some (Value.slice A2 l2.length c2) := blk_cell q3 2
    clear q3
    by_cases hlt : i < l1.length
    · have hltz : (i : Int) < (l1.length : Int) := by omega
      have HHG := Aside0.mk hgg
      clear hgg
      go_wp2
      go_loopg [6] l2.length (fun g2 s6 wq => ∃ (k : Nat), k ≤ l2.length ∧ l2.length - k ≤ g2 ∧ s6 = .int .i64 k ∧ Aside0 ((l2.take k).any (fun y => eqS y l1[i]) = false) ∧ Aside0 (Below wr.heap.size wr wq))
      case atStart => exact ⟨0, by omega, by omega, rfl, ⟨rfl⟩, ⟨Below.refl _ _⟩⟩
      case round =>
        obtain ⟨k, hkn, hg2, rfl, HA2, HB2'⟩ := hrel
        clear f0 f1 f2
        have q4 := blk_b HQ3.out HB2'.out
        have f0 : _ = some (Value.int .i64 n0) := blk_cell q4 0
        have f1 : _ = some (Value.slice A1 l1.length c1) := blk_cell q4 1
        have f2 : _ = some (Value.slice A2 l2.length c2) := blk_cell q4 2
        clear q4
        by_cases hlt2 : k < l2.length
        · have hltz2 : (k : Int) < (l2.length : Int) := by omega
          obtain ⟨ad1, rfl, c0⟩ := el1 (((HD2.out.below HB.out).below HB2'.out).e1) i hlt
          obtain ⟨ad2, rfl, d0⟩ := el1 (((HD2.out.below HB.out).below HB2'.out).e2) k hlt2
          have HE := Aside0.mk (eqS_comm l2[k] l1[i])
          have HT := Aside0.mk (show eqS l2[k] l1[i] = false → (l2.take (k + 1)).any (fun y => eqS y l1[i]) = false from fun h => by rw [List.take_succ_eq_append_getElem hlt2, List.any_append, HA2.out]; simp [h])
          have HY := Aside0.mk (show eqS l2[k] l1[i] = true → l1.any (inL l2) = true from fun h => List.any_eq_true.2 ⟨l1[i], List.getElem_mem hlt, List.any_eq_true.2 ⟨l2[k], List.getElem_mem hlt2, h⟩⟩)
          generalize l2[k] = y at *
          generalize hxx : l1[i] = x at *
          clear hxx
          cases he : (x.toList == y.toList) with
          | true =>
            have HN := Aside0.mk (HY.out (by rw [HE.out, he]))
            go_wp2
            go_quiet (fail)
            go_wp2
            go_ret
            exact ⟨by rw [HN.out]; simp, below_drewN (below_then HB2.out HB2.out.size (below_then HB.out HB.out.size HB2'.out)) _⟩
          | false =>
            have HN := Aside0.mk (HT.out (by rw [HE.out, he]))
            go_wp2
            go_quiet (fail)
            go_wp2
            go_roundg (l2.length - (k + 1))
            case measure => omega
            case rel => exact ⟨k + 1, by omega, by omega, by go_num, HN, ⟨below_drewN HB2'.out _⟩⟩
        · have hltz2 : ¬ (k : Int) < (l2.length : Int) := by omega
          have hke : l2.take k = l2 := List.take_of_length_le (by omega)
          rw [hke] at HA2
          clear hke
          have HT := Aside0.mk (show (l1.take (i + 1)).any (inL l2) = false from by
            rw [List.take_succ_eq_append_getElem hlt, List.any_append, HA.out]
            have h : inL l2 l1[i] = false := HA2.out
            simp [h])
          go_wp2
          go_roundg (l1.length - (i + 1))
          case measure => have := HHG.out; omega
          case rel => exact ⟨i + 1, by omega, by omega, by go_num, HT, ⟨below_then HB.out HB.out.size HB2'.out⟩⟩
    · have hltz : ¬ (i : Int) < (l1.length : Int) := by omega
      have hke : l1.take i = l1 := List.take_of_length_le (by omega)
      rw [hke] at HA
      clear hke
      go_wp2
      go_ret
      exact ⟨by first | (rw [HA.out, HZ.out]; rfl) | (rw [HA.out]; rfl) | (simp [HA.out]; done) | (simp [HA.out]; omega), below_then HB2.out HB2.out.size HB.out⟩
end Go.Proofs.Ytgmbfecfkdbfaaa.Wi
/- Deltas as bytes. -/
set_option linter.unusedVariables false
set_option linter.unusedSimpArgs false
namespace Go.Proofs.Ytgmbfecfkdbfaaa.Wi
open Go Go.RowKit Go.Proofs.YtgmbfecfkdbfaaaW.PrintWords
def Delta.er (t : Delta) : Int := if deltaRight t = true then 0 else 80
theorem Delta.er_len {t : Delta} (h : t.er = 0) : t.l1.length ≤ 1000 ∧ t.l2.length ≤ 1000 := by
  unfold Delta.er at h
  split at h
  · rename_i hr
    unfold deltaRight at hr
    simp only [Bool.and_eq_true] at hr
    exact ⟨risingB_len hr.1.1.2, risingB_len hr.1.2⟩
  · omega
theorem rightDeltaE_calls (t : Delta) (A1 : Option Addr) (c1 : Nat) (A2 : Option Addr) (c2 : Nat) (w : World) (ht : t.Ok) (hx : t.At w A1 c1 A2 c2) (hl1 : t.l1.length ≤ 9223372036854775807) (hl2 : t.l2.length ≤ 9223372036854775807) :
    Calls Try.prog 81 #[t.val A1 c1 A2 c2] w fun e w' => e = .returned (.int .i64 t.er) ∧ Below w.heap.size w w' := rightDelta_calls t A1 c1 A2 c2 w ht hx hl1 hl2
def Delta.put (t : Delta) : WS := Delta.putS ⟨[], false⟩ t
def Delta.out (t : Delta) : List Int := if t.er = 0 then t.put.out else []
def Delta.err (t : Delta) : Int := if t.er = 0 then t.put.err else t.er
/-- out of bytes; the fault's code and place -/
def Delta.ofBytes (bs : List Int) : Delta × Int × Int :=
  let p := Delta.readS bs ⟨0, 0, 0, 0⟩
  let r := p.2.end_ bs.length
  if r.code = 0 then (if p.1.er = 0 then (p.1, 0, r.fat) else (Delta.zero, p.1.er, -1)) else (Delta.zero, r.code, r.fat)
/-- what a reading leaves: the record p, a fault -/
def Delta.RPost (p : Delta) (c0 c1 : Int) (w : World) (e : Ending) (w' : World) : Prop :=
  ∃ v1 v2, e = .returned (.tuple #[.agg #[.int .i64 p.n0, v1, v2], .agg #[.int .i64 c0, .int .i64 c1]]) ∧ RowAt encStr 9 w.heap.size w' v1 p.l1 ∧ RowAt encStr 9 w.heap.size w' v2 p.l2 ∧ (∀ k, v1.ownBlock = some k → v2.ownBlock ≠ some k) ∧ Below w.heap.size w w'
theorem Delta.fin {w W5 : World} {b : Nat} (h1 : W5.heap[b]? = some (.cells #[.int .i64 0, .slice none 0 0, .slice none 0 0] 60 (0, 0))) (h2 : W5.heap[b + 1]? = some (.cells #[.int .i64 0, .int .i64 0] 31 (0, 0))) (hw : Below w.heap.size w W5) (hb : w.heap.size ≤ b) (a0 a1 a2 : Value) (c0 c1 : Int) {W' : World}
    (e : W' = (((((W5.setCell ⟨b, 0, none⟩ a0).setCell ⟨b, 1, none⟩ a1).setCell ⟨b, 2, none⟩ a2).setCell ⟨b + 1, 0, none⟩ (.int .i64 c0)).setCell ⟨b + 1, 1, none⟩ (.int .i64 c1))) :
    W'.cell? ⟨b, 0, none⟩ = some a0 ∧ W'.cell? ⟨b, 1, none⟩ = some a1 ∧ W'.cell? ⟨b, 2, none⟩ = some a2 ∧ W'.cell? ⟨b + 1, 0, none⟩ = some (.int .i64 c0) ∧ W'.cell? ⟨b + 1, 1, none⟩ = some (.int .i64 c1) ∧ Below w.heap.size w W' ∧ Fr (fun i => i = b ∨ i = b + 1) W5 W' := by
  have hne : b ≠ b + 1 := by omega
  have q := blk_far (blk_far (blk_set (blk_set (blk_set h1 0 a0) 1 a1) 2 a2) (p := ⟨b + 1, 0, none⟩) hne (.int .i64 c0)) (p := ⟨b + 1, 1, none⟩) hne (.int .i64 c1)
  have q1 := blk_set (blk_set (blk_far (blk_far (blk_far h2 (p := ⟨b, 0, none⟩) hne.symm a0) (p := ⟨b, 1, none⟩) hne.symm a1) (p := ⟨b, 2, none⟩) hne.symm a2) 0 (.int .i64 c0)) 1 (.int .i64 c1)
  have hw2 : Below w.heap.size w ((((((W5.setCell ⟨b, 0, none⟩ a0).setCell ⟨b, 1, none⟩ a1).setCell ⟨b, 2, none⟩ a2).setCell ⟨b + 1, 0, none⟩ (.int .i64 c0)).setCell ⟨b + 1, 1, none⟩ (.int .i64 c1))) := (((((hw.setCell hb _).setCell hb _).setCell hb _).setCell (by show w.heap.size ≤ b + 1; omega) _).setCell (by show w.heap.size ≤ b + 1; omega) _)
  have hf2 : Fr (fun i => i = b ∨ i = b + 1) W5 ((((((W5.setCell ⟨b, 0, none⟩ a0).setCell ⟨b, 1, none⟩ a1).setCell ⟨b, 2, none⟩ a2).setCell ⟨b + 1, 0, none⟩ (.int .i64 c0)).setCell ⟨b + 1, 1, none⟩ (.int .i64 c1))) := ((((((Fr.refl (fun i => i = b ∨ i = b + 1) W5).set_ (p := ⟨b, 0, none⟩) (.inl (.inl rfl)) a0).set_ (p := ⟨b, 1, none⟩) (.inl (.inl rfl)) a1).set_ (p := ⟨b, 2, none⟩) (.inl (.inl rfl)) a2).set_ (p := ⟨b + 1, 0, none⟩) (.inl (.inr rfl)) (.int .i64 c0)).set_ (p := ⟨b + 1, 1, none⟩) (.inl (.inr rfl)) (.int .i64 c1))
  generalize hW : (((((W5.setCell ⟨b, 0, none⟩ a0).setCell ⟨b, 1, none⟩ a1).setCell ⟨b, 2, none⟩ a2).setCell ⟨b + 1, 0, none⟩ (.int .i64 c0)).setCell ⟨b + 1, 1, none⟩ (.int .i64 c1)) = W6 at *
  subst e
  exact ⟨(blk_cell q 0).trans (by simp), (blk_cell q 1).trans (by simp), (blk_cell q 2).trans (by simp), (blk_cell q1 0).trans (by simp), (blk_cell q1 1).trans (by simp), hw2, hf2⟩
theorem Delta.finD {w W5 : World} {b : Nat} (h1 : W5.heap[b]? = some (.cells #[.int .i64 0, .slice none 0 0, .slice none 0 0] 60 (0, 0))) (h2 : W5.heap[b + 1]? = some (.cells #[.int .i64 0, .int .i64 0] 31 (0, 0))) (hw : Below w.heap.size w W5) (hb : w.heap.size ≤ b) (a0 a1 a2 : Value) (c0 c1 : Int) {W' : World}
    (e : W' = (((((W5.setCell ⟨b, 0, none⟩ a0).setCell ⟨b, 1, none⟩ a1).setCell ⟨b, 2, none⟩ a2).setCell ⟨b + 1, 0, none⟩ (.int .i64 c0)).setCell ⟨b + 1, 1, none⟩ (.int .i64 c1)).drew) :
    W'.cell? ⟨b, 0, none⟩ = some a0 ∧ W'.cell? ⟨b, 1, none⟩ = some a1 ∧ W'.cell? ⟨b, 2, none⟩ = some a2 ∧ W'.cell? ⟨b + 1, 0, none⟩ = some (.int .i64 c0) ∧ W'.cell? ⟨b + 1, 1, none⟩ = some (.int .i64 c1) ∧ Below w.heap.size w W' ∧ Fr (fun i => i = b ∨ i = b + 1) W5 W' := by
  have h := Delta.fin h1 h2 hw hb a0 a1 a2 c0 c1 rfl
  generalize (((((W5.setCell ⟨b, 0, none⟩ a0).setCell ⟨b, 1, none⟩ a1).setCell ⟨b, 2, none⟩ a2).setCell ⟨b + 1, 0, none⟩ (.int .i64 c0)).setCell ⟨b + 1, 1, none⟩ (.int .i64 c1)) = W6 at *
  subst e
  obtain ⟨k0, k1, k2, l0, l1, hbl, hf⟩ := h
  exact ⟨k0, k1, k2, l0, l1, hbl.drew, hf.drew⟩
theorem Delta.put_len (t : Delta) (h : t.er = 0) : t.put.xs.length ≤ 2000000000 := by
  obtain ⟨h1, h2⟩ := Delta.er_len h
  unfold Delta.put Delta.putS
  have L0 := putNum_len (⟨[], false⟩ : WS) t.n0 8
  have L1 := putL_len putStr_len ((⟨[], false⟩ : WS).put (pNumber t.n0 8)) t.l1 h1
  have L2 := putL_len putStr_len (putL putStr ((⟨[], false⟩ : WS).put (pNumber t.n0 8)) t.l1) t.l2 h2
  have L3 : (⟨[], false⟩ : WS).xs.length = 0 := rfl
  omega
theorem getL_len {α : Type} (bs : List Int) (get : RS → α × RS) (most : Int) (r : RS) (h : 0 ≤ most) : ((getL bs get most r).1.length : Int) ≤ most := by
  unfold getL
  rw [getN_len]
  have := rCou_range bs r most h
  omega
theorem Delta.read_len (bs : List Int) (r : RS) : (Delta.readS bs r).1.l1.length ≤ 1000 ∧ (Delta.readS bs r).1.l2.length ≤ 1000 := by
  have h1 := getL_len bs (getStr bs) 1000 (rNum bs r 8).2 (by omega)
  have h2 := getL_len bs (getStr bs) 1000 (getL bs (getStr bs) 1000 (rNum bs r 8).2).2 (by omega)
  unfold Delta.readS
  simp only
  omega
theorem take_size {bs : List Int} (r : RS) (size : Int) (hl : bs.length ≤ 140737488355328) : (rFix bs r size).1.length ≤ 140737488355328 := by
  unfold rFix RS.take
  split
  · simp
  · generalize hq : (fun l => gFixed l size) (List.drop r.at_ bs) = q
    have hq' : gFixed (List.drop r.at_ bs) size = q := hq
    clear hq
    cases q with
    | error e => simp
    | ok p =>
      unfold gFixed at hq'
      split at hq'
      · cases hq'
      · split at hq'
        · cases hq'
        · injection hq' with hq'
          subst hq'
          simp only [List.length_take, List.length_drop]
          omega
set_option maxHeartbeats 8000000 in
set_option maxRecDepth 100000 in
theorem writtenDelta_calls (t : Delta) (A1 : Option Addr) (c1 : Nat) (A2 : Option Addr) (c2 : Nat) (w : World) (ht : t.Ok) (hx : t.At w A1 c1 A2 c2) (hl1 : t.l1.length ≤ 9223372036854775807) (hl2 : t.l2.length ≤ 9223372036854775807) :
    Calls Try.prog 79 #[t.val A1 c1 A2 c2, .func (.func 80) #[] #[], .func (.func 81) #[] #[]] w (BytesPost t.out t.err w) := by
  have HT := Aside0.mk (fun W (h : t.At W A1 c1 A2 c2) => rightDeltaE_calls t A1 c1 A2 c2 W ht h hl1 hl2)
  have HX := Aside0.mk hx
  have HQ := Aside0.mk (show (w.alloc (.cells #[.int .i64 t.n0, .slice A1 t.l1.length c1, .slice A2 t.l2.length c2] 60)).heap[w.heap.size]? = _ from heap_alloc_new w _)
  have HB0 := Aside0.mk (below1 (w := w) (.cells #[.int .i64 t.n0, .slice A1 t.l1.length c1, .slice A2 t.l2.length c2] 60))
  unfold BytesPost
  by_cases hr : t.er = 0
  case neg =>
    have HO : Aside0 (t.out = [] ∧ t.err = t.er) := ⟨by simp [Delta.out, Delta.err, hr]⟩
    rw [HO.out.1, HO.out.2]
    have hrn : (t.er != 0) = true := bne_iff_ne.2 hr
    unfold Delta.val at HT ⊢
    clear HQ HO hx
    generalize t.er = er at *
    go_enter Try.func79, Try.ntmps79
    go_wp2_with (go_at_call 81; refine (HT.out _ (HX.out.below HB0.out)).mono ?_; rintro e w1 ⟨rfl, hb1⟩)
    go_ret2
    exact ⟨_, rfl, own_nil _ _ _ _, below_then HB0.out HB0.out.size hb1⟩
  have HN := Delta.er_len hr
  have HO : Aside0 (t.out = t.put.out ∧ t.err = t.put.err) := ⟨by simp [Delta.out, Delta.err, hr]⟩
  have HSL := Aside0.mk (show t.put.xs.length ≤ 140737488355328 by have := Delta.put_len t hr; omega)
  have HO5 := Aside0.mk (fun (W : World) (g : Nat) (hq : W.heap[w.heap.size]? = _) (hX : t.At W A1 c1 A2 c2) (hA1 : ∀ ad, A1 = some ad → 0 < t.l1.length → ad.block < W.heap.size ∧ ad.block ≠ g ∧ (none : Option Nat) ≠ some ad.block ∧ ad.block ≠ w.heap.size) (hA2 : ∀ ad, A2 = some ad → 0 < t.l2.length → ad.block < W.heap.size ∧ ad.block ≠ g ∧ (none : Option Nat) ≠ some ad.block ∧ ad.block ≠ w.heap.size) (hg : w.heap.size ≠ g) (hw : Wr W g g none ⟨[], false⟩) (hB : g ≤ W.heap.size) => overDelta_w t A1 c1 A2 c2 ht hX HN.1 HN.2 hA1 hA2 hq hg (by simp) hw hB (by simp))
  have HLT1 := Aside0.mk (HX.out.e1.lt (fun _ => by simp [encStr]))
  have HLT2 := Aside0.mk (HX.out.e2.lt (fun _ => by simp [encStr]))
  rw [hr] at HT
  rw [HO.out.1, HO.out.2]
  unfold Delta.put at HSL ⊢
  unfold Delta.val at HT ⊢
  clear hr HO hx HN
  generalize Delta.putS ⟨[], false⟩ t = s' at *
  go_enter Try.func79, Try.ntmps79
  go_wp2_with (first
    | (go_at_call 81; refine (HT.out _ (HX.out.below HB0.out)).mono ?_; rintro e w1 ⟨rfl, hb1⟩; have HB1 := Aside0.mk (below_then HB0.out HB0.out.size hb1); have HQ1 := Aside0.mk ((Fr.of_below (S := fun _ => False) hb1).blk HQ.out (fun h => h)); clear hb1)
    | (go_at_call 51; refine (newWriter_calls _).mono ?_; rintro e w2 ⟨rfl, S0, hb2⟩; have HS0 := Aside0.mk S0; have HB2 := Aside0.mk hb2; have HB2' := Aside0.mk (below1 (w := w2) (.cells #[.pointer (some ⟨w1.heap.size, 0, none⟩), .pointer none] 97)); have HBX := Aside0.mk (heap_alloc_new w2 (.cells #[.pointer (some ⟨w1.heap.size, 0, none⟩), .pointer none] 97)); clear S0 hb2)
    | (go_at_call 80; refine (HO5.out _ w1.heap.size ((Fr.of_below (S := fun _ => False) HB2'.out).blk ((Fr.of_below (S := fun _ => False) HB2.out).blk HQ1.out (fun h => h)) (fun h => h)) (((HX.out.below HB1.out).below HB2.out).below HB2'.out) (fun ad e h => ⟨by have h1 := HLT1.out ad e h; have h2 := HB1.out.size; have h3 := HB2.out.size; have h4 := HB2'.out.size; omega, by have h1 := HLT1.out ad e h; have h2 := blk_lt HQ1.out; omega, by simp, by have h1 := HLT1.out ad e h; omega⟩) (fun ad e h => ⟨by have h1 := HLT2.out ad e h; have h2 := HB1.out.size; have h3 := HB2.out.size; have h4 := HB2'.out.size; omega, by have h1 := HLT2.out ad e h; have h2 := blk_lt HQ1.out; omega, by simp, by have h1 := HLT2.out ad e h; omega⟩) (by have := blk_lt HQ1.out; omega) (HS0.out.below HB2'.out) (Nat.le_trans HB2.out.size HB2'.out.size)).mono ?_; rintro e w3 ⟨rfl, ro3, hw3, _, hf3⟩; have HW3 := Aside0.mk hw3; have HF3 := Aside0.mk hf3; have hx3 := hf3.blk HBX.out (fun h => h.elim (fun h => h.elim (fun e => by have := HS0.out.lt; omega) (fun e => nomatch e)) (fun e => by have h1 := HS0.out.lt; have h2 := blk_lt HQ1.out; omega)); have c0 : _ = some (Value.pointer (some ⟨w1.heap.size, 0, none⟩)) := blk_cell hx3 0; clear hw3 hf3 hx3)
    | (go_at_call 55; refine (wBytes_calls HW3.out HSL.out).mono ?_; rintro e w4 ⟨v4, rfl, hv4, hb4⟩; have HV4 := Aside0.mk hv4; have HB4 := Aside0.mk hb4; clear hv4 hb4))
  go_ret2
  have hbw : Below w.heap.size w w3 := (below_then (below_then HB1.out HB1.out.size HB2.out) (Nat.le_trans HB1.out.size HB2.out.size) HB2'.out).trans (HF3.out.below (Nat.le_trans (Nat.le_trans HB1.out.size HB2.out.size) HB2'.out.size) (fun i hi => by
    rcases hi with (rfl | e) | rfl
    · exact HB1.out.size
    · cases e
    · exact Nat.le_refl _))
  exact ⟨_, rfl, own_upto HV4.out (fun k hk => Nat.le_trans hbw.size (own_base HV4.out k hk)), below_then hbw hbw.size HB4.out⟩
end Go.Proofs.Ytgmbfecfkdbfaaa.Wi
/- Deltas out of bytes. -/
set_option linter.unusedVariables false
set_option linter.unusedSimpArgs false
namespace Go.Proofs.Ytgmbfecfkdbfaaa.Wi
open Go Go.RowKit Go.Proofs.YtgmbfecfkdbfaaaW.PrintWords
theorem BytesPost.fromL {xs : List Int} {e2 : Int} {w w1 w' : World} {e : Ending} (h : BytesPost xs e2 w1 e w') (hb : Below w.heap.size w w1) : BytesPost xs e2 w e w' := by
  obtain ⟨v, he, ho, hb'⟩ := h
  exact ⟨v, he, own_upto ho (fun k hk => Nat.le_trans hb.size (own_base ho k hk)), below_then hb hb.size hb'⟩
theorem rNum_I64 (bs : List Int) (r : RS) (size : Int) : I64 (rNum bs r size).1 := by
  unfold rNum RS.take I64
  split
  · simp
  · generalize hq : (fun l => gNumber l size) (List.drop r.at_ bs) = q
    have hq' : gNumber (List.drop r.at_ bs) size = q := hq
    clear hq
    cases q with
    | error e => simp
    | ok p =>
      unfold gNumber at hq'
      split at hq'
      · cases hq'
      · split at hq'
        · cases hq'
        · split at hq'
          · cases hq'
          · rename_i h
            injection hq' with hq'
            subst hq'
            simp only
            omega
theorem getN_all {α : Type} {P : α → Prop} {get : RS → α × RS} (h : ∀ r, P (get r).1) : ∀ (k : Nat) (r : RS), ∀ x ∈ (getN get k r).1, P x
  | 0, r, x, hx => by cases hx
  | k + 1, r, x, hx => by
    rcases List.mem_append.1 hx with h1 | h1
    · exact getN_all h k r x h1
    · rw [List.mem_singleton.1 h1]
      exact h _
theorem getStr_ok (bs : List Int) (hl : bs.length ≤ 140737488355328) (r : RS) : StrOk (getStr bs r).1 := by
  unfold getStr StrOk
  simp only
  rw [strOfNums_size]
  have := take_size r 8 hl
  omega
theorem Delta.read_ok (bs : List Int) (r : RS) (hl : bs.length ≤ 140737488355328) : (Delta.readS bs r).1.Ok :=
  ⟨rNum_I64 _ _ _, fun x hx => getN_all (getStr_ok bs hl) _ _ x hx, fun x hx => getN_all (getStr_ok bs hl) _ _ x hx⟩
set_option maxHeartbeats 1600000 in
set_option maxRecDepth 100000 in
theorem recDelta_calls (t : Delta) (A1 : Option Addr) (c1 : Nat) (A2 : Option Addr) (c2 : Nat) (w : World) (ht : t.Ok) (hx : t.At w A1 c1 A2 c2) (hl1 : t.l1.length ≤ 9223372036854775807) (hl2 : t.l2.length ≤ 9223372036854775807) : Calls Try.prog 33 #[t.val A1 c1 A2 c2] w (BytesPost t.out t.err w) := by
  have HB := Aside0.mk (below1 (w := w) (.cells #[.int .i64 t.n0, .slice A1 t.l1.length c1, .slice A2 t.l2.length c2] 60))
  have HW := Aside0.mk (writtenDelta_calls t A1 c1 A2 c2 (w.alloc (.cells #[.int .i64 t.n0, .slice A1 t.l1.length c1, .slice A2 t.l2.length c2] 60)) ht (hx.below HB.out) hl1 hl2)
  unfold Delta.val at HW ⊢
  clear hx ht
  go_enter Try.func33, Try.ntmps33
  go_wp2_with (go_at_call 79; refine HW.out.mono ?_; rintro e w1 ⟨v, rfl, ho, hb⟩)
  go_ret2
  exact BytesPost.fromL (w1 := w.alloc (.cells #[.int .i64 t.n0, .slice A1 t.l1.length c1, .slice A2 t.l2.length c2] 60)) ⟨v, rfl, ho, hb⟩ HB.out
set_option maxHeartbeats 16000000 in
set_option maxRecDepth 100000 in
theorem takenDelta_calls (A : Option Addr) (c : Nat) (bs : List Int) (w : World) (hr : ReadsInt w .u8 A bs.length bs) (hby : Bytes bs) (hl : bs.length ≤ 140737488355328) :
    Calls Try.prog 84 #[.slice A bs.length c, .func (.func 80) #[] #[], .func (.func 81) #[] #[]] w (Delta.RPost (Delta.ofBytes bs).1 (Delta.ofBytes bs).2.1 (Delta.ofBytes bs).2.2 w) := by
  have HR := Aside0.mk hr
  have HBY := Aside0.mk hby
  clear hr hby
  unfold Delta.RPost
  go_enter Try.func84, Try.ntmps84
  go_upto_region 2 with (fail)
  have hb4 : Below w.heap.size w ((((w.alloc (.cells #[.int .i64 0, .slice none 0 0, .slice none 0 0] 60)).alloc (.cells #[.int .i64 0, .int .i64 0] 31)).alloc (.cells #[.int .i64 0, .slice none 0 0, .slice none 0 0] 60)).alloc (.cells #[.int .i64 0, .slice none 0 0, .slice none 0 0] 60)) := below_alloc (below_alloc (below_alloc (below_alloc (Below.refl _ _) _) _) _) _
  have s1 : (w.alloc (.cells #[.int .i64 0, .slice none 0 0, .slice none 0 0] 60)).heap.size = w.heap.size + 1 := by simp
  have s2 : ((w.alloc (.cells #[.int .i64 0, .slice none 0 0, .slice none 0 0] 60)).alloc (.cells #[.int .i64 0, .int .i64 0] 31)).heap.size = w.heap.size + 1 + 1 := by simp
  have s3 : (((w.alloc (.cells #[.int .i64 0, .slice none 0 0, .slice none 0 0] 60)).alloc (.cells #[.int .i64 0, .int .i64 0] 31)).alloc (.cells #[.int .i64 0, .slice none 0 0, .slice none 0 0] 60)).heap.size = w.heap.size + 1 + 1 + 1 := by simp
  have q6 : ((((w.alloc (.cells #[.int .i64 0, .slice none 0 0, .slice none 0 0] 60)).alloc (.cells #[.int .i64 0, .int .i64 0] 31)).alloc (.cells #[.int .i64 0, .slice none 0 0, .slice none 0 0] 60)).alloc (.cells #[.int .i64 0, .slice none 0 0, .slice none 0 0] 60)).heap[w.heap.size]? = some _ := blk_b (blk_b (blk_b (heap_alloc_new w (.cells #[.int .i64 0, .slice none 0 0, .slice none 0 0] 60)) (below1 (.cells #[.int .i64 0, .int .i64 0] 31))) (below1 (.cells #[.int .i64 0, .slice none 0 0, .slice none 0 0] 60))) (below1 (.cells #[.int .i64 0, .slice none 0 0, .slice none 0 0] 60))
  have q7 : ((((w.alloc (.cells #[.int .i64 0, .slice none 0 0, .slice none 0 0] 60)).alloc (.cells #[.int .i64 0, .int .i64 0] 31)).alloc (.cells #[.int .i64 0, .slice none 0 0, .slice none 0 0] 60)).alloc (.cells #[.int .i64 0, .slice none 0 0, .slice none 0 0] 60)).heap[w.heap.size + 1]? = some _ := s1 ▸ blk_b (blk_b (heap_alloc_new (w.alloc (.cells #[.int .i64 0, .slice none 0 0, .slice none 0 0] 60)) (.cells #[.int .i64 0, .int .i64 0] 31)) (below1 (.cells #[.int .i64 0, .slice none 0 0, .slice none 0 0] 60))) (below1 (.cells #[.int .i64 0, .slice none 0 0, .slice none 0 0] 60))
  have q8 : ((((w.alloc (.cells #[.int .i64 0, .slice none 0 0, .slice none 0 0] 60)).alloc (.cells #[.int .i64 0, .int .i64 0] 31)).alloc (.cells #[.int .i64 0, .slice none 0 0, .slice none 0 0] 60)).alloc (.cells #[.int .i64 0, .slice none 0 0, .slice none 0 0] 60)).heap[w.heap.size + 1 + 1]? = some _ := s2 ▸ blk_b (heap_alloc_new ((w.alloc (.cells #[.int .i64 0, .slice none 0 0, .slice none 0 0] 60)).alloc (.cells #[.int .i64 0, .int .i64 0] 31)) (.cells #[.int .i64 0, .slice none 0 0, .slice none 0 0] 60)) (below1 (.cells #[.int .i64 0, .slice none 0 0, .slice none 0 0] 60))
  have q9 : ((((w.alloc (.cells #[.int .i64 0, .slice none 0 0, .slice none 0 0] 60)).alloc (.cells #[.int .i64 0, .int .i64 0] 31)).alloc (.cells #[.int .i64 0, .slice none 0 0, .slice none 0 0] 60)).alloc (.cells #[.int .i64 0, .slice none 0 0, .slice none 0 0] 60)).heap[w.heap.size + 1 + 1 + 1]? = some _ := s3 ▸ heap_alloc_new (((w.alloc (.cells #[.int .i64 0, .slice none 0 0, .slice none 0 0] 60)).alloc (.cells #[.int .i64 0, .int .i64 0] 31)).alloc (.cells #[.int .i64 0, .slice none 0 0, .slice none 0 0] 60)) (.cells #[.int .i64 0, .slice none 0 0, .slice none 0 0] 60)
  have HB4 := Aside0.mk hb4
  have HQ6 := Aside0.mk q6
  have HQ7 := Aside0.mk q7
  have HQ8 := Aside0.mk q8
  have HQ9 := Aside0.mk q9
  clear hb4 s1 s2 s3 q6 q7 q8 q9
  generalize ((((w.alloc (.cells #[.int .i64 0, .slice none 0 0, .slice none 0 0] 60)).alloc (.cells #[.int .i64 0, .int .i64 0] 31)).alloc (.cells #[.int .i64 0, .slice none 0 0, .slice none 0 0] 60)).alloc (.cells #[.int .i64 0, .slice none 0 0, .slice none 0 0] 60)) = W4 at *
  obtain ⟨b, hb⟩ : ∃ b, w.heap.size = b := ⟨_, rfl⟩
  rw [hb] at HQ6 HQ7 HQ8 HQ9
  rw [show (some (⟨w.heap.size, 0, none⟩ : Addr)) = some ⟨b, 0, none⟩ by rw [hb], show (some (⟨w.heap.size + 1, 0, none⟩ : Addr)) = some ⟨b + 1, 0, none⟩ by rw [hb], show (some (⟨w.heap.size + 1 + 1, 0, none⟩ : Addr)) = some ⟨b + 1 + 1, 0, none⟩ by rw [hb], show (some (⟨w.heap.size + 1 + 1 + 1, 0, none⟩ : Addr)) = some ⟨b + 1 + 1 + 1, 0, none⟩ by rw [hb]]
  have HBE := Aside0.mk hb
  clear hb
  have hlb : b + 1 + 1 + 1 < W4.heap.size := blk_lt HQ9.out
  have HLB := Aside0.mk hlb
  clear hlb
  have hrt : Delta.ofBytes bs = (let p := Delta.readS bs ⟨0, 0, 0, 0⟩; let r := p.2.end_ bs.length; if r.code = 0 then (if p.1.er = 0 then (p.1, 0, r.fat) else (Delta.zero, p.1.er, -1)) else (Delta.zero, r.code, r.fat)) := rfl
  have HOV := Aside0.mk (fun (W : World) (B g : Nat) (ro : Option Nat) (hq : W.heap[b + 1 + 1]? = _) (hr : Rd W B g ro bs ⟨0, 0, 0, 0⟩) (hB : B ≤ W.heap.size) => overDelta_r hq hr hB)
  have HLE := Delta.read_len bs ⟨0, 0, 0, 0⟩
  have HTO := Delta.read_ok bs ⟨0, 0, 0, 0⟩ hl
  generalize Delta.readS bs ⟨0, 0, 0, 0⟩ = p at *
  obtain ⟨v, r1⟩ := p
  unfold Delta.LPost at HOV
  simp only at hrt HOV HLE HTO
  have HEND := Aside0.mk (fun (W : World) (B g : Nat) (ro : Option Nat) (h : Rd W B g ro bs r1) => rEnd_calls h)
  generalize r1.end_ bs.length = r2 at *
  have HRT := Aside0.mk hrt
  have HTK := Aside0.mk HTO
  clear hrt HTO
  go_upto_region 5 with (first
    | (go_at_call 100; refine (newReader_calls A c bs _ (HR.out.below HB4.out) HBY.out hl).mono ?_; rintro e w2 ⟨g, ro, rfl, R2, hb2⟩; have HR2 := Aside0.mk (R2.below (below1 (.cells #[.pointer none, .pointer (some ⟨g, 0, none⟩)] 97))); have HG2 := Aside0.mk (And.intro R2.lt R2.base); have HBX := Aside0.mk (heap_alloc_new w2 (.cells #[.pointer none, .pointer (some ⟨g, 0, none⟩)] 97)); have HB2 := Aside0.mk (show Below W4.heap.size W4 (w2.alloc (.cells #[.pointer none, .pointer (some ⟨g, 0, none⟩)] 97)) from below_then hb2 hb2.size (below1 _)); have HG3 := Aside0.mk (show g < (w2.alloc (.cells #[.pointer none, .pointer (some ⟨g, 0, none⟩)] 97)).heap.size from (R2.below (below1 (.cells #[.pointer none, .pointer (some ⟨g, 0, none⟩)] 97))).lt); clear R2 hb2)
    | (go_at_call 80; refine (HOV.out _ _ _ _ (blk_b HQ8.out HB2.out) HR2.out HB2.out.size).mono ?_; rintro e w3 ⟨rfl, R3, f3, v1, v2, hq3, hv1, hv2, hj12⟩; have HR3 := Aside0.mk R3; have HQ3 := Aside0.mk hq3; have HV1 := Aside0.mk hv1; have HV2 := Aside0.mk hv2; have HJ12 := Aside0.mk hj12; have HF3 := Aside0.mk f3; have hx3 := f3.blk HBX.out (by have := HG2.out; have := HLB.out; omega); have c1 : _ = some (Value.pointer (some ⟨g, 0, none⟩)) := blk_cell hx3 1; clear R3 hq3 f3 hx3 hv1 hv2 hj12)
    | (go_at_call 101; refine (HEND.out _ _ _ _ HR3.out).mono ?_; rintro e w4 ⟨rfl, R4, f4⟩; have HF4 := Aside0.mk f4; clear R4 f4))
  clear c1 HBX HOV HEND
  have HWB := Aside0.mk (show Below w.heap.size w w4 from by
    have h1 := HB4.out.size
    have h2 := HB2.out.size
    have h3 := HF3.out.size
    have h5 := HG2.out.2
    exact ((below_then HB4.out h1 HB2.out).trans (HF3.out.below (by omega) (fun i hi => by rcases hi with e | e <;> (have := HBE.out; omega)))).trans (HF4.out.below (by omega) (fun i hi => by subst hi; omega)))
  have hng : ∀ k, k ≤ b + 1 + 1 + 1 → k ≠ g := fun k hk e => by have := HLB.out; have := HG2.out.2; omega
  have hq8 := HF4.out.blk HQ3.out (hng _ (by omega))
  have old : ∀ k o, k ≤ b + 1 + 1 + 1 → k ≠ b + 1 + 1 → W4.heap[k]? = some o → w4.heap[k]? = some o := fun k o h1 h2 h3 => HF4.out.blk (HF3.out.blk (blk_b h3 HB2.out) (fun h => h.elim (hng k h1) h2)) (hng k h1)
  have hq6 := old b _ (by omega) (by omega) HQ6.out
  have hq7 := old (b + 1) _ (by omega) (by omega) HQ7.out
  have hq9 := old (b + 1 + 1 + 1) _ (by omega) (by omega) HQ9.out
  have hv14 := (HV1.out.keep HF4.out (fun k hk e => by have h1 := (HV1.out.own k hk).1; have h2 := HG3.out; omega)).from (base' := w.heap.size) (by have h2 := HB2.out.size; have h3 := HLB.out; have := HBE.out; omega)
  have HVB1 := Aside0.mk (show ∀ k, v1.ownBlock = some k → b + 1 + 1 + 1 < k from fun k hk => by have h1 := (HV1.out.own k hk).1; have h2 := HB2.out.size; have h3 := HLB.out; omega)
  have hv24 := (HV2.out.keep HF4.out (fun k hk e => by have h1 := (HV2.out.own k hk).1; have h2 := HG3.out; omega)).from (base' := w.heap.size) (by have h2 := HB2.out.size; have h3 := HLB.out; have := HBE.out; omega)
  have HVB2 := Aside0.mk (show ∀ k, v2.ownBlock = some k → b + 1 + 1 + 1 < k from fun k hk => by have h1 := (HV2.out.own k hk).1; have h2 := HB2.out.size; have h3 := HLB.out; omega)
  have hfb : b + 1 + 1 + 1 < w4.heap.size := blk_lt hq9
  clear old hng HF3 HF4 HR3 HQ3 HQ6 HQ7 HQ8 HQ9 HR2 HB2 HG2 HG3 HB4 HLB HR HBY HV1 HV2
  obtain ⟨at_, last, code, fat⟩ := r2
  simp only at HRT ⊢
  obtain ⟨q_n0, q_l1, q_l2⟩ := v
  simp only at hq8 HLE HRT HTK
  have h5 := below1 (w := w4) (.cells #[.int .i64 code, .int .i64 fat] 31)
  have HW5 := Aside0.mk (below_then HWB.out HWB.out.size h5)
  have HX1_ := Aside0.mk (hv14.below h5)
  have HX2_ := Aside0.mk (hv24.below h5)
  have g6 := blk_b hq6 h5
  have g7 := blk_b hq7 h5
  have g8 := blk_b hq8 h5
  have g9 := blk_b hq9 h5
  have gf := heap_alloc_new w4 (.cells #[.int .i64 code, .int .i64 fat] 31)
  clear hq6 hq7 hq8 hq9 h5 HWB hv14 hv24
  generalize w4.alloc (.cells #[.int .i64 code, .int .i64 fat] 31) = W5 at *
  generalize w4.heap.size = f at *
  have HG := Aside0.mk (And.intro g6 (And.intro g7 (And.intro g8 (And.intro g9 gf))))
  clear g6 g7 g8 g9 gf
  obtain ⟨AV1, rfl⟩ := HX1_.out.slice
  obtain ⟨AV2, rfl⟩ := HX2_.out.slice
  have f0 : _ = some (Value.int .i64 code) := blk_cell HG.out.2.2.2.2 0
  have f1 : _ = some (Value.int .i64 fat) := blk_cell HG.out.2.2.2.2 1
  by_cases hc : code = 0
  case neg =>
    have hcb : (code == 0) = false := beq_eq_false_iff_ne.2 hc
    have hcn : (code != 0) = true := bne_iff_ne.2 hc
    rw [if_neg hc] at HRT
    have n0 : _ = some (Value.int .i64 0) := blk_cell HG.out.2.2.2.1 0
    have n1 : _ = some (Value.slice none 0 0) := blk_cell HG.out.2.2.2.1 1
    have n2 : _ = some (Value.slice none 0 0) := blk_cell HG.out.2.2.2.1 2
    go_wp2
    have p0 : _ = some (Value.int .i64 0) := blk_cell HG.out.1 0
    have z0 := blk_frozen HG.out.1 0
    have p1 : _ = some (Value.slice none 0 0) := blk_cell HG.out.1 1
    have z1 := blk_frozen HG.out.1 1
    have p2 : _ = some (Value.slice none 0 0) := blk_cell HG.out.1 2
    have z2 := blk_frozen HG.out.1 2
    have t0 : _ = some (Value.int .i64 0) := blk_cell HG.out.2.1 0
    have y0 := blk_frozen HG.out.2.1 0
    have t1 : _ = some (Value.int .i64 0) := blk_cell HG.out.2.1 1
    have y1 := blk_frozen HG.out.2.1 1
    go_region
    generalize hWE : World.drew _ = WE
    obtain ⟨k0, k1, k2, l0, l1, hbl, hoth⟩ := Delta.finD HG.out.1 HG.out.2.1 HW5.out (by have := HBE.out; omega) (.int .i64 0) (.slice none 0 0) (.slice none 0 0) code fat hWE.symm
    clear hWE
    go_wp2
    refine bodyPost_ret (v := .tuple #[.agg #[.int .i64 0, .slice none 0 0, .slice none 0 0], .agg #[.int .i64 code, .int .i64 fat]]) (by simp [results, Try.results84, go_sem, k0, k1, k2, l0, l1]) rfl ?_
    rw [HRT.out]
    exact ⟨_, _, rfl, .inl ⟨rfl, rfl⟩, .inl ⟨rfl, rfl⟩, (fun k hk => nomatch hk), hbl⟩
  case pos =>
    subst hc
    rw [if_pos rfl] at HRT
    have v0 : _ = some (Value.int .i64 q_n0) := blk_cell HG.out.2.2.1 0
    have v1 : _ = some (Value.slice AV1 q_l1.length q_l1.length) := blk_cell HG.out.2.2.1 1
    have v2 : _ = some (Value.slice AV2 q_l2.length q_l2.length) := blk_cell HG.out.2.2.1 2
    obtain ⟨AW1, eAW1, hel1⟩ := HX1_.out.el (m := 1) (fun _ => rfl)
    injection eAW1 with eAW1 _ _
    subst eAW1
    obtain ⟨AW2, eAW2, hel2⟩ := HX2_.out.el (m := 1) (fun _ => rfl)
    injection eAW2 with eAW2 _ _
    subst eAW2
    have HAT := Aside0.mk (show Delta.At W5 ⟨q_n0, q_l1, q_l2⟩ AV1 q_l1.length AV2 q_l2.length from ⟨hel1, hel2⟩)
    have HT := Aside0.mk (fun W (h : Delta.At W ⟨q_n0, q_l1, q_l2⟩ AV1 q_l1.length AV2 q_l2.length) => rightDeltaE_calls ⟨q_n0, q_l1, q_l2⟩ AV1 q_l1.length AV2 q_l2.length W HTK.out h (show q_l1.length ≤ 9223372036854775807 by omega) (show q_l2.length ≤ 9223372036854775807 by omega))
    clear hel1 hel2
    unfold Delta.val at HT
    obtain ⟨rr, hrr⟩ : ∃ rr, (Delta.er ⟨q_n0, q_l1, q_l2⟩) = rr := ⟨_, rfl⟩
    rw [hrr] at HT HRT
    simp only at HT
    clear hrr
    go_upto_region 7 with (go_at_call 81; refine (HT.out _ HAT.out).mono ?_; rintro e w6 ⟨rfl, hb6⟩)
    have HG6 := Aside0.mk (And.intro (blk_b HG.out.1 hb6) (And.intro (blk_b HG.out.2.1 hb6) (And.intro (blk_b HG.out.2.2.1 hb6) (And.intro (blk_b HG.out.2.2.2.1 hb6) (blk_b HG.out.2.2.2.2 hb6)))))
    have HW6 := Aside0.mk (below_then HW5.out HW5.out.size hb6)
    have HY1 := Aside0.mk (HX1_.out.below hb6)
    have HY2 := Aside0.mk (HX2_.out.below hb6)
    clear HG HW5 hb6 f0 f1 v0 v1 v2 HAT HX1_ HX2_
    by_cases hrz : rr = 0
    case pos =>
      subst hrz
      rw [if_pos rfl] at HRT
      have f0 : _ = some (Value.int .i64 0) := blk_cell HG6.out.2.2.2.2 0
      have f1 : _ = some (Value.int .i64 fat) := blk_cell HG6.out.2.2.2.2 1
      have v0 : _ = some (Value.int .i64 q_n0) := blk_cell HG6.out.2.2.1 0
      have v1 : _ = some (Value.slice AV1 q_l1.length q_l1.length) := blk_cell HG6.out.2.2.1 1
      have v2 : _ = some (Value.slice AV2 q_l2.length q_l2.length) := blk_cell HG6.out.2.2.1 2
      go_wp2
      have p0 : _ = some (Value.int .i64 0) := blk_cell HG6.out.1 0
      have z0 := blk_frozen HG6.out.1 0
      have p1 : _ = some (Value.slice none 0 0) := blk_cell HG6.out.1 1
      have z1 := blk_frozen HG6.out.1 1
      have p2 : _ = some (Value.slice none 0 0) := blk_cell HG6.out.1 2
      have z2 := blk_frozen HG6.out.1 2
      have t0 : _ = some (Value.int .i64 0) := blk_cell HG6.out.2.1 0
      have y0 := blk_frozen HG6.out.2.1 0
      have t1 : _ = some (Value.int .i64 0) := blk_cell HG6.out.2.1 1
      have y1 := blk_frozen HG6.out.2.1 1
      go_region
      generalize hWE : World.drew _ = WE
      obtain ⟨k0, k1, k2, l0, l1, hbl, hoth⟩ := Delta.finD HG6.out.1 HG6.out.2.1 HW6.out (by have := HBE.out; omega) (.int .i64 q_n0) (.slice AV1 q_l1.length q_l1.length) (.slice AV2 q_l2.length q_l2.length) 0 fat hWE.symm
      clear hWE
      go_wp2
      refine bodyPost_ret (v := .tuple #[.agg #[.int .i64 q_n0, .slice AV1 q_l1.length q_l1.length, .slice AV2 q_l2.length q_l2.length], .agg #[.int .i64 0, .int .i64 fat]]) (by simp [results, Try.results84, go_sem, k0, k1, k2, l0, l1]) rfl ?_
      rw [HRT.out]
      exact ⟨_, _, rfl, HY1.out.keep hoth (fun k hk hs => by have := HVB1.out k hk; rcases hs with e | e <;> omega), HY2.out.keep hoth (fun k hk hs => by have := HVB2.out k hk; rcases hs with e | e <;> omega), HJ12.out, hbl⟩
    case neg =>
      have hrb : (rr != 0) = true := bne_iff_ne.2 hrz
      have hrc : (rr == 0) = false := beq_eq_false_iff_ne.2 hrz
      rw [if_neg hrz] at HRT
      have f0 : _ = some (Value.int .i64 0) := blk_cell HG6.out.2.2.2.2 0
      have f1 : _ = some (Value.int .i64 fat) := blk_cell HG6.out.2.2.2.2 1
      have f2 := blk_frozen HG6.out.2.2.2.2 0
      have f3 := blk_frozen HG6.out.2.2.2.2 1
      go_upto_region 9 with (fail)
      have far : ∀ k (cs : Array Value) (T : TypeId), k ≤ b + 1 + 1 + 1 → w6.heap[k]? = some (.cells cs T (0, 0)) → ((w6.setCell ⟨f, 0, none⟩ (.int .i64 rr)).setCell ⟨f, 1, none⟩ (.int .i64 (-1))).heap[k]? = some (.cells cs T (0, 0)) := fun k cs T hk h => blk_far (blk_far h (p := ⟨f, 0, none⟩) (by show k ≠ f; omega) _) (p := ⟨f, 1, none⟩) (by show k ≠ f; omega) _
      have HG7 := Aside0.mk (And.intro (far _ _ _ (by omega) HG6.out.1) (And.intro (far _ _ _ (by omega) HG6.out.2.1) (And.intro (far _ _ _ (by omega) HG6.out.2.2.2.1) (blk_set (blk_set HG6.out.2.2.2.2 0 (.int .i64 rr)) 1 (.int .i64 (-1))))))
      have HW7 := Aside0.mk (show Below w.heap.size w ((w6.setCell ⟨f, 0, none⟩ (.int .i64 rr)).setCell ⟨f, 1, none⟩ (.int .i64 (-1))) from (HW6.out.setCell (by have := HBE.out; show w.heap.size ≤ f; omega) _).setCell (by have := HBE.out; show w.heap.size ≤ f; omega) _)
      clear far HG6 HW6 f0 f1 f2 f3
      generalize (w6.setCell ⟨f, 0, none⟩ (.int .i64 rr)).setCell ⟨f, 1, none⟩ (.int .i64 (-1)) = w7 at *
      have f0 : w7.cell? ⟨f, 0, none⟩ = some (Value.int .i64 rr) := (blk_cell HG7.out.2.2.2 0).trans (by simp)
      have f1 : w7.cell? ⟨f, 1, none⟩ = some (Value.int .i64 (-1)) := (blk_cell HG7.out.2.2.2 1).trans (by simp)
      have n0 : _ = some (Value.int .i64 0) := blk_cell HG7.out.2.2.1 0
      have n1 : _ = some (Value.slice none 0 0) := blk_cell HG7.out.2.2.1 1
      have n2 : _ = some (Value.slice none 0 0) := blk_cell HG7.out.2.2.1 2
      go_wp2
      have p0 : _ = some (Value.int .i64 0) := blk_cell HG7.out.1 0
      have z0 := blk_frozen HG7.out.1 0
      have p1 : _ = some (Value.slice none 0 0) := blk_cell HG7.out.1 1
      have z1 := blk_frozen HG7.out.1 1
      have p2 : _ = some (Value.slice none 0 0) := blk_cell HG7.out.1 2
      have z2 := blk_frozen HG7.out.1 2
      have t0 : _ = some (Value.int .i64 0) := blk_cell HG7.out.2.1 0
      have y0 := blk_frozen HG7.out.2.1 0
      have t1 : _ = some (Value.int .i64 0) := blk_cell HG7.out.2.1 1
      have y1 := blk_frozen HG7.out.2.1 1
      go_region
      generalize hWE : World.drew _ = WE
      obtain ⟨k0, k1, k2, l0, l1, hbl, hoth⟩ := Delta.finD HG7.out.1 HG7.out.2.1 HW7.out (by have := HBE.out; omega) (.int .i64 0) (.slice none 0 0) (.slice none 0 0) rr (-1) hWE.symm
      clear hWE
      go_wp2
      refine bodyPost_ret (v := .tuple #[.agg #[.int .i64 0, .slice none 0 0, .slice none 0 0], .agg #[.int .i64 rr, .int .i64 (-1)]]) (by simp [results, Try.results84, go_sem, k0, k1, k2, l0, l1]) rfl ?_
      rw [HRT.out]
      exact ⟨_, _, rfl, .inl ⟨rfl, rfl⟩, .inl ⟨rfl, rfl⟩, (fun k hk => nomatch hk), hbl⟩
set_option maxHeartbeats 16000000 in
set_option maxRecDepth 100000 in
theorem recReadDelta_calls (A : Option Addr) (c : Nat) (bs : List Int) (w : World) (hr : ReadsInt w .u8 A bs.length bs) (hby : Bytes bs) (hl : bs.length ≤ 140737488355328) :
    Calls Try.prog 35 #[.slice A bs.length c] w (Delta.RPost (Delta.ofBytes bs).1 (Delta.ofBytes bs).2.1 (Delta.ofBytes bs).2.2 w) := by
  have hb2 : Below w.heap.size w ((w.alloc (.cells #[.int .i64 0, .slice none 0 0, .slice none 0 0] 60)).alloc (.cells #[.int .i64 0, .int .i64 0] 31)) := below2 _ _
  have HC := Aside0.mk (takenDelta_calls A c bs _ (hr.below hb2) hby hl)
  have HQ6 := Aside0.mk (two_0 w (.cells #[.int .i64 0, .slice none 0 0, .slice none 0 0] 60) (.cells #[.int .i64 0, .int .i64 0] 31))
  have HQ7 := Aside0.mk (two_1 w (.cells #[.int .i64 0, .slice none 0 0, .slice none 0 0] 60) (.cells #[.int .i64 0, .int .i64 0] 31))
  have HB2 := Aside0.mk hb2
  obtain ⟨⟨⟨q_n0, q_l1, q_l2⟩, c0, c1⟩, hp⟩ : ∃ p, Delta.ofBytes bs = p := ⟨_, rfl⟩
  unfold Delta.RPost at HC ⊢
  rw [hp] at HC ⊢
  simp only at HC ⊢
  clear hb2 hr hby hp
  go_enter Try.func35, Try.ntmps35
  go_wp2_with (go_at_call 84; refine HC.out.mono ?_; rintro e w1 ⟨v1, v2, rfl, hv1, hv2, hj12, hb1⟩; obtain ⟨AV1, rfl⟩ := hv1.slice; obtain ⟨AV2, rfl⟩ := hv2.slice; have HV1 := Aside0.mk hv1; have HV2 := Aside0.mk hv2; have HJ12 := Aside0.mk hj12; have HW1 := Aside0.mk (below_then HB2.out HB2.out.size hb1); have g6 := blk_b HQ6.out hb1; have g7 := blk_b HQ7.out hb1; have HG6 := Aside0.mk g6; have HG7 := Aside0.mk g7; have p0 : _ = some (Value.int .i64 0) := blk_cell g6 0; have z0 := blk_frozen g6 0; have p1 : _ = some (Value.slice none 0 0) := blk_cell g6 1; have z1 := blk_frozen g6 1; have p2 : _ = some (Value.slice none 0 0) := blk_cell g6 2; have z2 := blk_frozen g6 2; have t0 : _ = some (Value.int .i64 0) := blk_cell g7 0; have y0 := blk_frozen g7 0; have t1 : _ = some (Value.int .i64 0) := blk_cell g7 1; have y1 := blk_frozen g7 1; clear hv1 hv2 hj12 hb1 g6 g7)
  clear p0 z0 p1 z1 p2 z2 t0 t1 y0 y1
  have hlt7 : w.heap.size + 1 < ((w.alloc (.cells #[.int .i64 0, .slice none 0 0, .slice none 0 0] 60)).alloc (.cells #[.int .i64 0, .int .i64 0] 31)).heap.size := blk_lt HQ7.out
  obtain ⟨k0, k1, k2, l0, l1, hbl, hoth⟩ := Delta.fin HG6.out HG7.out HW1.out (Nat.le_refl _) (.int .i64 q_n0) (.slice AV1 q_l1.length q_l1.length) (.slice AV2 q_l2.length q_l2.length) c0 c1 rfl
  generalize (((((w1.setCell ⟨w.heap.size, 0, none⟩ (.int .i64 q_n0)).setCell ⟨w.heap.size, 1, none⟩ (.slice AV1 q_l1.length q_l1.length)).setCell ⟨w.heap.size, 2, none⟩ (.slice AV2 q_l2.length q_l2.length)).setCell ⟨w.heap.size + 1, 0, none⟩ (.int .i64 c0)).setCell ⟨w.heap.size + 1, 1, none⟩ (.int .i64 c1)) = WE at *
  refine bodyPost_ret (v := .tuple #[.agg #[.int .i64 q_n0, .slice AV1 q_l1.length q_l1.length, .slice AV2 q_l2.length q_l2.length], .agg #[.int .i64 c0, .int .i64 c1]]) (by simp [results, Try.results35, go_sem, k0, k1, k2, l0, l1]) rfl ?_
  exact ⟨_, _, rfl, (HV1.out.keep hoth (fun k hk hs => by have h1 := (HV1.out.own k hk).1; rcases hs with e | e <;> omega)).from HB2.out.size, (HV2.out.keep hoth (fun k hk hs => by have h1 := (HV2.out.own k hk).1; rcases hs with e | e <;> omega)).from HB2.out.size, HJ12.out, hbl⟩
end Go.Proofs.Ytgmbfecfkdbfaaa.Wi
/- The document's lists of tokens, put and taken. -/
set_option linter.unusedVariables false
set_option linter.unusedSimpArgs false
namespace Go.Proofs.Ytgmbfecfkdbfaaa.Wi
open Go Go.RowKit Go.Proofs.YtgmbfecfkdbfaaaW.PrintWords
/-- a list of tokens, put by the document -/
def toksW (s : WS) (l : List ByteArray) : WS := (l.take 70000).foldl putStr (s.put (pNumber l.length 2))
theorem toksW_eq (s : WS) (l : List ByteArray) (h : l.length ≤ 1000) : toksW s l = putL putStr s l := by
  unfold toksW putL
  rw [List.take_of_length_le (by omega)]
theorem toksW_len (s : WS) (l : List ByteArray) : (toksW s l).xs.length ≤ s.xs.length + 30000000000 := by
  unfold toksW
  have h1 := foldl_len (put := putStr) putStr_len (l.take 70000) (s.put (pNumber l.length 2))
  have h2 := putNum_len s l.length 2
  have h3 : (l.take 70000).length ≤ 70000 := by rw [List.length_take]; omega
  have h4 := Nat.mul_le_mul_right 400000 h3
  omega
set_option maxHeartbeats 8000000 in
set_option maxRecDepth 100000 in
theorem refToks_calls {w : World} {B g : Nat} {ro : Option Nat} {s : WS} (A : Option Addr) (cA : Nat) (l : List ByteArray) (hw : Vr w B g ro s) (hB : B ≤ w.heap.size) (hx : ElAt encStr 1 w A l) (hok : ∀ x ∈ l, StrOk x) (hll : l.length ≤ 9223372036854775807)
    (hA : ∀ ad, A = some ad → 0 < l.length → ad.block ≠ g ∧ ro ≠ some ad.block) (hl : s.xs.length ≤ 60000000000) :
    Calls Try.prog 82 #[.pointer (some ⟨g, 0, none⟩), .slice A l.length cA] w (VPost B g ro (toksW s l) w) := by
  have H0 := Aside0.mk (show OV w w B g ro s from ⟨hB, ro, hw, .inl rfl, Fr.refl _ _⟩)
  have HEL : Aside0 (∀ W, Fr (WrS g ro) w W → ElAt encStr 1 W A l) := ⟨fun W hf => hx.keep hf (fun ad e h hs => hs.elim (fun e' => (hA ad e h).1 e') (fun e' => (hA ad e h).2 e'))⟩
  have HOK := Aside0.mk hok
  have HPL := Aside0.mk (fun kk => foldl_len (put := putStr) putStr_len (l.take kk) (s.put (pNumber l.length 2)))
  have HTL := Aside0.mk (fun kk => (by rw [List.length_take]; omega : (l.take kk).length ≤ kk))
  have HPN := Aside0.mk (show (s.put (pNumber l.length 2)).xs.length ≤ s.xs.length + 65537 from putNum_len s l.length 2)
  have HCNT := Aside0.mk (OV.call H0.out (fun ro hw hB => vCount_calls (l.length : Int) (by omega) hw hB (by have := HPN.out; omega)))
  have HV : Aside0 (∀ e w', e = .returned (.tuple #[]) → OV w w' B g ro (toksW s l) → VPost B g ro (toksW s l) w e w') := ⟨fun e w' he h => by
    obtain ⟨_, ro', h1, h2, h3⟩ := h
    exact ⟨he, ro', h1, h2, h3⟩⟩
  have HTW : Aside0 (toksW s l = (l.take 70000).foldl putStr (s.put (pNumber l.length 2))) := ⟨rfl⟩
  rw [HTW.out] at HV ⊢
  generalize s.put (pNumber (l.length : Int) 2) = s1 at *
  generalize hVP : VPost B g ro ((l.take 70000).foldl putStr s1) w = VP at *
  clear hVP hx hok hA hw HTW
  go_enter Try.func82, Try.ntmps82
  go_wp2_with (go_at_call 76; refine HCNT.out.mono ?_; rintro e w2 ⟨rfl, H1'⟩; have H1 := Aside0.mk H1'; clear H1')
  go_loopg [4] l.length (fun gg s4 wr => ∃ (kk : Nat), kk ≤ l.length ∧ kk ≤ 70000 ∧ l.length - kk ≤ gg ∧ s4 = .int .i64 kk ∧ Aside0 (OV w wr B g ro ((l.take kk).foldl putStr s1)))
  case atStart => exact ⟨0, by omega, by omega, by omega, rfl, H1⟩
  case round =>
    obtain ⟨kk, hkk, hk7, hgg, rfl, H2⟩ := hrel
    clear H1
    by_cases hlt : kk < l.length
    · have hltz : (kk : Int) < (l.length : Int) := by omega
      by_cases hl7 : kk < 70000
      · have hl7z : (kk : Int) < 70000 := by omega
        obtain ⟨ad, rfl, c0⟩ := el1 (HEL.out _ H2.out.fr) kk hlt
        have hy := HOK.out l[kk] (List.getElem_mem hlt)
        unfold StrOk at hy
        have HSN := Aside0.mk (fold_snoc (put := putStr) s1 l kk hlt)
        have hfl : ((l.take kk).foldl putStr s1).xs.length ≤ 100000000000 := by
          have h1 := HPN.out
          have h3 := HPL.out kk
          have h4 : (l.take kk).length ≤ 70000 := by have := HTL.out kk; omega
          have h2 := Nat.mul_le_mul_right 400000 h4
          omega
        generalize l[kk] = y at *
        have HFX := Aside0.mk (putFix_len ((l.take kk).foldl putStr s1) y)
        generalize (l.take kk).foldl putStr s1 = s2 at *
        go_wp2_with (go_at_call 44; refine (OV.call H2.out (fun ro hw hB => vFixed_calls y 8 hy hw hB (by have := HFX.out; omega))).mono ?_; rintro e w3 ⟨rfl, H3'⟩; have H3 := Aside0.mk H3'; clear H3')
        go_roundg (l.length - (kk + 1))
        case measure => omega
        case rel => exact ⟨kk + 1, by omega, by omega, by omega, by go_num, ⟨by rw [HSN.out]; exact H3.out⟩⟩
      · have hl7z : ¬ (kk : Int) < 70000 := by omega
        have hke : l.take kk = l.take 70000 := by rw [show kk = 70000 by omega]
        rw [hke] at H2
        clear hke
        go_wp2
        go_end0
        exact HV.out _ _ rfl H2.out
    · have hltz : ¬ (kk : Int) < (l.length : Int) := by omega
      have hke : l.take kk = l.take 70000 := by rw [List.take_of_length_le (by omega), List.take_of_length_le (by omega)]
      rw [hke] at H2
      clear hke
      go_wp2
      go_end0
      exact HV.out _ _ rfl H2.out
/-- what a list of tokens that the document takes leaves -/
def TXPost (gx : Nat) (A : Option Addr) (c : Nat) (bs : List Int) (xs : List ByteArray) (r : RS) (w : World) (e : Ending) (w' : World) : Prop :=
  ∃ v, e = .returned v ∧ XR w' gx A c bs r ∧ w'.ownsRow w.heap.size 9 1 v xs.length (xs.flatMap encStr) ∧ Fr (fun i => i = gx) w w'
theorem XR.fr2_ {w w' : World} {gx : Nat} {A : Option Addr} {c : Nat} {bs : List Int} {r : RS} {S : Nat → Prop} (h : XR w gx A c bs r) (hf : Fr S w w') (hg : ¬ S gx) (hA : ∀ ad, A = some ad → 0 < bs.length → ¬ S ad.block) : XR w' gx A c bs r := by
  refine ⟨hf.blk h.blk hg, ⟨h.rd_.1, h.rd_.2.1, fun hn => ?_⟩, h.far, h.le, h.len, h.byt, h.cap⟩
  obtain ⟨ad, e, hc⟩ := h.rd_.2.2 hn
  refine ⟨ad, e, fun j hj => ?_⟩
  have h1 := hc j hj
  have hb := World.block_lt_of_cell? w _ h1
  rw [add_block] at hb
  rw [World.cell?_of_block (w := w) (by rw [add_block]; exact hf.block _ hb (hA ad e hn))]
  exact h1
theorem el_oneS (w : World) (T : TypeId) (y : ByteArray) : ElAt encStr 1 (w.alloc (.cells #[.string y] T)) (some ⟨w.heap.size, 0, none⟩) [y] := fun i hi => by
  obtain rfl : i = 0 := by simp at hi; exact hi
  refine ⟨_, rfl, fun j u hu => ?_⟩
  rw [addz_, blk_cell (heap_alloc_new w _), ← hu]
  simp [encStr]
set_option maxHeartbeats 8000000 in
set_option maxRecDepth 100000 in
theorem refReadToks_calls {w : World} {gx : Nat} {A : Option Addr} {c : Nat} {bs : List Int} {r : RS} (h : XR w gx A c bs r) (hfar : ∀ ad, A = some ad → 0 < bs.length → ad.block < w.heap.size) :
    Calls Try.prog 85 #[.pointer (some ⟨gx, 0, none⟩)] w (TXPost gx A c bs (getL bs (getStr bs) 1000 r).1 (getL bs (getStr bs) 1000 r).2 w) := by
  have HX := Aside0.mk h
  have HFAR := Aside0.mk hfar
  have HRG := rCou_range bs r 1000 (by omega)
  unfold getL
  obtain ⟨⟨n, r1⟩, hp⟩ : ∃ p, rCou bs r 1000 = p := ⟨_, rfl⟩
  have CC := Aside0.mk (xCou_calls 1000 h)
  rw [hp] at CC HRG ⊢
  simp only at CC HRG ⊢
  obtain ⟨nn, hnn⟩ : ∃ nn : Nat, n = (nn : Int) := ⟨n.toNat, by omega⟩
  subst hnn
  rw [Int.toNat_natCast]
  have hn : nn ≤ 1000 := by omega
  have hgx := h.lt
  clear h hp HRG hfar
  unfold TXPost
  go_enter Try.func85, Try.ntmps85
  go_wp2_with (go_at_call 78; refine CC.out.mono ?_; rintro e w2 ⟨rfl, x2, f2⟩; have HX2 := Aside0.mk x2; have HF2 := Aside0.mk f2; clear x2 f2)
  clear CC HX
  go_loopg [4, 5, 6] nn (fun gg s4 s5 s6 wr => ∃ (kk : Nat) (v : Value), kk ≤ nn ∧ nn - kk ≤ gg ∧ s5 = .int .i64 kk ∧ v = s4 ∧ Aside0 (XR wr gx A c bs (getN (getStr bs) kk r1).2) ∧ Aside0 (wr.ownsRow w.heap.size 9 1 v (getN (getStr bs) kk r1).1.length ((getN (getStr bs) kk r1).1.flatMap encStr)) ∧ Aside0 (Fr (fun i => i = gx) w wr))
  case atStart => exact ⟨0, .slice none 0 0, by omega, by omega, rfl, rfl, HX2, ⟨own_nil _ _ _ _⟩, HF2⟩
  case round =>
    obtain ⟨kk, v, hkk, hgg, rfl, rfl, HX3, HO3, HF3⟩ := hrel
    clear HX2 HF2
    by_cases hlt : kk < nn
    · have hltz : (kk : Int) < (nn : Int) := by omega
      have hlen := getN_len (getStr bs) kk r1
      have HGN : Aside0 (getN (getStr bs) (kk + 1) r1 = ((getN (getStr bs) kk r1).1 ++ [(getStr bs (getN (getStr bs) kk r1).2).1], (getStr bs (getN (getStr bs) kk r1).2).2)) := ⟨rfl⟩
      generalize getN (getStr bs) kk r1 = q at *
      obtain ⟨ys, q0⟩ := q
      simp only at HX3 HO3 HGN hlen
      have HLN := Aside0.mk hlen
      clear hlen
      obtain ⟨⟨my, q1⟩, e0⟩ : ∃ p, rFix bs q0 8 = p := ⟨_, rfl⟩
      have HGT : Aside0 (getStr bs q0 = (strOfNums my, q1)) := ⟨by simp [getStr, e0]⟩
      have C0 := Aside0.mk (xFix_calls 8 HX3.out)
      rw [e0] at C0
      simp only at C0
      obtain ⟨Av, cv, hv⟩ : ∃ Av cv, v = .slice Av ys.length cv := by
        obtain ⟨Av, cv, e, _⟩ := owns_el HO3.out (fun _ => rfl)
        exact ⟨Av, cv, e⟩
      subst hv
      clear e0
      generalize strOfNums my = sy at *
      go_upto_region 7 with (go_at_call 49; refine C0.out.mono ?_; rintro e w3 ⟨rfl, x3, f3⟩; have HX4 := Aside0.mk x3; have HF4 := Aside0.mk f3; clear x3 f3)
      have hrow : ∀ k, (Value.slice Av ys.length cv).ownBlock = some k → w.heap.size ≤ k := fun k hk => own_base HO3.out k hk
      have HO4 := Aside0.mk (HF4.out.own HO3.out (fun k hk e => by have := hrow k hk; omega))
      have HF5 := Aside0.mk (HF3.out.trans HF4.out (fun _ _ h => h))
      have hb6 := below1 (w := w3) (.cells #[.string sy] 9)
      have HX6 := Aside0.mk (HX4.out.below hb6)
      have HO6 := Aside0.mk ((Fr.of_below (S := fun _ => False) hb6).own HO4.out (fun _ _ h => h))
      have HF6 := Aside0.mk (HF5.out.then_below hb6)
      have HE6 := Aside0.mk (el_oneS w3 9 sy)
      have HLB6 := Aside0.mk HF6.out.size
      clear HX3 HO3 HF3 HX4 HF4 HO4 HF5 hb6 C0
      go_upto_region 8 with (refine gate_ (.call { callee := .builtin .append, args := #[.tmp 16, .tmp 18], argTypes := #[58, 58] }) rfl ?_; refine wpList_append_els (enc := encStr) w.heap.size rfl _ (.tmp 18) 58 9 _ 1 16 rfl (fun _ => rfl) one_Str Try.underlying58 infoStr (by decide) (by decide) (by decide) (.slice Av ys.length cv) ys [sy] (some ⟨w3.heap.size, 0, none⟩) 1 1 rfl (by rfl) (by rfl) HO6.out HE6.out HLB6.out (by have := HLN.out; simp only [List.length_cons, List.length_nil]; omega) ?_; intro v1 w7 ho7 hg7 hat7; have HO7 := Aside0.mk ho7; have HG7 := Aside0.mk hg7; clear ho7 hg7 hat7)
      have hfg := (Fr.refl (fun i => (Value.slice Av ys.length cv).ownBlock = some i) (w3.alloc (.cells #[.string sy] 9))).grown HG7.out (fun k hk => .inl hk)
      have HX7 := Aside0.mk (HX6.out.fr2_ hfg (fun h => by have := hrow _ h; omega) (fun ad ea hn h => by have := hrow _ h; have := HFAR.out ad ea hn; omega))
      have HF7 := Aside0.mk (HF6.out.trans hfg (fun i hi h => by have := hrow _ h; omega))
      clear hrow hfg HX6 HF6 HG7 HO6 HE6
      go_wp2
      go_roundg (nn - (kk + 1))
      case measure => omega
      case rel => exact ⟨kk + 1, _, by omega, by omega, by go_num, rfl, ⟨by rw [HGN.out, HGT.out]; exact HX7.out⟩, ⟨by rw [HGN.out, HGT.out]; exact HO7.out⟩, HF7⟩
    · have hltz : ¬ (kk : Int) < (nn : Int) := by omega
      obtain rfl : kk = nn := by omega
      go_wp2
      go_ret
      exact ⟨v, rfl, HX3.out, HO3.out, HF3.out⟩
end Go.Proofs.Ytgmbfecfkdbfaaa.Wi
/- The document's deltas as bytes. -/
set_option linter.unusedVariables false
set_option linter.unusedSimpArgs false
namespace Go.Proofs.Ytgmbfecfkdbfaaa.Wi
open Go Go.RowKit Go.Proofs.YtgmbfecfkdbfaaaW.PrintWords
def Delta.FPost (t : Delta) (w : World) (e : Ending) (w' : World) : Prop := ∃ A c, e = .returned (.tuple #[.slice A t.out.length c, .int .i64 t.err]) ∧ ReadsInt w' .u8 A t.out.length t.out ∧ Below w.heap.size w w'
set_option maxHeartbeats 16000000 in
set_option maxRecDepth 100000 in
theorem refDelta_calls (t : Delta) (A1 : Option Addr) (c1 : Nat) (A2 : Option Addr) (c2 : Nat) (w : World) (ht : t.Ok) (hx : t.At w A1 c1 A2 c2) (hl1 : t.l1.length ≤ 9223372036854775807) (hl2 : t.l2.length ≤ 9223372036854775807) :
    Calls Try.prog 34 #[t.val A1 c1 A2 c2] w (t.FPost w) := by
  have HRT0 := Aside0.mk (fun W (h : t.At W A1 c1 A2 c2) => rDeltaRight_calls t A1 c1 A2 c2 W ht h hl1 hl2)
  have HLT1 := Aside0.mk (hx.e1.lt (fun _ => by simp [encStr]))
  have HLT2 := Aside0.mk (hx.e2.lt (fun _ => by simp [encStr]))
  have hlen : deltaRight t = true → t.l1.length ≤ 1000 ∧ t.l2.length ≤ 1000 := fun h => Delta.er_len (by unfold Delta.er; rw [if_pos h])
  obtain ⟨r, hr⟩ : ∃ r, deltaRight t = r := ⟨_, rfl⟩
  have HO : Aside0 (t.FPost w = fun e w' => ∃ A c, e = .returned (.tuple #[.slice A (if r = true then t.put.out else []).length c, .int .i64 (if r = true then t.put.err else 80)]) ∧ ReadsInt w' .u8 A (if r = true then t.put.out else []).length (if r = true then t.put.out else []) ∧ Below w.heap.size w w') := ⟨by
    unfold Delta.FPost Delta.out Delta.err Delta.er
    rw [hr]
    cases r <;> rfl⟩
  rw [HO.out]
  rw [hr] at HRT0 hlen
  clear HO hr
  obtain ⟨⟨_, k0⟩, k1, k2⟩ := ht
  have HPT : Aside0 (r = true → t.put = toksW (toksW ((⟨[], false⟩ : WS).put (pNumber t.n0 8)) t.l1) t.l2) := ⟨fun h => by
    obtain ⟨h1, h2⟩ := hlen h
    unfold Delta.put Delta.putS
    rw [toksW_eq _ _ h1, toksW_eq _ _ h2]⟩
  unfold Delta.val at HRT0 ⊢
  clear hlen
  have HXX := Aside0.mk hx
  clear hx
  obtain ⟨n0, l1, l2⟩ := t
  simp only at HRT0 HLT1 HLT2 HPT k0 k1 k2 hl1 hl2 ⊢
  generalize Delta.put ⟨n0, l1, l2⟩ = sp at *
  have L0 := putNum_len (⟨[], false⟩ : WS) n0 8
  have L1 := toksW_len ((⟨[], false⟩ : WS).put (pNumber n0 8)) l1
  have L2 := toksW_len (toksW ((⟨[], false⟩ : WS).put (pNumber n0 8)) l1) l2
  have LZ : (⟨[], false⟩ : WS).xs.length = 0 := rfl
  have HL := Aside0.mk (And.intro LZ (And.intro L0 (And.intro L1 L2)))
  clear L0 L1 L2 LZ
  have qt := two_0 w (.cells #[.int .i64 n0, .slice A1 l1.length c1, .slice A2 l2.length c2] 60) (.cells #[.slice none 0 0, .bool false] 81)
  have qw := two_1 w (.cells #[.int .i64 n0, .slice A1 l1.length c1, .slice A2 l2.length c2] 60) (.cells #[.slice none 0 0, .bool false] 81)
  have HB2 := Aside0.mk (below2 (w := w) (.cells #[.int .i64 n0, .slice A1 l1.length c1, .slice A2 l2.length c2] 60) (.cells #[.slice none 0 0, .bool false] 81))
  have H0 := Aside0.mk (show OV ((w.alloc (.cells #[.int .i64 n0, .slice A1 l1.length c1, .slice A2 l2.length c2] 60)).alloc (.cells #[.slice none 0 0, .bool false] 81)) ((w.alloc (.cells #[.int .i64 n0, .slice A1 l1.length c1, .slice A2 l2.length c2] 60)).alloc (.cells #[.slice none 0 0, .bool false] 81)) w.heap.size (w.heap.size + 1) none ⟨[], false⟩ from ⟨HB2.out.size, none, ⟨⟨_, qw, own_nil _ _ _ _, rfl⟩, by omega⟩, .inl rfl, Fr.refl _ _⟩)
  have HK : Aside0 (∀ W, Fr (WrS (w.heap.size + 1) none) ((w.alloc (.cells #[.int .i64 n0, .slice A1 l1.length c1, .slice A2 l2.length c2] 60)).alloc (.cells #[.slice none 0 0, .bool false] 81)) W → W.heap[w.heap.size]? = some (.cells #[.int .i64 n0, .slice A1 l1.length c1, .slice A2 l2.length c2] 60 (0, 0))) := ⟨fun W hf => hf.blk qt (fun h => h.elim (fun e => by omega) (fun e => nomatch e))⟩
  have HEL : Aside0 (∀ W, Fr (WrS (w.heap.size + 1) none) ((w.alloc (.cells #[.int .i64 n0, .slice A1 l1.length c1, .slice A2 l2.length c2] 60)).alloc (.cells #[.slice none 0 0, .bool false] 81)) W → Delta.At W ⟨n0, l1, l2⟩ A1 c1 A2 c2) := ⟨fun W hf => (HXX.out.below HB2.out).keep hf (fun ad e h hs => hs.elim (fun e' => by have := HLT1.out ad e h; omega) (fun e' => nomatch e')) (fun ad e h hs => hs.elim (fun e' => by have := HLT2.out ad e h; omega) (fun e' => nomatch e'))⟩
  have e0 : _ = some (Value.int .i64 n0) := blk_cell qt 0
  clear qt qw
  go_enter Try.func34, Try.ntmps34
  cases r with
  | false =>
    go_wp2_with (first | (go_at_call 43; (with_reducible refine (OV.call H0.out (fun ro hw hB => vNumber_calls n0 8 k0 hw hB (by have := HL.out; omega))).mono ?_); rintro e w1 ⟨rfl, H1'⟩; have H1 := Aside0.mk H1'; have q1 := HK.out _ H1'.fr; have e0 : _ = some (Value.int .i64 n0) := blk_cell q1 0; have e1 : _ = some (Value.slice A1 l1.length c1) := blk_cell q1 1; have e2 : _ = some (Value.slice A2 l2.length c2) := blk_cell q1 2; clear q1 H1') | (go_at_call 82; first | ((with_reducible refine (OV.call H1.out (fun ro hw hB => refToks_calls A1 c1 l1 hw hB (HEL.out _ H1.out.fr).e1 k1 hl1 (fun ad e h => ⟨by have := HLT1.out ad e h; omega, fun e' => by obtain ⟨_, _, ho, hro⟩ := hw.at_; have h1 := own_base ho _ (hro.trans e'); have h2 := HLT1.out ad e h; omega⟩) (by have := HL.out; omega))).mono ?_); rintro e w2 ⟨rfl, H2'⟩; have H2 := Aside0.mk H2'; have q2 := HK.out _ H2'.fr; have e0 : _ = some (Value.int .i64 n0) := blk_cell q2 0; have e1 : _ = some (Value.slice A1 l1.length c1) := blk_cell q2 1; have e2 : _ = some (Value.slice A2 l2.length c2) := blk_cell q2 2; clear q2 H2') | ((with_reducible refine (OV.call H2.out (fun ro hw hB => refToks_calls A2 c2 l2 hw hB (HEL.out _ H2.out.fr).e2 k2 hl2 (fun ad e h => ⟨by have := HLT2.out ad e h; omega, fun e' => by obtain ⟨_, _, ho, hro⟩ := hw.at_; have h1 := own_base ho _ (hro.trans e'); have h2 := HLT2.out ad e h; omega⟩) (by have := HL.out; omega))).mono ?_); rintro e w3 ⟨rfl, H3'⟩; have H3 := Aside0.mk H3'; have q3 := HK.out _ H3'.fr; have e0 : _ = some (Value.int .i64 n0) := blk_cell q3 0; have e1 : _ = some (Value.slice A1 l1.length c1) := blk_cell q3 1; have e2 : _ = some (Value.slice A2 l2.length c2) := blk_cell q3 2; clear q3 H3')) | (go_at_call 83; refine (HRT0.out _ (HEL.out _ H3.out.fr)).mono ?_; rintro e wr ⟨rfl, hbr⟩; have HR := Aside0.mk (H3.out.then_ hbr); clear hbr) | (go_at_call 45; refine (told_no _ _).mono ?_; rintro e wt ⟨rfl, rfl⟩))
    go_ret2
    refine ⟨none, ⟨0, by simp⟩, ?_, ?_⟩
    · exact ⟨rfl, by simp, fun h => absurd h (by simp)⟩
    · exact HB2.out.trans (HR.out.fr.below HB2.out.size (fun i hi => hi.elim (fun e => by omega) (fun e => nomatch e)))
  | true =>
    go_wp2_with (first | (go_at_call 43; (with_reducible refine (OV.call H0.out (fun ro hw hB => vNumber_calls n0 8 k0 hw hB (by have := HL.out; omega))).mono ?_); rintro e w1 ⟨rfl, H1'⟩; have H1 := Aside0.mk H1'; have q1 := HK.out _ H1'.fr; have e0 : _ = some (Value.int .i64 n0) := blk_cell q1 0; have e1 : _ = some (Value.slice A1 l1.length c1) := blk_cell q1 1; have e2 : _ = some (Value.slice A2 l2.length c2) := blk_cell q1 2; clear q1 H1') | (go_at_call 82; first | ((with_reducible refine (OV.call H1.out (fun ro hw hB => refToks_calls A1 c1 l1 hw hB (HEL.out _ H1.out.fr).e1 k1 hl1 (fun ad e h => ⟨by have := HLT1.out ad e h; omega, fun e' => by obtain ⟨_, _, ho, hro⟩ := hw.at_; have h1 := own_base ho _ (hro.trans e'); have h2 := HLT1.out ad e h; omega⟩) (by have := HL.out; omega))).mono ?_); rintro e w2 ⟨rfl, H2'⟩; have H2 := Aside0.mk H2'; have q2 := HK.out _ H2'.fr; have e0 : _ = some (Value.int .i64 n0) := blk_cell q2 0; have e1 : _ = some (Value.slice A1 l1.length c1) := blk_cell q2 1; have e2 : _ = some (Value.slice A2 l2.length c2) := blk_cell q2 2; clear q2 H2') | ((with_reducible refine (OV.call H2.out (fun ro hw hB => refToks_calls A2 c2 l2 hw hB (HEL.out _ H2.out.fr).e2 k2 hl2 (fun ad e h => ⟨by have := HLT2.out ad e h; omega, fun e' => by obtain ⟨_, _, ho, hro⟩ := hw.at_; have h1 := own_base ho _ (hro.trans e'); have h2 := HLT2.out ad e h; omega⟩) (by have := HL.out; omega))).mono ?_); rintro e w3 ⟨rfl, H3'⟩; have H3 := Aside0.mk H3'; have q3 := HK.out _ H3'.fr; have e0 : _ = some (Value.int .i64 n0) := blk_cell q3 0; have e1 : _ = some (Value.slice A1 l1.length c1) := blk_cell q3 1; have e2 : _ = some (Value.slice A2 l2.length c2) := blk_cell q3 2; clear q3 H3')) | (go_at_call 83; refine (HRT0.out _ (HEL.out _ H3.out.fr)).mono ?_; rintro e wr ⟨rfl, hbr⟩; have HR := Aside0.mk (H3.out.then_ hbr); clear hbr) | (go_at_call 45; refine (told_yes HR.out.2.choose_spec.1 (by have := HL.out; omega)).mono ?_; rintro e wt ⟨A, c, rfl, hrt, hbt⟩))
    go_ret2
    have hbw := HB2.out.trans (HR.out.fr.below HB2.out.size (fun i hi => hi.elim (fun e => by omega) (fun e => nomatch e)))
    simp only [↓reduceIte]
    rw [HPT.out (by first | trivial | rfl)]
    exact ⟨A, ⟨c, rfl⟩, hrt, below_then hbw hbw.size hbt⟩
end Go.Proofs.Ytgmbfecfkdbfaaa.Wi
/- The document's deltas out of bytes. -/
set_option linter.unusedVariables false
set_option linter.unusedSimpArgs false
namespace Go.Proofs.Ytgmbfecfkdbfaaa.Wi
open Go Go.RowKit Go.Proofs.YtgmbfecfkdbfaaaW.PrintWords
/-- the document's reader and what it has laid down -/
structure OXU (W1 W : World) (gx bt : Nat) (T : TypeId) (A : Option Addr) (c : Nat) (bs : List Int) (cs : Array Value) (r : RS) : Prop where
  xr : XR W gx A c bs r
  blk : W.heap[bt]? = some (.cells cs T (0, 0))
  fr : Fr (fun i => i = gx ∨ i = bt) W1 W
theorem OXU.step {W1 W W' : World} {gx bt : Nat} {T : TypeId} {A : Option Addr} {c : Nat} {bs : List Int} {cs cs' : Array Value} {r r' : RS} (h : OXU W1 W gx bt T A c bs cs r) (hx : XR W' gx A c bs r') (hf : Fr (fun i => i = gx) W W') (k : Nat) (u : Value) (hfb : bt ≠ gx ∧ ∀ ad, A = some ad → 0 < bs.length → ad.block ≠ bt) (e : cs.setIfInBounds k u = cs') : OXU W1 (W'.setCell ⟨bt, k, none⟩ u) gx bt T A c bs cs' r' := by
  have hq := hf.blk h.blk hfb.1
  exact ⟨hx.far_ hfb.1 hfb.2 k u, blk_put hq k u e, ((h.fr.trans (hf.mono (S' := fun i => i = gx ∨ i = bt) (fun i _ h => .inl h)) (fun _ _ h => h))).set_ (p := ⟨bt, k, none⟩) (.inl (.inr rfl)) u⟩
def Delta.EPost (bs : List Int) (w : World) (e : Ending) (w' : World) : Prop := ∃ A1 c1 A2 c2, e = .returned (.tuple #[.agg #[.int .i64 (Delta.ofBytes bs).1.n0, .slice A1 (Delta.ofBytes bs).1.l1.length c1, .slice A2 (Delta.ofBytes bs).1.l2.length c2], .agg #[.int .i64 (Delta.ofBytes bs).2.1, .int .i64 (Delta.ofBytes bs).2.2]]) ∧ Delta.At w' (Delta.ofBytes bs).1 A1 c1 A2 c2 ∧ Below w.heap.size w w' ∧ (∀ ad, A1 = some ad → 0 < (Delta.ofBytes bs).1.l1.length → w.heap.size ≤ ad.block) ∧ (∀ ad, A2 = some ad → 0 < (Delta.ofBytes bs).1.l2.length → w.heap.size ≤ ad.block)
set_option maxHeartbeats 16000000 in
set_option maxRecDepth 100000 in
theorem refReadDelta_calls (A : Option Addr) (c : Nat) (bs : List Int) (w : World) (hr : ReadsInt w .u8 A bs.length bs) (hc : bs.length ≤ c) (hby : Bytes bs) (hl : bs.length ≤ 140737488355328) :
    Calls Try.prog 36 #[.slice A bs.length c] w (Delta.EPost bs w) := by
  have hb4 : Below w.heap.size w ((((w.alloc (.cells #[.int .i64 0, .slice none 0 0, .slice none 0 0] 60)).alloc (.cells #[.int .i64 0, .int .i64 0] 31)).alloc (.cells #[.slice A bs.length c, .int .i64 0, .int .i64 0, .int .i64 0, .int .i64 0] 89)).alloc (.cells #[.int .i64 0, .slice none 0 0, .slice none 0 0] 60)) := below_alloc (below_alloc (below_alloc (below_alloc (Below.refl _ _) _) _) _) _
  have s1 : (w.alloc (.cells #[.int .i64 0, .slice none 0 0, .slice none 0 0] 60)).heap.size = w.heap.size + 1 := by simp
  have s2 : ((w.alloc (.cells #[.int .i64 0, .slice none 0 0, .slice none 0 0] 60)).alloc (.cells #[.int .i64 0, .int .i64 0] 31)).heap.size = w.heap.size + 1 + 1 := by simp
  have s3 : (((w.alloc (.cells #[.int .i64 0, .slice none 0 0, .slice none 0 0] 60)).alloc (.cells #[.int .i64 0, .int .i64 0] 31)).alloc (.cells #[.slice A bs.length c, .int .i64 0, .int .i64 0, .int .i64 0, .int .i64 0] 89)).heap.size = w.heap.size + 1 + 1 + 1 := by simp
  have q6 : ((((w.alloc (.cells #[.int .i64 0, .slice none 0 0, .slice none 0 0] 60)).alloc (.cells #[.int .i64 0, .int .i64 0] 31)).alloc (.cells #[.slice A bs.length c, .int .i64 0, .int .i64 0, .int .i64 0, .int .i64 0] 89)).alloc (.cells #[.int .i64 0, .slice none 0 0, .slice none 0 0] 60)).heap[w.heap.size]? = some _ := blk_b (blk_b (blk_b (heap_alloc_new w (.cells #[.int .i64 0, .slice none 0 0, .slice none 0 0] 60)) (below1 (.cells #[.int .i64 0, .int .i64 0] 31))) (below1 (.cells #[.slice A bs.length c, .int .i64 0, .int .i64 0, .int .i64 0, .int .i64 0] 89))) (below1 (.cells #[.int .i64 0, .slice none 0 0, .slice none 0 0] 60))
  have q7 : ((((w.alloc (.cells #[.int .i64 0, .slice none 0 0, .slice none 0 0] 60)).alloc (.cells #[.int .i64 0, .int .i64 0] 31)).alloc (.cells #[.slice A bs.length c, .int .i64 0, .int .i64 0, .int .i64 0, .int .i64 0] 89)).alloc (.cells #[.int .i64 0, .slice none 0 0, .slice none 0 0] 60)).heap[w.heap.size + 1]? = some _ := s1 ▸ blk_b (blk_b (heap_alloc_new (w.alloc (.cells #[.int .i64 0, .slice none 0 0, .slice none 0 0] 60)) (.cells #[.int .i64 0, .int .i64 0] 31)) (below1 (.cells #[.slice A bs.length c, .int .i64 0, .int .i64 0, .int .i64 0, .int .i64 0] 89))) (below1 (.cells #[.int .i64 0, .slice none 0 0, .slice none 0 0] 60))
  have q8 : ((((w.alloc (.cells #[.int .i64 0, .slice none 0 0, .slice none 0 0] 60)).alloc (.cells #[.int .i64 0, .int .i64 0] 31)).alloc (.cells #[.slice A bs.length c, .int .i64 0, .int .i64 0, .int .i64 0, .int .i64 0] 89)).alloc (.cells #[.int .i64 0, .slice none 0 0, .slice none 0 0] 60)).heap[w.heap.size + 1 + 1]? = some _ := s2 ▸ blk_b (heap_alloc_new ((w.alloc (.cells #[.int .i64 0, .slice none 0 0, .slice none 0 0] 60)).alloc (.cells #[.int .i64 0, .int .i64 0] 31)) (.cells #[.slice A bs.length c, .int .i64 0, .int .i64 0, .int .i64 0, .int .i64 0] 89)) (below1 (.cells #[.int .i64 0, .slice none 0 0, .slice none 0 0] 60))
  have q9 : ((((w.alloc (.cells #[.int .i64 0, .slice none 0 0, .slice none 0 0] 60)).alloc (.cells #[.int .i64 0, .int .i64 0] 31)).alloc (.cells #[.slice A bs.length c, .int .i64 0, .int .i64 0, .int .i64 0, .int .i64 0] 89)).alloc (.cells #[.int .i64 0, .slice none 0 0, .slice none 0 0] 60)).heap[w.heap.size + 1 + 1 + 1]? = some _ := s3 ▸ heap_alloc_new (((w.alloc (.cells #[.int .i64 0, .slice none 0 0, .slice none 0 0] 60)).alloc (.cells #[.int .i64 0, .int .i64 0] 31)).alloc (.cells #[.slice A bs.length c, .int .i64 0, .int .i64 0, .int .i64 0, .int .i64 0] 89)) (.cells #[.int .i64 0, .slice none 0 0, .slice none 0 0] 60)
  have hfar : ∀ ad, A = some ad → 0 < bs.length → ad.block < w.heap.size := fun ad ea hn => by
    obtain ⟨ad', e', hcell⟩ := hr.2.2 hn
    rw [ea] at e'
    obtain rfl := Option.some.inj e'
    have := World.block_lt_of_cell? w _ (hcell 0 hn)
    rwa [add_block] at this
  have HFAR := Aside0.mk hfar
  have HTK := Aside0.mk (Delta.read_ok bs ⟨0, 0, 0, 0⟩ hl)
  have HLE := Delta.read_len bs ⟨0, 0, 0, 0⟩
  have hrt : Delta.ofBytes bs = (let p := Delta.readS bs ⟨0, 0, 0, 0⟩; let r := p.2.end_ bs.length; if r.code = 0 then (if p.1.er = 0 then (p.1, 0, r.fat) else (Delta.zero, p.1.er, -1)) else (Delta.zero, r.code, r.fat)) := rfl
  unfold Delta.readS at hrt HTK HLE
  obtain ⟨⟨m0, r1⟩, e0⟩ : ∃ p, rNum bs ⟨0, 0, 0, 0⟩ 8 = p := ⟨_, rfl⟩
  obtain ⟨⟨x1, r2⟩, e1⟩ : ∃ p, getL bs (getStr bs) 1000 r1 = p := ⟨_, rfl⟩
  obtain ⟨⟨x2, r3⟩, e2⟩ : ∃ p, getL bs (getStr bs) 1000 r2 = p := ⟨_, rfl⟩
  have C0 := Aside0.mk (fun (W : World) (h : XR W (w.heap.size + 1 + 1) A c bs ⟨0, 0, 0, 0⟩) => xNum_calls 8 h)
  have C1 := Aside0.mk (fun (W : World) (h : XR W (w.heap.size + 1 + 1) A c bs r1) (hf : ∀ ad, A = some ad → 0 < bs.length → ad.block < W.heap.size) => refReadToks_calls h hf)
  have C2 := Aside0.mk (fun (W : World) (h : XR W (w.heap.size + 1 + 1) A c bs r2) (hf : ∀ ad, A = some ad → 0 < bs.length → ad.block < W.heap.size) => refReadToks_calls h hf)
  rw [e0] at C0
  rw [e1] at C1
  rw [e2] at C2
  rw [e0] at hrt HTK HLE
  simp only at hrt HTK HLE
  rw [e1] at hrt HTK HLE
  simp only at hrt HTK HLE
  rw [e2] at hrt HTK HLE
  simp only at hrt HTK HLE C0 C1 C2
  have HLX := Aside0.mk HLE
  clear HLE
  unfold TXPost at C1 C2
  have H0 := Aside0.mk (show OXU ((((w.alloc (.cells #[.int .i64 0, .slice none 0 0, .slice none 0 0] 60)).alloc (.cells #[.int .i64 0, .int .i64 0] 31)).alloc (.cells #[.slice A bs.length c, .int .i64 0, .int .i64 0, .int .i64 0, .int .i64 0] 89)).alloc (.cells #[.int .i64 0, .slice none 0 0, .slice none 0 0] 60)) ((((w.alloc (.cells #[.int .i64 0, .slice none 0 0, .slice none 0 0] 60)).alloc (.cells #[.int .i64 0, .int .i64 0] 31)).alloc (.cells #[.slice A bs.length c, .int .i64 0, .int .i64 0, .int .i64 0, .int .i64 0] 89)).alloc (.cells #[.int .i64 0, .slice none 0 0, .slice none 0 0] 60)) (w.heap.size + 1 + 1) (w.heap.size + 1 + 1 + 1) 60 A c bs #[.int .i64 0, .slice none 0 0, .slice none 0 0] ⟨0, 0, 0, 0⟩ from ⟨⟨q8, hr.below hb4, fun ad ea hn => by have := hfar ad ea hn; omega, Nat.zero_le _, hl, hby, hc⟩, q9, Fr.refl _ _⟩)
  have HFB : Aside0 ((w.heap.size + 1 + 1 + 1) ≠ (w.heap.size + 1 + 1) ∧ ∀ ad, A = some ad → 0 < bs.length → ad.block ≠ (w.heap.size + 1 + 1 + 1)) := ⟨⟨by omega, fun ad ea hn => by have := hfar ad ea hn; omega⟩⟩
  have HNE : Aside0 ((w.heap.size + 1 + 1 + 1) ≠ (w.heap.size + 1 + 1)) := ⟨by omega⟩
  have HQ6 := Aside0.mk q6
  have HQ7 := Aside0.mk q7
  have HB4 := Aside0.mk hb4
  have HS4 : Aside0 (w.heap.size + 1 + 1 + 1 < ((((w.alloc (.cells #[.int .i64 0, .slice none 0 0, .slice none 0 0] 60)).alloc (.cells #[.int .i64 0, .int .i64 0] 31)).alloc (.cells #[.slice A bs.length c, .int .i64 0, .int .i64 0, .int .i64 0, .int .i64 0] 89)).alloc (.cells #[.int .i64 0, .slice none 0 0, .slice none 0 0] 60)).heap.size) := ⟨blk_lt q9⟩
  clear hb4 s1 s2 s3 q6 q7 q8 q9 hfar e0 e1 e2 hr hby
  go_enter Try.func36, Try.ntmps36
  go_upto_region 3 with (fail)
  generalize ((((w.alloc (.cells #[.int .i64 0, .slice none 0 0, .slice none 0 0] 60)).alloc (.cells #[.int .i64 0, .int .i64 0] 31)).alloc (.cells #[.slice A bs.length c, .int .i64 0, .int .i64 0, .int .i64 0, .int .i64 0] 89)).alloc (.cells #[.int .i64 0, .slice none 0 0, .slice none 0 0] 60)) = W4 at *
  go_upto_region 6 with (first
    | (go_at_call 48; refine (C0.out _ H0.out.xr).mono ?_; rintro e w1 ⟨rfl, x1_, f1⟩; have H1 := Aside0.mk (show OXU W4 (w1.setCell ⟨w.heap.size + 1 + 1 + 1, 0, none⟩ (.int .i64 m0)) (w.heap.size + 1 + 1) (w.heap.size + 1 + 1 + 1) 60 A c bs #[.int .i64 m0, .slice none 0 0, .slice none 0 0] r1 from OXU.step H0.out x1_ f1 0 (.int .i64 m0) HFB.out rfl); have q1 := f1.blk H0.out.blk HNE.out; have cc1 := (blk_cell q1 0).trans rfl; have zz1 := blk_frozen q1 0; clear x1_ f1 q1)
    | (go_at_call 85; first
      | ((with_reducible refine (C1.out _ H1.out.xr (fun ad e h => by have h1 := HFAR.out ad e h; have h2 := HB4.out.size; have h3 := H1.out.fr.size; omega)).mono ?_); rintro e w2 ⟨v1, rfl, x2_, o2, f2⟩; obtain ⟨B1, d1, hv1, _, el2⟩ := owns_el o2 (fun _ => rfl); subst hv1; have HD2 := Aside0.mk (show ∀ ad, B1 = some ad → 0 < x1.length → (w.heap.size + 1 + 1 + 1) < ad.block from fun ad e h => by have h1 := own_base o2 ad.block (by rw [e]; rfl); have h2 := HS4.out; have h3 := H1.out.fr.size; omega); have HE2 := Aside0.mk (el2.keep ((Fr.refl (fun i => i = (w.heap.size + 1 + 1 + 1)) w2).set_ (p := ⟨w.heap.size + 1 + 1 + 1, 1, none⟩) (.inl rfl) (.slice B1 x1.length d1)) (fun ad e h hs => by have := HD2.out ad e h; omega)); have H2 := Aside0.mk (show OXU W4 (w2.setCell ⟨w.heap.size + 1 + 1 + 1, 1, none⟩ (.slice B1 x1.length d1)) (w.heap.size + 1 + 1) (w.heap.size + 1 + 1 + 1) 60 A c bs #[.int .i64 m0, .slice B1 x1.length d1, .slice none 0 0] r2 from OXU.step H1.out x2_ f2 1 (.slice B1 x1.length d1) HFB.out rfl); have q2 := f2.blk H1.out.blk HNE.out; have cc2 := (blk_cell q2 1).trans rfl; have zz2 := blk_frozen q2 1; clear x2_ o2 f2 q2 el2)
      | ((with_reducible refine (C2.out _ H2.out.xr (fun ad e h => by have h1 := HFAR.out ad e h; have h2 := HB4.out.size; have h3 := H2.out.fr.size; omega)).mono ?_); rintro e w3 ⟨v2, rfl, x3_, o3, f3⟩; obtain ⟨B2, d2, hv2, _, el3⟩ := owns_el o3 (fun _ => rfl); subst hv2; have HD3 := Aside0.mk (show ∀ ad, B2 = some ad → 0 < x2.length → (w.heap.size + 1 + 1 + 1) < ad.block from fun ad e h => by have h1 := own_base o3 ad.block (by rw [e]; rfl); have h2 := HS4.out; have h3 := H2.out.fr.size; omega); have HE3 := Aside0.mk (el3.keep ((Fr.refl (fun i => i = (w.heap.size + 1 + 1 + 1)) w3).set_ (p := ⟨w.heap.size + 1 + 1 + 1, 2, none⟩) (.inl rfl) (.slice B2 x2.length d2)) (fun ad e h hs => by have := HD3.out ad e h; omega)); have HE4 := Aside0.mk ((HE2.out.keep f3 (fun ad e h hs => by have := HD2.out ad e h; omega)).keep ((Fr.refl (fun i => i = (w.heap.size + 1 + 1 + 1)) w3).set_ (p := ⟨w.heap.size + 1 + 1 + 1, 2, none⟩) (.inl rfl) (.slice B2 x2.length d2)) (fun ad e h hs => by have := HD2.out ad e h; omega)); have H3 := Aside0.mk (show OXU W4 (w3.setCell ⟨w.heap.size + 1 + 1 + 1, 2, none⟩ (.slice B2 x2.length d2)) (w.heap.size + 1 + 1) (w.heap.size + 1 + 1 + 1) 60 A c bs #[.int .i64 m0, .slice B1 x1.length d1, .slice B2 x2.length d2] r3 from OXU.step H2.out x3_ f3 2 (.slice B2 x2.length d2) HFB.out rfl); have q3 := f3.blk H2.out.blk HNE.out; have cc3 := (blk_cell q3 2).trans rfl; have zz3 := blk_frozen q3 2; clear x3_ o3 f3 q3 el3)))
  generalize w3.setCell ⟨w.heap.size + 1 + 1 + 1, 2, none⟩ (.slice B2 x2.length d2) = W6 at *
  have v0 : _ = some (Value.int .i64 m0) := blk_cell H3.out.blk 0
  have v1 : _ = some (Value.slice B1 x1.length d1) := blk_cell H3.out.blk 1
  have v2 : _ = some (Value.slice B2 x2.length d2) := blk_cell H3.out.blk 2
  have HAT := Aside0.mk (show Delta.At W6 ⟨m0, x1, x2⟩ B1 d1 B2 d2 from ⟨HE4.out, HE3.out⟩)
  have HT := Aside0.mk (fun W (h : Delta.At W ⟨m0, x1, x2⟩ B1 d1 B2 d2) => rDeltaRight_calls ⟨m0, x1, x2⟩ B1 d1 B2 d2 W HTK.out h (show x1.length ≤ 9223372036854775807 by have := HLX.out; omega) (show x2.length ≤ 9223372036854775807 by have := HLX.out; omega))
  obtain ⟨rr, hrr⟩ : ∃ rr, deltaRight ⟨m0, x1, x2⟩ = rr := ⟨_, rfl⟩
  obtain ⟨⟨code, fat⟩, hec⟩ : ∃ p, endC r3 bs.length rr = p := ⟨_, rfl⟩
  have HRT0 : Aside0 (Delta.ofBytes bs = if code = 0 then (⟨m0, x1, x2⟩, code, fat) else (Delta.zero, code, fat)) := ⟨by
    rw [hrt]
    unfold Delta.er
    rw [hrr]
    unfold endC at hec
    cases rr with
    | true =>
      rw [if_neg (by simp)] at hec
      injection hec with e1 e2
      by_cases h0 : code = 0
      · rw [if_pos h0, if_pos (by rw [e1, h0]), if_pos rfl, e2, h0]; rfl
      · rw [if_neg h0, if_neg (by rw [e1]; exact h0), e1, e2]
    | false =>
      by_cases h1 : (r3.end_ bs.length).code = 0
      · rw [if_pos ⟨h1, rfl⟩] at hec
        injection hec with e1 e2
        subst e1 e2
        rw [if_pos h1]
        simp
      · rw [if_neg (fun h => h1 h.1)] at hec
        injection hec with e1 e2
        rw [if_neg h1, if_neg (by rw [← e1]; exact h1), e1, e2]⟩
  have HEC := Aside0.mk (fun (W : World) (h : XR W (w.heap.size + 1 + 1) A c bs r3) => ended_calls rr h)
  rw [hec] at HEC
  rw [hrr] at HT
  unfold Delta.val at HT
  simp only at HT HEC
  clear hrt hrr hec C0 C1 C2 HTK HE2 HE3 HE4 H0 H1 H2 HLX
  go_upto_region 7 with (first
    | (go_at_call 83; refine (HT.out _ HAT.out).mono ?_; rintro e w7 ⟨rfl, hb7⟩; have HB7 := Aside0.mk hb7; clear hb7)
    | (go_at_call 50; refine (HEC.out _ (H3.out.xr.below HB7.out)).mono ?_; rintro e w8 ⟨rfl, x8, f8⟩; have HF8 := Aside0.mk f8; clear x8 f8))
  have hb9 := below1 (w := w8) (.cells #[.int .i64 code, .int .i64 fat] 31)
  have old : ∀ k (cs : Array Value) (T : TypeId), k ≠ (w.heap.size + 1 + 1) → k ≠ (w.heap.size + 1 + 1 + 1) → W4.heap[k]? = some (.cells cs T (0, 0)) → (w8.alloc (.cells #[.int .i64 code, .int .i64 fat] 31)).heap[k]? = some (.cells cs T (0, 0)) := fun k cs T h1 h2 h3 => blk_b (HF8.out.blk (blk_b (H3.out.fr.blk h3 (fun h => h.elim h1 h2)) HB7.out) h1) hb9
  have HG := Aside0.mk (And.intro (old _ _ _ (by omega) (by omega) HQ6.out) (And.intro (old _ _ _ (by omega) (by omega) HQ7.out) (And.intro (blk_b (HF8.out.blk (blk_b H3.out.blk HB7.out) HNE.out) hb9) (heap_alloc_new w8 (.cells #[.int .i64 code, .int .i64 fat] 31)))))
  have HW9 := Aside0.mk (show Below w.heap.size w (w8.alloc (.cells #[.int .i64 code, .int .i64 fat] 31)) from by
    have h1 := HB4.out.size
    have h2 := H3.out.fr.size
    have h3 := HB7.out.size
    have h4 := HF8.out.size
    exact below_alloc (((HB4.out.trans (H3.out.fr.below h1 (fun i hi => by rcases hi with e | e <;> omega))).trans ⟨HB7.out.os, HB7.out.tape, HB7.out.output, HB7.out.size, fun i hi => HB7.out.block i (by omega)⟩).trans (HF8.out.below (by omega) (fun i hi => by omega))) _)
  have HA9 := Aside0.mk (((HAT.out.below HB7.out).keep HF8.out (fun ad e h hs => by have := HD2.out ad e h; omega) (fun ad e h hs => by have := HD3.out ad e h; omega)).below hb9)
  have hgf : w.heap.size + 1 + 1 + 1 < w8.heap.size := by
    have h1 := HS4.out
    have h2 := H3.out.fr.size
    have h3 := HB7.out.size
    have h4 := HF8.out.size
    omega
  clear old hb9 v0 v1 v2 H3 HF8 HB7 HQ6 HQ7 HB4 HAT HT HEC
  generalize w8.alloc (.cells #[.int .i64 code, .int .i64 fat] 31) = w9 at *
  generalize w8.heap.size = gf at *
  have f0 : _ = some (Value.int .i64 code) := blk_cell HG.out.2.2.2 0
  have f1 : _ = some (Value.int .i64 fat) := blk_cell HG.out.2.2.2 1
  by_cases hc0 : code = 0
  case neg =>
    have hcn : (code != 0) = true := bne_iff_ne.2 hc0
    have HRT : Aside0 (Delta.ofBytes bs = (Delta.zero, code, fat)) := ⟨by rw [HRT0.out, if_neg hc0]⟩
    clear HRT0 hc0
    go_wp2
    have p0 : _ = some (Value.int .i64 0) := blk_cell HG.out.1 0
    have z0 := blk_frozen HG.out.1 0
    have p1 : _ = some (Value.slice none 0 0) := blk_cell HG.out.1 1
    have z1 := blk_frozen HG.out.1 1
    have p2 : _ = some (Value.slice none 0 0) := blk_cell HG.out.1 2
    have z2 := blk_frozen HG.out.1 2
    have t0 : _ = some (Value.int .i64 0) := blk_cell HG.out.2.1 0
    have y0 := blk_frozen HG.out.2.1 0
    have t1 : _ = some (Value.int .i64 0) := blk_cell HG.out.2.1 1
    have y1 := blk_frozen HG.out.2.1 1
    go_region
    generalize hWE : World.drew _ = WE
    obtain ⟨k0, k1, k2, l0, l1, hbl, hoth⟩ := Delta.finD HG.out.1 HG.out.2.1 HW9.out (Nat.le_refl _) (.int .i64 0) (.slice none 0 0) (.slice none 0 0) code fat hWE.symm
    clear hWE
    go_wp2
    refine bodyPost_ret (v := .tuple #[.agg #[.int .i64 0, .slice none 0 0, .slice none 0 0], .agg #[.int .i64 code, .int .i64 fat]]) (by simp [results, Try.results36, go_sem, k0, k1, k2, l0, l1]) rfl ?_
    unfold Delta.EPost
    rw [HRT.out]
    exact ⟨none, 0, none, 0, rfl, ⟨ElAt.nil _ _, ElAt.nil _ _⟩, hbl, (fun _ h => nomatch h), (fun _ h => nomatch h)⟩
  case pos =>
    subst hc0
    have HRT : Aside0 (Delta.ofBytes bs = (⟨m0, x1, x2⟩, 0, fat)) := ⟨by rw [HRT0.out, if_pos rfl]⟩
    clear HRT0
    have v0 : _ = some (Value.int .i64 m0) := blk_cell HG.out.2.2.1 0
    have v1 : _ = some (Value.slice B1 x1.length d1) := blk_cell HG.out.2.2.1 1
    have v2 : _ = some (Value.slice B2 x2.length d2) := blk_cell HG.out.2.2.1 2
    go_wp2
    have p0 : _ = some (Value.int .i64 0) := blk_cell HG.out.1 0
    have z0 := blk_frozen HG.out.1 0
    have p1 : _ = some (Value.slice none 0 0) := blk_cell HG.out.1 1
    have z1 := blk_frozen HG.out.1 1
    have p2 : _ = some (Value.slice none 0 0) := blk_cell HG.out.1 2
    have z2 := blk_frozen HG.out.1 2
    have t0 : _ = some (Value.int .i64 0) := blk_cell HG.out.2.1 0
    have y0 := blk_frozen HG.out.2.1 0
    have t1 : _ = some (Value.int .i64 0) := blk_cell HG.out.2.1 1
    have y1 := blk_frozen HG.out.2.1 1
    go_region
    generalize hWE : World.drew _ = WE
    obtain ⟨k0, k1, k2, l0, l1, hbl, hoth⟩ := Delta.finD HG.out.1 HG.out.2.1 HW9.out (Nat.le_refl _) (.int .i64 m0) (.slice B1 x1.length d1) (.slice B2 x2.length d2) 0 fat hWE.symm
    clear hWE
    go_wp2
    refine bodyPost_ret (v := .tuple #[.agg #[.int .i64 m0, .slice B1 x1.length d1, .slice B2 x2.length d2], .agg #[.int .i64 0, .int .i64 fat]]) (by simp [results, Try.results36, go_sem, k0, k1, k2, l0, l1]) rfl ?_
    unfold Delta.EPost
    rw [HRT.out]
    exact ⟨B1, d1, B2, d2, rfl, HA9.out.keep hoth (fun ad e h hs => by have := HD2.out ad e h; rcases hs with e | e <;> omega) (fun ad e h hs => by have := HD3.out ad e h; rcases hs with e | e <;> omega), hbl, fun ad e h => by have h1 := HD2.out ad e h; omega, fun ad e h => by have h1 := HD3.out ad e h; omega⟩
end Go.Proofs.Ytgmbfecfkdbfaaa.Wi
/- Two deltas, held against each other; a row of tokens written in place. -/
set_option linter.unusedVariables false
set_option linter.unusedSimpArgs false
namespace Go.Proofs.Ytgmbfecfkdbfaaa.Wi
open Go Go.RowKit Go.Proofs.YtgmbfecfkdbfaaaW.PrintWords
set_option maxHeartbeats 8000000 in
set_option maxRecDepth 100000 in
theorem sameToks_calls (A B : Option Addr) (cA cB : Nat) (xs : List ByteArray) (w : World) (hx : ElAt encStr 1 w A xs) (hy : ElAt encStr 1 w B xs) (hl : xs.length ≤ 9223372036854775807) :
    Calls Try.prog 86 #[.slice A xs.length cA, .slice B xs.length cB] w fun e w' => e = .returned (.bool true) ∧ Below w.heap.size w w' := by
  have HX := Aside0.mk hx
  have HY := Aside0.mk hy
  clear hx hy
  go_enter Try.func86, Try.ntmps86
  go_wp2
  go_loopg [5] xs.length (fun gg s5 wr => ∃ (kk : Nat), kk ≤ xs.length ∧ xs.length - kk ≤ gg ∧ s5 = .int .i64 kk ∧ Aside0 (Below w.heap.size w wr))
  case atStart => exact ⟨0, by omega, by omega, rfl, ⟨Below.refl _ _⟩⟩
  case round =>
    obtain ⟨kk, hkk, hgg, rfl, HB⟩ := hrel
    by_cases hlt : kk < xs.length
    · have hltz : (kk : Int) < (xs.length : Int) := by omega
      obtain ⟨ad, rfl, c0⟩ := el1 (HX.out.below HB.out) kk hlt
      obtain ⟨ad', rfl, d0⟩ := el1 (HY.out.below HB.out) kk hlt
      generalize xs[kk] = x at *
      have hxx : (x.toList == x.toList) = true := beq_self_eq_true _
      go_wp2
      go_quiet (fail)
      go_wp2
      go_roundg (xs.length - (kk + 1))
      case measure => omega
      case rel => exact ⟨kk + 1, by omega, by omega, by go_num, ⟨below_drewN HB.out _⟩⟩
    · have hltz : ¬ (kk : Int) < (xs.length : Int) := by omega
      go_wp2
      go_ret
      exact ⟨rfl, HB.out⟩
set_option maxHeartbeats 8000000 in
set_option maxRecDepth 100000 in
theorem sameDelta_calls (n0 : Int) (l1 l2 : List ByteArray) (A1 : Option Addr) (c1 : Nat) (A2 : Option Addr) (c2 : Nat) (B1 : Option Addr) (d1 : Nat) (B2 : Option Addr) (d2 : Nat) (w : World) (hx : Delta.At w ⟨n0, l1, l2⟩ A1 c1 A2 c2) (hy : Delta.At w ⟨n0, l1, l2⟩ B1 d1 B2 d2) (hl1 : l1.length ≤ 9223372036854775807) (hl2 : l2.length ≤ 9223372036854775807) :
    Calls Try.prog 37 #[.agg #[.int .i64 n0, .slice A1 l1.length c1, .slice A2 l2.length c2], .agg #[.int .i64 n0, .slice B1 l1.length d1, .slice B2 l2.length d2]] w fun e w' => e = .returned (.bool true) ∧ Below w.heap.size w w' := by
  have C1 := Aside0.mk (fun W (h : Delta.At W ⟨n0, l1, l2⟩ A1 c1 A2 c2) (h' : Delta.At W ⟨n0, l1, l2⟩ B1 d1 B2 d2) => sameToks_calls A1 B1 c1 d1 l1 W h.e1 h'.e1 hl1)
  have C2 := Aside0.mk (fun W (h : Delta.At W ⟨n0, l1, l2⟩ A1 c1 A2 c2) (h' : Delta.At W ⟨n0, l1, l2⟩ B1 d1 B2 d2) => sameToks_calls A2 B2 c2 d2 l2 W h.e2 h'.e2 hl2)
  have HB0 := Aside0.mk (below2 (w := w) (.cells #[.int .i64 n0, .slice A1 l1.length c1, .slice A2 l2.length c2] 60) (.cells #[.int .i64 n0, .slice B1 l1.length d1, .slice B2 l2.length d2] 60))
  have HQ1 := Aside0.mk (two_0 w (.cells #[.int .i64 n0, .slice A1 l1.length c1, .slice A2 l2.length c2] 60) (.cells #[.int .i64 n0, .slice B1 l1.length d1, .slice B2 l2.length d2] 60))
  have HQ2 := Aside0.mk (two_1 w (.cells #[.int .i64 n0, .slice A1 l1.length c1, .slice A2 l2.length c2] 60) (.cells #[.int .i64 n0, .slice B1 l1.length d1, .slice B2 l2.length d2] 60))
  have HX := Aside0.mk (hx.below HB0.out)
  have HY := Aside0.mk (hy.below HB0.out)
  clear hx hy
  have x0 : _ = some (Value.int .i64 n0) := blk_cell HQ1.out 0
  have x1 : _ = some (Value.slice A1 l1.length c1) := blk_cell HQ1.out 1
  have y1 : _ = some (Value.slice B1 l1.length d1) := blk_cell HQ2.out 1
  go_enter Try.func37, Try.ntmps37
  go_wp2_with (go_at_call 86; first
    | ((with_reducible refine (C1.out _ HX.out HY.out).mono ?_); rintro e w1 ⟨rfl, hb1⟩; have HB1 := Aside0.mk hb1; have x2 : _ = some (Value.slice A2 l2.length c2) := blk_cell (blk_b HQ1.out hb1) 2; have y2 : _ = some (Value.slice B2 l2.length d2) := blk_cell (blk_b HQ2.out hb1) 2; clear hb1)
    | ((with_reducible refine (C2.out _ (HX.out.below HB1.out) (HY.out.below HB1.out)).mono ?_); rintro e w2 ⟨rfl, hb2⟩; have HB2 := Aside0.mk (below_then HB1.out HB1.out.size hb2); have x3 : _ = some (Value.int .i64 n0) := blk_cell (blk_b (blk_b HQ1.out HB1.out) hb2) 0; have y3 : _ = some (Value.int .i64 n0) := blk_cell (blk_b (blk_b HQ2.out HB1.out) hb2) 0; clear hb2))
  go_ret
  exact ⟨by first | rfl | (simp; done), below_then HB0.out HB0.out.size HB2.out⟩
theorem encStr_map (xs : List ByteArray) : xs.flatMap encStr = xs.map Value.string := by
  induction xs with
  | nil => rfl
  | cons x r ih => rw [List.flatMap_cons, ih]; rfl
/-- a token of a row of the call's own is written over -/
theorem RowAt.putS {E : TypeId} {base : Nat} {w : World} {v : Value} {ys : List ByteArray} (h : RowAt encStr E base w v ys) (k : Nat) (hk : k < ys.length) (z : ByteArray) :
    ∃ nb, v = .slice (some ⟨nb, 0, none⟩) ys.length ys.length ∧ base ≤ nb ∧ nb < w.heap.size ∧ w.cell? ⟨nb, k, none⟩ = some (.string (ys[k]'hk)) ∧ w.frozen? ⟨nb, k, none⟩ = false ∧ RowAt encStr E base (w.setCell ⟨nb, k, none⟩ (.string z)) v (ys.set k z) ∧ Fr (fun i => v.ownBlock = some i) w (w.setCell ⟨nb, k, none⟩ (.string z)) := by
  rcases h with ⟨rfl, _⟩ | ⟨hn, nb, hb, rfl, hq⟩
  · simp at hk
  · refine ⟨nb, rfl, hb, blk_lt hq, ?_, blk_frozen hq k, .inr ⟨by simpa using hn, nb, hb, by simp, ?_⟩, (Fr.refl (fun i => (Value.slice (some ⟨nb, 0, none⟩) ys.length ys.length).ownBlock = some i) w).set_ (p := ⟨nb, k, none⟩) (.inl rfl) _⟩
    · rw [blk_cell hq, encStr_map]
      simp [hk]
    · refine blk_put hq k _ ?_
      rw [encStr_map, encStr_map, List.map_set]
      simp
end Go.Proofs.Ytgmbfecfkdbfaaa.Wi
/- RecordDeltas: the walk. -/
set_option linter.unusedVariables false
set_option linter.unusedSimpArgs false
namespace Go.Proofs.Ytgmbfecfkdbfaaa.Wi
open Go Go.RowKit Go.Proofs.YtgmbfecfkdbfaaaW.PrintWords
theorem reads_keepc {W W' : World} {A : Option Addr} {n : Nat} {xs : List Int} (h : ReadsInt W .u8 A n xs) (hk : ∀ k, k < W.heap.size → (∃ ad, A = some ad ∧ ad.block = k) → W'.heap[k]? = W.heap[k]?) : ReadsInt W' .u8 A n xs := by
  refine ⟨h.1, h.2.1, fun hn => ?_⟩
  obtain ⟨ad, e, hc⟩ := h.2.2 hn
  refine ⟨ad, e, fun j hj => ?_⟩
  have h1 := hc j hj
  have hb := World.block_lt_of_cell? W _ h1
  rw [add_block] at hb
  rw [World.cell?_of_block (w := W) (by rw [add_block]; exact hk ad.block hb ⟨ad, e, rfl⟩)]
  exact h1
theorem RowAt.ownF {α : Type} {enc : α → List Value} {E : TypeId} {base : Nat} {w : World} {v : Value} {xs : List α} (h : RowAt enc E base w v xs) : ∀ k, v.ownBlock = some k → base ≤ k ∧ k < w.heap.size := fun k hk => ⟨(h.own k hk).1, (h.own k hk).2.1⟩
theorem Delta.out_len (t : Delta) : t.out.length ≤ 2000000000 := by
  unfold Delta.out
  split
  · rename_i h
    unfold WS.out
    split
    · simp
    · exact t.put_len h
  · simp
set_option maxHeartbeats 32000000 in
set_option maxRecDepth 100000 in
theorem recordDeltas_calls (t : Delta) (ht : t.Ok) (L1 : Option Addr) (k1 : Nat) (L2 : Option Addr) (k2 : Nat) (A : Option Addr) (c : Nat) (bs : List Int) (w : World) (hx : t.At w L1 k1 L2 k2) (hl1 : t.l1.length ≤ 9223372036854775807) (hl2 : t.l2.length ≤ 9223372036854775807) (hb : kB.C w A bs.length bs) (hc : bs.length ≤ c) (hbl : bs.length ≤ 140737488351232) :
    Calls Try.prog 7 #[t.val L1 k1 L2 k2, .slice A bs.length c] w fun e w' => e = .returned (.bool true) ∧ Below w.heap.size w w' := by
  obtain ⟨hrd, hby⟩ := kB_reads hb
  have HRD := Aside0.mk hrd
  have HAT := Aside0.mk hx
  have CT := Aside0.mk (fun W (h : t.At W L1 k1 L2 k2) => recDelta_calls t L1 k1 L2 k2 W ht h hl1 hl2)
  have CF := Aside0.mk (fun W (h : t.At W L1 k1 L2 k2) => refDelta_calls t L1 k1 L2 k2 W ht h hl1 hl2)
  have CL := Aside0.mk (fun (W : World) (h : ReadsInt W .u8 A bs.length bs) => lent8_calls A c bs W h hc hbl)
  have CR := Aside0.mk (fun (A : Option Addr) (c : Nat) (W : World) (h : ReadsInt W .u8 A bs.length bs) => recReadDelta_calls A c bs W h hby (by omega))
  have CX := Aside0.mk (fun (W : World) (h : ReadsInt W .u8 A bs.length bs) => refReadDelta_calls A c bs W h hc hby (by omega))
  have HPL : (Delta.ofBytes bs).1.l1.length ≤ 1000 ∧ (Delta.ofBytes bs).1.l2.length ≤ 1000 := by
    have h := Delta.read_len bs ⟨0, 0, 0, 0⟩
    unfold Delta.ofBytes
    simp only
    split
    · split
      · exact h
      · exact ⟨by simp [Delta.zero], by simp [Delta.zero]⟩
    · exact ⟨by simp [Delta.zero], by simp [Delta.zero]⟩
  unfold Delta.EPost at CX
  unfold Delta.RPost at CR
  obtain ⟨⟨⟨m0, x1, x2⟩, c0, c1⟩, hp⟩ : ∃ p, Delta.ofBytes bs = p := ⟨_, rfl⟩
  rw [hp] at CR CX HPL
  unfold BytesPost at CT
  unfold Delta.FPost at CF
  unfold Delta.val at CT CF ⊢
  obtain ⟨n0, l1, l2⟩ := t
  simp only at CT CF CR CX HPL ⊢
  have SD := Aside0.mk (fun A1 a1 A2 a2 B1 b1 B2 b2 W (h : Delta.At W ⟨m0, x1, x2⟩ A1 a1 A2 a2) (h' : Delta.At W ⟨m0, x1, x2⟩ B1 b1 B2 b2) => sameDelta_calls m0 x1 x2 A1 a1 A2 a2 B1 b1 B2 b2 W h h' (by omega) (by omega))
  generalize Delta.out ⟨n0, l1, l2⟩ = o at *
  generalize Delta.err ⟨n0, l1, l2⟩ = er at *
  have HLX := Aside0.mk HPL
  have hx1s : x1.length ≤ 1000 := HPL.1
  have hx2s : x2.length ≤ 1000 := HPL.2
  have HB0 := Aside0.mk (below1 (w := w) (.cells #[.int .i64 n0, .slice L1 l1.length k1, .slice L2 l2.length k2] 60))
  have HQ0 := Aside0.mk (heap_alloc_new w (.cells #[.int .i64 n0, .slice L1 l1.length k1, .slice L2 l2.length k2] 60))
  clear hb hrd hby hp ht hx HPL hl1 hl2
  go_enter Try.func7, Try.ntmps7
  go_upto_region 5 with (first
    | (go_at_call 9; refine (awake8_calls _).mono ?_; rintro e w1 ⟨rfl, hb1⟩; have HB1 := Aside0.mk (below_then HB0.out HB0.out.size hb1); have q1 := blk_b HQ0.out hb1; have HQ1 := Aside0.mk q1; have e10 : _ = some (Value.int .i64 n0) := blk_cell q1 0; have e11 : _ = some (Value.slice L1 l1.length k1) := blk_cell q1 1; have e12 : _ = some (Value.slice L2 l2.length k2) := blk_cell q1 2; have HA1 := Aside0.mk (HAT.out.below HB1.out); clear q1 hb1)
    | (go_at_call 33; refine (CT.out _ HA1.out).mono ?_; rintro e w2 ⟨v2, rfl, ho2, hb2⟩; obtain ⟨A2, c2, _, hv2, _, hr2⟩ := own_reads'' ho2; subst hv2; have HR2 := Aside0.mk hr2; have HB2 := Aside0.mk (below_then HB1.out HB1.out.size hb2); have q2 := blk_b HQ1.out hb2; have HQ2 := Aside0.mk q2; have e20 : _ = some (Value.int .i64 n0) := blk_cell q2 0; have e21 : _ = some (Value.slice L1 l1.length k1) := blk_cell q2 1; have e22 : _ = some (Value.slice L2 l2.length k2) := blk_cell q2 2; have HA2 := Aside0.mk (HAT.out.below HB2.out); clear q2 ho2 hr2 hb2)
    | (go_at_call 34; refine (CF.out _ HA2.out).mono ?_; rintro e w3 ⟨A3, c3, rfl, hr3, hb3⟩; have HR3 := Aside0.mk hr3; have HP2 := Aside0.mk (HR2.out.below hb3); have HB3 := Aside0.mk (below_then HB2.out HB2.out.size hb3); have HD3 := Aside0.mk (HRD.out.below HB3.out); clear hr3 hb3)
    | (go_at_call 12; refine (CL.out _ HD3.out).mono ?_; rintro e w4 ⟨gl, cl, rfl, hcl, ho4, hgl, hb4⟩; have HCL := Aside0.mk hcl; have HO4 := Aside0.mk ho4; have HGL := Aside0.mk hgl; have HB4 := Aside0.mk (below_then HB3.out HB3.out.size hb4); have HP3 := Aside0.mk (HP2.out.below hb4); have HP4 := Aside0.mk (HR3.out.below hb4); have HD4 := Aside0.mk (HRD.out.below HB4.out); clear hcl ho4 hgl hb4))
  have HIN := Aside0.mk (show ReadsInt w4 .u8 (some ⟨gl, 0, none⟩) bs.length bs from by
    obtain ⟨A', c', h1, _, h2⟩ := own_reads' HO4.out
    injection h1 with h1 _ _
    subst h1
    have h3 := ReadsInt.take_ h2 bs.length (by omega)
    rwa [show (bs ++ [(171 : Int), 172]).take bs.length = bs by simp] at h3)
  have HGLT := Aside0.mk (show gl < w4.heap.size from own_lt HO4.out gl rfl)
  have HGW := Aside0.mk (show w.heap.size ≤ gl from Nat.le_trans HB3.out.size HGL.out)
  have FARO := Aside0.mk (show ∀ ad, A2 = some ad ∨ A3 = some ad ∨ A = some ad → ad.block ≠ gl ∨ True from fun _ _ => .inr trivial)
  have F2 := Aside0.mk (show 0 < o.length → ∀ ad, A2 = some ad → ad.block < gl from fun hn ad ea => by
    obtain ⟨ad', e', hcell⟩ := HP2.out.2.2 hn
    rw [ea] at e'
    obtain rfl := Option.some.inj e'
    have := World.block_lt_of_cell? w3 _ (hcell 0 hn)
    rw [add_block] at this
    have := HGL.out
    omega)
  have F3 := Aside0.mk (show 0 < o.length → ∀ ad, A3 = some ad → ad.block < gl from fun hn ad ea => by
    obtain ⟨ad', e', hcell⟩ := HR3.out.2.2 hn
    rw [ea] at e'
    obtain rfl := Option.some.inj e'
    have := World.block_lt_of_cell? w3 _ (hcell 0 hn)
    rw [add_block] at this
    have := HGL.out
    omega)
  have FA := Aside0.mk (show 0 < bs.length → ∀ ad, A = some ad → ad.block < gl from fun hn ad ea => by
    obtain ⟨ad', e', hcell⟩ := HD3.out.2.2 hn
    rw [ea] at e'
    obtain rfl := Option.some.inj e'
    have := World.block_lt_of_cell? w3 _ (hcell 0 hn)
    rw [add_block] at this
    have := HGL.out
    omega)
  clear FARO HB0 HB1 HB2 HQ0 HQ1 HQ2 HA1 HA2 HR2 HR3 HP2 HB3 HD3 HRD HAT HGL CT CF CL
  go_upto_region 6 with (go_at_call 35; refine (CR.out _ cl _ HIN.out).mono ?_; rintro e w5 ⟨u1, u2, rfl, ru1, ru2, ju, hb5⟩; obtain ⟨U1, hu1⟩ := ru1.slice; subst hu1; obtain ⟨U2, hu2⟩ := ru2.slice; subst hu2; have HU1 := Aside0.mk ru1; have HU2 := Aside0.mk ru2; have HJU := Aside0.mk ju; have HC5 := Aside0.mk hb5; clear ru1 ru2 ju hb5)
  have hn5 := below2 (w := w5) (.cells #[.int .i64 m0, .slice U1 x1.length x1.length, .slice U2 x2.length x2.length] 60) (.cells #[.int .i64 c0, .int .i64 c1] 31)
  have hd5 := below_then HC5.out HC5.out.size hn5
  have HQU := Aside0.mk (two_0 w5 (.cells #[.int .i64 m0, .slice U1 x1.length x1.length, .slice U2 x2.length x2.length] 60) (.cells #[.int .i64 c0, .int .i64 c1] 31))
  have HQH := Aside0.mk (two_1 w5 (.cells #[.int .i64 m0, .slice U1 x1.length x1.length, .slice U2 x2.length x2.length] 60) (.cells #[.int .i64 c0, .int .i64 c1] 31))
  have HB5 := Aside0.mk (below_then HB4.out HB4.out.size hd5)
  have HU1' := Aside0.mk (HU1.out.below hn5)
  have HU2' := Aside0.mk (HU2.out.below hn5)
  have HO5 := Aside0.mk ((Fr.of_below (S := fun _ => False) hd5).own HO4.out (fun _ _ h => h))
  have HIN5 := Aside0.mk (HIN.out.below hd5)
  have HP5 := Aside0.mk (HP3.out.below hd5)
  have HP6 := Aside0.mk (HP4.out.below hd5)
  have HD5 := Aside0.mk (HD4.out.below hd5)
  have HUB := Aside0.mk (show (∀ k, (Value.slice U1 x1.length x1.length).ownBlock = some k → w4.heap.size ≤ k ∧ k < w5.heap.size) ∧ (∀ k, (Value.slice U2 x2.length x2.length).ownBlock = some k → w4.heap.size ≤ k ∧ k < w5.heap.size) from ⟨HU1.out.ownF, HU2.out.ownF⟩)
  have HG45 := Aside0.mk (show gl < w5.heap.size from by have := HGLT.out; have := HC5.out.size; omega)
  have HU45 := Aside0.mk (show w4.heap.size ≤ w5.heap.size from HC5.out.size)
  clear hn5 hd5 HU1 HU2 HO4 HIN HP3 HP4 HD4 HB4 HC5
  generalize (w5.alloc (.cells #[.int .i64 m0, .slice U1 x1.length x1.length, .slice U2 x2.length x2.length] 60)).alloc (.cells #[.int .i64 c0, .int .i64 c1] 31) = y5 at *
  generalize w5.heap.size = gu at *
  go_upto_region 7 with (go_at_call 35; refine (CR.out _ cl _ HIN5.out).mono ?_; rintro e w6 ⟨z1, z2, rfl, rz1, rz2, jz, hb6⟩; obtain ⟨V1, hz1⟩ := rz1.slice; subst hz1; obtain ⟨V2, hz2⟩ := rz2.slice; subst hz2; have HV1 := Aside0.mk rz1; have HV2 := Aside0.mk rz2; have HC6 := Aside0.mk hb6; clear rz1 rz2 jz hb6)
  have hn6 := below2 (w := w6) (.cells #[.int .i64 m0, .slice V1 x1.length x1.length, .slice V2 x2.length x2.length] 60) (.cells #[.int .i64 c0, .int .i64 c1] 31)
  have hd6 := below_then HC6.out HC6.out.size hn6
  have HQW := Aside0.mk (two_0 w6 (.cells #[.int .i64 m0, .slice V1 x1.length x1.length, .slice V2 x2.length x2.length] 60) (.cells #[.int .i64 c0, .int .i64 c1] 31))
  have HQK := Aside0.mk (two_1 w6 (.cells #[.int .i64 m0, .slice V1 x1.length x1.length, .slice V2 x2.length x2.length] 60) (.cells #[.int .i64 c0, .int .i64 c1] 31))
  have HB6 := Aside0.mk (below_then HB5.out HB5.out.size hd6)
  have HV1' := Aside0.mk (HV1.out.below hn6)
  have HV2' := Aside0.mk (HV2.out.below hn6)
  have HU1'' := Aside0.mk (HU1'.out.below hd6)
  have HU2'' := Aside0.mk (HU2'.out.below hd6)
  have HQU' := Aside0.mk (blk_b HQU.out hd6)
  have HQH' := Aside0.mk (blk_b HQH.out hd6)
  have HO6 := Aside0.mk ((Fr.of_below (S := fun _ => False) hd6).own HO5.out (fun _ _ h => h))
  have HP7 := Aside0.mk (HP5.out.below hd6)
  have HP8 := Aside0.mk (HP6.out.below hd6)
  have HD6 := Aside0.mk (HD5.out.below hd6)
  have HVB := Aside0.mk (show (∀ k, (Value.slice V1 x1.length x1.length).ownBlock = some k → y5.heap.size ≤ k ∧ k < w6.heap.size) ∧ (∀ k, (Value.slice V2 x2.length x2.length).ownBlock = some k → y5.heap.size ≤ k ∧ k < w6.heap.size) from ⟨HV1.out.ownF, HV2.out.ownF⟩)
  have HY5 := Aside0.mk (show gu + 1 < y5.heap.size ∧ y5.heap.size ≤ w6.heap.size from ⟨blk_lt HQH.out, HC6.out.size⟩)
  clear hn6 hd6 HV1 HV2 HU1' HU2' HQU HQH HO5 HIN5 HP5 HP6 HD5 HB5 HC6
  generalize (w6.alloc (.cells #[.int .i64 m0, .slice V1 x1.length x1.length, .slice V2 x2.length x2.length] 60)).alloc (.cells #[.int .i64 c0, .int .i64 c1] 31) = y6 at *
  generalize w6.heap.size = gw at *
  have HOK := Aside0.mk (own_upto HO6.out (base' := w.heap.size) (fun k hk => by obtain rfl := Option.some.inj hk; exact HGW.out))
  go_upto_region 8 with (go_at_call 14; refine (kept_calls A c cl bs w.heap.size gl _ HD6.out hbl HCL.out HOK.out).mono ?_; rintro e w7 ⟨rfl, f7⟩; have HF7 := Aside0.mk f7; clear f7)
  have hsz7 := HF7.out.size
  have HV1k := Aside0.mk (HV1'.out.keep HF7.out (fun k hk hs => by have h1 := HVB.out.1 k hk; have h2 := HG45.out; have h3 := HY5.out; omega))
  have HV2k := Aside0.mk (HV2'.out.keep HF7.out (fun k hk hs => by have h1 := HVB.out.2 k hk; have h2 := HG45.out; have h3 := HY5.out; omega))
  have HU1k := Aside0.mk (HU1''.out.keep HF7.out (fun k hk hs => by have h1 := HUB.out.1 k hk; have h2 := HGLT.out; omega))
  have HU2k := Aside0.mk (HU2''.out.keep HF7.out (fun k hk hs => by have h1 := HUB.out.2 k hk; have h2 := HGLT.out; omega))
  have HQUk := Aside0.mk (HF7.out.blk HQU'.out (by have h2 := HG45.out; omega))
  have HQHk := Aside0.mk (HF7.out.blk HQH'.out (by have h2 := HG45.out; omega))
  have HQWk := Aside0.mk (HF7.out.blk HQW.out (by have h2 := HG45.out; have h3 := HY5.out; omega))
  have HQKk := Aside0.mk (HF7.out.blk HQK.out (by have h2 := HG45.out; have h3 := HY5.out; omega))
  have HPa := Aside0.mk (show ReadsInt w7 .u8 A2 o.length o from ⟨HP7.out.1, HP7.out.2.1, fun hn => (reads_keepc HP7.out (fun k hk ⟨ad, e, h⟩ => HF7.out.block k hk (by have := F2.out hn ad e; omega))).2.2 hn⟩)
  have HPb := Aside0.mk (show ReadsInt w7 .u8 A3 o.length o from ⟨HP8.out.1, HP8.out.2.1, fun hn => (reads_keepc HP8.out (fun k hk ⟨ad, e, h⟩ => HF7.out.block k hk (by have := F3.out hn ad e; omega))).2.2 hn⟩)
  have HD7 := Aside0.mk (show ReadsInt w7 .u8 A bs.length bs from ⟨HD6.out.1, HD6.out.2.1, fun hn => (reads_keepc HD6.out (fun k hk ⟨ad, e, h⟩ => HF7.out.block k hk (by have := FA.out hn ad e; omega))).2.2 hn⟩)
  have HB7 := Aside0.mk (HB6.out.trans (HF7.out.below HB6.out.size (fun i hi => by subst hi; exact HGW.out)))
  have HY7 := Aside0.mk (show gw + 1 < w7.heap.size from blk_lt HQKk.out)
  clear HV1' HV2' HU1'' HU2'' HQU' HQH' HQW HQK HP7 HP8 HD6 HO6 HOK HF7 HB6 hsz7
  go_upto_region 9 with (go_at_call 36; refine (CX.out _ HD7.out).mono ?_; rintro e w8 ⟨B1, d1, B2, d2, rfl, at8, hb8, bb1, bb2⟩; have HC8 := Aside0.mk hb8; have HT8 := Aside0.mk at8; have HBB := Aside0.mk (And.intro bb1 bb2); clear at8 hb8 bb1 bb2)
  have hn8 := below2 (w := w8) (.cells #[.int .i64 m0, .slice B1 x1.length d1, .slice B2 x2.length d2] 60) (.cells #[.int .i64 c0, .int .i64 c1] 31)
  have hd8 := below_then HC8.out HC8.out.size hn8
  have HQV := Aside0.mk (two_0 w8 (.cells #[.int .i64 m0, .slice B1 x1.length d1, .slice B2 x2.length d2] 60) (.cells #[.int .i64 c0, .int .i64 c1] 31))
  have HQI := Aside0.mk (two_1 w8 (.cells #[.int .i64 m0, .slice B1 x1.length d1, .slice B2 x2.length d2] 60) (.cells #[.int .i64 c0, .int .i64 c1] 31))
  have HTV := Aside0.mk (HT8.out.below hn8)
  have HB8 := Aside0.mk (below_then HB7.out HB7.out.size hd8)
  have HV1 := Aside0.mk (HV1k.out.below hd8)
  have HV2 := Aside0.mk (HV2k.out.below hd8)
  have HU1 := Aside0.mk (HU1k.out.below hd8)
  have HU2 := Aside0.mk (HU2k.out.below hd8)
  have HQU := Aside0.mk (blk_b HQUk.out hd8)
  have HQH := Aside0.mk (blk_b HQHk.out hd8)
  have HQW := Aside0.mk (blk_b HQWk.out hd8)
  have HQK := Aside0.mk (blk_b HQKk.out hd8)
  have HRA := Aside0.mk (HPa.out.below hd8)
  have HRB := Aside0.mk (HPb.out.below hd8)
  have HY8 := Aside0.mk (show gw + 1 < w8.heap.size from Nat.lt_of_lt_of_le HY7.out HC8.out.size)
  clear hn8 hd8 HT8 HB7 HV1k HV2k HU1k HU2k HQUk HQHk HQWk HQKk HPa HPb HD7 HC8
  generalize (w8.alloc (.cells #[.int .i64 m0, .slice B1 x1.length d1, .slice B2 x2.length d2] 60)).alloc (.cells #[.int .i64 c0, .int .i64 c1] 31) = y8 at *
  generalize w8.heap.size = gv at *
  have uu0 : _ = some (Value.int .i64 m0) := blk_cell HQU.out 0
  have uu1 : _ = some (Value.slice U1 x1.length x1.length) := blk_cell HQU.out 1
  have uu2 : _ = some (Value.slice U2 x2.length x2.length) := blk_cell HQU.out 2
  have vv0 : _ = some (Value.int .i64 m0) := blk_cell HQV.out 0
  have vv1 : _ = some (Value.slice B1 x1.length d1) := blk_cell HQV.out 1
  have vv2 : _ = some (Value.slice B2 x2.length d2) := blk_cell HQV.out 2
  have HAU := Aside0.mk (show Delta.At y8 ⟨m0, x1, x2⟩ U1 x1.length U2 x2.length from by
    obtain ⟨a1, e1, h1⟩ := HU1.out.el (m := 1) (fun _ => rfl)
    injection e1 with e1 _ _
    obtain ⟨a2, e2, h2⟩ := HU2.out.el (m := 1) (fun _ => rfl)
    injection e2 with e2 _ _
    subst e1 e2
    exact ⟨h1, h2⟩)
  go_upto_region 10 with (go_at_call 37; refine (SD.out _ _ _ _ _ _ _ _ _ HAU.out HTV.out).mono ?_; rintro e w9 ⟨rfl, hb9⟩; have HC9 := Aside0.mk hb9; clear hb9)
  have HS9 := HC9.out
  have HB9 := Aside0.mk (below_then HB8.out HB8.out.size HS9)
  have MV1 := Aside0.mk (HV1.out.below HS9)
  have MV2 := Aside0.mk (HV2.out.below HS9)
  have MU1 := Aside0.mk (HU1.out.below HS9)
  have MU2 := Aside0.mk (HU2.out.below HS9)
  have MQU := Aside0.mk (blk_b HQU.out HS9)
  have MQH := Aside0.mk (blk_b HQH.out HS9)
  have MQW := Aside0.mk (blk_b HQW.out HS9)
  have MQK := Aside0.mk (blk_b HQK.out HS9)
  have MQV := Aside0.mk (blk_b HQV.out HS9)
  have MQI := Aside0.mk (blk_b HQI.out HS9)
  have MTV := Aside0.mk (HTV.out.below HS9)
  have MRA := Aside0.mk (HRA.out.below HS9)
  have MRB := Aside0.mk (HRB.out.below HS9)
  clear HS9 uu0 uu1 uu2 vv0 vv1 vv2 HV1 HV2 HU1 HU2 HQU HQH HQW HQK HQV HQI HTV HRA HRB HAU HC9 HB8
  have HGO := Aside0.mk (show w.heap.size ≤ w4.heap.size from by have := HGW.out; have := HGLT.out; omega)
  go_wp2
  go_loopg [19] x1.length (fun gg s19 wr => ∃ (kk : Nat) (ys : List ByteArray), kk ≤ x1.length ∧ x1.length - kk ≤ gg ∧ s19 = .int .i64 kk ∧ ys.length = x1.length ∧ Aside0 (RowAt encStr 9 w4.heap.size wr (.slice U1 x1.length x1.length) ys) ∧ Aside0 (Fr (fun i => (Value.slice U1 x1.length x1.length).ownBlock = some i) w9 wr))
  case atStart => exact ⟨0, x1, by omega, by omega, rfl, rfl, MU1, ⟨Fr.refl _ _⟩⟩
  case round =>
    obtain ⟨kk, ys, hkk, hgg, rfl, hys, HY, HF⟩ := hrel
    have q9 := HF.out.blk MQU.out (fun e => by have := HUB.out.1 _ e; omega)
    have uu1 : _ = some (Value.slice U1 x1.length x1.length) := blk_cell q9 1
    clear q9
    have HYS := Aside0.mk hys
    clear hys
    by_cases hlt : kk < x1.length
    · have hltz : (kk : Int) < (x1.length : Int) := by omega
      obtain ⟨nb, hnb, hnb2, hnb3, hcell, hfro, hrow, hfr⟩ := HY.out.putS kk (by have := HYS.out; omega) ⟨#[115, 112, 111, 105, 108, 116]⟩
      injection hnb with hnb _ _
      subst hnb
      have HR1 := Aside0.mk hrow
      have HF1 := Aside0.mk (HF.out.trans hfr (fun _ _ h => h))
      clear hrow hfr hnb2 hnb3
      go_wp2
      go_roundg (x1.length - (kk + 1))
      case measure => omega
      case rel => exact ⟨kk + 1, _, by omega, by omega, by go_num, by rw [List.length_set]; exact HYS.out, HR1, HF1⟩
    · have hltz : ¬ (kk : Int) < (x1.length : Int) := by omega
      have HF9 := HF
      clear HF
      go_wp2
      have NU2 := Aside0.mk (MU2.out.keep HF9.out (fun k hk hs => HJU.out k hs hk))
      clear uu1
      generalize wr = wo at *
      go_loopg [20] x2.length (fun g2 s20 wr => ∃ (jj : Nat) (zs : List ByteArray), jj ≤ x2.length ∧ x2.length - jj ≤ g2 ∧ s20 = .int .i64 jj ∧ zs.length = x2.length ∧ Aside0 (RowAt encStr 9 w4.heap.size wr (.slice U2 x2.length x2.length) zs) ∧ Aside0 (Fr (fun i => (Value.slice U2 x2.length x2.length).ownBlock = some i) wo wr))
      case atStart => exact ⟨0, x2, by omega, by omega, rfl, rfl, NU2, ⟨Fr.refl _ _⟩⟩
      case round =>
        obtain ⟨jj, zs, hjj, hg2, rfl, hzs, HZ, HF2⟩ := hrel
        have q9 := HF2.out.blk (HF9.out.blk MQU.out (fun e => by have := HUB.out.1 _ e; omega)) (fun e => by have := HUB.out.2 _ e; omega)
        have uu1 : _ = some (Value.slice U1 x1.length x1.length) := blk_cell q9 1
        have uu2 : _ = some (Value.slice U2 x2.length x2.length) := blk_cell q9 2
        have HQ9 := Aside0.mk q9
        clear q9
        have HZS := Aside0.mk hzs
        clear hzs
        by_cases hlt2 : jj < x2.length
        · have hltz2 : (jj : Int) < (x2.length : Int) := by omega
          obtain ⟨nb, hnb, hnb2, hnb3, hcell, hfro, hrow, hfr⟩ := HZ.out.putS jj (by have := HZS.out; omega) ⟨#[115, 112, 111, 105, 108, 116]⟩
          injection hnb with hnb _ _
          subst hnb
          have HR1 := Aside0.mk hrow
          have HF1 := Aside0.mk (HF2.out.trans hfr (fun _ _ h => h))
          clear hrow hfr hnb2 hnb3 uu1
          go_wp2
          go_roundg (x2.length - (jj + 1))
          case measure => omega
          case rel => exact ⟨jj + 1, _, by omega, by omega, by go_num, by rw [List.length_set]; exact HZS.out, HR1, HF1⟩
        · have hltz2 : ¬ (jj : Int) < (x2.length : Int) := by omega
          have HYQ := Aside0.mk (HY.out.keep HF2.out (fun k hk hs => HJU.out k hk hs))
          have HFQ := Aside0.mk (show Fr (fun i => (Value.slice U1 x1.length x1.length).ownBlock = some i ∨ (Value.slice U2 x2.length x2.length).ownBlock = some i) w9 wr from (HF9.out.mono (fun i _ h => .inl h)).trans HF2.out (fun _ _ h => .inr h))
          have hbm := below1 (w := wr) (.cells #[.string ⟨#[109, 111, 114, 101]⟩] 9)
          have HEM := Aside0.mk (el_oneS wr 9 ⟨#[109, 111, 114, 101]⟩)
          have HOW := Aside0.mk (show (wr.alloc (.cells #[.string ⟨#[109, 111, 114, 101]⟩] 9)).ownsRow w4.heap.size 9 1 (.slice U1 x1.length x1.length) ys.length (ys.flatMap encStr) from (HYQ.out.below hbm).owns (fun _ => rfl) (by have := HYS.out; omega))
          have HLS := Aside0.mk (show w4.heap.size ≤ (wr.alloc (.cells #[.string ⟨#[109, 111, 114, 101]⟩] 9)).heap.size from by have h1 := hbm.size; have h2 := HFQ.out.size; have h3 := HY8.out; have h4 := HY5.out; have h5 := HG45.out; have h6 := blk_lt MQU.out; have h7 := HU45.out; omega)
          have HFM := Aside0.mk (HFQ.out.then_below hbm)
          have HQM := Aside0.mk (blk_b HQ9.out hbm)
          clear hbm HYQ HFQ HZ HF2 HQ9
          go_upto_region 19 with (refine gate_ (.call { callee := .builtin .append, args := #[.tmp 79, .tmp 80], argTypes := #[58, 58] }) rfl ?_; refine wpList_append_els (enc := encStr) w4.heap.size rfl _ (.tmp 80) 58 9 _ 1 16 rfl (fun _ => rfl) one_Str Try.underlying58 infoStr (by decide) (by decide) (by decide) (.slice U1 x1.length x1.length) ys [(⟨#[109, 111, 114, 101]⟩ : ByteArray)] (some ⟨wr.heap.size, 0, none⟩) 1 1 rfl (by rfl) (by rfl) HOW.out HEM.out HLS.out (by have := HYS.out; simp only [List.length_cons, List.length_nil]; omega) ?_; intro va wa hoa hga _; obtain ⟨AA, cc, hva, _, _⟩ := owns_el hoa (fun _ => rfl); subst hva; have HGA := Aside0.mk ((Fr.refl (fun i => (Value.slice U1 x1.length x1.length).ownBlock = some i) (wr.alloc (.cells #[.string ⟨#[109, 111, 114, 101]⟩] 9))).grown hga (fun k hk => .inl hk)); have hqa := HGA.out.blk HQM.out (fun e => by have := HUB.out.1 _ e; omega); have HQA := Aside0.mk hqa; have xx1 : _ = some (Value.slice U1 x1.length x1.length) := blk_cell hqa 1; have zz1 := blk_frozen hqa 1; clear hqa hoa hga)
          have HLA := Aside0.mk (show (ys ++ [(⟨#[109, 111, 114, 101]⟩ : ByteArray)]).length = x1.length + 1 from by rw [List.length_append, List.length_singleton, HYS.out])
          first | rw [HLA.out] | rw [HYS.out]
          have HFZ := Aside0.mk (show Fr (fun i => (Value.slice U1 x1.length x1.length).ownBlock = some i ∨ (Value.slice U2 x2.length x2.length).ownBlock = some i ∨ i = gu) w9 (wa.setCell ⟨gu, 1, none⟩ (.slice AA (x1.length + 1) cc)) from ((HFM.out.mono (fun i _ h => h.elim .inl (fun h => .inr (.inl h)))).trans HGA.out (fun _ _ h => .inl h)).set_ (p := ⟨gu, 1, none⟩) (.inl (.inr (.inr rfl))) _)
          have HQZ := Aside0.mk (blk_set HQA.out 1 (.slice AA (x1.length + 1) cc))
          clear HQA HGA HFM HQM HOW HEM HLS xx1 zz1
          generalize wa.setCell ⟨gu, 1, none⟩ (.slice AA (x1.length + 1) cc) = wz at *
          have hno : ∀ k, gu < k → ¬ ((Value.slice U1 x1.length x1.length).ownBlock = some k ∨ (Value.slice U2 x2.length x2.length).ownBlock = some k ∨ k = gu) := fun k hk h => by
            rcases h with h | h | h
            · have := HUB.out.1 _ h; omega
            · have := HUB.out.2 _ h; omega
            · omega
          have hlo : ∀ k, k < w4.heap.size → ¬ ((Value.slice U1 x1.length x1.length).ownBlock = some k ∨ (Value.slice U2 x2.length x2.length).ownBlock = some k ∨ k = gu) := fun k hk h => by
            rcases h with h | h | h
            · have := HUB.out.1 _ h; omega
            · have := HUB.out.2 _ h; omega
            · have := HG45.out; have := HU45.out; omega
          have ZV1 := Aside0.mk (MV1.out.keep HFZ.out (fun k hk => hno k (by have := HVB.out.1 k hk; have := HY5.out; omega)))
          have ZV2 := Aside0.mk (MV2.out.keep HFZ.out (fun k hk => hno k (by have := HVB.out.2 k hk; have := HY5.out; omega)))
          have ZQH := Aside0.mk (HFZ.out.blk MQH.out (hno _ (by omega)))
          have ZQW := Aside0.mk (HFZ.out.blk MQW.out (hno _ (by have := HY5.out; omega)))
          have ZQK := Aside0.mk (HFZ.out.blk MQK.out (hno _ (by have := HY5.out; omega)))
          have ZQV := Aside0.mk (HFZ.out.blk MQV.out (hno _ (by have := HY5.out; have := HY8.out; omega)))
          have ZQI := Aside0.mk (HFZ.out.blk MQI.out (hno _ (by have := HY5.out; have := HY8.out; omega)))
          have ZTV := Aside0.mk (MTV.out.keep HFZ.out (fun ad e h => hno _ (by have := HBB.out.1 ad e h; have := HY7.out; have := HY5.out; omega)) (fun ad e h => hno _ (by have := HBB.out.2 ad e h; have := HY7.out; have := HY5.out; omega)))
          have ZRA := Aside0.mk (show ReadsInt wz .u8 A2 o.length o from ⟨MRA.out.1, MRA.out.2.1, fun hn => (reads_keepc MRA.out (fun k hk ⟨ad, e, h⟩ => HFZ.out.block k hk (hlo k (by have := F2.out hn ad e; have := HGLT.out; omega)))).2.2 hn⟩)
          have ZRB := Aside0.mk (show ReadsInt wz .u8 A3 o.length o from ⟨MRB.out.1, MRB.out.2.1, fun hn => (reads_keepc MRB.out (fun k hk ⟨ad, e, h⟩ => HFZ.out.block k hk (hlo k (by have := F3.out hn ad e; have := HGLT.out; omega)))).2.2 hn⟩)
          have ZB := Aside0.mk (HB9.out.trans (HFZ.out.below HB9.out.size (fun i hi => by
            rcases Nat.lt_or_ge i w4.heap.size with h | h
            · exact absurd hi (hlo i h)
            · have := HGO.out; omega)))
          have ww0 : _ = some (Value.int .i64 m0) := blk_cell ZQW.out 0
          have ww1 : _ = some (Value.slice V1 x1.length x1.length) := blk_cell ZQW.out 1
          have ww2 : _ = some (Value.slice V2 x2.length x2.length) := blk_cell ZQW.out 2
          have vv0 : _ = some (Value.int .i64 m0) := blk_cell ZQV.out 0
          have vv1 : _ = some (Value.slice B1 x1.length d1) := blk_cell ZQV.out 1
          have vv2 : _ = some (Value.slice B2 x2.length d2) := blk_cell ZQV.out 2
          have ZAW := Aside0.mk (show Delta.At wz ⟨m0, x1, x2⟩ V1 x1.length V2 x2.length from by
            obtain ⟨a1, e1, h1⟩ := ZV1.out.el (m := 1) (fun _ => rfl)
            injection e1 with e1 _ _
            obtain ⟨a2, e2, h2⟩ := ZV2.out.el (m := 1) (fun _ => rfl)
            injection e2 with e2 _ _
            subst e1 e2
            exact ⟨h1, h2⟩)
          clear hno hlo
          go_upto_region 20 with (go_at_call 37; refine (SD.out _ _ _ _ _ _ _ _ _ ZAW.out ZTV.out).mono ?_; rintro e wk ⟨rfl, hbk⟩; have HCK := Aside0.mk hbk; clear hbk)
          have hck := HCK.out
          have SX := Aside0.mk (same_eq A2 A3 c2 c3 o wk (ZRA.out.below hck) (ZRB.out.below hck))
          have h0 : _ = some (Value.int .i64 c0) := blk_cell (blk_b ZQH.out hck) 0
          have h1 : _ = some (Value.int .i64 c1) := blk_cell (blk_b ZQH.out hck) 1
          have i0 : _ = some (Value.int .i64 c0) := blk_cell (blk_b ZQI.out hck) 0
          have i1 : _ = some (Value.int .i64 c1) := blk_cell (blk_b ZQI.out hck) 1
          have q0 : _ = some (Value.int .i64 c0) := blk_cell (blk_b ZQK.out hck) 0
          have q1 : _ = some (Value.int .i64 c1) := blk_cell (blk_b ZQK.out hck) 1
          have r1 : wk.cell? ⟨gu, 1, none⟩ = some (Value.slice AA (x1.length + 1) cc) := (blk_cell (blk_b HQZ.out hck) 1).trans (by simp)
          have s1 : _ = some (Value.slice B1 x1.length d1) := blk_cell (blk_b ZQV.out hck) 1
          have HEND := Aside0.mk (below_then ZB.out ZB.out.size hck)
          clear hck ww0 ww1 ww2 vv0 vv1 vv2 hltz hltz2 hlt hlt2
          go_wp2_with (go_at_call 16; (with_reducible refine SX.out.mono ?_); rintro e wb ⟨rfl, rfl⟩)
          go_ret
          exact ⟨by first | rfl | (simp; done), HEND.out⟩
end Go.Proofs.Ytgmbfecfkdbfaaa.Wi
