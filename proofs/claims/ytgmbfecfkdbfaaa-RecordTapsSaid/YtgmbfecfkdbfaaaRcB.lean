/- A record's pieces, laid down where the side reads. -/
import Derived.Test.YtgmbfecfkdbfaaaRcA
set_option linter.unusedVariables false
set_option linter.unusedSimpArgs false
namespace Go.Proofs.Ytgmbfecfkdbfaaa.Wi
open Go Go.RowKit Go.Proofs.YtgmbfecfkdbfaaaW.PrintWords
section
variable {w : World} {B g : Nat} {ro : Option Nat} {bs : List Int} {r : RS} {bt : Nat} {cs : Array Value} {T : TypeId}
/-- what a piece that is laid down leaves -/
def SPost (B g : Nat) (ro : Option Nat) (bs : List Int) (bt : Nat) (T : TypeId) (cs : Array Value) (r : RS) (w : World) (e : Ending) (w' : World) : Prop :=
  e = .returned (.tuple #[]) ∧ Rd w' B g ro bs r ∧ w'.heap[bt]? = some (.cells cs T (0, 0)) ∧ Fr (fun i => i = g ∨ i = bt) w w'
theorem Rd.ne_ (hr : Rd w B g ro bs r) (hq : w.heap[bt]? = some (.cells cs T (0, 0))) (h1 : T ≠ 202) (h2 : T ≠ 5) : bt ≠ g ∧ ro ≠ some bt := by
  obtain ⟨v, hb, ho, hro⟩ := hr.at_
  exact ⟨blk_ne hq hb h1, fun e => own_ne ho hq (fun e => h2 e.symm) (by rw [hro, e])⟩
set_option maxHeartbeats 3200000 in
set_option maxRecDepth 100000 in
theorem token_r (o : Nat) (ho : o < cs.size) (hq : w.heap[bt]? = some (.cells cs T (0, 0))) (h1 : T ≠ 202) (h2 : T ≠ 5) (hr : Rd w B g ro bs r) (hB : B ≤ w.heap.size) :
    Calls Try.prog 53 #[.agg #[.pointer none, .pointer (some ⟨g, 0, none⟩)], .pointer (some ⟨bt, o, none⟩)] w (SPost B g ro bs bt T (cs.setIfInBounds o (.string (strOfNums (rFix bs r 8).1))) (rFix bs r 8).2 w) := by
  obtain ⟨hbg, hbr⟩ := hr.ne_ hq h1 h2
  have HB1 := Aside0.mk (below1 (w := w) (.cells #[.pointer none, .pointer (some ⟨g, 0, none⟩)] 97))
  have HQ := Aside0.mk ((Fr.of_below (S := fun _ => False) HB1.out).blk hq (fun h => h))
  have C := Aside0.mk (rFixed_calls 8 (hr.below HB1.out) (Nat.le_trans hB HB1.out.size))
  have HBG := Aside0.mk hbg
  have HBR := Aside0.mk hbr
  have HO := Aside0.mk ho
  clear hq hr hB hbg hbr
  unfold rFix
  generalize hqq : r.take bs _ _ = qq at C ⊢
  obtain ⟨v, r2⟩ := qq
  simp only [encS] at C ⊢
  clear hqq
  go_enter Try.func53, Try.ntmps53
  go_wp2_with (go_at_call 110; refine C.out.mono ?_; rintro e w1 ⟨rfl, R1, f1⟩; have HR1 := Aside0.mk R1; have hq1 := f1.blk HQ.out HBG.out; have hc1 : _ = some (cs[o]'HO.out) := (blk_cell hq1 o).trans (Array.getElem?_eq_getElem HO.out); have hz1 := blk_frozen hq1 o; have HQ1 := Aside0.mk hq1; have HF1 := Aside0.mk f1; clear R1 hq1 f1)
  go_end0
  have hf2 := (Fr.refl (fun i => i = g ∨ i = bt) w1).set_ (p := ⟨bt, o, none⟩) (.inl (.inr rfl)) (.string (strOfNums v))
  refine ⟨rfl, HR1.out.keep ((Fr.refl (fun i => i = bt) w1).set_ (p := ⟨bt, o, none⟩) (.inl rfl) _) (fun e => HBG.out e.symm) (fun k hk e => HBR.out (by rw [hk, e])), blk_put HQ1.out o _ rfl, ((Fr.of_below HB1.out).trans (HF1.out.mono (S' := fun i => i = g ∨ i = bt) (fun i _ h => .inl h)) (fun _ _ h => h)).trans hf2 (fun _ _ h => h)⟩
/-- numbers, laid down one behind the other -/
def readN (bs : List Int) (r : RS) (cs : Array Value) (os : List Nat) (size : Int) : RS × Array Value := os.foldl (fun p o => ((rNum bs p.1 size).2, p.2.setIfInBounds o (.int .i64 (rNum bs p.1 size).1))) (r, cs)
theorem readN_snoc (os : List Nat) (o : Nat) (size : Int) : readN bs r cs (os ++ [o]) size = ((rNum bs (readN bs r cs os size).1 size).2, (readN bs r cs os size).2.setIfInBounds o (.int .i64 (rNum bs (readN bs r cs os size).1 size).1)) := by simp [readN]
theorem readN_size (os : List Nat) (size : Int) : (readN bs r cs os size).2.size = cs.size := by
  unfold readN
  suffices h : ∀ (p : RS × Array Value), (os.foldl (fun p o => ((rNum bs p.1 size).2, p.2.setIfInBounds o (.int .i64 (rNum bs p.1 size).1))) p).2.size = p.2.size from h (r, cs)
  induction os with
  | nil => intro p; rfl
  | cons o l ih => intro p; rw [List.foldl_cons, ih]; simp
set_option maxHeartbeats 3200000 in
set_option maxRecDepth 100000 in
theorem number_r (size : Int) (ad : Addr) (c : Nat) (os : List Nat) (hos : ∀ o ∈ os, o < cs.size) (hcl : os.length ≤ 1000)
    (hp : ∀ i, (hi : i < os.length) → w.cell? (ad.add i) = some (.pointer (some ⟨bt, os[i], none⟩)) ∧ ad.block ≠ g ∧ ad.block ≠ bt)
    (hq : w.heap[bt]? = some (.cells cs T (0, 0))) (h1 : T ≠ 202) (h2 : T ≠ 5) (hr : Rd w B g ro bs r) (hB : B ≤ w.heap.size) :
    Calls Try.prog 54 #[.agg #[.pointer none, .pointer (some ⟨g, 0, none⟩)], .int .i64 size, .slice (some ad) os.length c] w (SPost B g ro bs bt T (readN bs r cs os size).2 (readN bs r cs os size).1 w) := by
  obtain ⟨hbg, hbr⟩ := hr.ne_ hq h1 h2
  have HB1 := Aside0.mk (below1 (w := w) (.cells #[.pointer none, .pointer (some ⟨g, 0, none⟩)] 97))
  have HQ := Aside0.mk ((Fr.of_below (S := fun _ => False) HB1.out).blk hq (fun h => h))
  have HR := Aside0.mk (hr.below HB1.out)
  have HB := Aside0.mk (Nat.le_trans hB HB1.out.size)
  have HBG := Aside0.mk hbg
  have HBR := Aside0.mk hbr
  have HOS := Aside0.mk hos
  have hbx := heap_alloc_new w (.cells #[.pointer none, .pointer (some ⟨g, 0, none⟩)] 97)
  have hgl := hr.lt
  have hbl := blk_lt hq
  have HK : Aside0 (∀ W, Fr (fun i => i = g ∨ i = bt) (w.alloc (.cells #[.pointer none, .pointer (some ⟨g, 0, none⟩)] 97)) W → W.cell? ⟨w.heap.size, 1, none⟩ = some (.pointer (some ⟨g, 0, none⟩)) ∧ W.cell? ⟨w.heap.size, 0, none⟩ = some (.pointer none) ∧ ∀ i, (hi : i < os.length) → W.cell? (ad.add i) = some (.pointer (some ⟨bt, os[i], none⟩))) := ⟨fun W hf => by
    have hx := hf.blk hbx (by rintro (e | e) <;> omega)
    refine ⟨(blk_cell hx 1).trans rfl, (blk_cell hx 0).trans rfl, fun i hi => ?_⟩
    obtain ⟨a1, a2, a3⟩ := hp i hi
    have l1 := World.block_lt_of_cell? w _ a1
    rw [add_block] at l1
    have hsz := HB1.out.size
    rw [World.cell?_of_block (w := w.alloc (.cells #[.pointer none, .pointer (some ⟨g, 0, none⟩)] 97)) (by rw [add_block]; exact hf.block _ (by omega) (by rintro (e | e) <;> contradiction))]
    exact (World.cell?_alloc_lt w _ _ (by rw [add_block]; exact l1)).trans a1⟩
  clear hq hr hB hbg hbr hp hos hbx hgl hbl
  go_enter Try.func54, Try.ntmps54
  go_wp2
  generalize hW1 : w.alloc (.cells #[.pointer none, .pointer (some ⟨g, 0, none⟩)] 97) = W1 at *
  generalize hgb : w.heap.size = gb at HK ⊢
  clear hgb
  go_loopg [7, 10] os.length (fun gg s7 s10 wr => ∃ kk : Nat, kk ≤ os.length ∧ os.length - kk ≤ gg ∧ s10 = .int .i64 kk ∧ Aside0 (Rd wr B g ro bs (readN bs r cs (os.take kk) size).1) ∧ Aside0 (wr.heap[bt]? = some (.cells (readN bs r cs (os.take kk) size).2 T (0, 0))) ∧ Aside0 (Fr (fun i => i = g ∨ i = bt) W1 wr))
  case atStart => exact ⟨0, by omega, by omega, rfl, HR, HQ, ⟨Fr.refl _ _⟩⟩
  case round =>
    obtain ⟨kk, hkk, hgg, rfl, HR2, HQ2, HF2⟩ := hrel
    clear HR HQ
    by_cases hlt : kk < os.length
    · have hltz : (kk : Int) < (os.length : Int) := by omega
      obtain ⟨hbox, hbox0, hcs⟩ := HK.out _ HF2.out
      have hc1 := hcs kk hlt
      clear hcs
      have hon := HOS.out os[kk] (List.getElem_mem hlt)
      have hsz := readN_size (bs := bs) (r := r) (cs := cs) (os.take kk) size
      have HTK := Aside0.mk (show readN bs r cs (os.take (kk + 1)) size = _ from by rw [List.take_succ_eq_append_getElem hlt, readN_snoc])
      have C := Aside0.mk (rNumber_calls size HR2.out (Nat.le_trans HB.out HF2.out.size))
      rw [← hsz] at hon
      have HON := Aside0.mk hon
      clear hon hsz
      unfold rNum at HTK
      generalize os[kk] = o at *
      generalize hrn : readN bs r cs (os.take kk) size = p at C HTK HQ2 HR2 HON
      clear hrn
      obtain ⟨r1, cs1⟩ := p
      simp only at C HTK HQ2 HR2 HON
      generalize r1.take bs _ _ = qq at C HTK
      obtain ⟨v, r2⟩ := qq
      simp only at C HTK
      go_wp2_with (go_at_call 112; refine C.out.mono ?_; rintro e w1 ⟨rfl, R1, f1⟩; have HR1 := Aside0.mk R1; have hq1 := f1.blk HQ2.out HBG.out; have hcc : _ = some (cs1[o]'HON.out) := (blk_cell hq1 o).trans (Array.getElem?_eq_getElem HON.out); have hz1 := blk_frozen hq1 o; have HQ1 := Aside0.mk hq1; have HF1 := Aside0.mk f1; clear R1 hq1 f1)
      go_roundg (os.length - (kk + 1))
      case measure => omega
      case rel =>
        refine ⟨kk + 1, by omega, by omega, by go_num, ⟨?_⟩, ⟨?_⟩, ⟨?_⟩⟩
        · rw [HTK.out]
          exact HR1.out.keep ((Fr.refl (fun i => i = bt) w1).set_ (p := ⟨bt, o, none⟩) (.inl rfl) _) (fun e => HBG.out e.symm) (fun k hk e => HBR.out (by rw [hk, e]))
        · rw [HTK.out]
          exact blk_put HQ1.out o _ rfl
        · exact ((HF2.out.trans (HF1.out.mono (S' := fun i => i = g ∨ i = bt) (fun i _ h => .inl h)) (fun _ _ h => h))).set_ (p := ⟨bt, o, none⟩) (.inl (.inr rfl)) _
    · have hltz : ¬ (kk : Int) < (os.length : Int) := by omega
      have hke : os.take kk = os := List.take_of_length_le (by omega)
      rw [hke] at HR2 HQ2
      clear hke
      go_wp2
      go_end0
      exact ⟨rfl, HR2.out, HQ2.out, (Fr.of_below HB1.out).trans HF2.out (fun _ _ h => h)⟩
end
end Go.Proofs.Ytgmbfecfkdbfaaa.Wi
