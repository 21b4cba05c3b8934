/- WireForm: what is taken out of any bytes without a fault is put as the bytes that it was taken from. -/
import Derived.Test.YtgcehkhlkjahjaaWiB
import Derived.Deep.QuietTactic
import Derived.BigQuiet
set_option linter.unusedVariables false
set_option linter.unusedSimpArgs false
namespace Go.Proofs.Ytgcehkhlkjahjaa.Wi
open Go Go.RowKit Go.Proofs.YtgcehkhlkjahjaaW.PrintWords
theorem take_prop {α : Type} {bs : List Int} {r : RS} {d : α} {G : List Int → Except Int (α × Nat)} (P : α → Prop) (hb : Bytes bs) (hd : P d) (hG : ∀ l x k, Bytes l → l.length ≤ bs.length → G l = .ok (x, k) → P x) : P (r.take bs d G).1 := by
  unfold RS.take
  split
  · exact hd
  · cases h : G (bs.drop r.at_) with
    | ok p => exact hG _ _ _ (hb.drop _) (by rw [List.length_drop]; omega) h
    | error e => exact hd
theorem str_size (l : List Int) : (strOfNums l).size = l.length := by simp [strOfNums, ByteArray.size]
theorem fill_ok {bs : List Int} {r : RS} {p : Pc} (hb : Bytes bs) (hbl : bs.length ≤ 140737488351232) (h : p.Ok) : (p.fill bs r).Ok := by
  obtain ⟨h1, h2, h3, h4, h5⟩ := h
  have z : I64 0 := by constructor <;> omega
  unfold Pc.fill
  repeat' split
  · exact ⟨h1, take_prop I64 hb z (fun l x k hl _ h => by
      unfold gNumber at h
      repeat' split at h
      all_goals first | (cases h; done) | (cases h)
      constructor <;> omega), h3, h4, h5⟩
  · exact ⟨h1, take_prop I64 hb z (fun l x k hl _ h => by
      have hk := gInt_le h
      unfold gInt at h
      split at h
      · cases h
      · injection h with h
        injection h with e1 e2
        subst e1 e2
        have hlt := val_take_lt l 8 hl hk
        have e : (256 : Nat) ^ 8 = 18446744073709551616 := by decide
        rw [e] at hlt
        unfold asInt
        split <;> constructor <;> omega), h3, h4, h5⟩
  · exact ⟨h1, h2, h3, take_prop (fun x => x < 18446744073709551616) hb (by omega) (fun l x k hl _ h => by
      have hk := gFloat_le h
      unfold gFloat at h
      repeat' split at h
      all_goals first | (cases h; done) | (cases h)
      have hlt := val_take_lt l 8 hl hk
      have e : (256 : Nat) ^ 8 = 18446744073709551616 := by decide
      rw [e] at hlt
      exact hlt), h5⟩
  · exact ⟨h1, h2, h3, h4, h5⟩
  · exact ⟨h1, h2, h3, h4, take_prop (fun x => (strOfNums x).size ≤ 9223372036854775807) hb (by rw [str_size]; simp) (fun l x k hl hle h => by
      rw [str_size]
      unfold gText at h
      repeat' split at h
      all_goals first | (cases h; done) | (cases h)
      rw [List.length_take, List.length_drop]
      omega)⟩
  · exact ⟨h1, h2, h3, h4, take_prop (fun x => (strOfNums x).size ≤ 9223372036854775807) hb (by rw [str_size]; simp) (fun l x k hl hle h => by
      rw [str_size]
      unfold gFixed at h
      repeat' split at h
      all_goals first | (cases h; done) | (cases h)
      rw [List.length_take]
      omega)⟩
  · exact ⟨h1, take_prop I64 hb z (fun l x k hl _ h => by
      have hk := gCount_le h
      unfold gCount at h
      repeat' split at h
      all_goals first | (cases h; done) | (cases h)
      have hlt := val_take_lt l 2 hl hk
      have e : (256 : Nat) ^ 2 = 65536 := by decide
      rw [e] at hlt
      constructor <;> omega), h3, h4, h5⟩
  · exact ⟨h1, h2, h3, h4, h5⟩
theorem take_split {α : Type} {l : List α} {a b : Nat} (h : a ≤ b) : l.take a ++ (l.drop a).take (b - a) = l.take b := by
  conv => rhs; rw [show b = a + (b - a) by omega, List.take_add]
def Pc.obj (p : Pc) : Obj := .cells #[.int .i64 p.kind, .int .i64 p.n, .int .i64 p.size, .float .f64 p.x, .bool p.is, .string p.s] 34 (0, 0)
section
variable {w W W' : World} {g g' : Nat} {bs : List Int} {r r' : RS} {s s' : WS}
/-- a reader and a writer of the call's own: apart -/
structure RW (w W : World) (g : Nat) (bs : List Int) (r : RS) (h : Nat) (s : WS) : Prop where
  below : Below w.heap.size w W
  rw_ : ∃ ro rp, Rd W w.heap.size g ro bs r ∧ Wr W w.heap.size h rp s ∧ (∀ k, ro = some k → rp ≠ some k)
theorem RW.ne {h : Nat} (H : RW w W g bs r h s) : g ≠ h := by
  obtain ⟨hb, ro, rp, hr, hw, _⟩ := H
  obtain ⟨v, h1, _⟩ := hr.at_
  obtain ⟨u, h2, _⟩ := hw.at_
  exact blk_ne h1 h2 (by decide)
theorem RW.then_ {h : Nat} (H : RW w W g bs r h s) (hb : Below W.heap.size W W') : RW w W' g bs r h s := by
  obtain ⟨hb0, ro, rp, hr, hw, hne⟩ := H
  exact ⟨below_then hb0 hb0.size hb, ro, rp, hr.below hb, hw.below hb, hne⟩
theorem RW.set_ {h : Nat} (H : RW w W g bs r h s) {p : Addr} (hp : w.heap.size ≤ p.block) {t : TypeId} {cs : Array Value} (hq : W.heap[p.block]? = some (.cells cs t (0, 0))) (h1 : t ≠ 72) (h2 : t ≠ 68) (h3 : t ≠ 5) (u : Value) : RW w (W.setCell p u) g bs r h s := by
  obtain ⟨hb0, ro, rp, hr, hw, hne⟩ := H
  have hf : Fr (fun i => i = p.block) W (W.setCell p u) := (Fr.refl (fun i => i = p.block) W).set_ (.inl rfl) u
  obtain ⟨v, hv, ho, hro⟩ := hr.at_
  obtain ⟨v2, hv2, ho2, hrp⟩ := hw.at_
  have k1 : ∀ k, ro = some k → ¬ (fun i => i = p.block) k := by
    rintro k hk rfl
    exact own_ne ho hq (fun e => h3 e.symm) (by rw [hro, hk])
  have k2 : ∀ k, rp = some k → ¬ (fun i => i = p.block) k := by
    rintro k hk rfl
    exact own_ne ho2 hq (fun e => h3 e.symm) (by rw [hrp, hk])
  exact ⟨hb0.setCell hp u, ro, rp, hr.keep hf (blk_ne hv hq (fun e => h1 e.symm)) k1, hw.keep hf (blk_ne hv2 hq (fun e => h2 e.symm)) k2, hne⟩
/-- behind a reader's call -/
theorem RW.read {h : Nat} (H : RW w W g bs r h s) {u : Value} {F : Nat} {args : Array Value} (hC : ∀ ro, Rd W w.heap.size g ro bs r → w.heap.size ≤ W.heap.size → Calls Try.prog F args W (RPost w.heap.size g ro bs u r' W)) :
    Calls Try.prog F args W fun e W' => e = .returned u ∧ RW w W' g bs r' h s ∧ Fr (fun i => i = g) W W' := by
  have hgh := H.ne
  obtain ⟨hb0, ro, rp, hr, hw, hne⟩ := H
  refine (hC ro hr hb0.size).mono fun e W' hP => ?_
  obtain ⟨he, hr', hf⟩ := hP
  obtain ⟨v, hv, _⟩ := hr.at_
  obtain ⟨v2, hv2, ho2, hrp⟩ := hw.at_
  refine ⟨he, ⟨hb0.trans (hf.below hb0.size (fun i hi => by subst hi; exact hr.base)), ro, rp, hr', hw.keep hf (fun e => hgh e.symm) ?_, hne⟩, hf⟩
  rintro k hk rfl
  exact own_ne ho2 hv (by decide) (by rw [hrp, hk])
theorem RW.fault {h : Nat} (H : RW w W g bs r h s) : Calls Try.prog 18 #[.pointer (some ⟨g, 0, none⟩)] W fun e W' => e = .returned (.agg #[.int .i64 r.code, .int .i64 r.fat]) ∧ RW w W' g bs r h s ∧ Below W.heap.size W W' := by
  obtain ⟨hb0, ro, rp, hr, hw, hne⟩ := H
  exact (rFault_calls hr).mono fun e W' h => ⟨h.1, RW.then_ ⟨hb0, ro, rp, hr, hw, hne⟩ h.2, h.2⟩
/-- behind a writer's call -/
theorem RW.write {h : Nat} (H : RW w W g bs r h s) {F : Nat} {args : Array Value} (hC : ∀ rp, Wr W w.heap.size h rp s → w.heap.size ≤ W.heap.size → Calls Try.prog F args W (WPost w.heap.size h rp s' W)) :
    Calls Try.prog F args W fun e W' => e = .returned (.tuple #[]) ∧ RW w W' g bs r h s' := by
  have hgh := H.ne
  obtain ⟨hb0, ro, rp, hr, hw, hne⟩ := H
  refine (hC rp hw hb0.size).mono fun e W' hP => ?_
  obtain ⟨he, rp', hw', hgr, hf⟩ := hP
  obtain ⟨v, hv, ho, hro⟩ := hr.at_
  obtain ⟨v2, hv2, ho2, hrp⟩ := hw.at_
  have hS : ∀ i, WrS h rp i → w.heap.size ≤ i := fun i hi => by
    rcases hi with rfl | hi
    · exact hw.base
    · exact (hw.ro_lt i hi).1
  refine ⟨he, hb0.trans (hf.below hb0.size hS), ro, rp', hr.keep hf ?_ ?_, hw', ?_⟩
  · rintro (e | e)
    · exact hgh e
    · exact own_ne ho2 hv (by decide) (by rw [hrp, e])
  · intro k hk hs
    rcases hs with rfl | e
    · exact own_ne ho hv2 (by decide) (by rw [hro, hk])
    · exact hne k hk e
  · intro k hk
    rcases hgr with e | ⟨b, e, hb⟩
    · rw [e]; exact hne k hk
    · rw [e]
      intro e2
      injection e2 with e2
      have := own_lt ho k (by rw [hro, hk])
      omega
theorem RAt.le (h : RAt w W g bs r) : r.at_ ≤ bs.length := by
  obtain ⟨_, ro, hr⟩ := h
  exact hr.le
theorem RW.bytes {h : Nat} {xs : List Int} (H : RW w W g bs r h ⟨xs, false⟩) (hl : xs.length ≤ 140737488355328) : Calls Try.prog 13 #[.pointer (some ⟨h, 0, none⟩)] W fun e W' => ∃ A c, e = .returned (.tuple #[.slice A xs.length c, .int .i64 0]) ∧ ReadsInt W' .u8 A xs.length xs ∧ RW w W' g bs r h ⟨xs, false⟩ := by
  have H' := H
  obtain ⟨hb, ro, rp, hr, hw, _⟩ := H
  refine (wBytes_calls hw hl).mono fun e W' h => ?_
  obtain ⟨v, rfl, ho, hb'⟩ := h
  obtain ⟨A, c, rfl, _, hr⟩ := own_reads' ho
  exact ⟨A, c, rfl, hr, H'.then_ hb'⟩
theorem RAt.atQ (h : RAt w W g bs r) (x : Nat) (hx : r.at_ = x) (n : Nat) : Calls Try.prog 17 #[.pointer (some ⟨g, 0, none⟩)] (W.drewN n) fun e W' => e = .returned (.int .i64 (x : Int)) ∧ W' = W.drewN n := by
  subst hx
  exact (RAt.at' (RAt.below h (below_drewN (Below.refl _ _) n))).mono fun e W' h => ⟨h.1, h.2.symm⟩
theorem RW.reader {h : Nat} (H : RW w W g bs r h s) : RAt w W g bs r := ⟨H.below, _, H.rw_.choose_spec.choose_spec.1⟩
theorem RW.writer {h : Nat} (H : RW w W g bs r h s) : WAt w W h s := ⟨H.below, _, H.rw_.choose_spec.choose_spec.2.1⟩
end
set_option maxHeartbeats 32000000 in
set_option maxRecDepth 100000 in
theorem wireForm_calls (A0 : Option Addr) (c0 : Nat) (bs : List Int) (A : Option Addr) (c : Nat) (l : List Pc) (w : World) (hb : kB.C w A0 bs.length bs) (hc0 : bs.length ≤ c0) (hbl : bs.length ≤ 140737488351232) (hl : kPc.C w A l.length l) (hc : l.length ≤ c) (hll : l.length ≤ 140737488351232) :
    Calls Try.prog 7 #[.slice A0 bs.length c0, .slice A l.length c] w fun e w' => e = .returned (.bool true) ∧ Below w.heap.size w w' := by
  obtain ⟨hrd, hby⟩ := kB_reads hb
  have HRD := Aside0.mk hrd
  have HBY := Aside0.mk hby
  have HL := Aside0.mk hl
  clear hb hrd hby hl
  go_enter Try.func7, Try.ntmps7
  go_wp2_with (first
    | (go_at_call 9; refine (awake_calls _).mono ?_; rintro e w0 ⟨rfl, hb0⟩)
    | (go_at_call 16; refine (newReader_calls A0 c0 bs _ (HRD.out.below hb0) HBY.out (by omega)).mono ?_; rintro e w1 ⟨g, ro, rfl, R0, hb1⟩)
    | (go_at_call 10; refine (newWriter_calls _).mono ?_; rintro e w2 ⟨rfl, S0, hb2⟩))
  have HRW := Aside0.mk (show RW w w2 g bs ⟨0, 0, 0, 0⟩ w1.heap.size ⟨[], false⟩ from ⟨below_then (below_then hb0 hb0.size hb1) (Nat.le_trans hb0.size hb1.size) hb2, ro, none, (R0.lower hb0.size).below hb2, S0.lower (Nat.le_trans hb0.size hb1.size), fun _ _ e => by cases e⟩)
  clear R0 S0
  generalize w1.heap.size = h at HRW
  go_loopg [4, 8, 9, 10] l.length (fun gg s4 s8 s9 s10 wr => ∃ (kk : Nat) (r : RS), kk ≤ l.length ∧ l.length - kk ≤ gg ∧ s8 = .int .i64 kk ∧ Aside0 (RW w wr g bs r h ⟨bs.take r.at_, false⟩) ∧ Aside0 (r.code = 0 ∧ r.fat = 0))
  case atStart => exact ⟨0, _, Nat.zero_le _, by omega, rfl, ⟨HRW.out⟩, ⟨rfl, rfl⟩⟩
  case round =>
    obtain ⟨kk, r, hkk, hgg, rfl, HR, HI⟩ := hrel
    clear HRW
    by_cases hlt : kk < l.length
    · have hltz : (kk : Int) < (l.length : Int) := by omega
      obtain ⟨ad, rfl, hok, hpc⟩ := pc_at HL.out kk hlt
      have HPC := Aside0.mk (PcAt.of hpc HR.out.below)
      have HOK := Aside0.mk hok
      clear hpc hok
      generalize l[kk] = p at HPC HOK
      have d0 := HPC.out.c0
      have d1 := HPC.out.c1
      have d2 := HPC.out.c2
      have d3 := HPC.out.c3
      have d4 := HPC.out.c4
      have d5 := HPC.out.c5
      obtain ⟨kind, n, size, x, is, y⟩ := p
      have hgl : g < wr.heap.size := HR.out.reader.lt
      have HR0 := Aside0.mk (HR.out.then_ (below1 (.cells #[.int .i64 kind, .int .i64 n, .int .i64 size, .float .f64 x, .bool is, .string y] 34)))
      have HPB := Aside0.mk (heap_alloc_new wr (.cells #[.int .i64 kind, .int .i64 n, .int .i64 size, .float .f64 x, .bool is, .string y] 34))
      have HLE := Aside0.mk HR.out.below
      simp only at d0 d1 d2 d3 d4 d5
      go_upto_block 2 with (fail)
      go_cut [40] (fun s40 wc => Aside0 (RW w wc g bs (nothingS bs r ⟨kind, n, size, x, is, y⟩) h ⟨bs.take r.at_, false⟩) ∧ Aside0 (wc.heap[wr.heap.size]? = some (Pc.obj (Pc.fill ⟨kind, n, size, x, is, y⟩ bs r))))
      case first =>
        clear d0 d1 d2 d3 d4 d5 HPC HL
        generalize hgp : wr.heap.size = gp at *
        by_cases k0 : kind = 0
        · subst k0
          have HN : Aside0 (nothingS bs r ⟨0, n, size, x, is, y⟩ = (rNum bs r size).2) := ⟨rfl⟩
          have HF : Aside0 (Pc.obj (Pc.fill ⟨0, n, size, x, is, y⟩ bs r) = (.cells #[.int .i64 0, .int .i64 (rNum bs r size).1, .int .i64 size, .float .f64 x, .bool is, .string y] 34 (0, 0))) := ⟨rfl⟩
          have C := Aside0.mk (RW.read HR0.out (fun ro hr hB => rNumber_calls size hr hB))
          have HT : (rNum bs r size) = (rNum bs r size) := rfl
          unfold rNum at HN HF
          clear HT
          generalize hq : r.take bs _ _ = q at C HN HF
          obtain ⟨v, r2⟩ := q
          simp only [encS] at C HN HF
          clear hq
          go_wp2_with (go_at_call 25; refine C.out.mono ?_; rintro e w1 ⟨rfl, R1, f1⟩; have hb1 := f1.blk HPB.out (by omega); have e1 := (blk_cell hb1 1).trans rfl; have e2 := blk_frozen hb1 1)
          go_meet
          case rel =>
            rw [HN.out, HF.out]
            refine ⟨⟨R1.set_ (p := ⟨gp, 1, none⟩) (show w.heap.size ≤ gp by have := HLE.out.size; omega) hb1 (by decide) (by decide) (by decide) _⟩, ⟨?_⟩⟩
            have h := blk_set hb1 1 (.int .i64 v)
            simp at h
            exact h
        by_cases k1 : kind = 1
        · subst k1
          have HN : Aside0 (nothingS bs r ⟨1, n, size, x, is, y⟩ = (rInt bs r).2) := ⟨rfl⟩
          have HF : Aside0 (Pc.obj (Pc.fill ⟨1, n, size, x, is, y⟩ bs r) = (.cells #[.int .i64 1, .int .i64 (rInt bs r).1, .int .i64 size, .float .f64 x, .bool is, .string y] 34 (0, 0))) := ⟨rfl⟩
          have C := Aside0.mk (RW.read HR0.out (fun ro hr hB => rInt_calls hr hB))
          have HT : (rInt bs r) = (rInt bs r) := rfl
          unfold rInt at HN HF
          clear HT
          generalize hq : r.take bs _ _ = q at C HN HF
          obtain ⟨v, r2⟩ := q
          simp only [encS] at C HN HF
          clear hq
          go_wp2_with (go_at_call 26; refine C.out.mono ?_; rintro e w1 ⟨rfl, R1, f1⟩; have hb1 := f1.blk HPB.out (by omega); have e1 := (blk_cell hb1 1).trans rfl; have e2 := blk_frozen hb1 1)
          go_meet
          case rel =>
            rw [HN.out, HF.out]
            refine ⟨⟨R1.set_ (p := ⟨gp, 1, none⟩) (show w.heap.size ≤ gp by have := HLE.out.size; omega) hb1 (by decide) (by decide) (by decide) _⟩, ⟨?_⟩⟩
            have h := blk_set hb1 1 (.int .i64 v)
            simp at h
            exact h
        by_cases k2 : kind = 2
        · subst k2
          have HN : Aside0 (nothingS bs r ⟨2, n, size, x, is, y⟩ = (rFlo bs r).2) := ⟨rfl⟩
          have HF : Aside0 (Pc.obj (Pc.fill ⟨2, n, size, x, is, y⟩ bs r) = (.cells #[.int .i64 2, .int .i64 n, .int .i64 size, .float .f64 (rFlo bs r).1, .bool is, .string y] 34 (0, 0))) := ⟨rfl⟩
          have C := Aside0.mk (RW.read HR0.out (fun ro hr hB => rFloat_calls hr hB))
          have HT : (rFlo bs r) = (rFlo bs r) := rfl
          unfold rFlo at HN HF
          clear HT
          generalize hq : r.take bs _ _ = q at C HN HF
          obtain ⟨v, r2⟩ := q
          simp only [encS] at C HN HF
          clear hq
          go_wp2_with (go_at_call 27; refine C.out.mono ?_; rintro e w1 ⟨rfl, R1, f1⟩; have hb1 := f1.blk HPB.out (by omega); have e1 := (blk_cell hb1 3).trans rfl; have e2 := blk_frozen hb1 3)
          go_meet
          case rel =>
            rw [HN.out, HF.out]
            refine ⟨⟨R1.set_ (p := ⟨gp, 3, none⟩) (show w.heap.size ≤ gp by have := HLE.out.size; omega) hb1 (by decide) (by decide) (by decide) _⟩, ⟨?_⟩⟩
            have h := blk_set hb1 3 (.float .f64 v)
            simp at h
            exact h
        by_cases k3 : kind = 3
        · subst k3
          have HN : Aside0 (nothingS bs r ⟨3, n, size, x, is, y⟩ = (rBoo bs r).2) := ⟨rfl⟩
          have HF : Aside0 (Pc.obj (Pc.fill ⟨3, n, size, x, is, y⟩ bs r) = (.cells #[.int .i64 3, .int .i64 n, .int .i64 size, .float .f64 x, .bool (rBoo bs r).1, .string y] 34 (0, 0))) := ⟨rfl⟩
          have C := Aside0.mk (RW.read HR0.out (fun ro hr hB => rBool_calls hr hB))
          have HT : (rBoo bs r) = (rBoo bs r) := rfl
          unfold rBoo at HN HF
          clear HT
          generalize hq : r.take bs _ _ = q at C HN HF
          obtain ⟨v, r2⟩ := q
          simp only [encS] at C HN HF
          clear hq
          go_wp2_with (go_at_call 28; refine C.out.mono ?_; rintro e w1 ⟨rfl, R1, f1⟩; have hb1 := f1.blk HPB.out (by omega); have e1 := (blk_cell hb1 4).trans rfl; have e2 := blk_frozen hb1 4)
          go_meet
          case rel =>
            rw [HN.out, HF.out]
            refine ⟨⟨R1.set_ (p := ⟨gp, 4, none⟩) (show w.heap.size ≤ gp by have := HLE.out.size; omega) hb1 (by decide) (by decide) (by decide) _⟩, ⟨?_⟩⟩
            have h := blk_set hb1 4 (.bool v)
            simp at h
            exact h
        by_cases k4 : kind = 4
        · subst k4
          have HN : Aside0 (nothingS bs r ⟨4, n, size, x, is, y⟩ = (rTex bs r size).2) := ⟨rfl⟩
          have HF : Aside0 (Pc.obj (Pc.fill ⟨4, n, size, x, is, y⟩ bs r) = (.cells #[.int .i64 4, .int .i64 n, .int .i64 size, .float .f64 x, .bool is, .string (strOfNums (rTex bs r size).1)] 34 (0, 0))) := ⟨rfl⟩
          have C := Aside0.mk (RW.read HR0.out (fun ro hr hB => rText_calls size hr hB))
          have HT : (rTex bs r size) = (rTex bs r size) := rfl
          unfold rTex at HN HF
          clear HT
          generalize hq : r.take bs _ _ = q at C HN HF
          obtain ⟨v, r2⟩ := q
          simp only [encS] at C HN HF
          clear hq
          go_wp2_with (go_at_call 29; refine C.out.mono ?_; rintro e w1 ⟨rfl, R1, f1⟩; have hb1 := f1.blk HPB.out (by omega); have e1 := (blk_cell hb1 5).trans rfl; have e2 := blk_frozen hb1 5)
          go_meet
          case rel =>
            rw [HN.out, HF.out]
            refine ⟨⟨R1.set_ (p := ⟨gp, 5, none⟩) (show w.heap.size ≤ gp by have := HLE.out.size; omega) hb1 (by decide) (by decide) (by decide) _⟩, ⟨?_⟩⟩
            have h := blk_set hb1 5 (.string (strOfNums v))
            simp at h
            exact h
        by_cases k5 : kind = 5
        · subst k5
          have HN : Aside0 (nothingS bs r ⟨5, n, size, x, is, y⟩ = (rFix bs r size).2) := ⟨rfl⟩
          have HF : Aside0 (Pc.obj (Pc.fill ⟨5, n, size, x, is, y⟩ bs r) = (.cells #[.int .i64 5, .int .i64 n, .int .i64 size, .float .f64 x, .bool is, .string (strOfNums (rFix bs r size).1)] 34 (0, 0))) := ⟨rfl⟩
          have C := Aside0.mk (RW.read HR0.out (fun ro hr hB => rFixed_calls size hr hB))
          have HT : (rFix bs r size) = (rFix bs r size) := rfl
          unfold rFix at HN HF
          clear HT
          generalize hq : r.take bs _ _ = q at C HN HF
          obtain ⟨v, r2⟩ := q
          simp only [encS] at C HN HF
          clear hq
          go_wp2_with (go_at_call 30; refine C.out.mono ?_; rintro e w1 ⟨rfl, R1, f1⟩; have hb1 := f1.blk HPB.out (by omega); have e1 := (blk_cell hb1 5).trans rfl; have e2 := blk_frozen hb1 5)
          go_meet
          case rel =>
            rw [HN.out, HF.out]
            refine ⟨⟨R1.set_ (p := ⟨gp, 5, none⟩) (show w.heap.size ≤ gp by have := HLE.out.size; omega) hb1 (by decide) (by decide) (by decide) _⟩, ⟨?_⟩⟩
            have h := blk_set hb1 5 (.string (strOfNums v))
            simp at h
            exact h
        by_cases k6 : kind = 6
        · subst k6
          have HN : Aside0 (nothingS bs r ⟨6, n, size, x, is, y⟩ = (rCou bs r size).2) := ⟨rfl⟩
          have HF : Aside0 (Pc.obj (Pc.fill ⟨6, n, size, x, is, y⟩ bs r) = (.cells #[.int .i64 6, .int .i64 (rCou bs r size).1, .int .i64 size, .float .f64 x, .bool is, .string y] 34 (0, 0))) := ⟨rfl⟩
          have C := Aside0.mk (RW.read HR0.out (fun ro hr hB => rCount_calls size hr hB))
          have HT : (rCou bs r size) = (rCou bs r size) := rfl
          unfold rCou at HN HF
          clear HT
          generalize hq : r.take bs _ _ = q at C HN HF
          obtain ⟨v, r2⟩ := q
          simp only [encS] at C HN HF
          clear hq
          go_wp2_with (go_at_call 31; refine C.out.mono ?_; rintro e w1 ⟨rfl, R1, f1⟩; have hb1 := f1.blk HPB.out (by omega); have e1 := (blk_cell hb1 1).trans rfl; have e2 := blk_frozen hb1 1)
          go_meet
          case rel =>
            rw [HN.out, HF.out]
            refine ⟨⟨R1.set_ (p := ⟨gp, 1, none⟩) (show w.heap.size ≤ gp by have := HLE.out.size; omega) hb1 (by decide) (by decide) (by decide) _⟩, ⟨?_⟩⟩
            have h := blk_set hb1 1 (.int .i64 v)
            simp at h
            exact h
        have HN : Aside0 (nothingS bs r ⟨kind, n, size, x, is, y⟩ = r) := ⟨by simp [nothingS, k0, k1, k2, k3, k4, k5, k6]⟩
        have HF : Aside0 (Pc.fill ⟨kind, n, size, x, is, y⟩ bs r = ⟨kind, n, size, x, is, y⟩) := ⟨by simp [Pc.fill, k0, k1, k2, k3, k4, k5, k6]⟩
        have t0 : (kind == 0) = false := beq_eq_false_iff_ne.2 k0
        have t1 : (kind == 1) = false := beq_eq_false_iff_ne.2 k1
        have t2 : (kind == 2) = false := beq_eq_false_iff_ne.2 k2
        have t3 : (kind == 3) = false := beq_eq_false_iff_ne.2 k3
        have t4 : (kind == 4) = false := beq_eq_false_iff_ne.2 k4
        have t5 : (kind == 5) = false := beq_eq_false_iff_ne.2 k5
        have t6 : (kind == 6) = false := beq_eq_false_iff_ne.2 k6
        clear k0 k1 k2 k3 k4 k5 k6
        go_wp2
        go_meet
        case rel =>
          rw [HN.out, HF.out]
          exact ⟨HR0, HPB⟩
      case rest =>
        obtain ⟨HR1, HQ⟩ := hcut
        have HFO := Aside0.mk (fill_form ⟨kind, n, size, x, is, y⟩ HI.out.1 HR.out.reader.le HBY.out)
        have HOK' := Aside0.mk (fill_ok (r := r) HBY.out hbl HOK.out)
        generalize nothingS bs r ⟨kind, n, size, x, is, y⟩ = r' at HR1 HFO
        generalize Pc.fill ⟨kind, n, size, x, is, y⟩ bs r = p' at HQ HFO HOK'
        have HGP := Aside0.mk (show g ≠ wr.heap.size by omega)
        clear HR0 HPB d0 d1 d2 d3 d4 d5 HPC HOK HL hgl
        generalize wr.heap.size = gp at *
        by_cases hc : r'.code = 0
        case neg =>
          have u0 : (r'.code != 0) = true := bne_iff_ne.2 hc
          obtain ⟨hat, hfat⟩ : r'.at_ = r.at_ ∧ r'.fat = r.at_ := by
            rcases HFO.out with h | h
            · exact h.2
            · exact absurd h.1 hc
          have hle : (r.at_ : Int) ≤ (bs.length : Int) := by have := HR.out.reader.le; omega
          have hle0 : (0 : Int) ≤ (r.at_ : Int) := by omega
          clear hc HFO HOK'
          obtain ⟨at', last', code', fat'⟩ := r'
          simp only at u0 hat hfat
          subst hat hfat
          go_wp2_with (first
            | (go_at_call 18; refine (RW.fault HR1.out).mono ?_; rintro e w3 ⟨rfl, R3, hb3⟩; have R3' := R3.then_ (below1 (.cells #[.int .i64 code', .int .i64 (r.at_ : Int)] 47)); have hp3 := heap_alloc_new w3 (.cells #[.int .i64 code', .int .i64 (r.at_ : Int)] 47); have f0 : _ = some (Value.int .i64 code') := blk_cell hp3 0; have f1 : _ = some (Value.int .i64 (r.at_ : Int)) := blk_cell hp3 1))
          go_quiet ((go_at_call 17; exact Calls.quiet_of_same (RAt.atQ R3'.reader r.at_ rfl _)))
          go_wp2
          go_ret
          exact ⟨rfl, below_drewN (below_alloc R3.below _) _⟩
        case pos =>
          have u0 : (r'.code != 0) = false := by simp [hc]
          obtain ⟨hfat, hle, hle2, henc⟩ : r'.fat = r.fat ∧ r.at_ ≤ r'.at_ ∧ r'.at_ ≤ bs.length ∧ p'.enc = some ((bs.drop r.at_).take (r'.at_ - r.at_)) := by
            rcases HFO.out with h | h
            · exact absurd hc h.1
            · exact h.2
          have HST : Aside0 ((⟨bs.take r.at_, false⟩ : WS).step p' = ⟨bs.take r'.at_, false⟩) := ⟨by
            rw [step_enc, henc]
            simp only [WS.put]
            rw [if_neg (by decide), take_split hle]⟩
          have CN0 := fun (rp : Option Nat) (W : World) (hr : Wr W w.heap.size h rp ⟨bs.take r.at_, false⟩) (hB : w.heap.size ≤ W.heap.size) => lput_calls p' HOK'.out hr hB (by rw [HST.out]; show (bs.take r'.at_).length ≤ _; rw [List.length_take]; omega)
          simp only [HST.out] at CN0
          have CN := Aside0.mk CN0
          have HI' : Aside0 (r'.code = 0 ∧ r'.fat = 0) := ⟨hc, by rw [hfat, HI.out.2]⟩
          clear CN0 hfat hle hle2 henc HFO HOK' HST HI hc
          obtain ⟨kind, n, size, x, is, y⟩ := p'
          unfold Pc.val at CN
          unfold Pc.obj at HQ
          simp only at CN HQ
          go_wp2_with (first
            | (go_at_call 18; refine (RW.fault HR1.out).mono ?_; rintro e w3 ⟨rfl, R3, hb3⟩; have hq3 := (Fr.of_below (S := fun i => i = g) hb3).blk HQ.out (fun e => HGP.out e.symm); have R3' := R3.then_ (below1 (.cells #[.int .i64 r'.code, .int .i64 r'.fat] 47)); have hq3' := (Fr.of_below (S := fun i => i = g) (below1 (w := w3) (.cells #[.int .i64 r'.code, .int .i64 r'.fat] 47))).blk hq3 (fun e => HGP.out e.symm); have hp3 := heap_alloc_new w3 (.cells #[.int .i64 r'.code, .int .i64 r'.fat] 47); have f0 : _ = some (Value.int .i64 r'.code) := blk_cell hp3 0; have f1 : _ = some (Value.int .i64 r'.fat) := blk_cell hp3 1; have q0 : _ = some (Value.int .i64 kind) := blk_cell hq3' 0; have q1 : _ = some (Value.int .i64 n) := blk_cell hq3' 1; have q2 : _ = some (Value.int .i64 size) := blk_cell hq3' 2; have q3 : _ = some (Value.float .f64 x) := blk_cell hq3' 3; have q4 : _ = some (Value.bool is) := blk_cell hq3' 4; have q5 : _ = some (Value.string y) := blk_cell hq3' 5)
            | (go_at_call 11; refine (RW.write R3' (fun rp hr hB => CN.out rp _ hr hB)).mono ?_; rintro e w4 ⟨rfl, R4⟩))
          go_roundg (l.length - (kk + 1))
          case measure => omega
          case rel => exact ⟨kk + 1, r', by omega, by omega, by go_num, ⟨R4⟩, HI'⟩
    · have hltz : ¬ (kk : Int) < (l.length : Int) := by omega
      have hle := HR.out.reader.le
      have hlez : (r.at_ : Int) ≤ (bs.length : Int) := by omega
      have hlen : (bs.take r.at_).length = r.at_ := by rw [List.length_take]; omega
      have CB0 := RW.bytes HR.out (by rw [hlen]; omega)
      rw [hlen] at CB0
      have CB := Aside0.mk CB0
      clear CB0
      obtain ⟨ti, hti, hte⟩ : ∃ i, Try.prog.info? 5 = some i ∧ i.size = 1 := by
        obtain ⟨i, h1, h2⟩ := Option.map_eq_some_iff.1 info_u8
        injection h2 with _ h2
        injection h2 with h2 _
        exact ⟨i, h1, h2⟩
      obtain ⟨hsl, hrt, _⟩ := print_take_int (P := Try.prog) (k := .u8) 27 5 Try.underlying27 hti hte A0 c0 bs (r.at_ : Int) (by omega) hlez hc0
      simp only [Int.toNat_natCast, hlen] at hsl hrt
      have HRT := Aside0.mk hrt
      have HSL := Aside0.mk hsl
      clear hsl hrt hlen HL HI hle
      go_wp2_with (first
        | (go_at_call 13; refine CB.out.mono ?_; rintro e w3 ⟨A2, c2, rfl, hr3, R3⟩; have HR3 := Aside0.mk hr3; have HRS := Aside0.mk R3; clear hr3 R3)
        | (go_at_call 17; refine (RAt.at' HRS.out.reader).mono ?_; rintro e w4 ⟨rfl, rfl⟩))
      have hsl := HSL.out
      have kc : ∀ n, (convert 27 9 (.slice A2 r.at_ c2)).run Try.prog (w3.drewN n) = .ok (.string (strOfNums (bs.take r.at_))) (w3.drewN n) := fun n => string_of_reads Try.underlying27 Try.underlying5 Try.underlying9 (HR3.out.drewN n)
      have kb : ∀ n, (convert 27 9 (.slice A0 r.at_ c0)).run Try.prog (w3.drewN n) = .ok (.string (strOfNums (bs.take r.at_))) (w3.drewN n) := fun n => string_of_reads Try.underlying27 Try.underlying5 Try.underlying9 ((HRT.out _ (HRD.out.below HRS.out.below)).drewN n)
      go_quiet (fail)
      go_wp2
      go_ret
      exact ⟨rfl, below_drewN HRS.out.below _⟩
end Go.Proofs.Ytgcehkhlkjahjaa.Wi
