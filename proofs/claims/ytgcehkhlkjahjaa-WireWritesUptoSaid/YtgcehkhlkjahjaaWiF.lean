/- WireFault: behind the first fault nothing is taken any more, and it stays; a fault that is made stands where the last piece began. -/
import Derived.Test.YtgcehkhlkjahjaaWiL3
set_option linter.unusedVariables false
set_option linter.unusedSimpArgs false
namespace Go.Proofs.Ytgcehkhlkjahjaa.Wi
open Go Go.RowKit Go.Proofs.YtgcehkhlkjahjaaW.PrintWords
theorem take_bad {α : Type} {bs : List Int} {r : RS} (h : r.code ≠ 0) (d : α) (G : List Int → Except Int (α × Nat)) : r.take bs d G = (d, r) := by
  unfold RS.take
  rw [if_pos h]
theorem empty_str : (strOfNums []).toList.isEmpty = true := by
  simp [strOfNums, ByteArray.toList, ByteArray.toList.loop, ByteArray.size]
theorem nothing_bad {bs : List Int} {r : RS} (h : r.code ≠ 0) (p : Pc) : nothingB bs r p = true ∧ nothingS bs r p = r := by
  unfold nothingB nothingS rNum rInt rFlo rBoo rTex rFix rCou
  simp only [take_bad h]
  constructor
  · repeat' split
    all_goals first | rfl | exact empty_str
  · repeat' split
    all_goals rfl
theorem take_good {α : Type} {bs : List Int} {r : RS} (h : r.code = 0) (d : α) (G : List Int → Except Int (α × Nat)) : (r.take bs d G).2.code = 0 → (r.take bs d G).2.last = r.at_ ∨ ∃ e, G (bs.drop r.at_) = .error e ∧ e = 0 := by
  unfold RS.take
  rw [if_neg (by simp [h])]
  cases hg : G (bs.drop r.at_) with
  | ok p => intro _; exact .inl rfl
  | error e => intro he; exact .inr ⟨e, rfl, he⟩
theorem gNumber_err {l : List Int} {size e : Int} (h : gNumber l size = .error e) : e ≠ 0 := by
  unfold gNumber at h
  repeat' split at h
  all_goals first | (injection h with h; omega) | cases h
theorem gInt_err {l : List Int} {e : Int} (h : gInt l = .error e) : e ≠ 0 := by
  unfold gInt at h
  repeat' split at h
  all_goals first | (injection h with h; omega) | cases h
theorem gFloat_err {l : List Int} {e : Int} (h : gFloat l = .error e) : e ≠ 0 := by
  unfold gFloat at h
  repeat' split at h
  all_goals first | (injection h with h; omega) | cases h
theorem gBool_err {l : List Int} {e : Int} (h : gBool l = .error e) : e ≠ 0 := by
  unfold gBool at h
  repeat' split at h
  all_goals first | (injection h with h; omega) | cases h
theorem gText_err {l : List Int} {most e : Int} (h : gText l most = .error e) : e ≠ 0 := by
  unfold gText at h
  repeat' split at h
  all_goals first | (injection h with h; omega) | cases h
theorem gFixed_err {l : List Int} {size e : Int} (h : gFixed l size = .error e) : e ≠ 0 := by
  unfold gFixed at h
  repeat' split at h
  all_goals first | (injection h with h; omega) | cases h
theorem gCount_err {l : List Int} {most e : Int} (h : gCount l most = .error e) : e ≠ 0 := by
  unfold gCount at h
  repeat' split at h
  all_goals first | (injection h with h; omega) | cases h
theorem take_last {α : Type} {bs : List Int} {r : RS} (h : r.code = 0) (d : α) (G : List Int → Except Int (α × Nat)) (hG : ∀ l e, G l = .error e → e ≠ 0) (hc : (r.take bs d G).2.code = 0) : (r.take bs d G).2.last = r.at_ := by
  rcases take_good h d G hc with h1 | ⟨e, h1, h2⟩
  · exact h1
  · exact absurd h2 (hG _ _ h1)
theorem nothing_last {bs : List Int} {r : RS} (h : r.code = 0) (p : Pc) (hc : (nothingS bs r p).code = 0) : (if 0 ≤ p.kind ∧ p.kind ≤ 6 then (r.at_ : Int) else r.last) = (nothingS bs r p).last := by
  unfold nothingS rNum rInt rFlo rBoo rTex rFix rCou at *
  by_cases k0 : p.kind = 0
  · simp only [if_pos k0] at *; rw [if_pos (by omega)]; exact (take_last h _ _ (fun l e h => gNumber_err h) hc).symm
  simp only [if_neg k0] at *
  by_cases k1 : p.kind = 1
  · simp only [if_pos k1] at *; rw [if_pos (by omega)]; exact (take_last h _ _ (fun l e h => gInt_err h) hc).symm
  simp only [if_neg k1] at *
  by_cases k2 : p.kind = 2
  · simp only [if_pos k2] at *; rw [if_pos (by omega)]; exact (take_last h _ _ (fun l e h => gFloat_err h) hc).symm
  simp only [if_neg k2] at *
  by_cases k3 : p.kind = 3
  · simp only [if_pos k3] at *; rw [if_pos (by omega)]; exact (take_last h _ _ (fun l e h => gBool_err h) hc).symm
  simp only [if_neg k3] at *
  by_cases k4 : p.kind = 4
  · simp only [if_pos k4] at *; rw [if_pos (by omega)]; exact (take_last h _ _ (fun l e h => gText_err h) hc).symm
  simp only [if_neg k4] at *
  by_cases k5 : p.kind = 5
  · simp only [if_pos k5] at *; rw [if_pos (by omega)]; exact (take_last h _ _ (fun l e h => gFixed_err h) hc).symm
  simp only [if_neg k5] at *
  by_cases k6 : p.kind = 6
  · simp only [if_pos k6] at *; rw [if_pos (by omega)]; exact (take_last h _ _ (fun l e h => gCount_err h) hc).symm
  simp only [if_neg k6] at *
  rw [if_neg (by omega)]
set_option maxHeartbeats 16000000 in
set_option maxRecDepth 100000 in
theorem wireFault_calls (A0 : Option Addr) (c0 : Nat) (bs : List Int) (A : Option Addr) (c : Nat) (l : List Pc) (x : Int) (w : World) (hb : kB.C w A0 bs.length bs) (hc0 : bs.length ≤ c0) (hbl : bs.length ≤ 140737488351232) (hl : kPc.C w A l.length l) (hc : l.length ≤ c) (hll : l.length ≤ 140737488351232) (hx : I64 x) :
    Calls Try.prog 5 #[.slice A0 bs.length c0, .slice A l.length c, .int .i64 x] w fun e w' => e = .returned (.bool true) ∧ Below w.heap.size w w' := by
  obtain ⟨hrd, hby⟩ := kB_reads hb
  have HRD := Aside0.mk hrd
  have HBY := Aside0.mk hby
  have HL := Aside0.mk hl
  clear hb hrd hby hl
  have hfd : ∀ (a b : Int) (W : World), (Instr.field 47 (.agg #[.int .i64 a, .int .i64 b]) 0).run Try.prog W = .ok (.int .i64 a) W := fun a b W => by kernel_rfl
  go_enter Try.func5, Try.ntmps5
  go_wp2_with (first
    | (go_at_call 9; refine (awake_calls _).mono ?_; rintro e w0 ⟨rfl, hb0⟩)
    | (go_at_call 16; refine (newR hb0 A0 c0 (HRD.out.below hb0) HBY.out (by omega)).mono ?_; rintro e w1 ⟨g, rfl, R0, _⟩))
  have HR0 := Aside0.mk R0
  clear R0
  go_loopg [6, 9, 10, 11, 12, 13] l.length (fun gg s6 s9 s10 s11 s12 s13 wr => ∃ (kk : Nat) (begin_ : Int) (r : RS), kk ≤ l.length ∧ l.length - kk ≤ gg ∧ s10 = .int .i64 kk ∧ s9 = .int .i64 begin_ ∧ Aside0 (RAt w wr g bs r) ∧ Aside0 (r.code = 0 → begin_ = r.last))
  case atStart => exact ⟨0, 0, _, Nat.zero_le _, by omega, rfl, rfl, HR0, ⟨fun _ => rfl⟩⟩
  case round =>
    obtain ⟨kk, begin_, r, hkk, hg, rfl, rfl, HR, HI⟩ := hrel
    clear HR0
    by_cases hlt : kk < l.length
    · have hltz : (kk : Int) < (l.length : Int) := by omega
      obtain ⟨ad, rfl, hok, hpc⟩ := pc_at HL.out kk hlt
      have HPC := Aside0.mk hpc
      have HOK := Aside0.mk hok
      clear hpc hok
      generalize l[kk] = p at HPC HOK
      by_cases hc : r.code = 0
      · have t1 : (r.code != 0) = false := by simp [hc]
        have HC := Aside0.mk hc
        clear hc
        obtain ⟨r', hr'⟩ : ∃ r', nothingS bs r p = r' := ⟨_, rfl⟩
        obtain ⟨b, hb'⟩ : ∃ b, nothingB bs r p = b := ⟨_, rfl⟩
        have CN0 : ∀ W, RAt w W g bs r → _ := fun W h => RAt.nothing h p HOK.out
        rw [hr', hb'] at CN0
        have CN := Aside0.mk CN0
        have HN := Aside0.mk (fun h => nothing_last HC.out p (bs := bs) h)
        rw [hr'] at HN
        clear CN0 hr' hb'
        unfold Pc.val at CN
        by_cases e0 : r'.code = 0
        case neg =>
          have u0 : (r'.code == 0) = false := beq_eq_false_iff_ne.2 e0
          have HE := Aside0.mk e0
          clear e0
          go_wp2_with (first
            | (go_at_call 17; refine (RAt.at' HR.out).mono ?_; rintro e w1 ⟨rfl, rfl⟩)
            | (go_at_call 18; first | ((with_reducible refine (RAt.fault R2).mono ?_); rintro e w3 ⟨rfl, R3, f3⟩; have P3 := PcAt.of HPC.out R3.1; have d0' := P3.c0; have d1' := P3.c1) | ((with_reducible refine (RAt.fault HR.out).mono ?_); rintro e w1 ⟨rfl, R1, _⟩; have hgl := RAt.lt R1; have R1' := RAt.below R1 (below1 (.cells #[.int .i64 r.code, .int .i64 r.fat] 47)); have P1 := PcAt.of HPC.out R1'.1; have d0 := P1.c0; have d1 := P1.c1; have d2 := P1.c2; have d3 := P1.c3; have d4 := P1.c4; have d5 := P1.c5))
            | (go_at_call 19; refine (CN.out _ R1').mono ?_; rintro e w2 ⟨rfl, R2, f2⟩; have q2 := f2.blk (heap_alloc_new w1 (.cells #[.int .i64 r.code, .int .i64 r.fat] 47)) (by omega); have x0 := (blk_cell q2 0).trans rfl; have x1 := (blk_cell q2 1).trans rfl; have P2 := PcAt.of HPC.out R2.1; have d0 := P2.c0))
          go_roundg (l.length - (kk + 1))
          case measure => omega
          case rel => exact ⟨kk + 1, _, r', by omega, by omega, by go_num, rfl, ⟨R3⟩, ⟨fun h => absurd h HE.out⟩⟩
        case pos =>
          have u0 : (r'.code == 0) = true := beq_iff_eq.2 e0
          have HE := Aside0.mk e0
          clear e0
          by_cases e1 : 0 ≤ p.kind
          case neg =>
            have u1 : decide (0 ≤ p.kind) = false := decide_eq_false e1
            have HG : Aside0 (r.last = r'.last) := ⟨by have := HN.out HE.out; rwa [if_neg (by omega)] at this⟩
            clear e1
            go_wp2_with (first
              | (go_at_call 17; refine (RAt.at' HR.out).mono ?_; rintro e w1 ⟨rfl, rfl⟩)
              | (go_at_call 18; first | ((with_reducible refine (RAt.fault R2).mono ?_); rintro e w3 ⟨rfl, R3, f3⟩; have P3 := PcAt.of HPC.out R3.1; have d0' := P3.c0; have d1' := P3.c1) | ((with_reducible refine (RAt.fault HR.out).mono ?_); rintro e w1 ⟨rfl, R1, _⟩; have hgl := RAt.lt R1; have R1' := RAt.below R1 (below1 (.cells #[.int .i64 r.code, .int .i64 r.fat] 47)); have P1 := PcAt.of HPC.out R1'.1; have d0 := P1.c0; have d1 := P1.c1; have d2 := P1.c2; have d3 := P1.c3; have d4 := P1.c4; have d5 := P1.c5))
              | (go_at_call 19; refine (CN.out _ R1').mono ?_; rintro e w2 ⟨rfl, R2, f2⟩; have q2 := f2.blk (heap_alloc_new w1 (.cells #[.int .i64 r.code, .int .i64 r.fat] 47)) (by omega); have x0 := (blk_cell q2 0).trans rfl; have x1 := (blk_cell q2 1).trans rfl; have P2 := PcAt.of HPC.out R2.1; have d0 := P2.c0))
            go_roundg (l.length - (kk + 1))
            case measure => omega
            case rel => exact ⟨kk + 1, _, r', by omega, by omega, by go_num, rfl, ⟨R3⟩, ⟨fun _ => (HI.out HC.out).trans HG.out⟩⟩
          case pos =>
            have u1 : decide (0 ≤ p.kind) = true := decide_eq_true e1
            by_cases e2 : p.kind ≤ 6
            case neg =>
              have u2 : decide (p.kind ≤ 6) = false := decide_eq_false e2
              have HG : Aside0 (r.last = r'.last) := ⟨by have := HN.out HE.out; rwa [if_neg (by omega)] at this⟩
              clear e1 e2
              go_wp2_with (first
                | (go_at_call 17; refine (RAt.at' HR.out).mono ?_; rintro e w1 ⟨rfl, rfl⟩)
                | (go_at_call 18; first | ((with_reducible refine (RAt.fault R2).mono ?_); rintro e w3 ⟨rfl, R3, f3⟩; have P3 := PcAt.of HPC.out R3.1; have d0' := P3.c0; have d1' := P3.c1) | ((with_reducible refine (RAt.fault HR.out).mono ?_); rintro e w1 ⟨rfl, R1, _⟩; have hgl := RAt.lt R1; have R1' := RAt.below R1 (below1 (.cells #[.int .i64 r.code, .int .i64 r.fat] 47)); have P1 := PcAt.of HPC.out R1'.1; have d0 := P1.c0; have d1 := P1.c1; have d2 := P1.c2; have d3 := P1.c3; have d4 := P1.c4; have d5 := P1.c5))
                | (go_at_call 19; refine (CN.out _ R1').mono ?_; rintro e w2 ⟨rfl, R2, f2⟩; have q2 := f2.blk (heap_alloc_new w1 (.cells #[.int .i64 r.code, .int .i64 r.fat] 47)) (by omega); have x0 := (blk_cell q2 0).trans rfl; have x1 := (blk_cell q2 1).trans rfl; have P2 := PcAt.of HPC.out R2.1; have d0 := P2.c0))
              go_roundg (l.length - (kk + 1))
              case measure => omega
              case rel => exact ⟨kk + 1, _, r', by omega, by omega, by go_num, rfl, ⟨R3⟩, ⟨fun _ => (HI.out HC.out).trans HG.out⟩⟩
            case pos =>
              have u2 : decide (p.kind ≤ 6) = true := decide_eq_true e2
              have HG : Aside0 ((r.at_ : Int) = r'.last) := ⟨by have := HN.out HE.out; rwa [if_pos (by omega)] at this⟩
              clear e1 e2
              go_wp2_with (first
                | (go_at_call 17; refine (RAt.at' HR.out).mono ?_; rintro e w1 ⟨rfl, rfl⟩)
                | (go_at_call 18; first | ((with_reducible refine (RAt.fault R2).mono ?_); rintro e w3 ⟨rfl, R3, f3⟩; have P3 := PcAt.of HPC.out R3.1; have d0' := P3.c0; have d1' := P3.c1) | ((with_reducible refine (RAt.fault HR.out).mono ?_); rintro e w1 ⟨rfl, R1, _⟩; have hgl := RAt.lt R1; have R1' := RAt.below R1 (below1 (.cells #[.int .i64 r.code, .int .i64 r.fat] 47)); have P1 := PcAt.of HPC.out R1'.1; have d0 := P1.c0; have d1 := P1.c1; have d2 := P1.c2; have d3 := P1.c3; have d4 := P1.c4; have d5 := P1.c5))
                | (go_at_call 19; refine (CN.out _ R1').mono ?_; rintro e w2 ⟨rfl, R2, f2⟩; have q2 := f2.blk (heap_alloc_new w1 (.cells #[.int .i64 r.code, .int .i64 r.fat] 47)) (by omega); have x0 := (blk_cell q2 0).trans rfl; have x1 := (blk_cell q2 1).trans rfl; have P2 := PcAt.of HPC.out R2.1; have d0 := P2.c0))
              go_roundg (l.length - (kk + 1))
              case measure => omega
              case rel => exact ⟨kk + 1, _, r', by omega, by omega, by go_num, rfl, ⟨R3⟩, ⟨fun _ => HG.out⟩⟩
      · have t1 : (r.code != 0) = true := bne_iff_ne.2 hc
        have HC := Aside0.mk hc
        have CN0 : ∀ W, RAt w W g bs r → _ := fun W h => RAt.nothing h p HOK.out
        rw [(nothing_bad hc p).1, (nothing_bad hc p).2] at CN0
        have CN := Aside0.mk CN0
        clear CN0 hc
        unfold Pc.val at CN
        go_wp2_with (first
          | (go_at_call 17; refine (RAt.at' HR.out).mono ?_; rintro e w1 ⟨rfl, rfl⟩)
          | (go_at_call 18; refine (RAt.fault HR.out).mono ?_; rintro e w1 ⟨rfl, R1, _⟩; have hgl := RAt.lt R1; have R1' := RAt.below R1 (below1 (.cells #[.int .i64 r.code, .int .i64 r.fat] 47)); have P1 := PcAt.of HPC.out R1'.1; have d0 := P1.c0; have d1 := P1.c1; have d2 := P1.c2; have d3 := P1.c3; have d4 := P1.c4; have d5 := P1.c5)
          | (go_at_call 19; refine (CN.out _ R1').mono ?_; rintro e w2 ⟨rfl, R2, f2⟩; have q2 := f2.blk (heap_alloc_new w1 (.cells #[.int .i64 r.code, .int .i64 r.fat] 47)) (by omega); have x0 := (blk_cell q2 0).trans rfl; have x1 := (blk_cell q2 1).trans rfl))
        have HR2 := Aside0.mk R2
        have HQ2 := Aside0.mk q2
        have HS0 := Aside0.mk (show w2.drew.cell? ⟨w1.heap.size, 0, none⟩ = some (.int .i64 r.code) ∧ w2.drew.cell? ⟨w1.heap.size, 1, none⟩ = some (.int .i64 r.fat) from ⟨x0, x1⟩)
        clear P1 d0 d1 d2 d3 d4 d5 R1' R2 q2 x0 x1
        refine YtgcehkhlkjahjaaG.wp_region_door 99 YtgcehkhlkjahjaaG.keepT (fun _ _ => False) (fun W => W.cell? ⟨w1.heap.size, 0, none⟩ = some (.int .i64 r.code) ∧ W.cell? ⟨w1.heap.size, 1, none⟩ = some (.int .i64 r.fat)) (by kernel_rfl) trivial (fun _ _ _ _ h => h.elim) ?_
        refine YtgcehkhlkjahjaaG.wpAnyG_take 0 (v := .bool true) rfl (by kernel_rfl) (by kernel_rfl) (by kernel_rfl) (by kernel_rfl) (by decide) (fun a u => YtgcehkhlkjahjaaG.keepT_put a u) HS0.out trivial (by rfl) (by rintro W ⟨h0, h1⟩; go_simp; done) ?_
        try simp only [Act.put, List.getElem_toArray, List.getElem_cons_zero, List.getElem_cons_succ, List.setIfInBounds_toArray, List.set_cons_zero, List.set_cons_succ]
        refine YtgcehkhlkjahjaaG.wpAnyG_take 1 (v := .bool false) rfl (by kernel_rfl) (by kernel_rfl) (by kernel_rfl) (by kernel_rfl) (by decide) (fun a u => YtgcehkhlkjahjaaG.keepT_put a u) HS0.out trivial (by rfl) (by rintro W ⟨h0, h1⟩; go_simp; done) ?_
        try simp only [Act.put, List.getElem_toArray, List.getElem_cons_zero, List.getElem_cons_succ, List.setIfInBounds_toArray, List.set_cons_zero, List.set_cons_succ]
        refine YtgcehkhlkjahjaaG.wpAnyG_take 2 (v := .bool false) rfl (by kernel_rfl) (by kernel_rfl) (by kernel_rfl) (by kernel_rfl) (by decide) (fun a u => YtgcehkhlkjahjaaG.keepT_put a u) HS0.out trivial (by rfl) (by rintro W ⟨h0, h1⟩; go_simp; done) ?_
        try simp only [Act.put, List.getElem_toArray, List.getElem_cons_zero, List.getElem_cons_succ, List.setIfInBounds_toArray, List.set_cons_zero, List.set_cons_succ]
        refine YtgcehkhlkjahjaaG.wpAnyG_take 3 (v := .pointer (some ⟨g, 0, none⟩)) rfl (by kernel_rfl) (by kernel_rfl) (by kernel_rfl) (by kernel_rfl) (by decide) (fun a u => YtgcehkhlkjahjaaG.keepT_put a u) HS0.out trivial (by rfl) (by rintro W ⟨h0, h1⟩; go_simp; done) ?_
        try simp only [Act.put, List.getElem_toArray, List.getElem_cons_zero, List.getElem_cons_succ, List.setIfInBounds_toArray, List.set_cons_zero, List.set_cons_succ]
        refine YtgcehkhlkjahjaaG.wpAnyG_take 5 (v := .int .i64 r.at_) rfl (by kernel_rfl) (by kernel_rfl) (by kernel_rfl) (by kernel_rfl) (by decide) (fun a u => YtgcehkhlkjahjaaG.keepT_put a u) HS0.out trivial (by rfl) (by rintro W ⟨h0, h1⟩; go_simp; done) ?_
        try simp only [Act.put, List.getElem_toArray, List.getElem_cons_zero, List.getElem_cons_succ, List.setIfInBounds_toArray, List.set_cons_zero, List.set_cons_succ]
        refine YtgcehkhlkjahjaaG.wpAnyG_one 4 rfl (by kernel_rfl) (by rfl) (fun K hK => ?_)
        go_simp
        refine (RAt.at' (HR2.out.below (Below.refl _ w2).drew)).mono ?_
        rintro e w3 ⟨rfl, rfl⟩
        refine hK _ _ HS0.out trivial ?_
        try simp only [Act.put, List.getElem_toArray, List.getElem_cons_zero, List.getElem_cons_succ, List.setIfInBounds_toArray, List.set_cons_zero, List.set_cons_succ]
        clear hK K
        refine YtgcehkhlkjahjaaG.wpAnyG_take 6 (v := .bool false) rfl (by kernel_rfl) (by kernel_rfl) (by kernel_rfl) (by kernel_rfl) (by decide) (fun a u => YtgcehkhlkjahjaaG.keepT_put a u) HS0.out trivial (by rfl) (by rintro W ⟨h0, h1⟩; go_simp; done) ?_
        try simp only [Act.put, List.getElem_toArray, List.getElem_cons_zero, List.getElem_cons_succ, List.setIfInBounds_toArray, List.set_cons_zero, List.set_cons_succ]
        refine YtgcehkhlkjahjaaG.wpAnyG_take 7 (v := .bool false) rfl (by kernel_rfl) (by kernel_rfl) (by kernel_rfl) (by kernel_rfl) (by decide) (fun a u => YtgcehkhlkjahjaaG.keepT_put a u) HS0.out trivial (by rfl) (by rintro W ⟨h0, h1⟩; go_simp; done) ?_
        try simp only [Act.put, List.getElem_toArray, List.getElem_cons_zero, List.getElem_cons_succ, List.setIfInBounds_toArray, List.set_cons_zero, List.set_cons_succ]
        refine YtgcehkhlkjahjaaG.wpAnyG_take 8 (v := .bool false) rfl (by kernel_rfl) (by kernel_rfl) (by kernel_rfl) (by kernel_rfl) (by decide) (fun a u => YtgcehkhlkjahjaaG.keepT_put a u) HS0.out trivial (by rfl) (by rintro W ⟨h0, h1⟩; go_simp; done) ?_
        try simp only [Act.put, List.getElem_toArray, List.getElem_cons_zero, List.getElem_cons_succ, List.setIfInBounds_toArray, List.set_cons_zero, List.set_cons_succ]
        refine YtgcehkhlkjahjaaG.wpAnyG_take 9 (v := .pointer (some ⟨g, 0, none⟩)) rfl (by kernel_rfl) (by kernel_rfl) (by kernel_rfl) (by kernel_rfl) (by decide) (fun a u => YtgcehkhlkjahjaaG.keepT_put a u) HS0.out trivial (by rfl) (by rintro W ⟨h0, h1⟩; go_simp; done) ?_
        try simp only [Act.put, List.getElem_toArray, List.getElem_cons_zero, List.getElem_cons_succ, List.setIfInBounds_toArray, List.set_cons_zero, List.set_cons_succ]
        refine YtgcehkhlkjahjaaG.wpAnyG_take 11 (v := .agg #[.int .i64 r.code, .int .i64 r.fat]) rfl (by kernel_rfl) (by kernel_rfl) (by kernel_rfl) (by kernel_rfl) (by decide) (fun a u => YtgcehkhlkjahjaaG.keepT_put a u) HS0.out trivial (by rfl) (by rintro W ⟨h0, h1⟩; go_simp; done) ?_
        try simp only [Act.put, List.getElem_toArray, List.getElem_cons_zero, List.getElem_cons_succ, List.setIfInBounds_toArray, List.set_cons_zero, List.set_cons_succ]
        refine YtgcehkhlkjahjaaG.wpAnyG_one 10 rfl (by kernel_rfl) (by rfl) (fun K hK => ?_)
        go_simp
        refine (RAt.fault (HR2.out.below (Below.refl _ w2).drew)).mono ?_
        rintro e w3 ⟨rfl, R3, f3⟩
        have q3 := f3.blk HQ2.out (by omega)
        have HS1 := Aside0.mk (And.intro ((blk_cell q3 0).trans rfl) ((blk_cell q3 1).trans rfl))
        have HR3 := Aside0.mk R3
        clear q3 R3
        refine hK _ _ HS1.out trivial ?_
        try simp only [Act.put, List.getElem_toArray, List.getElem_cons_zero, List.getElem_cons_succ, List.setIfInBounds_toArray, List.set_cons_zero, List.set_cons_succ]
        clear hK K
        refine YtgcehkhlkjahjaaG.wpAnyG_take 12 (v := .bool false) rfl (by kernel_rfl) (by kernel_rfl) (by kernel_rfl) (by kernel_rfl) (by decide) (fun a u => YtgcehkhlkjahjaaG.keepT_put a u) HS1.out trivial (by rfl) (by rintro W ⟨h0, h1⟩; go_simp; done) ?_
        try simp only [Act.put, List.getElem_toArray, List.getElem_cons_zero, List.getElem_cons_succ, List.setIfInBounds_toArray, List.set_cons_zero, List.set_cons_succ]
        refine YtgcehkhlkjahjaaG.wpAnyG_take 13 (v := .bool false) rfl (by kernel_rfl) (by kernel_rfl) (by kernel_rfl) (by kernel_rfl) (by decide) (fun a u => YtgcehkhlkjahjaaG.keepT_put a u) HS1.out trivial (by rfl) (by rintro W ⟨h0, h1⟩; go_simp; done) ?_
        try simp only [Act.put, List.getElem_toArray, List.getElem_cons_zero, List.getElem_cons_succ, List.setIfInBounds_toArray, List.set_cons_zero, List.set_cons_succ]
        refine YtgcehkhlkjahjaaG.wpAnyG_done (by kernel_rfl) ?_ _
        go_wp2
        go_roundg (l.length - (kk + 1))
        case measure => omega
        case rel => exact ⟨kk + 1, _, r, by omega, by omega, by go_num, rfl, HR3, ⟨fun h => absurd h HC.out⟩⟩
    · have hltz : ¬ (kk : Int) < (l.length : Int) := by omega
      clear HL
      by_cases hc : r.code = 0
      · have t1 : (r.code != 0) = false := by simp [hc]
        by_cases hx : x = 0
        · have HF : Aside0 (r.fail x = r) := ⟨by simp [RS.fail, hx]⟩
          have t2 : (x == 0) = true := beq_iff_eq.2 hx
          clear hc hx
          go_wp2_with (first
            | (go_at_call 18; refine (RAt.fault HR.out).mono ?_; rintro e w1 ⟨rfl, R1, _⟩; have hgl := RAt.lt R1; have R1' := RAt.below R1 (below1 (.cells #[.int .i64 r.code, .int .i64 r.fat] 47)))
            | (go_at_call 20; refine (RAt.fail' R1' x).mono ?_; rw [HF.out]; rintro e w2 ⟨rfl, R2, f2⟩; have q2 := f2.blk (heap_alloc_new w1 (.cells #[.int .i64 r.code, .int .i64 r.fat] 47)) (by omega); have x0 := (blk_cell q2 0).trans rfl; have x1 := (blk_cell q2 1).trans rfl))
          have HR2 := Aside0.mk R2
          have HQ2 := Aside0.mk q2
          have HS0 := Aside0.mk (show w2.drew.cell? ⟨w1.heap.size, 0, none⟩ = some (.int .i64 r.code) ∧ w2.drew.cell? ⟨w1.heap.size, 1, none⟩ = some (.int .i64 r.fat) from ⟨x0, x1⟩)
          clear R1' R2 q2 x0 x1
          refine YtgcehkhlkjahjaaG.wp_region_door 99 YtgcehkhlkjahjaaG.keepT (fun _ _ => False) (fun W => W.cell? ⟨w1.heap.size, 0, none⟩ = some (.int .i64 r.code) ∧ W.cell? ⟨w1.heap.size, 1, none⟩ = some (.int .i64 r.fat)) (by kernel_rfl) trivial (fun _ _ _ _ h => h.elim) ?_
          refine YtgcehkhlkjahjaaG.wpAnyG_take 0 (v := .pointer (some ⟨g, 0, none⟩)) rfl (by kernel_rfl) (by kernel_rfl) (by kernel_rfl) (by kernel_rfl) (by decide) (fun a u => YtgcehkhlkjahjaaG.keepT_put a u) HS0.out trivial (by rfl) (by rintro W ⟨h0, h1⟩; go_simp; done) ?_
          try simp only [Act.put, List.getElem_toArray, List.getElem_cons_zero, List.getElem_cons_succ, List.setIfInBounds_toArray, List.set_cons_zero, List.set_cons_succ]
          refine YtgcehkhlkjahjaaG.wpAnyG_take 2 (v := .agg #[.int .i64 r.code, .int .i64 r.fat]) rfl (by kernel_rfl) (by kernel_rfl) (by kernel_rfl) (by kernel_rfl) (by decide) (fun a u => YtgcehkhlkjahjaaG.keepT_put a u) HS0.out trivial (by rfl) (by rintro W ⟨h0, h1⟩; go_simp; done) ?_
          try simp only [Act.put, List.getElem_toArray, List.getElem_cons_zero, List.getElem_cons_succ, List.setIfInBounds_toArray, List.set_cons_zero, List.set_cons_succ]
          refine YtgcehkhlkjahjaaG.wpAnyG_one 1 rfl (by kernel_rfl) (by rfl) (fun K hK => ?_)
          go_simp
          refine (RAt.fault (HR2.out.below (Below.refl _ w2).drew)).mono ?_
          rintro e w3 ⟨rfl, R3, f3⟩
          have q3 := f3.blk HQ2.out (by omega)
          have HS1 := Aside0.mk (And.intro ((blk_cell q3 0).trans rfl) ((blk_cell q3 1).trans rfl))
          have HB3 := Aside0.mk R3.1
          clear q3 R3
          refine hK _ _ HS1.out trivial ?_
          try simp only [Act.put, List.getElem_toArray, List.getElem_cons_zero, List.getElem_cons_succ, List.setIfInBounds_toArray, List.set_cons_zero, List.set_cons_succ]
          clear hK K
          refine YtgcehkhlkjahjaaG.wpAnyG_take 3 (v := .bool true) rfl (by kernel_rfl) (by kernel_rfl) (by kernel_rfl) (by kernel_rfl) (by decide) (fun a u => YtgcehkhlkjahjaaG.keepT_put a u) HS1.out trivial (by rfl) (by rintro W ⟨h0, h1⟩; go_simp; done) ?_
          try simp only [Act.put, List.getElem_toArray, List.getElem_cons_zero, List.getElem_cons_succ, List.setIfInBounds_toArray, List.set_cons_zero, List.set_cons_succ]
          refine YtgcehkhlkjahjaaG.wpAnyG_take 4 (v := .bool true) rfl (by kernel_rfl) (by kernel_rfl) (by kernel_rfl) (by kernel_rfl) (by decide) (fun a u => YtgcehkhlkjahjaaG.keepT_put a u) HS1.out trivial (by rfl) (by rintro W ⟨h0, h1⟩; go_simp; done) ?_
          try simp only [Act.put, List.getElem_toArray, List.getElem_cons_zero, List.getElem_cons_succ, List.setIfInBounds_toArray, List.set_cons_zero, List.set_cons_succ]
          refine YtgcehkhlkjahjaaG.wpAnyG_done (by kernel_rfl) ?_ _
          go_wp2
          go_ret
          exact ⟨rfl, HB3.out⟩
        · have HF : Aside0 (r.fail x = { r with code := x, fat := r.last }) := ⟨by simp [RS.fail, hx, hc]⟩
          have t2 : (x == 0) = false := beq_eq_false_iff_ne.2 hx
          obtain rfl := HI.out hc
          clear hc hx HI
          go_wp2_with (first
            | (go_at_call 18; first | ((with_reducible refine (RAt.fault R2).mono ?_); rintro e w4 ⟨rfl, R4, _⟩) | ((with_reducible refine (RAt.fault HR.out).mono ?_); rintro e w1 ⟨rfl, R1, _⟩; have hgl := RAt.lt R1; have R1' := RAt.below R1 (below1 (.cells #[.int .i64 r.code, .int .i64 r.fat] 47))))
            | (go_at_call 20; refine (RAt.fail' R1' x).mono ?_; rw [HF.out]; rintro e w2 ⟨rfl, R2, f2⟩; have q2 := f2.blk (heap_alloc_new w1 (.cells #[.int .i64 r.code, .int .i64 r.fat] 47)) (by omega); have x0 := (blk_cell q2 0).trans rfl; have x1 := (blk_cell q2 1).trans rfl))
          go_ret
          exact ⟨rfl, below_alloc R4.1 _⟩
      · have t1 : (r.code != 0) = true := bne_iff_ne.2 hc
        have HF : Aside0 (r.fail x = r) := ⟨by simp [RS.fail, hc]⟩
        clear hc
        go_wp2_with (first
          | (go_at_call 18; refine (RAt.fault HR.out).mono ?_; rintro e w1 ⟨rfl, R1, _⟩; have hgl := RAt.lt R1; have R1' := RAt.below R1 (below1 (.cells #[.int .i64 r.code, .int .i64 r.fat] 47)))
          | (go_at_call 20; refine (RAt.fail' R1' x).mono ?_; rw [HF.out]; rintro e w2 ⟨rfl, R2, f2⟩; have q2 := f2.blk (heap_alloc_new w1 (.cells #[.int .i64 r.code, .int .i64 r.fat] 47)) (by omega); have x0 := (blk_cell q2 0).trans rfl; have x1 := (blk_cell q2 1).trans rfl))
        have HR2 := Aside0.mk R2
        have HQ2 := Aside0.mk q2
        have HS0 := Aside0.mk (show w2.drew.cell? ⟨w1.heap.size, 0, none⟩ = some (.int .i64 r.code) ∧ w2.drew.cell? ⟨w1.heap.size, 1, none⟩ = some (.int .i64 r.fat) from ⟨x0, x1⟩)
        clear R1' R2 q2 x0 x1
        refine YtgcehkhlkjahjaaG.wp_region_door 99 YtgcehkhlkjahjaaG.keepT (fun _ _ => False) (fun W => W.cell? ⟨w1.heap.size, 0, none⟩ = some (.int .i64 r.code) ∧ W.cell? ⟨w1.heap.size, 1, none⟩ = some (.int .i64 r.fat)) (by kernel_rfl) trivial (fun _ _ _ _ h => h.elim) ?_
        refine YtgcehkhlkjahjaaG.wpAnyG_take 0 (v := .pointer (some ⟨g, 0, none⟩)) rfl (by kernel_rfl) (by kernel_rfl) (by kernel_rfl) (by kernel_rfl) (by decide) (fun a u => YtgcehkhlkjahjaaG.keepT_put a u) HS0.out trivial (by rfl) (by rintro W ⟨h0, h1⟩; go_simp; done) ?_
        try simp only [Act.put, List.getElem_toArray, List.getElem_cons_zero, List.getElem_cons_succ, List.setIfInBounds_toArray, List.set_cons_zero, List.set_cons_succ]
        refine YtgcehkhlkjahjaaG.wpAnyG_take 2 (v := .agg #[.int .i64 r.code, .int .i64 r.fat]) rfl (by kernel_rfl) (by kernel_rfl) (by kernel_rfl) (by kernel_rfl) (by decide) (fun a u => YtgcehkhlkjahjaaG.keepT_put a u) HS0.out trivial (by rfl) (by rintro W ⟨h0, h1⟩; go_simp; done) ?_
        try simp only [Act.put, List.getElem_toArray, List.getElem_cons_zero, List.getElem_cons_succ, List.setIfInBounds_toArray, List.set_cons_zero, List.set_cons_succ]
        refine YtgcehkhlkjahjaaG.wpAnyG_one 1 rfl (by kernel_rfl) (by rfl) (fun K hK => ?_)
        go_simp
        refine (RAt.fault (HR2.out.below (Below.refl _ w2).drew)).mono ?_
        rintro e w3 ⟨rfl, R3, f3⟩
        have q3 := f3.blk HQ2.out (by omega)
        have HS1 := Aside0.mk (And.intro ((blk_cell q3 0).trans rfl) ((blk_cell q3 1).trans rfl))
        have HB3 := Aside0.mk R3.1
        clear q3 R3
        refine hK _ _ HS1.out trivial ?_
        try simp only [Act.put, List.getElem_toArray, List.getElem_cons_zero, List.getElem_cons_succ, List.setIfInBounds_toArray, List.set_cons_zero, List.set_cons_succ]
        clear hK K
        refine YtgcehkhlkjahjaaG.wpAnyG_take 3 (v := .bool true) rfl (by kernel_rfl) (by kernel_rfl) (by kernel_rfl) (by kernel_rfl) (by decide) (fun a u => YtgcehkhlkjahjaaG.keepT_put a u) HS1.out trivial (by rfl) (by rintro W ⟨h0, h1⟩; go_simp; done) ?_
        try simp only [Act.put, List.getElem_toArray, List.getElem_cons_zero, List.getElem_cons_succ, List.setIfInBounds_toArray, List.set_cons_zero, List.set_cons_succ]
        refine YtgcehkhlkjahjaaG.wpAnyG_take 4 (v := .bool true) rfl (by kernel_rfl) (by kernel_rfl) (by kernel_rfl) (by kernel_rfl) (by decide) (fun a u => YtgcehkhlkjahjaaG.keepT_put a u) HS1.out trivial (by rfl) (by rintro W ⟨h0, h1⟩; go_simp; done) ?_
        try simp only [Act.put, List.getElem_toArray, List.getElem_cons_zero, List.getElem_cons_succ, List.setIfInBounds_toArray, List.set_cons_zero, List.set_cons_succ]
        refine YtgcehkhlkjahjaaG.wpAnyG_done (by kernel_rfl) ?_ _
        go_wp2
        go_ret
        exact ⟨rfl, HB3.out⟩
end Go.Proofs.Ytgcehkhlkjahjaa.Wi
