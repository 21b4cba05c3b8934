/- WireReads: pieces are taken out of any bytes as the document says. -/
import Derived.Test.YtgcehkhlkjahjaaWiX5
set_option linter.unusedVariables false
set_option linter.unusedSimpArgs false
namespace Go.Proofs.Ytgcehkhlkjahjaa.Wi
open Go Go.RowKit Go.Proofs.YtgcehkhlkjahjaaW.PrintWords
theorem lentL_take (bs : List Int) : (lentL bs 3).take bs.length = bs := by simp [lentL]
theorem reads_lent {w : World} {B gl : Nat} {bs : List Int} (ho : w.ownsRow B 5 1 (.slice (some ⟨gl, 0, none⟩) (bs.length + 3) (bs.length + 3)) (bs.length + 3) (nums .u8 (lentL bs 3))) : ReadsInt w .u8 (some ⟨gl, 0, none⟩) bs.length bs := by
  obtain ⟨A, c, h1, _, h2⟩ := own_reads' ho
  injection h1 with h1 _ _
  subst h1
  have h3 := ReadsInt.take_ h2 bs.length (by omega)
  rwa [lentL_take] at h3
theorem Rd.past {W W' : World} {B g gl : Nat} {ro : Option Nat} {bs : List Int} {r : RS} (h : Rd W B g ro bs r) (hf : Fr (fun i => i = gl) W W') (hgl : gl < B) : Rd W' B g ro bs r := by
  obtain ⟨v, _, ho, hro⟩ := h.at_
  have hb := h.base
  refine h.keep hf (by omega) (fun k hk e => ?_)
  have := own_base ho k (by rw [hro, hk])
  omega
set_option maxHeartbeats 32000000 in
set_option maxRecDepth 100000 in
theorem wireReads_calls (A : Option Addr) (c : Nat) (bs : List Int) (A1 : Option Addr) (c1 : Nat) (l : List Pc) (w : World) (hb : kB.C w A bs.length bs) (hc : bs.length ≤ c) (hbl : bs.length ≤ 140737488351232) (hl : kPc.C w A1 l.length l) (hc1 : l.length ≤ c1) (hll : l.length ≤ 140737488351232) :
    Calls Try.prog 6 #[.slice A bs.length c, .slice A1 l.length c1] w fun e w' => e = .returned (.bool true) ∧ Below w.heap.size w w' := by
  obtain ⟨hrd, hby⟩ := kB_reads hb
  have HRD := Aside0.mk hrd
  have HBY := Aside0.mk hby
  have HL := Aside0.mk hl
  have HFAR : Aside0 (∀ ad, A = some ad → 0 < bs.length → ad.block < w.heap.size) := ⟨fun ad ea hn => by
    obtain ⟨ad', e', hcell⟩ := hrd.2.2 hn
    rw [ea] at e'
    obtain rfl := Option.some.inj e'
    have := World.block_lt_of_cell? w _ (hcell 0 hn)
    rwa [add_block] at this⟩
  clear hb hrd hby hl
  go_enter Try.func6, Try.ntmps6
  go_wp2_with (first
    | (go_at_call 9; refine (awake_calls _).mono ?_; rintro e w0 ⟨rfl, hb0⟩)
    | (go_at_call 21; refine (lent_calls A c bs _ (HRD.out.below hb0) hc hbl).mono ?_; rintro e w1 ⟨gl, rfl, ho1, hgl1, hb1⟩; have HO1 := Aside0.mk ho1; have HR1 := Aside0.mk (reads_lent ho1); have HLT := Aside0.mk (own_lt ho1 gl rfl); clear ho1)
    | (go_at_call 16; refine (newReader_calls (some ⟨gl, 0, none⟩) (bs.length + 3) bs _ HR1.out HBY.out (by omega)).mono ?_; rintro e w2 ⟨g, ro, rfl, R2, hb2⟩; have HR2 := Aside0.mk R2; have HO2 := Aside0.mk ((Fr.of_below (S := fun _ => False) hb2).own HO1.out (fun _ _ h => h)); clear R2)
    | (go_at_call 22; refine (back_calls A c bs _ gl _ ((HRD.out.below hb0).below (below_then hb1 hb1.size hb2)) (fun ad ea hn => by have := HFAR.out ad ea hn; have := hb0.size; omega) hbl HO2.out).mono ?_; rintro e w3 ⟨rfl, f3⟩))
  have HP0 := Aside0.mk (show PX w (w3.alloc (.cells #[.slice A bs.length c, .int .i64 0, .int .i64 0, .int .i64 0, .int .i64 0] 56)) g w3.heap.size A c bs ⟨0, 0, 0, 0⟩ ⟨0, 0, 0, 0⟩ from by
    have hlt := HLT.out
    have hz0 := hb0.size
    have hz1 := hb1.size
    have hz2 := hb2.size
    have hB2 : Below w.heap.size w w2 := below_then (below_then hb0 hb0.size hb1) (by omega) hb2
    have hz3 := f3.size
    have hB3 : Below w.heap.size w w3 := hB2.trans (f3.below (by omega) (fun i hi => by subst hi; omega))
    refine ⟨below_alloc hB3 _, ⟨ro, ((HR2.out.past f3 hlt).lower (by omega)).below (below1 _)⟩, ⟨heap_alloc_new w3 _, HRD.out.below (below_alloc hB3 _), fun ad ea hn => ?_, by simp, by omega, HBY.out, hc⟩, by omega, HFAR.out⟩
    have := HFAR.out ad ea hn
    omega)
  clear HR2 HO2 HO1 HR1 HLT f3
  generalize w3.heap.size = gx at *
  go_loopg [10, 11] l.length (fun gg s10 s11 wr => ∃ (kk : Nat) (r : RS), kk ≤ l.length ∧ l.length - kk ≤ gg ∧ s10 = .int .i64 kk ∧ Aside0 (PX w wr g gx A c bs r r))
  case atStart => exact ⟨0, _, Nat.zero_le _, by omega, rfl, HP0⟩
  case round =>
    obtain ⟨kk, r, hkk, hgg, rfl, HP⟩ := hrel
    clear HP0
    by_cases hlt : kk < l.length
    · have hltz : (kk : Int) < (l.length : Int) := by omega
      obtain ⟨ad, rfl, hok, hpc⟩ := pc_at HL.out kk hlt
      have HPC := Aside0.mk (PcAt.of hpc HP.out.below)
      have CN := Aside0.mk (fun (W : World) (h : PX w W g gx A c bs r r) => takes_calls l[kk] hok h)
      clear hpc hok
      generalize takesS bs r l[kk] = r' at CN
      generalize l[kk] = p at HPC CN
      unfold Pc.val at CN
      have d0 := HPC.out.c0
      have d1 := HPC.out.c1
      have d2 := HPC.out.c2
      have d3 := HPC.out.c3
      have d4 := HPC.out.c4
      have d5 := HPC.out.c5
      go_wp2_with (go_at_call 23; refine (CN.out _ HP.out).mono ?_; rintro e w4 ⟨rfl, P4⟩)
      clear d0 d1 d2 d3 d4 d5 HPC CN
      have HPA := Aside0.mk (P4.then_ (Below.refl _ _).drew)
      clear P4 HP
      have hsb : IntKind.i64.wrap ((bs.length : Int) - r'.at_) = (bs.length : Int) - r'.at_ := IntWalk.i64_in _ (by have := HPA.out.xr.le; omega)
      have HS0 := Aside0.mk (And.intro ((blk_cell HPA.out.xr.blk 1).trans rfl) (And.intro ((blk_cell HPA.out.xr.blk 3).trans rfl) ((blk_cell HPA.out.xr.blk 4).trans rfl)))
      refine YtgcehkhlkjahjaaG.wp_region_door 99 YtgcehkhlkjahjaaG.keepT (fun _ _ => False) (fun W => W.cell? ⟨gx, 1, none⟩ = some (.int .i64 (r'.at_ : Int)) ∧ W.cell? ⟨gx, 3, none⟩ = some (.int .i64 r'.code) ∧ W.cell? ⟨gx, 4, none⟩ = some (.int .i64 r'.fat)) (by kernel_rfl) trivial (fun _ _ _ _ h => h.elim) ?_
      refine YtgcehkhlkjahjaaG.wpAnyG_take 0 (v := .bool true) rfl (by kernel_rfl) (by kernel_rfl) (by kernel_rfl) (by kernel_rfl) (by decide) (fun a u => YtgcehkhlkjahjaaG.keepT_put a u) HS0.out trivial (by rfl) (by rintro W ⟨h0, h1, h2⟩; go_simp; done) ?_
      try simp only [Act.put, List.getElem_toArray, List.getElem_cons_zero, List.getElem_cons_succ, List.setIfInBounds_toArray, List.set_cons_zero, List.set_cons_succ]
      refine YtgcehkhlkjahjaaG.wpAnyG_take 1 (v := .bool false) rfl (by kernel_rfl) (by kernel_rfl) (by kernel_rfl) (by kernel_rfl) (by decide) (fun a u => YtgcehkhlkjahjaaG.keepT_put a u) HS0.out trivial (by rfl) (by rintro W ⟨h0, h1, h2⟩; go_simp; done) ?_
      try simp only [Act.put, List.getElem_toArray, List.getElem_cons_zero, List.getElem_cons_succ, List.setIfInBounds_toArray, List.set_cons_zero, List.set_cons_succ]
      refine YtgcehkhlkjahjaaG.wpAnyG_take 2 (v := .bool false) rfl (by kernel_rfl) (by kernel_rfl) (by kernel_rfl) (by kernel_rfl) (by decide) (fun a u => YtgcehkhlkjahjaaG.keepT_put a u) HS0.out trivial (by rfl) (by rintro W ⟨h0, h1, h2⟩; go_simp; done) ?_
      try simp only [Act.put, List.getElem_toArray, List.getElem_cons_zero, List.getElem_cons_succ, List.setIfInBounds_toArray, List.set_cons_zero, List.set_cons_succ]
      refine YtgcehkhlkjahjaaG.wpAnyG_take 3 (v := .pointer (some ⟨g, 0, none⟩)) rfl (by kernel_rfl) (by kernel_rfl) (by kernel_rfl) (by kernel_rfl) (by decide) (fun a u => YtgcehkhlkjahjaaG.keepT_put a u) HS0.out trivial (by rfl) (by rintro W ⟨h0, h1, h2⟩; go_simp; done) ?_
      try simp only [Act.put, List.getElem_toArray, List.getElem_cons_zero, List.getElem_cons_succ, List.setIfInBounds_toArray, List.set_cons_zero, List.set_cons_succ]
      refine YtgcehkhlkjahjaaG.wpAnyG_take 5 (v := .pointer (some ⟨gx, 0, none⟩)) rfl (by kernel_rfl) (by kernel_rfl) (by kernel_rfl) (by kernel_rfl) (by decide) (fun a u => YtgcehkhlkjahjaaG.keepT_put a u) HS0.out trivial (by rfl) (by rintro W ⟨h0, h1, h2⟩; go_simp; done) ?_
      try simp only [Act.put, List.getElem_toArray, List.getElem_cons_zero, List.getElem_cons_succ, List.setIfInBounds_toArray, List.set_cons_zero, List.set_cons_succ]
      refine YtgcehkhlkjahjaaG.wpAnyG_take 6 (v := .pointer (some ⟨gx, 0, none⟩)) rfl (by kernel_rfl) (by kernel_rfl) (by kernel_rfl) (by kernel_rfl) (by decide) (fun a u => YtgcehkhlkjahjaaG.keepT_put a u) HS0.out trivial (by rfl) (by rintro W ⟨h0, h1, h2⟩; go_simp; done) ?_
      try simp only [Act.put, List.getElem_toArray, List.getElem_cons_zero, List.getElem_cons_succ, List.setIfInBounds_toArray, List.set_cons_zero, List.set_cons_succ]
      refine YtgcehkhlkjahjaaG.wpAnyG_take 7 (v := .pointer (some ⟨gx, 1, none⟩)) rfl (by kernel_rfl) (by kernel_rfl) (by kernel_rfl) (by kernel_rfl) (by decide) (fun a u => YtgcehkhlkjahjaaG.keepT_put a u) HS0.out trivial (by rfl) (by rintro W ⟨h0, h1, h2⟩; go_simp; done) ?_
      try simp only [Act.put, List.getElem_toArray, List.getElem_cons_zero, List.getElem_cons_succ, List.setIfInBounds_toArray, List.set_cons_zero, List.set_cons_succ]
      refine YtgcehkhlkjahjaaG.wpAnyG_take 8 (v := .int .i64 (r'.at_ : Int)) rfl (by kernel_rfl) (by kernel_rfl) (by kernel_rfl) (by kernel_rfl) (by decide) (fun a u => YtgcehkhlkjahjaaG.keepT_put a u) HS0.out trivial (by rfl) (by rintro W ⟨h0, h1, h2⟩; go_simp; done) ?_
      try simp only [Act.put, List.getElem_toArray, List.getElem_cons_zero, List.getElem_cons_succ, List.setIfInBounds_toArray, List.set_cons_zero, List.set_cons_succ]
      refine YtgcehkhlkjahjaaG.wpAnyG_one 4 rfl (by kernel_rfl) (by rfl) (fun K hK => ?_)
      go_simp
      refine (RAt.at' HPA.out.reader).mono ?_
      rintro e w5 ⟨rfl, rfl⟩
      refine hK _ _ HS0.out trivial ?_
      try simp only [Act.put, List.getElem_toArray, List.getElem_cons_zero, List.getElem_cons_succ, List.setIfInBounds_toArray, List.set_cons_zero, List.set_cons_succ]
      clear hK K
      refine YtgcehkhlkjahjaaG.wpAnyG_take 9 (v := .bool false) rfl (by kernel_rfl) (by kernel_rfl) (by kernel_rfl) (by kernel_rfl) (by decide) (fun a u => YtgcehkhlkjahjaaG.keepT_put a u) HS0.out trivial (by rfl) (by rintro W ⟨h0, h1, h2⟩; go_simp; done) ?_
      try simp only [Act.put, List.getElem_toArray, List.getElem_cons_zero, List.getElem_cons_succ, List.setIfInBounds_toArray, List.set_cons_zero, List.set_cons_succ]
      refine YtgcehkhlkjahjaaG.wpAnyG_take 10 (v := .bool false) rfl (by kernel_rfl) (by kernel_rfl) (by kernel_rfl) (by kernel_rfl) (by decide) (fun a u => YtgcehkhlkjahjaaG.keepT_put a u) HS0.out trivial (by rfl) (by rintro W ⟨h0, h1, h2⟩; go_simp; done) ?_
      try simp only [Act.put, List.getElem_toArray, List.getElem_cons_zero, List.getElem_cons_succ, List.setIfInBounds_toArray, List.set_cons_zero, List.set_cons_succ]
      refine YtgcehkhlkjahjaaG.wpAnyG_take 11 (v := .bool false) rfl (by kernel_rfl) (by kernel_rfl) (by kernel_rfl) (by kernel_rfl) (by decide) (fun a u => YtgcehkhlkjahjaaG.keepT_put a u) HS0.out trivial (by rfl) (by rintro W ⟨h0, h1, h2⟩; go_simp; done) ?_
      try simp only [Act.put, List.getElem_toArray, List.getElem_cons_zero, List.getElem_cons_succ, List.setIfInBounds_toArray, List.set_cons_zero, List.set_cons_succ]
      refine YtgcehkhlkjahjaaG.wpAnyG_take 12 (v := .pointer (some ⟨g, 0, none⟩)) rfl (by kernel_rfl) (by kernel_rfl) (by kernel_rfl) (by kernel_rfl) (by decide) (fun a u => YtgcehkhlkjahjaaG.keepT_put a u) HS0.out trivial (by rfl) (by rintro W ⟨h0, h1, h2⟩; go_simp; done) ?_
      try simp only [Act.put, List.getElem_toArray, List.getElem_cons_zero, List.getElem_cons_succ, List.setIfInBounds_toArray, List.set_cons_zero, List.set_cons_succ]
      refine YtgcehkhlkjahjaaG.wpAnyG_take 14 (v := .slice A bs.length c) rfl (by kernel_rfl) (by kernel_rfl) (by kernel_rfl) (by kernel_rfl) (by decide) (fun a u => YtgcehkhlkjahjaaG.keepT_put a u) HS0.out trivial (by rfl) (by rintro W ⟨h0, h1, h2⟩; go_simp; done) ?_
      try simp only [Act.put, List.getElem_toArray, List.getElem_cons_zero, List.getElem_cons_succ, List.setIfInBounds_toArray, List.set_cons_zero, List.set_cons_succ]
      refine YtgcehkhlkjahjaaG.wpAnyG_take 15 (v := .int .i64 (bs.length : Int)) rfl (by kernel_rfl) (by kernel_rfl) (by kernel_rfl) (by kernel_rfl) (by decide) (fun a u => YtgcehkhlkjahjaaG.keepT_put a u) HS0.out trivial (by rfl) (by rintro W ⟨h0, h1, h2⟩; go_simp; done) ?_
      try simp only [Act.put, List.getElem_toArray, List.getElem_cons_zero, List.getElem_cons_succ, List.setIfInBounds_toArray, List.set_cons_zero, List.set_cons_succ]
      refine YtgcehkhlkjahjaaG.wpAnyG_take 16 (v := .pointer (some ⟨gx, 0, none⟩)) rfl (by kernel_rfl) (by kernel_rfl) (by kernel_rfl) (by kernel_rfl) (by decide) (fun a u => YtgcehkhlkjahjaaG.keepT_put a u) HS0.out trivial (by rfl) (by rintro W ⟨h0, h1, h2⟩; go_simp; done) ?_
      try simp only [Act.put, List.getElem_toArray, List.getElem_cons_zero, List.getElem_cons_succ, List.setIfInBounds_toArray, List.set_cons_zero, List.set_cons_succ]
      refine YtgcehkhlkjahjaaG.wpAnyG_take 17 (v := .pointer (some ⟨gx, 0, none⟩)) rfl (by kernel_rfl) (by kernel_rfl) (by kernel_rfl) (by kernel_rfl) (by decide) (fun a u => YtgcehkhlkjahjaaG.keepT_put a u) HS0.out trivial (by rfl) (by rintro W ⟨h0, h1, h2⟩; go_simp; done) ?_
      try simp only [Act.put, List.getElem_toArray, List.getElem_cons_zero, List.getElem_cons_succ, List.setIfInBounds_toArray, List.set_cons_zero, List.set_cons_succ]
      refine YtgcehkhlkjahjaaG.wpAnyG_take 18 (v := .pointer (some ⟨gx, 1, none⟩)) rfl (by kernel_rfl) (by kernel_rfl) (by kernel_rfl) (by kernel_rfl) (by decide) (fun a u => YtgcehkhlkjahjaaG.keepT_put a u) HS0.out trivial (by rfl) (by rintro W ⟨h0, h1, h2⟩; go_simp; done) ?_
      try simp only [Act.put, List.getElem_toArray, List.getElem_cons_zero, List.getElem_cons_succ, List.setIfInBounds_toArray, List.set_cons_zero, List.set_cons_succ]
      refine YtgcehkhlkjahjaaG.wpAnyG_take 19 (v := .int .i64 (r'.at_ : Int)) rfl (by kernel_rfl) (by kernel_rfl) (by kernel_rfl) (by kernel_rfl) (by decide) (fun a u => YtgcehkhlkjahjaaG.keepT_put a u) HS0.out trivial (by rfl) (by rintro W ⟨h0, h1, h2⟩; go_simp; done) ?_
      try simp only [Act.put, List.getElem_toArray, List.getElem_cons_zero, List.getElem_cons_succ, List.setIfInBounds_toArray, List.set_cons_zero, List.set_cons_succ]
      refine YtgcehkhlkjahjaaG.wpAnyG_take 20 (v := .int .i64 ((bs.length : Int) - r'.at_)) rfl (by kernel_rfl) (by kernel_rfl) (by kernel_rfl) (by kernel_rfl) (by decide) (fun a u => YtgcehkhlkjahjaaG.keepT_put a u) HS0.out trivial (by rfl) (by rintro W ⟨h0, h1, h2⟩; go_simp; done) ?_
      try simp only [Act.put, List.getElem_toArray, List.getElem_cons_zero, List.getElem_cons_succ, List.setIfInBounds_toArray, List.set_cons_zero, List.set_cons_succ]
      refine YtgcehkhlkjahjaaG.wpAnyG_one 13 rfl (by kernel_rfl) (by rfl) (fun K hK => ?_)
      go_simp
      refine (rLeft_calls HPA.out.rd_.choose_spec).mono ?_
      rintro e w5 ⟨rfl, hD⟩
      have HPB := Aside0.mk (HPA.out.then_ (show Below _ _ w5 by obtain ⟨nd, e⟩ := hD; rw [e]; exact below_drewN (Below.refl _ _) nd))
      clear hD
      have HS1 := Aside0.mk (And.intro ((blk_cell HPB.out.xr.blk 1).trans rfl) (And.intro ((blk_cell HPB.out.xr.blk 3).trans rfl) ((blk_cell HPB.out.xr.blk 4).trans rfl)))
      refine hK _ _ HS1.out trivial ?_
      try simp only [Act.put, List.getElem_toArray, List.getElem_cons_zero, List.getElem_cons_succ, List.setIfInBounds_toArray, List.set_cons_zero, List.set_cons_succ]
      clear hK K
      refine YtgcehkhlkjahjaaG.wpAnyG_take 21 (v := .bool false) rfl (by kernel_rfl) (by kernel_rfl) (by kernel_rfl) (by kernel_rfl) (by decide) (fun a u => YtgcehkhlkjahjaaG.keepT_put a u) HS1.out trivial (by rfl) (by rintro W ⟨h0, h1, h2⟩; go_simp; done) ?_
      try simp only [Act.put, List.getElem_toArray, List.getElem_cons_zero, List.getElem_cons_succ, List.setIfInBounds_toArray, List.set_cons_zero, List.set_cons_succ]
      refine YtgcehkhlkjahjaaG.wpAnyG_take 22 (v := .bool false) rfl (by kernel_rfl) (by kernel_rfl) (by kernel_rfl) (by kernel_rfl) (by decide) (fun a u => YtgcehkhlkjahjaaG.keepT_put a u) HS1.out trivial (by rfl) (by rintro W ⟨h0, h1, h2⟩; go_simp; done) ?_
      try simp only [Act.put, List.getElem_toArray, List.getElem_cons_zero, List.getElem_cons_succ, List.setIfInBounds_toArray, List.set_cons_zero, List.set_cons_succ]
      refine YtgcehkhlkjahjaaG.wpAnyG_take 23 (v := .bool false) rfl (by kernel_rfl) (by kernel_rfl) (by kernel_rfl) (by kernel_rfl) (by decide) (fun a u => YtgcehkhlkjahjaaG.keepT_put a u) HS1.out trivial (by rfl) (by rintro W ⟨h0, h1, h2⟩; go_simp; done) ?_
      try simp only [Act.put, List.getElem_toArray, List.getElem_cons_zero, List.getElem_cons_succ, List.setIfInBounds_toArray, List.set_cons_zero, List.set_cons_succ]
      refine YtgcehkhlkjahjaaG.wpAnyG_take 24 (v := .pointer (some ⟨g, 0, none⟩)) rfl (by kernel_rfl) (by kernel_rfl) (by kernel_rfl) (by kernel_rfl) (by decide) (fun a u => YtgcehkhlkjahjaaG.keepT_put a u) HS1.out trivial (by rfl) (by rintro W ⟨h0, h1, h2⟩; go_simp; done) ?_
      try simp only [Act.put, List.getElem_toArray, List.getElem_cons_zero, List.getElem_cons_succ, List.setIfInBounds_toArray, List.set_cons_zero, List.set_cons_succ]
      refine YtgcehkhlkjahjaaG.wpAnyG_take 26 (v := .pointer (some ⟨gx, 0, none⟩)) rfl (by kernel_rfl) (by kernel_rfl) (by kernel_rfl) (by kernel_rfl) (by decide) (fun a u => YtgcehkhlkjahjaaG.keepT_put a u) HS1.out trivial (by rfl) (by rintro W ⟨h0, h1, h2⟩; go_simp; done) ?_
      try simp only [Act.put, List.getElem_toArray, List.getElem_cons_zero, List.getElem_cons_succ, List.setIfInBounds_toArray, List.set_cons_zero, List.set_cons_succ]
      refine YtgcehkhlkjahjaaG.wpAnyG_take 27 (v := .pointer (some ⟨gx, 0, none⟩)) rfl (by kernel_rfl) (by kernel_rfl) (by kernel_rfl) (by kernel_rfl) (by decide) (fun a u => YtgcehkhlkjahjaaG.keepT_put a u) HS1.out trivial (by rfl) (by rintro W ⟨h0, h1, h2⟩; go_simp; done) ?_
      try simp only [Act.put, List.getElem_toArray, List.getElem_cons_zero, List.getElem_cons_succ, List.setIfInBounds_toArray, List.set_cons_zero, List.set_cons_succ]
      refine YtgcehkhlkjahjaaG.wpAnyG_take 28 (v := .pointer (some ⟨gx, 3, none⟩)) rfl (by kernel_rfl) (by kernel_rfl) (by kernel_rfl) (by kernel_rfl) (by decide) (fun a u => YtgcehkhlkjahjaaG.keepT_put a u) HS1.out trivial (by rfl) (by rintro W ⟨h0, h1, h2⟩; go_simp; done) ?_
      try simp only [Act.put, List.getElem_toArray, List.getElem_cons_zero, List.getElem_cons_succ, List.setIfInBounds_toArray, List.set_cons_zero, List.set_cons_succ]
      refine YtgcehkhlkjahjaaG.wpAnyG_take 29 (v := .agg #[.int .i64 r'.code, .int .i64 r'.fat]) rfl (by kernel_rfl) (by kernel_rfl) (by kernel_rfl) (by kernel_rfl) (by decide) (fun a u => YtgcehkhlkjahjaaG.keepT_put a u) HS1.out trivial (by rfl) (by rintro W ⟨h0, h1, h2⟩; go_simp; done) ?_
      try simp only [Act.put, List.getElem_toArray, List.getElem_cons_zero, List.getElem_cons_succ, List.setIfInBounds_toArray, List.set_cons_zero, List.set_cons_succ]
      refine YtgcehkhlkjahjaaG.wpAnyG_one 25 rfl (by kernel_rfl) (by rfl) (fun K hK => ?_)
      go_simp
      refine (rFault_calls HPB.out.rd_.choose_spec).mono ?_
      rintro e w6 ⟨rfl, hb6⟩
      have HPC' := Aside0.mk (HPB.out.then_ hb6)
      have HS2 := Aside0.mk (And.intro ((blk_cell HPC'.out.xr.blk 1).trans rfl) (And.intro ((blk_cell HPC'.out.xr.blk 3).trans rfl) ((blk_cell HPC'.out.xr.blk 4).trans rfl)))
      refine hK _ _ HS2.out trivial ?_
      try simp only [Act.put, List.getElem_toArray, List.getElem_cons_zero, List.getElem_cons_succ, List.setIfInBounds_toArray, List.set_cons_zero, List.set_cons_succ]
      clear hK K
      refine YtgcehkhlkjahjaaG.wpAnyG_take 30 (v := .bool false) rfl (by kernel_rfl) (by kernel_rfl) (by kernel_rfl) (by kernel_rfl) (by decide) (fun a u => YtgcehkhlkjahjaaG.keepT_put a u) HS2.out trivial (by rfl) (by rintro W ⟨h0, h1, h2⟩; go_simp; done) ?_
      try simp only [Act.put, List.getElem_toArray, List.getElem_cons_zero, List.getElem_cons_succ, List.setIfInBounds_toArray, List.set_cons_zero, List.set_cons_succ]
      refine YtgcehkhlkjahjaaG.wpAnyG_take 31 (v := .bool false) rfl (by kernel_rfl) (by kernel_rfl) (by kernel_rfl) (by kernel_rfl) (by decide) (fun a u => YtgcehkhlkjahjaaG.keepT_put a u) HS2.out trivial (by rfl) (by rintro W ⟨h0, h1, h2⟩; go_simp; done) ?_
      try simp only [Act.put, List.getElem_toArray, List.getElem_cons_zero, List.getElem_cons_succ, List.setIfInBounds_toArray, List.set_cons_zero, List.set_cons_succ]
      refine YtgcehkhlkjahjaaG.wpAnyG_done (by kernel_rfl) ?_ _
      go_wp2
      go_roundg (l.length - (kk + 1))
      case measure => omega
      case rel => exact ⟨kk + 1, r', by omega, by omega, by go_num, HPC'⟩
    · have hltz : ¬ (kk : Int) < (l.length : Int) := by omega
      go_wp2
      go_ret
      exact ⟨rfl, HP.out.below⟩
end Go.Proofs.Ytgcehkhlkjahjaa.Wi
