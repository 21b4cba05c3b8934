/- RecordTaps: the walk. -/
import Derived.Test.YtgmbfecfkdbfaaaRcS
set_option linter.unusedVariables false
set_option linter.unusedSimpArgs false
namespace Go.Proofs.Ytgmbfecfkdbfaaa.Wi
open Go Go.RowKit Go.Proofs.YtgmbfecfkdbfaaaW.PrintWords
theorem tout_len (t : Tp) : t.out.length ≤ 1000000 := by
  unfold Tp.out
  split
  · unfold WS.out
    split
    · simp
    · exact tput_len t
  · simp
theorem reads_keepb {W W' : World} {A : Option Addr} {n : Nat} {xs : List Int} (h : ReadsInt W .u8 A n xs) (hk : ∀ k, k < W.heap.size → (∃ ad, A = some ad ∧ ad.block = k) → W'.heap[k]? = W.heap[k]?) : ReadsInt W' .u8 A n xs := by
  refine ⟨h.1, h.2.1, fun hn => ?_⟩
  obtain ⟨ad, e, hc⟩ := h.2.2 hn
  refine ⟨ad, e, fun j hj => ?_⟩
  have h1 := hc j hj
  have hb := World.block_lt_of_cell? W _ h1
  rw [add_block] at hb
  rw [World.cell?_of_block (w := W) (by rw [add_block]; exact hk ad.block hb ⟨ad, e, rfl⟩)]
  exact h1
set_option maxHeartbeats 32000000 in
set_option maxRecDepth 100000 in
theorem recordTaps_calls (t : Tp) (ht : t.Ok) (A : Option Addr) (c : Nat) (bs : List Int) (w : World) (hb : kB.C w A bs.length bs) (hc : bs.length ≤ c) (hbl : bs.length ≤ 140737488351232) :
    Calls Try.prog 3 #[t.val, .slice A bs.length c] w fun e w' => e = .returned (.bool true) ∧ Below w.heap.size w w' := by
  obtain ⟨hrd, hby⟩ := kB_reads hb
  have HRD := Aside0.mk hrd
  have CT := Aside0.mk (fun W => recTap_calls t ht W)
  have CF := Aside0.mk (fun W => refTap_calls t ht W)
  have CL := Aside0.mk (fun (W : World) (h : ReadsInt W .u8 A bs.length bs) => lent8_calls A c bs W h hc hbl)
  have CR := Aside0.mk (fun (A : Option Addr) (c : Nat) (W : World) (h : ReadsInt W .u8 A bs.length bs) => recReadTap_calls A c bs W h hby (by omega))
  have CX := Aside0.mk (fun (W : World) (h : ReadsInt W .u8 A bs.length bs) => refReadTap_calls A c bs W h hc hby (by omega))
  have HOL := Aside0.mk (tout_len t)
  unfold TKPost at CR CX
  obtain ⟨⟨⟨m0, m1, my, m3, m4, m5⟩, c0, c1⟩, hp⟩ : ∃ p, readTap bs = p := ⟨_, rfl⟩
  rw [hp] at CR CX
  simp only [Tp.val] at CR CX
  obtain ⟨n0, n1, y, n3, n4, n5⟩ := t
  unfold RTPost Tp.val at CT
  unfold RFPost Tp.val at CF
  simp only at CT CF
  unfold Tp.val
  simp only
  generalize Tp.out ⟨n0, n1, y, n3, n4, n5⟩ = o at *
  generalize Tp.err ⟨n0, n1, y, n3, n4, n5⟩ = er at *
  have HB0 := Aside0.mk (below1 (w := w) (.cells #[.int .i64 n0, .int .i64 n1, .string y, .int .i64 n3, .int .i64 n4, .int .i64 n5] 23))
  have HQ0 := Aside0.mk (heap_alloc_new w (.cells #[.int .i64 n0, .int .i64 n1, .string y, .int .i64 n3, .int .i64 n4, .int .i64 n5] 23))
  clear hb hrd hby hp ht
  go_enter Try.func3, Try.ntmps3
  go_upto_region 6 with (first
    | (go_at_call 9; refine (awake8_calls _).mono ?_; rintro e w1 ⟨rfl, hb1⟩; have HB1 := Aside0.mk hb1; have q1 := blk_b HQ0.out hb1; have e10 : _ = some (Value.int .i64 n0) := blk_cell q1 0; have e11 : _ = some (Value.int .i64 n1) := blk_cell q1 1; have e12 : _ = some (Value.string y) := blk_cell q1 2; have e13 : _ = some (Value.int .i64 n3) := blk_cell q1 3; have e14 : _ = some (Value.int .i64 n4) := blk_cell q1 4; have e15 : _ = some (Value.int .i64 n5) := blk_cell q1 5; clear q1)
    | (go_at_call 10; first
      | ((with_reducible refine (CT.out w1).mono ?_); rintro e w2 ⟨v2, rfl, ho2, hb2⟩; obtain ⟨A2, c2, _, hv2, _, hr2⟩ := own_reads'' ho2; subst hv2; have HO2 := Aside0.mk ho2; have HR2 := Aside0.mk hr2; have HB2 := Aside0.mk hb2; have q2 := blk_b (blk_b HQ0.out HB1.out) hb2; have e20 : _ = some (Value.int .i64 n0) := blk_cell q2 0; have e21 : _ = some (Value.int .i64 n1) := blk_cell q2 1; have e22 : _ = some (Value.string y) := blk_cell q2 2; have e23 : _ = some (Value.int .i64 n3) := blk_cell q2 3; have e24 : _ = some (Value.int .i64 n4) := blk_cell q2 4; have e25 : _ = some (Value.int .i64 n5) := blk_cell q2 5; clear q2 ho2 hr2 hb2)
      | ((with_reducible refine (CT.out w2).mono ?_); rintro e w3 ⟨v3, rfl, ho3, hb3⟩; obtain ⟨A3, c3, _, hv3, _, hr3⟩ := own_reads'' ho3; subst hv3; have HO3 := Aside0.mk ho3; have HR3 := Aside0.mk hr3; have HB3 := Aside0.mk hb3; have q3 := blk_b (blk_b (blk_b HQ0.out HB1.out) HB2.out) hb3; have e30 : _ = some (Value.int .i64 n0) := blk_cell q3 0; have e31 : _ = some (Value.int .i64 n1) := blk_cell q3 1; have e32 : _ = some (Value.string y) := blk_cell q3 2; have e33 : _ = some (Value.int .i64 n3) := blk_cell q3 3; have e34 : _ = some (Value.int .i64 n4) := blk_cell q3 4; have e35 : _ = some (Value.int .i64 n5) := blk_cell q3 5; clear q3 ho3 hr3 hb3))
    | (go_at_call 11; refine (CF.out _).mono ?_; rintro e w4 ⟨A4, c4, rfl, hr4, hb4⟩; have HR4 := Aside0.mk hr4; have HB4 := Aside0.mk hb4; have HRD4 := Aside0.mk ((((HRD.out.below HB0.out).below HB1.out).below HB2.out |>.below HB3.out).below hb4); clear hr4 hb4)
    | (go_at_call 12; refine (CL.out _ HRD4.out).mono ?_; rintro e w5 ⟨gl, cl, rfl, hcl, ho5, hgl, hb5⟩; have HCL := Aside0.mk hcl; have HO5 := Aside0.mk ho5; have HGL := Aside0.mk hgl; have HB5 := Aside0.mk hb5; clear hcl ho5 hgl hb5))
  have L1 := HB0.out.size
  have L2 := HB1.out.size
  have L3 := HB2.out.size
  have L4 := HB3.out.size
  have L5 := HB4.out.size
  have hb25 : Below w2.heap.size w2 w5 := below_then (below_then HB3.out L4 HB4.out) (by omega) HB5.out
  have hb35 : Below w3.heap.size w3 w5 := below_then HB4.out L5 HB5.out
  have HW5 := Aside0.mk (show Below w.heap.size w w5 from below_then (below_then (below_then HB0.out L1 HB1.out) (by omega) HB2.out) (by omega) hb25)
  have HX := Aside0.mk (own_upto ((Fr.of_below (S := fun _ => False) hb25).own HO2.out (fun _ _ h => h)) (base' := w.heap.size) (fun k hk => by have := own_base HO2.out k hk; omega))
  have HY := Aside0.mk (own_upto ((Fr.of_below (S := fun _ => False) hb35).own HO3.out (fun _ _ h => h)) (base' := w.heap.size) (fun k hk => by have := own_base HO3.out k hk; omega))
  have FX := Aside0.mk (show ∀ k, (Value.slice A2 o.length c2).ownBlock = some k → k < gl from fun k hk => by have := own_lt HO2.out k hk; have := HGL.out; omega)
  have FY := Aside0.mk (show ∀ k, (Value.slice A3 o.length c3).ownBlock = some k → k < gl from fun k hk => by have := own_lt HO3.out k hk; have := HGL.out; omega)
  have HD := Aside0.mk (show ∀ k, (Value.slice A2 o.length c2).ownBlock = some k → (Value.slice A3 o.length c3).ownBlock ≠ some k from fun k hk e => by have := own_lt HO2.out k hk; have := own_base HO3.out k e; omega)
  have HR5 := Aside0.mk (HR4.out.below HB5.out)
  have F4 := Aside0.mk (show 0 < o.length → ∀ ad, A4 = some ad → ad.block < gl from fun hn ad ea => by
    obtain ⟨ad', e', hcell⟩ := HR4.out.2.2 hn
    rw [ea] at e'
    obtain rfl := Option.some.inj e'
    have := World.block_lt_of_cell? w4 _ (hcell 0 hn)
    rw [add_block] at this
    have := HGL.out
    omega)
  have FA := Aside0.mk (show 0 < bs.length → ∀ ad, A = some ad → ad.block < gl from fun hn ad ea => by
    obtain ⟨ad', e', hcell⟩ := HRD.out.2.2 hn
    rw [ea] at e'
    obtain rfl := Option.some.inj e'
    have := World.block_lt_of_cell? w _ (hcell 0 hn)
    rw [add_block] at this
    have := HGL.out
    omega)
  have HRD5 := Aside0.mk (HRD4.out.below HB5.out)
  have HIN := Aside0.mk (show ReadsInt w5 .u8 (some ⟨gl, 0, none⟩) bs.length bs from by
    obtain ⟨A', c', h1, _, h2⟩ := own_reads' HO5.out
    injection h1 with h1 _ _
    subst h1
    have h3 := ReadsInt.take_ h2 bs.length (by omega)
    rwa [show (bs ++ [(171 : Int), 172]).take bs.length = bs by simp] at h3)
  have HGW := Aside0.mk (show w.heap.size ≤ gl from by have := HGL.out; omega)
  have HGLT := Aside0.mk (show gl < w5.heap.size from own_lt HO5.out gl rfl)
  have hO5 := own_upto HO5.out (base' := w.heap.size) (fun k hk => by have := own_base HO5.out k hk; omega)
  have HO6 := Aside0.mk hO5
  clear L1 L2 L3 L4 L5 hb25 hb35 hO5 HB0 HB1 HB2 HB3 HB4 HB5 HO2 HO3 HO5 HR2 HR3 HR4 HRD4 HGL HQ0 CT CF CL HRD
  go_upto_region 7 with (go_at_call 13; refine (CR.out _ cl _ HIN.out).mono ?_; rintro e w6 ⟨rfl, hb6⟩; have HB6 := Aside0.mk hb6; clear hb6)
  have hb7 := below2 (w := w6) (.cells #[.int .i64 m0, .int .i64 m1, .string my, .int .i64 m3, .int .i64 m4, .int .i64 m5] 23) (.cells #[.int .i64 c0, .int .i64 c1] 31)
  have HU := Aside0.mk (two_0 w6 (.cells #[.int .i64 m0, .int .i64 m1, .string my, .int .i64 m3, .int .i64 m4, .int .i64 m5] 23) (.cells #[.int .i64 c0, .int .i64 c1] 31))
  have HH := Aside0.mk (two_1 w6 (.cells #[.int .i64 m0, .int .i64 m1, .string my, .int .i64 m3, .int .i64 m4, .int .i64 m5] 23) (.cells #[.int .i64 c0, .int .i64 c1] 31))
  have HB67 := Aside0.mk (below_then HB6.out HB6.out.size hb7)
  have hug : gl < w6.heap.size := by have := HGLT.out; have := HB6.out.size; omega
  clear hb7
  generalize (w6.alloc (.cells #[.int .i64 m0, .int .i64 m1, .string my, .int .i64 m3, .int .i64 m4, .int .i64 m5] 23)).alloc (.cells #[.int .i64 c0, .int .i64 c1] 31) = w7 at *
  generalize w6.heap.size = gu at *
  have fr7 := Fr.of_below (S := fun _ => False) HB67.out
  have HX7 := Aside0.mk (fr7.own HX.out (fun _ _ h => h))
  have HY7 := Aside0.mk (fr7.own HY.out (fun _ _ h => h))
  have HO7 := Aside0.mk (fr7.own HO6.out (fun _ _ h => h))
  have HR7 := Aside0.mk (HR5.out.below HB67.out)
  have HRD7 := Aside0.mk (HRD5.out.below HB67.out)
  have HW7 := Aside0.mk (below_then HW5.out HW5.out.size HB67.out)
  clear fr7 HX HY HO6 HR5 HRD5 HW5 HB67 HB6 HIN
  go_upto_region 8 with (go_at_call 14; refine (kept_calls A c cl bs w.heap.size gl _ HRD7.out hbl HCL.out HO7.out).mono ?_; rintro e w8 ⟨rfl, f8⟩; have HF8 := Aside0.mk f8; clear f8)
  have HX8 := Aside0.mk (HF8.out.own HX7.out (fun k hk e => by have := FX.out k hk; omega))
  have HY8 := Aside0.mk (HF8.out.own HY7.out (fun k hk e => by have := FY.out k hk; omega))
  have HR8 := Aside0.mk (show ReadsInt w8 .u8 A4 o.length o from ⟨HR7.out.1, HR7.out.2.1, fun hn => (reads_keepb HR7.out (fun k hk ⟨ad, e, h⟩ => HF8.out.block k hk (by have := F4.out hn ad e; omega))).2.2 hn⟩)
  have HRD8 := Aside0.mk (show ReadsInt w8 .u8 A bs.length bs from ⟨HRD7.out.1, HRD7.out.2.1, fun hn => (reads_keepb HRD7.out (fun k hk ⟨ad, e, h⟩ => HF8.out.block k hk (by have := FA.out hn ad e; omega))).2.2 hn⟩)
  have HU8 := Aside0.mk (HF8.out.blk HU.out (by show ¬ gu = gl; omega))
  have HH8 := Aside0.mk (HF8.out.blk HH.out (by show ¬ gu + 1 = gl; omega))
  have HW8 := Aside0.mk (HW7.out.trans (HF8.out.below HW7.out.size (fun i hi => by subst hi; exact HGW.out)))
  have hgu8 : gu + 1 < w8.heap.size := blk_lt HH8.out
  clear HX7 HY7 HR7 HRD7 HU HH HW7 HF8 HO7
  go_upto_region 9 with (go_at_call 15; refine (CX.out _ HRD8.out).mono ?_; rintro e w9 ⟨rfl, hb9⟩; have HB9 := Aside0.mk hb9; clear hb9)
  have hb10 := below2 (w := w9) (.cells #[.int .i64 m0, .int .i64 m1, .string my, .int .i64 m3, .int .i64 m4, .int .i64 m5] 23) (.cells #[.int .i64 c0, .int .i64 c1] 31)
  have HV := Aside0.mk (two_0 w9 (.cells #[.int .i64 m0, .int .i64 m1, .string my, .int .i64 m3, .int .i64 m4, .int .i64 m5] 23) (.cells #[.int .i64 c0, .int .i64 c1] 31))
  have HI := Aside0.mk (two_1 w9 (.cells #[.int .i64 m0, .int .i64 m1, .string my, .int .i64 m3, .int .i64 m4, .int .i64 m5] 23) (.cells #[.int .i64 c0, .int .i64 c1] 31))
  have HB8 := Aside0.mk (below_then HB9.out HB9.out.size hb10)
  have hgv : gu + 1 < w9.heap.size := by have := HB9.out.size; omega
  clear hb10
  generalize (w9.alloc (.cells #[.int .i64 m0, .int .i64 m1, .string my, .int .i64 m3, .int .i64 m4, .int .i64 m5] 23)).alloc (.cells #[.int .i64 c0, .int .i64 c1] 31) = wa at *
  generalize w9.heap.size = gv at *
  have fra := Fr.of_below (S := fun _ => False) HB8.out
  have HXA := Aside0.mk (fra.own HX8.out (fun _ _ h => h))
  have HYA := Aside0.mk (fra.own HY8.out (fun _ _ h => h))
  have HRA := Aside0.mk (HR8.out.below HB8.out)
  have HUA := Aside0.mk (blk_b HU8.out HB8.out)
  have HHA := Aside0.mk (blk_b HH8.out HB8.out)
  have HWA := Aside0.mk (below_then HW8.out HW8.out.size HB8.out)
  have HRX := Aside0.mk (show ReadsInt wa .u8 A2 o.length o from by
    obtain ⟨A', c', h1, _, h2⟩ := own_reads' HXA.out
    injection h1 with h1 _ _
    subst h1
    exact h2)
  have HRY := Aside0.mk (show ReadsInt wa .u8 A3 o.length o from by
    obtain ⟨A', c', h1, _, h2⟩ := own_reads' HYA.out
    injection h1 with h1 _ _
    subst h1
    exact h2)
  have SX := Aside0.mk (same_eq A2 A4 c2 c4 o wa HRX.out HRA.out)
  have SY := Aside0.mk (same_eq A3 A4 c3 c4 o wa HRY.out HRA.out)
  clear fra HX8 HY8 HR8 HU8 HH8 HW8 HB8 HRD8 HRX HRY HRA
  go_upto_region 11 with (first
    | (go_at_call 16; first | ((with_reducible refine SX.out.mono ?_); rintro e wb ⟨rfl, rfl⟩) | ((with_reducible refine SY.out.mono ?_); rintro e wb ⟨rfl, rfl⟩))
    | (go_at_call 17; refine (owned8_calls A2 A3 c2 c3 o.length o.length o o w.heap.size wa HWA.out.size HOL.out HXA.out HYA.out HD.out).mono ?_; rintro e wc ⟨rfl, fc⟩; have HFC := Aside0.mk fc; clear fc))
  have hne : ∀ k, gl < k → ¬ (Value.slice A2 o.length c2).ownBlock = some k := fun k hk e => by have := FX.out k e; omega
  have qU := HFC.out.blk HUA.out (hne gu (by omega))
  have qH := HFC.out.blk HHA.out (hne (gu + 1) (by omega))
  have qV := HFC.out.blk HV.out (hne gv (by omega))
  have qI := HFC.out.blk HI.out (hne (gv + 1) (by omega))
  have HEND := Aside0.mk (HWA.out.trans (HFC.out.below HWA.out.size (fun i hi => own_base HXA.out i hi)))
  have ua0 : _ = some (Value.int .i64 m0) := blk_cell qU 0
  have ua1 : _ = some (Value.int .i64 m1) := blk_cell qU 1
  have ua2 : _ = some (Value.string my) := blk_cell qU 2
  have ua3 : _ = some (Value.int .i64 m3) := blk_cell qU 3
  have ua4 : _ = some (Value.int .i64 m4) := blk_cell qU 4
  have ua5 : _ = some (Value.int .i64 m5) := blk_cell qU 5
  have ub0 : _ = some (Value.int .i64 c0) := blk_cell qH 0
  have ub1 : _ = some (Value.int .i64 c1) := blk_cell qH 1
  have uc0 : _ = some (Value.int .i64 m0) := blk_cell qV 0
  have uc1 : _ = some (Value.int .i64 m1) := blk_cell qV 1
  have uc2 : _ = some (Value.string my) := blk_cell qV 2
  have uc3 : _ = some (Value.int .i64 m3) := blk_cell qV 3
  have uc4 : _ = some (Value.int .i64 m4) := blk_cell qV 4
  have uc5 : _ = some (Value.int .i64 m5) := blk_cell qV 5
  have ud0 : _ = some (Value.int .i64 c0) := blk_cell qI 0
  have ud1 : _ = some (Value.int .i64 c1) := blk_cell qI 1
  clear hne qU qH qV qI HFC HUA HHA HV HI HWA HXA HYA
  go_wp2
  go_ret
  exact ⟨by first | rfl | (simp; done), HEND.out⟩
end Go.Proofs.Ytgmbfecfkdbfaaa.Wi
