/- WireWrites: the walk. -/
import Derived.Test.YtgcehkhlkjahjaaWiO4
set_option linter.unusedVariables false
set_option linter.unusedSimpArgs false
namespace Go.Proofs.Ytgcehkhlkjahjaa.Wi
open Go Go.RowKit Go.Proofs.YtgcehkhlkjahjaaW.PrintWords
set_option maxHeartbeats 32000000 in
set_option maxRecDepth 100000 in
theorem wireWrites_calls (A : Option Addr) (c : Nat) (l : List Pc) (w : World) (hl : kPc.C w A l.length l) (hc : l.length ≤ c) (hll : l.length ≤ 1048576) (hss : ∀ p ∈ l, p.s.size ≤ 140737488350000) :
    Calls Try.prog 3 #[.slice A l.length c] w fun e w' => e = .returned (.bool true) ∧ Below w.heap.size w w' := by
  have HL := Aside0.mk hl
  have HSS := Aside0.mk hss
  clear hl hss
  obtain ⟨tj, htj, htf⟩ := Option.map_eq_some_iff.1 info_sl
  simp only [Prod.mk.injEq] at htf
  obtain ⟨y1, y2, y3⟩ := htf
  have HTJ := Aside0.mk htj
  have HY1 := Aside0.mk y1
  have HY2 := Aside0.mk y2
  have HY3 := Aside0.mk y3
  clear htj y1 y2 y3
  go_enter Try.func3, Try.ntmps3
  go_wp2_with (first
    | (go_at_call 9; refine (awake_calls _).mono ?_; rintro e w0 ⟨rfl, hb0⟩)
    | (go_at_call 10; refine (newWriter_calls _).mono ?_; rintro e w1 ⟨rfl, S0, hb1⟩))
  have HM0 := Aside0.mk (show WM w (w1.alloc (.cells #[.slice none 0 0, .bool false] 29)) w0.heap.size w1.heap.size ⟨[], false⟩ ⟨[], false⟩ (.slice none 0 0) [] from by
    have hz0 := hb0.size
    have hz1 := hb1.size
    refine ⟨below_alloc (below_then hb0 hb0.size hb1) _, ⟨none, none, (S0.lower hb0.size).below (below1 _), ⟨⟨_, heap_alloc_new w1 _, own_nil _ _ _ _, rfl⟩, by omega⟩, (fun k hk => nomatch hk), (fun j hj => absurd hj (Nat.not_lt_zero _))⟩, (fun j hj => absurd hj (Nat.not_lt_zero _)), (fun i j _ hi => absurd hi (Nat.not_lt_zero _)), own_nil _ _ _ _, Nat.zero_le _⟩)
  clear S0
  obtain ⟨g, hg⟩ : ∃ g, w0.heap.size = g := ⟨_, rfl⟩
  obtain ⟨gx, hgx⟩ : ∃ gx, w1.heap.size = gx := ⟨_, rfl⟩
  rw [hg, hgx] at HM0
  rw [hg, hgx]
  clear hg hgx
  go_loopg [6, 7, 8, 9, 10, 11] l.length (fun gg s6 s7 s8 s9 s10 s11 wr => ∃ (kk : Nat) (va : Value) (vs : List Value), kk ≤ l.length ∧ l.length - kk ≤ gg ∧ s7 = .int .i64 kk ∧ s6 = va ∧ Aside0 (WM w wr g gx (runW (l.take kk)) (runW (l.take kk)) va vs))
  case atStart => exact ⟨0, _, [], Nat.zero_le _, by omega, rfl, rfl, by simpa [runW] using HM0⟩
  case round =>
    obtain ⟨kk, va, vs, hkk, hgg, rfl, rfl, HM⟩ := hrel
    clear HM0
    obtain ⟨Av, cv, hva⟩ := own_slice HM.out.all
    subst hva
    by_cases hlt : kk < l.length
    · have hltz : (kk : Int) < (l.length : Int) := by omega
      obtain ⟨ad, rfl, hok, hpc⟩ := pc_at HL.out kk hlt
      have HPW := Aside0.mk hpc
      have HPC := Aside0.mk (PcAt.of hpc HM.out.below)
      have hsm : (runW (l.take (kk + 1))).xs.length ≤ 140737488355328 := runW_small _ (by rw [List.length_take]; omega)
      have hout : (runW (l.take (kk + 1))).out.length ≤ 70000000000 := by
        have h1 := runW_len (l.take (kk + 1))
        have h2 : (runW (l.take (kk + 1))).out.length ≤ (runW (l.take (kk + 1))).xs.length := by
          unfold WS.out
          split
          · simp
          · exact Nat.le_refl _
        have h3 : (l.take (kk + 1)).length ≤ 1048576 := by rw [List.length_take]; omega
        have h4 := Nat.mul_le_mul_right 65537 h3
        omega
      have hst : runW (l.take (kk + 1)) = (runW (l.take kk)).step l[kk] := by rw [take_step l kk hlt, runW_snoc]
      have hsz := HSS.out l[kk] (List.getElem_mem hlt)
      have CP0 := fun (ro : Option Nat) (W : World) (hr : Wr W w.heap.size g ro (runW (l.take kk))) (hB : w.heap.size ≤ W.heap.size) => lput_calls l[kk] hok hr hB (by rw [← hst]; exact hsm)
      have CM0 := fun (ro : Option Nat) (W : World) (hr : Vr W w.heap.size gx ro (runW (l.take kk))) (hB : w.heap.size ≤ W.heap.size) => model_calls l[kk] hok hsz hr hB (by rw [← hst]; exact hsm)
      rw [← hst] at CP0 CM0
      have CP := Aside0.mk CP0
      have CM := Aside0.mk CM0
      have HSM := Aside0.mk hsm
      have HOUT := Aside0.mk hout
      clear CP0 CM0 hsm hout hst hsz hok hpc
      generalize hs' : runW (l.take (kk + 1)) = s' at *
      have HS' := Aside0.mk hs'
      clear hs'
      generalize runW (l.take kk) = s at *
      generalize l[kk] = p at HPC HPW CP CM
      unfold Pc.val at CP CM
      have d0 := HPC.out.c0
      have d1 := HPC.out.c1
      have d2 := HPC.out.c2
      have d3 := HPC.out.c3
      have d4 := HPC.out.c4
      have d5 := HPC.out.c5
      have PC0 := Aside0.mk (fun (W : World) (h : Below w.heap.size w W) => h)
      by_cases hvl : vs.length < 20
      · have hvz : (vs.length : Int) < 20 := by omega
        go_wp2_with (first
          | (go_at_call 11; refine (WM.putW HM.out (fun ro hr hB => CP.out ro _ hr hB)).mono ?_; rintro e w2 ⟨rfl, M2⟩; have HM2 := Aside0.mk M2; have P2 := PcAt.of HPW.out M2.below; have e0 := P2.c0; have e1 := P2.c1; have e2 := P2.c2; have e3 := P2.c3; have e4 := P2.c4; have e5 := P2.c5)
          | (go_at_call 12; refine (WM.putV HM2.out (fun ro hr hB => CM.out ro _ hr hB)).mono ?_; rintro e w3 ⟨rfl, M3⟩; have HM3 := Aside0.mk M3)
          | (go_at_call 13; refine (wBytes_calls HM3.out.ex.choose_spec.choose_spec.1 HSM.out).mono ?_; rintro e w4 ⟨v, rfl, hv4, hb4⟩; have HV4 := Aside0.mk hv4; have HB4 := Aside0.mk hb4; have HM4 := Aside0.mk (HM3.out.then_ hb4); clear hv4 hb4)
          | (go_at_call 14; refine (vBytes_calls HM4.out.ex.choose_spec.choose_spec.2.1 HSM.out).mono ?_; rintro e w5 ⟨A5, c5, rfl, hr5, hb5⟩; have HR5 := Aside0.mk hr5; have HB5 := Aside0.mk hb5; have HM5 := Aside0.mk (HM4.out.then_ hb5); have HV5 := Aside0.mk ((Fr.of_below (S := fun _ => False) hb5).own HV4.out (fun _ _ h => h)); obtain ⟨A4, c4, hv4, _, hr4⟩ := own_reads' HV5.out; subst hv4; have HR4 := Aside0.mk hr4; clear hr5 hb5 hr4; have k4 := string_of_reads (P := Try.prog) (c := c4) Try.underlying27 Try.underlying5 Try.underlying9 HR4.out; have k5 := string_of_reads (P := Try.prog) (c := c5) Try.underlying27 Try.underlying5 Try.underlying9 HR5.out)
          | (at_builtin; refine wpList_append_stay w.heap.size rfl (.tmp 68) (.tmp 70) 30 27 rfl tj (.slice none 0 0) 24 Try.underlying30 HTJ.out HY1.out HY2.out HY3.out rfl (.slice Av vs.length cv) vs.length vs (by rfl) (HM5.out.then_ (below1 _)).all ⟨w5.heap.size, 0, none⟩ 1 1 [.slice A4 s'.out.length c4] (by rfl) (by omega) rfl (cell_one_new _ _ _) (by intro u hu; simp at hu; subst hu; rfl) (by simp only [maxLen]; omega) (by omega) (Nat.le_trans HM5.out.below.size (below1 _).size) ?_; intro v1 w6 ho6 hg6 _; have HPU := Aside0.mk (WM.push HM3.out (below_then HB4.out HB4.out.size HB5.out) HOUT.out HV5.out hvl ho6 hg6); clear ho6 hg6))
        go_roundg (l.length - (kk + 1))
        case measure => omega
        case rel => exact ⟨kk + 1, _, _, by omega, by omega, by go_num, rfl, ⟨by rw [HS'.out]; exact HPU.out⟩⟩
      · have hvz : ¬ (vs.length : Int) < 20 := by omega
        have hvd : decide (vs.length < 20) = false := decide_eq_false hvl
        go_wp2_with (first
          | (go_at_call 11; refine (WM.putW HM.out (fun ro hr hB => CP.out ro _ hr hB)).mono ?_; rintro e w2 ⟨rfl, M2⟩; have HM2 := Aside0.mk M2; have P2 := PcAt.of HPW.out M2.below; have e0 := P2.c0; have e1 := P2.c1; have e2 := P2.c2; have e3 := P2.c3; have e4 := P2.c4; have e5 := P2.c5)
          | (go_at_call 12; refine (WM.putV HM2.out (fun ro hr hB => CM.out ro _ hr hB)).mono ?_; rintro e w3 ⟨rfl, M3⟩; have HM3 := Aside0.mk M3)
          | (go_at_call 13; refine (wBytes_calls HM3.out.ex.choose_spec.choose_spec.1 HSM.out).mono ?_; rintro e w4 ⟨v, rfl, hv4, hb4⟩; have HV4 := Aside0.mk hv4; have HB4 := Aside0.mk hb4; have HM4 := Aside0.mk (HM3.out.then_ hb4); clear hv4 hb4)
          | (go_at_call 14; refine (vBytes_calls HM4.out.ex.choose_spec.choose_spec.2.1 HSM.out).mono ?_; rintro e w5 ⟨A5, c5, rfl, hr5, hb5⟩; have HR5 := Aside0.mk hr5; have HB5 := Aside0.mk hb5; have HM5 := Aside0.mk (HM4.out.then_ hb5); have HV5 := Aside0.mk ((Fr.of_below (S := fun _ => False) hb5).own HV4.out (fun _ _ h => h)); obtain ⟨A4, c4, hv4, _, hr4⟩ := own_reads' HV5.out; subst hv4; have HR4 := Aside0.mk hr4; clear hr5 hb5 hr4; have k4 := string_of_reads (P := Try.prog) (c := c4) Try.underlying27 Try.underlying5 Try.underlying9 HR4.out; have k5 := string_of_reads (P := Try.prog) (c := c5) Try.underlying27 Try.underlying5 Try.underlying9 HR5.out)
  )
        go_roundg (l.length - (kk + 1))
        case measure => omega
        case rel => exact ⟨kk + 1, _, vs, by omega, by omega, by go_num, rfl, ⟨by rw [HS'.out]; exact HM5.out⟩⟩
    · have hltz : ¬ (kk : Int) < (l.length : Int) := by omega
      have hke : kk = l.length := by omega
      have hsm : (runW l).xs.length ≤ 140737488355328 := runW_small _ (by omega)
      have HM' : Aside0 (WM w wr g gx (runW l) (runW l) (.slice Av vs.length cv) vs) := ⟨by have := HM.out; rwa [hke, List.take_length] at this⟩
      have HSM := Aside0.mk hsm
      clear hsm hke HM HL HSS
      generalize runW l = s at *
      go_wp2_with (first
        | (go_at_call 15; refine (owned_calls _ w.heap.size vs Av cv HM'.out.rows0 HM'.out.below.size HM'.out.all HM'.out.rows).mono ?_; rintro e w2 ⟨rfl, f2⟩; have HA := Aside0.mk (HM'.out.after f2); clear f2)
        | (go_at_call 13; refine (wBytes_calls HA.out.1.2.choose_spec HSM.out).mono ?_; rintro e w4 ⟨v4, rfl, hv4, hb4⟩; have HV4 := Aside0.mk hv4; have HB4 := Aside0.mk hb4; clear hv4 hb4)
        | (go_at_call 14; refine (vBytes_calls (HA.out.2.choose_spec.below HB4.out) HSM.out).mono ?_; rintro e w5 ⟨A5, c5, rfl, hr5, hb5⟩; have HR5 := Aside0.mk hr5; have HB5 := Aside0.mk hb5; have HV5 := Aside0.mk ((Fr.of_below (S := fun _ => False) hb5).own HV4.out (fun _ _ h => h)); obtain ⟨A4, c4, hv4, _, hr4⟩ := own_reads' HV5.out; subst hv4; have HR4 := Aside0.mk hr4; clear hr5 hb5 hr4; have k4 := string_of_reads (P := Try.prog) (c := c4) Try.underlying27 Try.underlying5 Try.underlying9 HR4.out; have k5 := string_of_reads (P := Try.prog) (c := c5) Try.underlying27 Try.underlying5 Try.underlying9 HR5.out))
      go_ret
      exact ⟨by first | rfl | (simp; done), below_then (below_then HA.out.1.1 HA.out.1.1.size HB4.out) (Nat.le_trans HA.out.1.1.size HB4.out.size) HB5.out⟩
end Go.Proofs.Ytgcehkhlkjahjaa.Wi
