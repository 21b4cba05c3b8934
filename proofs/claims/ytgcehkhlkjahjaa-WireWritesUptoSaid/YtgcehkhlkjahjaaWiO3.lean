/- The laws' Owned: the walk. -/
import Derived.Test.YtgcehkhlkjahjaaWiO2
set_option linter.unusedVariables false
set_option linter.unusedSimpArgs false
namespace Go.Proofs.Ytgcehkhlkjahjaa.Wi
open Go Go.RowKit Go.Proofs.YtgcehkhlkjahjaaW.PrintWords
theorem take_set_mark {xs : List Int} {kk : Nat} {x : Int} (h : xs.take kk = List.replicate kk x) (hk : kk < xs.length) : (xs.set kk x).take (kk + 1) = List.replicate (kk + 1) x := by
  rw [List.take_succ_eq_append_getElem (by rw [List.length_set]; exact hk), List.take_set_of_le (Nat.le_refl _), h, List.getElem_set_self, List.replicate_succ']
theorem grow_step {wo wq w1 : World} {B n kk c : Nat} {A : Option Addr} {gv v1 : Value} {x : Int} (hf : Fr (fun b => (Value.slice A n c).ownBlock = some b) wo wq) (hm : MarkN wq (.slice A n c) n x) (hA : A = none ∧ n = 0 ∨ ∃ b, A = some ⟨b, 0, none⟩) (hn : n ≤ 9223372036854775807)
    (hgo : wq.ownsRow B 5 1 gv (n + kk) (nums .u8 (List.replicate (n + kk) x)))
    (hgb : gv.ownBlock = (Value.slice A n c).ownBlock ∨ ∀ k, gv.ownBlock = some k → wo.heap.size ≤ k) (ho : w1.ownsRow B 5 1 v1 (n + kk + 1) (nums .u8 (List.replicate (n + kk) x) ++ [.int .u8 x])) (hg : (wq.alloc (.cells #[.int .u8 x] 5)).grownBy w1 gv.ownBlock)
    (hst : (v1.ownBlock = gv.ownBlock ∧ gv.ownBlock ≠ none) ∨ (v1.ownBlock = some (wq.alloc (.cells #[.int .u8 x] 5)).heap.size ∧ ∀ k, k < (wq.alloc (.cells #[.int .u8 x] 5)).heap.size → w1.heap[k]? = (wq.alloc (.cells #[.int .u8 x] 5)).heap[k]?)) :
    w1.ownsRow B 5 1 v1 (n + (kk + 1)) (nums .u8 (List.replicate (n + (kk + 1)) x)) ∧ MarkN w1 (.slice A n c) n x ∧ Fr (fun b => (Value.slice A n c).ownBlock = some b) wo w1 ∧ (v1.ownBlock = (Value.slice A n c).ownBlock ∨ ∀ k, v1.ownBlock = some k → wo.heap.size ≤ k) := by
  have hbl := below1 (w := wq) (.cells #[.int .u8 x] 5)
  generalize wq.alloc (.cells #[.int .u8 x] 5) = wa at *
  have hs := hf.size
  have hs2 := hbl.size
  have ho2 : w1.ownsRow B 5 1 v1 (n + (kk + 1)) (nums .u8 (List.replicate (n + (kk + 1)) x)) := by
    rw [show n + (kk + 1) = n + kk + 1 by omega, List.replicate_succ', nums_append]
    exact ho
  have hf2 : Fr (fun b => (Value.slice A n c).ownBlock = some b) wo w1 := (hf.then_below hbl).grown hg (fun k hk => by
    rcases hgb with h | h
    · exact .inl (by rw [← h, hk])
    · exact .inr (h k hk))
  refine ⟨ho2, ?_, hf2, ?_⟩
  · rcases hst with ⟨h1, h2⟩ | ⟨h1, h2⟩
    · rcases Classical.em (gv.ownBlock = (Value.slice A n c).ownBlock) with he | he
      · exact MarkN.pre ho2 hA hn (h1.trans he)
      · refine hm.keep (fun k hk1 hk2 => ?_)
        rw [hg.block k (by omega) (fun e => he (by rw [hk1, e])), hbl.block k hk2]
    · refine hm.keep (fun k hk1 hk2 => ?_)
      rw [h2 k (by omega), hbl.block k hk2]
  · rcases hst with ⟨h1, h2⟩ | ⟨h1, h2⟩
    · rw [h1]
      exact hgb
    · refine .inr (fun k hk => ?_)
      rw [h1] at hk
      have := Option.some.inj hk
      omega
theorem info_sl : (Try.prog.info? 27).map (fun i => (i.zero, i.size, i.bytes)) = some (some (.slice none 0 0), 1, 24) := by kernel_rfl
theorem cell_two (w : World) (x y : Value) (t : TypeId) : ∀ j u, [x, y][j]? = some u → (w.alloc (.cells #[x, y] t)).cell? ((⟨w.heap.size, 0, none⟩ : Addr).add j) = some u := by
  intro j u hj
  have h := heap_alloc_new w (.cells #[x, y] t)
  rw [add_plain]
  have h2 := blk_cell h j
  match j, hj with
  | 0, hj => simp at hj; subst hj; exact h2
  | 1, hj => simp at hj; subst hj; exact h2
set_option maxHeartbeats 32000000 in
set_option maxRecDepth 100000 in
theorem owned_calls (w : World) (B : Nat) (vs : List Value) (Aa : Option Addr) (ca : Nat) (h0 : Rows0 w B vs (.slice Aa vs.length ca)) (hB : B ≤ w.heap.size) (hout : w.ownsRow B 27 1 (.slice Aa vs.length ca) vs.length vs)
    (hrows : ∀ j, (hj : j < vs.length) → ∃ n xs, n ≤ 70000000000 ∧ w.ownsRow B 5 1 (vs[j]) n (nums .u8 xs)) :
    Calls Try.prog 15 #[.slice Aa vs.length ca] w fun e w' => e = .returned (.bool true) ∧ Fr (fun b => ∃ v ∈ vs, v.ownBlock = some b) w w' := by
  have H0 := Aside0.mk h0
  have HBS := Aside0.mk hB
  have HI : Aside0 (Ow w w B vs (.slice Aa vs.length ca) 0 (.slice none 0 0) []) := ⟨⟨Fr.refl _ _, hout, fun j _ hj => hrows j hj, ⟨by simp, .inl ⟨rfl, rfl⟩⟩, fun q x h => by simp at h⟩⟩
  have hlen := h0.len
  clear h0 hout hrows hB
  obtain ⟨ti, hti, hte⟩ := Option.map_eq_some_iff.1 info_u8
  obtain ⟨tj, htj, htf⟩ := Option.map_eq_some_iff.1 info_sl
  simp only [Prod.mk.injEq] at hte htf
  obtain ⟨z1, z2, z3⟩ := hte
  obtain ⟨y1, y2, y3⟩ := htf
  have HTI := Aside0.mk hti
  have HZ1 := Aside0.mk z1
  have HZ2 := Aside0.mk z2
  have HZ3 := Aside0.mk z3
  have HTJ := Aside0.mk htj
  have HY1 := Aside0.mk y1
  have HY2 := Aside0.mk y2
  have HY3 := Aside0.mk y3
  clear hti z1 z2 z3 htj y1 y2 y3
  go_enter Try.func15, Try.ntmps15
  go_wp2
  go_loopg [3, 4, 5, 6, 7, 8] vs.length (fun gg s3 s4 s5 s6 s7 s8 wr => ∃ (ii : Nat) (lv : Value) (ls : List Value), ii ≤ vs.length ∧ vs.length - ii ≤ gg ∧ s4 = .int .i64 ii ∧ s3 = lv ∧ Aside0 (Ow w wr B vs (.slice Aa vs.length ca) ii lv ls))
  case atStart => exact ⟨0, _, _, by omega, by omega, rfl, rfl, HI⟩
  case round =>
    obtain ⟨ii, lv, ls, hii, hgg, rfl, rfl, HO⟩ := hrel
    clear HI
    obtain ⟨wo, hwo⟩ : ∃ wo : World, wo = wr := ⟨_, rfl⟩
    subst hwo
    by_cases hlt : ii < vs.length
    · have hltz : (ii : Int) < (vs.length : Int) := by omega
      obtain ⟨n, xs0, hn, hown⟩ := HO.out.rows ii (Nat.le_refl _) hlt
      obtain ⟨A, c, hv⟩ := own_slice hown
      obtain ⟨ga, hga, hcell⟩ := own_cellv HO.out.outer ii hlt hlt
      subst hga
      rw [hv] at hcell hown
      have HV := Aside0.mk hv
      have HOWN := Aside0.mk hown
      have HNE : Aside0 ((Value.slice A n c).ownBlock ≠ some ga) := ⟨fun e => (H0.out.lt ii hlt ga (by rw [hv, e])).2 rfl⟩
      have HCELL : Aside0 (∀ wq : World, Fr (fun b => (Value.slice A n c).ownBlock = some b) wo wq → wq.cell? ⟨ga, ii, none⟩ = some (.slice A n c)) := ⟨fun wq hf => by
        rw [World.cell?_of_block (w := wo) (hf.block ga (World.block_lt_of_cell? wo _ hcell) HNE.out)]
        exact hcell⟩
      have HSH := Aside0.mk (own_shape hown)
      have HMX : Aside0 (IntKind.u8.wrap (1 + (ii : Int)) = 1 + (ii : Int)) := ⟨by
        show (1 + (ii : Int)) % 256 = _
        omega⟩
      clear hv hown
      have hmod : (ii : Int).tmod 250 = (ii : Int) := Int.tmod_eq_of_lt (by omega) (by omega)
      have hn0 : n ≤ 70000000000 := hn
      go_wp2
      go_loopg [6] n (fun gg s6 wq => ∃ (kk : Nat) (xs : List Int), kk ≤ n ∧ n - kk ≤ gg ∧ s6 = .int .i64 kk ∧ Aside0 (wq.ownsRow B 5 1 (.slice A n c) n (nums .u8 xs)) ∧ Aside0 (xs.take kk = List.replicate kk (1 + (ii : Int))) ∧ Aside0 (Fr (fun b => (Value.slice A n c).ownBlock = some b) wo wq))
      case atStart => exact ⟨0, xs0, by omega, by omega, rfl, HOWN, ⟨by simp⟩, ⟨Fr.refl _ _⟩⟩
      case round =>
        obtain ⟨kk, xs, hkk, hg2, rfl, HO2, HM2, HF2⟩ := hrel
        clear HOWN hcell
        have hcell := HCELL.out _ HF2.out
        have hxl : xs.length = n := by have := HO2.out.1; simp [nums] at this; exact this
        by_cases hkn : kk < n
        · have hknz : (kk : Int) < (n : Int) := by omega
          obtain ⟨b, rfl⟩ : ∃ b, A = some ⟨b, 0, none⟩ := by
            rcases HSH.out with ⟨_, h⟩ | h
            · omega
            · exact h
          have HA := own_at HO2.out (kk : Int) (by omega) hknz
          have HS := own_store HO2.out (kk : Int) (1 + (ii : Int))
          simp only [Int.toNat_natCast] at HA HS
          obtain ⟨cc, cf⟩ := HA
          have HS1 := Aside0.mk HS.1
          have HF3 := Aside0.mk (HF2.out.grown HS.2 (fun k hk => .inl hk))
          have HT := Aside0.mk (take_set_mark HM2.out (by rw [hxl]; exact hkn))
          clear HS hxl
          go_wp2
          go_roundg (n - (kk + 1))
          case measure => omega
          case rel => exact ⟨kk + 1, _, by omega, by omega, by go_num, HS1, HT, HF3⟩
        · have hknz : ¬ (kk : Int) < (n : Int) := by omega
          have hke : kk = n := by omega
          have HO3 : Aside0 (wr.ownsRow B 5 1 (.slice A n c) (n + 0) (nums .u8 (List.replicate (n + 0) (1 + (ii : Int))))) := ⟨by
            have h := HM2.out
            rw [hke, List.take_of_length_le (by omega)] at h
            have h2 := HO2.out
            rw [h] at h2
            exact h2⟩
          have HM3 : Aside0 (MarkN wr (.slice A n c) n (1 + (ii : Int))) := ⟨MarkN.of_own HO3.out⟩
          clear HO2 HM2 hke hxl
          go_wp2
          go_loopg [7, 8] 9 (fun gg s7 s8 wq => ∃ (kk : Nat) (gv : Value), kk ≤ 9 ∧ 9 - kk ≤ gg ∧ s8 = .int .i64 kk ∧ s7 = gv ∧ Aside0 (wq.ownsRow B 5 1 gv (n + kk) (nums .u8 (List.replicate (n + kk) (1 + (ii : Int))))) ∧ Aside0 (MarkN wq (.slice A n c) n (1 + (ii : Int))) ∧ Aside0 (Fr (fun b => (Value.slice A n c).ownBlock = some b) wo wq) ∧ Aside0 (gv.ownBlock = (Value.slice A n c).ownBlock ∨ ∀ k, gv.ownBlock = some k → wo.heap.size ≤ k))
          case atStart => exact ⟨0, _, by omega, by omega, rfl, rfl, HO3, HM3, HF2, ⟨.inl rfl⟩⟩
          case round =>
            obtain ⟨k2, gv, hk2, hg3, rfl, rfl, HG, HM4, HF4, HGB⟩ := hrel
            clear HO3 HM3 HF2 hcell
            have hcell := HCELL.out _ HF4.out
            have HHB := Aside0.mk (show B ≤ wr.heap.size from Nat.le_trans HBS.out (Nat.le_trans HO.out.fr.size HF4.out.size))
            by_cases hk9 : k2 < 9
            · have hk9z : (k2 : Int) < 9 := by omega
              have HGA := Aside0.mk ((Fr.of_below (S := fun _ => False) (below1 (w := wr) (.cells #[.int .u8 (1 + (ii : Int))] 5))).own HG.out (fun _ _ h => h))
              go_wp2_with (at_builtin; refine wpList_append_stay B rfl (.tmp 45) (.tmp 47) 27 5 rfl ti (.int .u8 0) 1 Try.underlying27 HTI.out HZ1.out HZ2.out HZ3.out rfl u7 (n + k2) (nums .u8 (List.replicate (n + k2) (1 + (ii : Int)))) (by rfl) HGA.out ⟨wr.heap.size, 0, none⟩ 1 1 [.int .u8 (1 + (ii : Int))] (by rfl) (by omega) rfl (cell_one_new _ _ _) (by intro u hu; simp at hu; subst hu; rfl) (by simp only [maxLen]; omega) (by omega) (Nat.le_trans HHB.out (below1 _).size) ?_; intro v1 w1 ho1 hg1 hst1; have HST := Aside0.mk (grow_step HF4.out HM4.out HSH.out (by omega) HG.out HGB.out ho1 hg1 hst1); clear ho1 hg1 hst1)
              go_roundg (9 - (k2 + 1))
              case measure => omega
              case rel => exact ⟨k2 + 1, _, by omega, by omega, by go_num, rfl, ⟨HST.out.1⟩, ⟨HST.out.2.1⟩, ⟨HST.out.2.2.1⟩, ⟨HST.out.2.2.2⟩⟩
            · have hk9z : ¬ (k2 : Int) < 9 := by omega
              obtain rfl : k2 = 9 := by omega
              obtain ⟨A9, c9, h9⟩ := own_slice HG.out
              subst h9
              have HLA := Aside0.mk ((Fr.of_below (S := fun _ => False) (below1 (w := wr) (.cells #[(.slice A9 (n + 9) c9), .slice A n c] 27))).own (HF4.out.own HO.out.long (fun k hk e => by have h1 := own_base HO.out.long k hk; have h2 := (H0.out.lt ii hlt k (by rw [HV.out]; exact e)).1; omega)) (fun _ _ h => h))
              have H1C : Aside0 (∀ u ∈ [(Value.slice A9 (n + 9) c9), Value.slice A n c], u.oneCell' = true) := ⟨by intro u hu; simp at hu; rcases hu with rfl | rfl <;> rfl⟩
              have HWB := Aside0.mk (show w.heap.size ≤ wr.heap.size from Nat.le_trans HO.out.fr.size HF4.out.size)
              go_wp2_with (at_builtin; go_loud (refine wpList_append_stay w.heap.size rfl (.tmp 49) (.tmp 55) 30 27 rfl tj (.slice none 0 0) 24 Try.underlying30 HTJ.out HY1.out HY2.out HY3.out rfl u3 (2 * ii) ls (by rfl) HLA.out ⟨wr.heap.size, 0, none⟩ 2 2 [(.slice A9 (n + 9) c9), .slice A n c] (by rfl) (by omega) rfl (cell_two _ _ _ _) H1C.out (by simp only [maxLen]; omega) (by omega) (Nat.le_trans HWB.out (below1 _).size) ?_; intro v1 w1 ho1 hg1 hst1; have HNX := Aside0.mk (And.intro ho1 (And.intro hg1 hst1)); clear ho1 hg1 hst1))
              go_roundg (vs.length - (ii + 1))
              case measure => omega
              case rel =>
                refine ⟨ii + 1, _, ls ++ [(.slice A9 (n + 9) c9), vs[ii]], by omega, by omega, by go_num, rfl, ⟨?_⟩⟩
                obtain ⟨ho1, hg1, hst1⟩ := HNX.out
                refine Ow.next HO.out H0.out hlt hn (by rw [HV.out]; exact HF4.out) HG.out (by rw [HV.out]; exact HM4.out) (by rw [HV.out]; exact HGB.out) (by rw [HV.out]; exact ho1) (by rw [HV.out]; exact hg1) (by rw [HV.out]; exact hst1)
    · have hltz : ¬ (ii : Int) < (vs.length : Int) := by omega
      obtain rfl : ii = vs.length := by omega
      have hll : ls.length = 2 * vs.length := by have := HO.out.long.1; omega
      obtain ⟨Al, cl, hlv⟩ := own_slice HO.out.long
      subst hlv
      have HLL := Aside0.mk hll
      clear hll
      go_wp2
      go_loopg [9, 10] (2 * vs.length) (fun gg s9 s10 wq => ∃ qq : Nat, qq ≤ 2 * vs.length ∧ 2 * vs.length - qq ≤ gg ∧ s9 = .int .i64 qq ∧ wq = wo)
      case atStart => exact ⟨0, by omega, by omega, rfl, rfl⟩
      case round =>
        obtain ⟨qq, hqq, hg2, rfl, rfl⟩ := hrel
        by_cases hql : qq < 2 * vs.length
        · have hqz : (qq : Int) < 2 * (vs.length : Int) := by omega
          obtain ⟨bl, hbl, hcl⟩ := own_cellv HO.out.long qq hql (by rw [HLL.out]; exact hql)
          subst hbl
          obtain ⟨⟨m, hm, A, c, hx, hr⟩, _⟩ := HO.out.marks qq (ls[qq]'(by rw [HLL.out]; exact hql)) (List.getElem?_eq_getElem _)
          rw [hx] at hcl
          have HR := Aside0.mk hr
          have hd2 : (qq : Int).tdiv 2 = ((qq / 2 : Nat) : Int) := by rw [Int.tdiv_eq_ediv_of_nonneg (by omega)]; rfl
          have hm2 : ((qq / 2 : Nat) : Int).tmod 250 = ((qq / 2 : Nat) : Int) := Int.tmod_eq_of_lt (by omega) (by omega)
          have hq40 : ((qq / 2 : Nat) : Int) ≤ 40 := by omega
          obtain ⟨h, hh⟩ : ∃ h : Nat, qq / 2 = h := ⟨_, rfl⟩
          rw [hh] at HR hd2 hm2 hq40
          clear hx hr hh
          go_wp2
          go_loopg [10] m (fun gg s10 wy => ∃ kk : Nat, kk ≤ m ∧ m - kk ≤ gg ∧ s10 = .int .i64 kk ∧ wy = wr)
          case atStart => exact ⟨0, by omega, by omega, rfl, rfl⟩
          case round =>
            obtain ⟨kk, hkk, hg3, rfl, rfl⟩ := hrel
            by_cases hkm : kk < m
            · have hkz : (kk : Int) < (m : Int) := by omega
              obtain ⟨ad, rfl, hc⟩ := HR.out.at_ (kk : Int) (by omega) hkz
              have hrv : rd (List.replicate m (1 + (h : Int))) (kk : Int) = 1 + (h : Int) := by
                simp [rd, List.getD, List.getElem?_replicate, hkm]
              rw [hrv] at hc
              simp only [Int.toNat_natCast] at hc
              clear hrv
              go_wp2
              go_roundg (m - (kk + 1))
              case measure => omega
              case rel => exact ⟨kk + 1, by omega, by omega, by go_num, rfl⟩
            · have hkz : ¬ (kk : Int) < (m : Int) := by omega
              go_wp2
              go_roundg (2 * vs.length - (qq + 1))
              case measure => omega
              case rel => exact ⟨qq + 1, by omega, by omega, by go_num, rfl⟩
        · have hqz : ¬ (qq : Int) < 2 * (vs.length : Int) := by omega
          go_wp2
          go_ret
          exact ⟨rfl, HO.out.fr⟩
end Go.Proofs.Ytgcehkhlkjahjaa.Wi
