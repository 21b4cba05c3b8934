/- WireParts: the bytes of pieces are those of the first ones, and of the others, one behind the other. -/
import Derived.Test.YtgcehkhlkjahjaaWiB
set_option linter.unusedVariables false
set_option linter.unusedSimpArgs false
namespace Go.Proofs.Ytgcehkhlkjahjaa.Wi
open Go Go.RowKit Go.Proofs.YtgcehkhlkjahjaaW.PrintWords
/-- the pieces of a run, as far as it has come -/
def selL (l : List Pc) (k ii n : Nat) : List Pc := if ii = 2 then l.take n else if ii = 0 then (l.take k).take n else (l.take n).drop k
theorem selL_two {l : List Pc} {k n : Nat} (hn : n < l.length) : selL l k 2 (n + 1) = selL l k 2 n ++ [l[n]] := take_step l n hn
theorem selL_in {l : List Pc} {k n : Nat} (hn : n < l.length) (h : n < k) : selL l k 0 (n + 1) = selL l k 0 n ++ [l[n]] := by
  show (l.take k).take (n + 1) = (l.take k).take n ++ [l[n]]
  rw [List.take_take, List.take_take, Nat.min_eq_left (by omega), Nat.min_eq_left (by omega)]
  exact take_step l n hn
theorem selL_over {l : List Pc} {k n : Nat} (h : ¬ n < k) : selL l k 0 (n + 1) = selL l k 0 n := by
  show (l.take k).take (n + 1) = (l.take k).take n
  rw [List.take_take, List.take_take, Nat.min_eq_right (by omega), Nat.min_eq_right (by omega)]
theorem selL_pass {l : List Pc} {k n : Nat} (h : n < k) : selL l k 1 (n + 1) = selL l k 1 n := by
  show (l.take (n + 1)).drop k = (l.take n).drop k
  rw [List.drop_eq_nil_of_le (by rw [List.length_take]; omega), List.drop_eq_nil_of_le (by rw [List.length_take]; omega)]
theorem selL_rest {l : List Pc} {k n : Nat} (hn : n < l.length) (h : ¬ n < k) : selL l k 1 (n + 1) = selL l k 1 n ++ [l[n]] := by
  show (l.take (n + 1)).drop k = (l.take n).drop k ++ [l[n]]
  rw [take_step l n hn, List.drop_append_of_le_length (by rw [List.length_take]; omega)]
theorem selL_len (l : List Pc) (k ii n : Nat) : (selL l k ii n).length ≤ l.length := by
  unfold selL
  repeat' split
  all_goals simp only [List.length_take, List.length_drop]
  all_goals omega
theorem selL_end0 (l : List Pc) (k : Nat) : selL l k 0 l.length = l.take k := by
  show (l.take k).take l.length = l.take k
  exact List.take_of_length_le (by rw [List.length_take]; omega)
theorem selL_end1 (l : List Pc) (k : Nat) : selL l k 1 l.length = l.drop k := by
  show (l.take l.length).drop k = l.drop k
  rw [List.take_length]
theorem selL_end2 (l : List Pc) (k : Nat) : selL l k 2 l.length = l := List.take_length
theorem parts_law (l : List Pc) (k : Nat) : (runW l).bad = ((runW (l.take k)).bad || (runW (l.drop k)).bad) ∧ ((runW l).bad = false → (runW l).out = (runW (l.take k)).out ++ (runW (l.drop k)).out) := by
  have h := encAll_append (l.take k) (l.drop k)
  rw [List.take_append_drop] at h
  rw [(runW_enc l).1, (runW_enc l).2, (runW_enc (l.take k)).1, (runW_enc (l.take k)).2, (runW_enc (l.drop k)).1, (runW_enc (l.drop k)).2, h]
  cases encAll (l.take k) <;> cases encAll (l.drop k) <;> simp
/-- the word for a run's bytes -/
def IsOut (W : World) (v : Value) (s : WS) : Prop := ∃ A c, v = .slice A s.out.length c ∧ ReadsInt W .u8 A s.out.length s.out
theorem IsOut.below {W W' : World} {v : Value} {s : WS} (h : IsOut W v s) (hb : Below W.heap.size W W') : IsOut W' v s := by
  obtain ⟨A, c, h1, h2⟩ := h
  exact ⟨A, c, h1, h2.below hb⟩
def IsSl (v : Value) : Prop := ∃ A n c, v = .slice A n c
theorem IsOut.sl {W : World} {v : Value} {s : WS} (h : IsOut W v s) : IsSl v := by
  obtain ⟨A, c, h, _⟩ := h
  exact ⟨A, _, c, h⟩
theorem IsOut.set_ {W : World} {v : Value} {s : WS} (h : IsOut W v s) {gr : Nat} {v0 v1 v2 : Value} {T : TypeId} (hq : W.heap[gr]? = some (.cells #[v0, v1, v2] T (0, 0))) (h0 : IsSl v0) (h1 : IsSl v1) (h2 : IsSl v2) (i : Nat) (u : Value) : IsOut (W.setCell ⟨gr, i, none⟩ u) v s := by
  obtain ⟨A, c, e, hr⟩ := h
  refine ⟨A, c, e, hr.keep ((KeepBut.refl W gr none).set_ i u) ?_⟩
  intro ad ea hn hb
  obtain ⟨ad', ea', hcell⟩ := hr.2.2 hn
  rw [ea] at ea'
  obtain rfl := Option.some.inj ea'
  have h := hcell 0 hn
  obtain ⟨A0, n0, c0, rfl⟩ := h0
  obtain ⟨A1, n1, c1, rfl⟩ := h1
  obtain ⟨A2, n2, c2, rfl⟩ := h2
  have hbk : (ad.add 0).block = gr := by rw [add_block]; exact hb
  unfold World.cell? at h
  rw [hbk, hq] at h
  simp only at h
  split at h
  · cases h
  generalize (ad.add 0).off = o at h
  match o, h with
  | 0, h => cases h
  | 1, h => cases h
  | 2, h => cases h
  | n + 3, h => simp at h
def badOf (l : List Pc) (k ii : Nat) : Bool := if ii = 0 then false else if ii = 1 then (runW (l.take k)).bad else ((runW (l.take k)).bad || (runW (l.drop k)).bad)
structure RowsAt (l : List Pc) (k : Nat) (W : World) (gr ii : Nat) : Prop where
  ex : ∃ v0 v1 v2, W.heap[gr]? = some (.cells #[v0, v1, v2] 41 (0, 0)) ∧ IsSl v0 ∧ IsSl v1 ∧ IsSl v2 ∧ (0 < ii → IsOut W v0 (runW (l.take k))) ∧ (1 < ii → IsOut W v1 (runW (l.drop k))) ∧ (2 < ii → IsOut W v2 (runW l))
theorem RowsAt.below {l : List Pc} {k : Nat} {W W' : World} {gr ii : Nat} (h : RowsAt l k W gr ii) (hb : Below W.heap.size W W') : RowsAt l k W' gr ii := by
  obtain ⟨v0, v1, v2, hq, s0, s1, s2, h0, h1, h2⟩ := h.ex
  exact ⟨v0, v1, v2, (Fr.of_below (S := fun _ => False) hb).blk hq (fun h => h), s0, s1, s2, fun e => (h0 e).below hb, fun e => (h1 e).below hb, fun e => (h2 e).below hb⟩
theorem RowsAt.cell {l : List Pc} {k : Nat} {W : World} {gr ii : Nat} (h : RowsAt l k W gr ii) (i : Nat) (hi : i < 3) : ∃ v, W.cell? ⟨gr, i, none⟩ = some v ∧ W.frozen? ⟨gr, i, none⟩ = false := by
  obtain ⟨v0, v1, v2, hq, _⟩ := h.ex
  have hc := blk_cell hq i
  match i, hi with
  | 0, _ => exact ⟨v0, hc.trans rfl, blk_frozen hq 0⟩
  | 1, _ => exact ⟨v1, hc.trans rfl, blk_frozen hq 1⟩
  | 2, _ => exact ⟨v2, hc.trans rfl, blk_frozen hq 2⟩
theorem RowsAt.put0 {l : List Pc} {k : Nat} {W : World} {gr : Nat} (h : RowsAt l k W gr 0) {u : Value} (hu : IsOut W u (runW (l.take k))) : RowsAt l k (W.setCell ⟨gr, 0, none⟩ u) gr 1 := by
  obtain ⟨v0, v1, v2, hq, s0, s1, s2, h0, h1, h2⟩ := h.ex
  exact ⟨u, v1, v2, blk_put hq 0 u rfl, hu.sl, s1, s2, fun _ => hu.set_ hq s0 s1 s2 0 u, fun e => absurd e (by omega), fun e => absurd e (by omega)⟩
theorem RowsAt.put1 {l : List Pc} {k : Nat} {W : World} {gr : Nat} (h : RowsAt l k W gr 1) {u : Value} (hu : IsOut W u (runW (l.drop k))) : RowsAt l k (W.setCell ⟨gr, 1, none⟩ u) gr 2 := by
  obtain ⟨v0, v1, v2, hq, s0, s1, s2, h0, h1, h2⟩ := h.ex
  exact ⟨v0, u, v2, blk_put hq 1 u rfl, s0, hu.sl, s2, fun _ => (h0 (by omega)).set_ hq s0 s1 s2 1 u, fun _ => hu.set_ hq s0 s1 s2 1 u, fun e => absurd e (by omega)⟩
theorem RowsAt.put2 {l : List Pc} {k : Nat} {W : World} {gr : Nat} (h : RowsAt l k W gr 2) {u : Value} (hu : IsOut W u (runW l)) : RowsAt l k (W.setCell ⟨gr, 2, none⟩ u) gr 3 := by
  obtain ⟨v0, v1, v2, hq, s0, s1, s2, h0, h1, h2⟩ := h.ex
  exact ⟨v0, v1, u, blk_put hq 2 u rfl, s0, s1, hu.sl, fun _ => (h0 (by omega)).set_ hq s0 s1 s2 2 u, fun _ => (h1 (by omega)).set_ hq s0 s1 s2 2 u, fun _ => hu.set_ hq s0 s1 s2 2 u⟩
theorem selL_zero (l : List Pc) (k ii : Nat) : selL l k ii 0 = [] := by unfold selL; repeat' split
                                                                        all_goals simp
theorem selL_small (l : List Pc) (k ii n : Nat) (h : l.length ≤ 1048576) : (runW (selL l k ii n)).xs.length ≤ 140737488355328 := runW_small _ (Nat.le_trans (selL_len l k ii n) (by omega))
/-- a run's bytes, told with the fault -/
theorem WAt.outs {w W : World} {g : Nat} {s : WS} (h : WAt w W g s) (hl : s.xs.length ≤ 140737488355328) : Calls Try.prog 13 #[.pointer (some ⟨g, 0, none⟩)] W fun e W' => ∃ A c, e = .returned (.tuple #[.slice A s.out.length c, .int .i64 (if s.bad then 1 else 0)]) ∧ IsOut W' (.slice A s.out.length c) s ∧ Below w.heap.size w W' := by
  refine (WAt.bytes h hl).mono fun e W' ⟨A, c, he, hr, hb⟩ => ⟨A, c, ?_, ⟨A, c, rfl, hr⟩, hb⟩
  rw [he]
  cases s with
  | mk xs bad => cases bad <;> rfl
theorem out_small (l : List Pc) (h : l.length ≤ 1048577) : (strOfNums (runW l).out).size ≤ 140737488355328 := by
  have h1 : (strOfNums (runW l).out).size = (runW l).out.length := by simp [strOfNums, ByteArray.size]
  have h2 := runW_small l h
  rw [h1]
  unfold WS.out
  split
  · simp
  · exact h2
theorem str_app (a b : List Int) : strOfNums a ++ strOfNums b = strOfNums (a ++ b) := by
  apply ByteArray.ext
  simp [strOfNums]
set_option maxHeartbeats 32000000 in
set_option maxRecDepth 100000 in
theorem wireParts_calls (A : Option Addr) (c : Nat) (l : List Pc) (x : Int) (w : World) (hl : kPc.C w A l.length l) (hc : l.length ≤ c) (hll : l.length ≤ 1048576) (hx : I64 x) :
    Calls Try.prog 4 #[.slice A l.length c, .int .i64 x] w fun e w' => e = .returned (.bool true) ∧ Below w.heap.size w w' := by
  have HL := Aside0.mk hl
  obtain ⟨hx1, hx2⟩ := hx
  clear hl
  go_enter Try.func4, Try.ntmps4
  go_upto_if 16 with (go_at_call 9; refine (awake_calls _).mono ?_; rintro e w0 ⟨rfl, hb0⟩)
  go_cut [1] (fun s1 wc => ∃ m : Int, s1 = .int .i64 m ∧ 0 ≤ m ∧ m ≤ 9223372036854775807 ∧ wc = w0)
  case first =>
    by_cases hneg : x < 0
    · go_wp2
      go_meet
      case rel => exact ⟨-(x + 1), by go_num, by omega, by omega, rfl⟩
    · go_wp2
      go_meet
      case rel => exact ⟨x, rfl, by omega, by omega, rfl⟩
  case rest =>
    obtain ⟨m, rfl, hm0, hm1, rfl⟩ := hcut
    obtain ⟨k, hk, hkl⟩ : ∃ k : Nat, m.tmod ((l.length : Int) + 1) = (k : Int) ∧ k ≤ l.length := by
      have h1 := Int.tmod_nonneg ((l.length : Int) + 1) hm0
      have h2 := Int.tmod_lt_of_pos m (show (0 : Int) < (l.length : Int) + 1 by omega)
      exact ⟨(m.tmod ((l.length : Int) + 1)).toNat, by omega, by omega⟩
    have hz : ((l.length : Int) + 1 == 0) = false := beq_eq_false_iff_ne.2 (by omega)
    go_wp2
    have HR0 := Aside0.mk (show RowsAt l k (wc.alloc (.cells #[.slice none 0 0, .slice none 0 0, .slice none 0 0] 41)) wc.heap.size 0 from ⟨_, _, _, heap_alloc_new wc (.cells #[.slice none 0 0, .slice none 0 0, .slice none 0 0] 41), ⟨_, _, _, rfl⟩, ⟨_, _, _, rfl⟩, ⟨_, _, _, rfl⟩, fun e => absurd e (by omega), fun e => absurd e (by omega), fun e => absurd e (by omega)⟩)
    have HB0 := Aside0.mk (below_alloc hb0 (.cells #[.slice none 0 0, .slice none 0 0, .slice none 0 0] 41))
    have HGR := Aside0.mk hb0.size
    obtain ⟨gr, hgr⟩ : ∃ gr, wc.heap.size = gr := ⟨_, rfl⟩
    rw [hgr] at HR0 HGR ⊢
    clear hz hk hgr hm0 hm1 hx1 hx2
    go_loopg [8, 9, 10, 11, 12, 13] 3 (fun gg s8 s9 s10 s11 s12 s13 wr => ∃ ii : Nat, ii ≤ 3 ∧ 3 - ii ≤ gg ∧ s9 = .int .i64 ii ∧ s8 = .bool (badOf l k ii) ∧ Aside0 (RowsAt l k wr gr ii) ∧ Aside0 (Below w.heap.size w wr))
    case atStart => exact ⟨0, by omega, by omega, rfl, rfl, HR0, HB0⟩
    case round =>
      obtain ⟨ii, hii, hgg, rfl, rfl, HR, HB⟩ := hrel
      clear HR0 HB0
      obtain ⟨wo, hwo⟩ : ∃ wo : World, wo = wr := ⟨_, rfl⟩
      subst hwo
      by_cases hlt3 : ii < 3
      · have hlt3z : (ii : Int) < 3 := by omega
        go_wp2_with (go_at_call 10; refine (newW (w := wo) (Below.refl _ _)).mono ?_; rintro e w1 ⟨rfl, S0, _⟩)
        obtain ⟨g, hg⟩ : ∃ g, wo.heap.size = g := ⟨_, rfl⟩
        rw [hg] at S0 ⊢
        have HS0 := Aside0.mk S0
        clear S0 hg
        go_loopg [11] l.length (fun gg s11 ww => ∃ n : Nat, n ≤ l.length ∧ l.length - n ≤ gg ∧ s11 = .int .i64 n ∧ Aside0 (WAt wo ww g (runW (selL l k ii n))))
        case atStart => exact ⟨0, by omega, by omega, rfl, ⟨by rw [selL_zero]; exact HS0.out⟩⟩
        case round =>
          obtain ⟨n, hn, hg2, rfl, HW⟩ := hrel
          clear HS0
          by_cases hltn : n < l.length
          · have hltnz : (n : Int) < (l.length : Int) := by omega
            obtain ⟨ad, rfl, hok, hpc⟩ := pc_at HL.out n hltn
            have HPC := Aside0.mk (PcAt.of hpc (below_then HB.out HB.out.size HW.out.1))
            have HOK := Aside0.mk hok
            clear hpc hok
            obtain rfl | rfl | rfl : ii = 0 ∨ ii = 1 ∨ ii = 2 := by omega
            · by_cases hnk : n < k
              · have hnkz : (n : Int) < (k : Int) := by omega
                have CN0 : ∀ W, WAt wo W g (runW (selL l k 0 n)) → _ := fun W h => WAt.put h l[n] HOK.out (by rw [← runW_snoc, ← selL_in hltn hnk]; exact selL_small l k 0 (n + 1) hll)
                rw [← runW_snoc, ← selL_in hltn hnk] at CN0
                have CN := Aside0.mk CN0
                clear CN0
                generalize l[n] = p at HPC CN
                unfold Pc.val at CN
                have d0 := HPC.out.c0
                have d1 := HPC.out.c1
                have d2 := HPC.out.c2
                have d3 := HPC.out.c3
                have d4 := HPC.out.c4
                have d5 := HPC.out.c5
                go_wp2_with (go_at_call 11; refine (CN.out _ HW.out).mono ?_; rintro e w2 ⟨rfl, S2⟩)
                go_roundg (l.length - (n + 1))
                case measure => omega
                case rel => exact ⟨n + 1, by omega, by omega, by go_num, ⟨S2⟩⟩
              · have hnkz : ¬ (n : Int) < (k : Int) := by omega
                go_wp2
                go_roundg (l.length - (n + 1))
                case measure => omega
                case rel => exact ⟨n + 1, by omega, by omega, by go_num, ⟨by rw [selL_over hnk]; exact HW.out⟩⟩
            · by_cases hnk : n < k
              · have hnkz : (n : Int) < (k : Int) := by omega
                go_wp2
                go_roundg (l.length - (n + 1))
                case measure => omega
                case rel => exact ⟨n + 1, by omega, by omega, by go_num, ⟨by rw [selL_pass hnk]; exact HW.out⟩⟩
              · have hnkz : ¬ (n : Int) < (k : Int) := by omega
                have CN0 : ∀ W, WAt wo W g (runW (selL l k 1 n)) → _ := fun W h => WAt.put h l[n] HOK.out (by rw [← runW_snoc, ← selL_rest hltn hnk]; exact selL_small l k 1 (n + 1) hll)
                rw [← runW_snoc, ← selL_rest hltn hnk] at CN0
                have CN := Aside0.mk CN0
                clear CN0
                generalize l[n] = p at HPC CN
                unfold Pc.val at CN
                have d0 := HPC.out.c0
                have d1 := HPC.out.c1
                have d2 := HPC.out.c2
                have d3 := HPC.out.c3
                have d4 := HPC.out.c4
                have d5 := HPC.out.c5
                go_wp2_with (go_at_call 11; refine (CN.out _ HW.out).mono ?_; rintro e w2 ⟨rfl, S2⟩)
                go_roundg (l.length - (n + 1))
                case measure => omega
                case rel => exact ⟨n + 1, by omega, by omega, by go_num, ⟨S2⟩⟩
            · skip
              have CN0 : ∀ W, WAt wo W g (runW (selL l k 2 n)) → _ := fun W h => WAt.put h l[n] HOK.out (by rw [← runW_snoc, ← selL_two hltn]; exact selL_small l k 2 (n + 1) hll)
              rw [← runW_snoc, ← selL_two hltn] at CN0
              have CN := Aside0.mk CN0
              clear CN0
              generalize l[n] = p at HPC CN
              unfold Pc.val at CN
              have d0 := HPC.out.c0
              have d1 := HPC.out.c1
              have d2 := HPC.out.c2
              have d3 := HPC.out.c3
              have d4 := HPC.out.c4
              have d5 := HPC.out.c5
              go_wp2_with (go_at_call 11; refine (CN.out _ HW.out).mono ?_; rintro e w2 ⟨rfl, S2⟩)
              go_roundg (l.length - (n + 1))
              case measure => omega
              case rel => exact ⟨n + 1, by omega, by omega, by go_num, ⟨S2⟩⟩
          · have hltnz : ¬ (n : Int) < (l.length : Int) := by omega
            have hne : n = l.length := by omega
            have LAW := Aside0.mk (parts_law l k)
            obtain rfl | rfl | rfl : ii = 0 ∨ ii = 1 ∨ ii = 2 := by omega
            · have HW' : Aside0 (WAt wo wr g (runW (l.take k))) := ⟨by have := HW.out; rwa [hne, selL_end0] at this⟩
              have HLn := Aside0.mk (show (runW (l.take k)).xs.length ≤ 140737488355328 by have := selL_small l k 0 l.length hll; rwa [selL_end0] at this)
              clear HW hne 
              have CB := Aside0.mk (WAt.outs HW'.out HLn.out)
              have HBD : badOf l k 0 = false := rfl
              rw [HBD]
              have HB1 : Aside0 (badOf l k 1 = (runW (l.take k)).bad) := ⟨rfl⟩
              generalize hbv : (runW (l.take k)).bad = bv at CB HB1
              clear hbv HBD
              cases bv
              case true =>
                go_wp2_with (go_at_call 13; refine CB.out.mono ?_; rintro e w3 ⟨A2, c2, rfl, ho3, hb3⟩; have R3 := HR.out.below hb3; obtain ⟨x3, hx3, hz3⟩ := R3.cell 0 (by omega))
                go_roundg (3 - 1)
                case measure => omega
                case rel => exact ⟨1, by omega, by omega, by go_num, by rw [HB1.out], ⟨R3.put0 ho3⟩, ⟨(below_then HB.out HB.out.size hb3).setCell HGR.out _⟩⟩
              case false =>
                go_wp2_with (go_at_call 13; refine CB.out.mono ?_; rintro e w3 ⟨A2, c2, rfl, ho3, hb3⟩; have R3 := HR.out.below hb3; obtain ⟨x3, hx3, hz3⟩ := R3.cell 0 (by omega))
                go_roundg (3 - 1)
                case measure => omega
                case rel => exact ⟨1, by omega, by omega, by go_num, by rw [HB1.out], ⟨R3.put0 ho3⟩, ⟨(below_then HB.out HB.out.size hb3).setCell HGR.out _⟩⟩
            · have HW' : Aside0 (WAt wo wr g (runW (l.drop k))) := ⟨by have := HW.out; rwa [hne, selL_end1] at this⟩
              have HLn := Aside0.mk (show (runW (l.drop k)).xs.length ≤ 140737488355328 by have := selL_small l k 1 l.length hll; rwa [selL_end1] at this)
              clear HW hne 
              have CB := Aside0.mk (WAt.outs HW'.out HLn.out)
              have HB1 : badOf l k 1 = (runW (l.take k)).bad := rfl
              rw [HB1]
              have HB2 : Aside0 (badOf l k 2 = ((runW (l.take k)).bad || (runW (l.drop k)).bad)) := ⟨rfl⟩
              generalize hbu : (runW (l.take k)).bad = bu at HB2 ⊢
              generalize hbv : (runW (l.drop k)).bad = bv at CB HB2
              clear hbv hbu HB1
              cases bu <;> cases bv
              case false.false =>
                go_wp2_with (go_at_call 13; refine CB.out.mono ?_; rintro e w3 ⟨A2, c2, rfl, ho3, hb3⟩; have R3 := HR.out.below hb3; obtain ⟨x3, hx3, hz3⟩ := R3.cell 1 (by omega))
                go_roundg (3 - 2)
                case measure => omega
                case rel => exact ⟨2, by omega, by omega, by go_num, by rw [HB2.out]; rfl, ⟨R3.put1 ho3⟩, ⟨(below_then HB.out HB.out.size hb3).setCell HGR.out _⟩⟩
              case false.true =>
                go_wp2_with (go_at_call 13; refine CB.out.mono ?_; rintro e w3 ⟨A2, c2, rfl, ho3, hb3⟩; have R3 := HR.out.below hb3; obtain ⟨x3, hx3, hz3⟩ := R3.cell 1 (by omega))
                go_roundg (3 - 2)
                case measure => omega
                case rel => exact ⟨2, by omega, by omega, by go_num, by rw [HB2.out]; rfl, ⟨R3.put1 ho3⟩, ⟨(below_then HB.out HB.out.size hb3).setCell HGR.out _⟩⟩
              case true.false =>
                go_wp2_with (go_at_call 13; refine CB.out.mono ?_; rintro e w3 ⟨A2, c2, rfl, ho3, hb3⟩; have R3 := HR.out.below hb3; obtain ⟨x3, hx3, hz3⟩ := R3.cell 1 (by omega))
                go_roundg (3 - 2)
                case measure => omega
                case rel => exact ⟨2, by omega, by omega, by go_num, by rw [HB2.out]; rfl, ⟨R3.put1 ho3⟩, ⟨(below_then HB.out HB.out.size hb3).setCell HGR.out _⟩⟩
              case true.true =>
                go_wp2_with (go_at_call 13; refine CB.out.mono ?_; rintro e w3 ⟨A2, c2, rfl, ho3, hb3⟩; have R3 := HR.out.below hb3; obtain ⟨x3, hx3, hz3⟩ := R3.cell 1 (by omega))
                go_roundg (3 - 2)
                case measure => omega
                case rel => exact ⟨2, by omega, by omega, by go_num, by rw [HB2.out]; rfl, ⟨R3.put1 ho3⟩, ⟨(below_then HB.out HB.out.size hb3).setCell HGR.out _⟩⟩
            · have HW' : Aside0 (WAt wo wr g (runW (l))) := ⟨by have := HW.out; rwa [hne, selL_end2] at this⟩
              have HLn := Aside0.mk (show (runW (l)).xs.length ≤ 140737488355328 by have := selL_small l k 2 l.length hll; rwa [selL_end2] at this)
              clear HW hne 
              have CB := Aside0.mk (WAt.outs HW'.out HLn.out)
              have HB2 : badOf l k 2 = (runW l).bad := (parts_law l k).1.symm
              have HB3 : Aside0 (badOf l k 3 = (runW l).bad) := ⟨(parts_law l k).1.symm⟩
              rw [HB2]
              generalize hbv : (runW l).bad = bv at CB HB3 ⊢
              clear hbv HB2 LAW
              cases bv
              case true =>
                go_wp2_with (go_at_call 13; refine CB.out.mono ?_; rintro e w3 ⟨A2, c2, rfl, ho3, hb3⟩; have R3 := HR.out.below hb3; obtain ⟨x3, hx3, hz3⟩ := R3.cell 2 (by omega))
                go_roundg (3 - 3)
                case measure => omega
                case rel => exact ⟨3, by omega, by omega, by go_num, by rw [HB3.out], ⟨R3.put2 ho3⟩, ⟨(below_then HB.out HB.out.size hb3).setCell HGR.out _⟩⟩
              case false =>
                go_wp2_with (go_at_call 13; refine CB.out.mono ?_; rintro e w3 ⟨A2, c2, rfl, ho3, hb3⟩; have R3 := HR.out.below hb3; obtain ⟨x3, hx3, hz3⟩ := R3.cell 2 (by omega))
                go_roundg (3 - 3)
                case measure => omega
                case rel => exact ⟨3, by omega, by omega, by go_num, by rw [HB3.out], ⟨R3.put2 ho3⟩, ⟨(below_then HB.out HB.out.size hb3).setCell HGR.out _⟩⟩
      · have hlt3z : ¬ (ii : Int) < 3 := by omega
        obtain rfl : ii = 3 := by omega
        obtain ⟨v0, v1, v2, hq, _, _, _, h0, h1, h2⟩ := HR.out.ex
        obtain ⟨A0, e0, rfl, r0⟩ := h0 (by omega)
        obtain ⟨A1, e1, rfl, r1⟩ := h1 (by omega)
        obtain ⟨A2, e2, rfl, r2⟩ := h2 (by omega)
        have HB3 : badOf l k 3 = (runW l).bad := (parts_law l k).1.symm
        rw [HB3]
        have HP := (parts_law l k).2
        cases hb : (runW l).bad
        case true =>
          clear hb h0 h1 h2 HB3 HP r0 r1 r2 hq HR HL
          go_wp2
          go_ret
          exact ⟨rfl, HB.out⟩
        case false =>
          have HP := Aside0.mk (HP hb)
          have k0 := string_of_reads (P := Try.prog) (c := e0) Try.underlying27 Try.underlying5 Try.underlying9 r0
          have k1 := string_of_reads (P := Try.prog) (c := e1) Try.underlying27 Try.underlying5 Try.underlying9 r1
          have k2 := string_of_reads (P := Try.prog) (c := e2) Try.underlying27 Try.underlying5 Try.underlying9 r2
          have c0 := (blk_cell hq 0).trans rfl
          have c1 := (blk_cell hq 1).trans rfl
          have c2 := (blk_cell hq 2).trans rfl
          have hs := congrArg strOfNums HP.out
          rw [← str_app] at hs
          rw [hs] at k2
          have hsz : ¬ 9223372036854775807 < (strOfNums (runW (l.take k)).out).size + (strOfNums (runW (l.drop k)).out).size := by
            have h1 := out_small (l.take k) (by rw [List.length_take]; omega)
            have h2 := out_small (l.drop k) (by rw [List.length_drop]; omega)
            omega
          clear hs
          clear hb h0 h1 h2 HB3 r0 r1 r2 HR HL
          go_wp2
          go_ret
          exact ⟨rfl, HB.out⟩
end Go.Proofs.Ytgcehkhlkjahjaa.Wi
