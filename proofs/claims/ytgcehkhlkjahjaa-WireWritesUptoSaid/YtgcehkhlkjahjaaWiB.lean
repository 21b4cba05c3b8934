/- WireBack: what is put is taken, piece by piece, whatever stands behind. -/
import Derived.Test.YtgcehkhlkjahjaaWiQ2
set_option linter.unusedVariables false
set_option linter.unusedSimpArgs false
namespace Go.Proofs.Ytgcehkhlkjahjaa.Wi
open Go Go.RowKit Go.Proofs.YtgcehkhlkjahjaaW.PrintWords
theorem take_step {α : Type} (l : List α) (k : Nat) (h : k < l.length) : l.take (k + 1) = l.take k ++ [l[k]] := List.take_succ_eq_append_getElem h
theorem runW_small (l : List Pc) (h : l.length ≤ 1048577) : (runW l).xs.length ≤ 140737488355328 := by
  have := runW_len l
  have h2 : l.length * 65537 ≤ 1048577 * 65537 := Nat.mul_le_mul_right _ h
  omega
/-- what a reader stands at while pieces that were put are taken -/
structure Goes (l : List Pc) (kk : Nat) (bs tail : List Int) (n : Nat) (r : RS) : Prop where
  code : r.code = 0
  fat : r.fat = 0
  left : ∃ zs, encAll (l.drop kk) = some zs ∧ bs.drop r.at_ = zs ++ tail ∧ r.at_ + zs.length = n
theorem Goes.step {l : List Pc} {kk : Nat} {bs tail : List Int} {n : Nat} {r : RS} (h : Goes l kk bs tail n r) (hk : kk < l.length) (hp : (l[kk]).Ok) : takenB bs r l[kk] = true ∧ Goes l (kk + 1) bs tail n (takenS bs r l[kk]) := by
  obtain ⟨hc, hf, zs, h1, h2, h3⟩ := h
  rw [List.drop_eq_getElem_cons hk] at h1
  simp only [encAll] at h1
  cases he : (l[kk]).enc with
  | none => rw [he] at h1; cases h1
  | some ys =>
    rw [he] at h1
    cases hr : encAll (l.drop (kk + 1)) with
    | none => rw [hr] at h1; cases h1
    | some qs =>
      rw [hr] at h1
      simp only [Option.some.injEq] at h1
      subst h1
      rw [List.append_assoc] at h2
      obtain ⟨t1, t2, t3, t4⟩ := taken_put l[kk] hp hc he h2
      rw [List.length_append] at h3
      refine ⟨t1, t3, by rw [t4, hf], qs, hr, ?_, by omega⟩
      rw [t2, ← List.drop_drop, h2]
      simp
theorem pNumber_bytes {n size : Int} {ys : List Int} (h : pNumber n size = some ys) : Bytes ys := by
  unfold pNumber at h
  split at h
  · obtain rfl := Option.some.inj h
    exact be_bytes _ _
  · cases h
theorem enc_bytes {p : Pc} {ys : List Int} (h : p.enc = some ys) : Bytes ys := by
  unfold Pc.enc at h
  repeat' split at h
  · exact pNumber_bytes h
  · obtain rfl := Option.some.inj h; exact be_bytes _ _
  · obtain rfl := Option.some.inj h; exact be_bytes _ _
  · exact pNumber_bytes h
  · unfold pText at h
    split at h
    · obtain rfl := Option.some.inj h; exact (be_bytes _ _).append (strBytes_bytes _)
    · cases h
  · unfold pFixed at h
    split at h
    · obtain rfl := Option.some.inj h; exact strBytes_bytes _
    · cases h
  · exact pNumber_bytes h
  · obtain rfl := Option.some.inj h; exact Bytes.nil
theorem encAll_bytes : ∀ (l : List Pc) {zs : List Int}, encAll l = some zs → Bytes zs
  | [], zs, h => by obtain rfl := Option.some.inj h; exact Bytes.nil
  | p :: r, zs, h => by
    simp only [encAll] at h
    cases he : p.enc with
    | none => rw [he] at h; cases h
    | some ys =>
      rw [he] at h
      cases hr : encAll r with
      | none => rw [hr] at h; cases h
      | some qs =>
        rw [hr] at h
        simp only [Option.some.injEq] at h
        subst h
        exact (enc_bytes he).append (encAll_bytes r hr)
theorem own_reads'' {w : World} {base n : Nat} {e : TypeId} {k : IntKind} {v : Value} {xs : List Int} (h : w.ownsRow base e 1 v n (nums k xs)) : ∃ (A : Option Addr) (c m : Nat), v = .slice A n c ∧ n ≤ c ∧ ReadsInt w k A n xs := by
  obtain ⟨A, c, h1, h2, h3⟩ := own_reads' h
  exact ⟨A, c, 0, h1, h2, h3⟩
section
variable {w W : World} {g : Nat} {xs : List Int}
theorem newR' {bs : List Int} {n : Nat} (hb : Below w.heap.size w W) (A : Option Addr) (c : Nat) (hr : ReadsInt W .u8 A n bs) (hB : Bytes bs) (hl : bs.length ≤ 140737488355328) : Calls Try.prog 16 #[.slice A n c] W fun e W' => ∃ g, e = .returned (.pointer (some ⟨g, 0, none⟩)) ∧ RAt w W' g bs ⟨0, 0, 0, 0⟩ ∧ Below W.heap.size W W' := by
  have hn : bs.length = n := hr.1
  subst hn
  exact newR hb A c hr hB hl
theorem WAt.bytes_bad (h : WAt w W g ⟨xs, true⟩) (hl : xs.length ≤ 140737488355328) : Calls Try.prog 13 #[.pointer (some ⟨g, 0, none⟩)] W fun e W' => (∃ A c, e = .returned (.tuple #[.slice A 0 c, .int .i64 1])) ∧ Below w.heap.size w W' :=
  (WAt.bytes h hl).mono fun e W' ⟨A, c, he, _, hb⟩ => ⟨⟨A, c, he⟩, hb⟩
theorem WAt.bytes_ok (h : WAt w W g ⟨xs, false⟩) (hl : xs.length ≤ 140737488355328) : Calls Try.prog 13 #[.pointer (some ⟨g, 0, none⟩)] W fun e W' => ∃ A c, e = .returned (.tuple #[.slice A xs.length c, .int .i64 0]) ∧ ReadsInt W' .u8 A xs.length xs ∧ Below w.heap.size w W' :=
  WAt.bytes h hl
end
set_option maxHeartbeats 16000000 in
set_option maxRecDepth 100000 in
theorem wireBack_calls (A : Option Addr) (c : Nat) (l : List Pc) (A1 : Option Addr) (c1 : Nat) (tail : List Int) (w : World) (hl : kPc.C w A l.length l) (hc : l.length ≤ c) (hll : l.length ≤ 1048576) (hb : kB.C w A1 tail.length tail) (hc1 : tail.length ≤ c1) (hbl : tail.length ≤ 1048576) :
    Calls Try.prog 8 #[.slice A l.length c, .slice A1 tail.length c1] w fun e w' => e = .returned (.bool true) ∧ Below w.heap.size w w' := by
  obtain ⟨hrd, hby⟩ := kB_reads hb
  have HRD := Aside0.mk hrd
  have HBY := Aside0.mk hby
  have HL := Aside0.mk hl
  clear hb hrd hby hl
  go_enter Try.func8, Try.ntmps8
  go_wp2_with (first
    | (go_at_call 9; refine (awake_calls _).mono ?_; rintro e w0 ⟨rfl, hb0⟩)
    | (go_at_call 10; refine (newW hb0).mono ?_; rintro e w1 ⟨rfl, S0, _⟩))
  obtain ⟨g, hg⟩ : ∃ g, w0.heap.size = g := ⟨_, rfl⟩
  rw [hg] at S0 ⊢
  have HS0 := Aside0.mk S0
  clear S0 hg
  go_loopg [7] l.length (fun gg s7 wr => ∃ (kk : Nat), kk ≤ l.length ∧ l.length - kk ≤ gg ∧ s7 = .int .i64 kk ∧ Aside0 (WAt w wr g (runW (l.take kk))))
  case atStart => exact ⟨0, Nat.zero_le _, by omega, rfl, ⟨by simpa [runW] using HS0.out⟩⟩
  case round =>
    obtain ⟨kk, hkk, hgg, rfl, HW⟩ := hrel
    clear HS0
    by_cases hlt : kk < l.length
    · have hltz : (kk : Int) < (l.length : Int) := by omega
      obtain ⟨ad, rfl, hok, hpc⟩ := pc_at HL.out kk hlt
      have HPC := Aside0.mk (PcAt.of hpc HW.out.1)
      have HOK := Aside0.mk hok
      have HT := Aside0.mk (take_step l kk hlt)
      clear hpc hok
      have CN0 : ∀ W, WAt w W g (runW (l.take kk)) → _ := fun W h => WAt.put h l[kk] HOK.out (by rw [← runW_snoc, ← HT.out]; exact runW_small _ (by rw [List.length_take]; omega))
      rw [← runW_snoc, ← HT.out] at CN0
      have CN := Aside0.mk CN0
      clear CN0
      generalize l[kk] = p at HPC CN
      unfold Pc.val at CN
      have d0 := HPC.out.c0
      have d1 := HPC.out.c1
      have d2 := HPC.out.c2
      have d3 := HPC.out.c3
      have d4 := HPC.out.c4
      have d5 := HPC.out.c5
      go_wp2_with (go_at_call 11; refine (CN.out _ HW.out).mono ?_; rintro e w2 ⟨rfl, S2⟩)
      go_roundg (l.length - (kk + 1))
      case measure => omega
      case rel => exact ⟨kk + 1, by omega, by omega, by go_num, ⟨S2⟩⟩
    · have hltz : ¬ (kk : Int) < (l.length : Int) := by omega
      have hke : kk = l.length := by omega
      have HW' : Aside0 (WAt w wr g (runW l)) := ⟨by have := HW.out; rwa [hke, List.take_length] at this⟩
      have HE := Aside0.mk (runW_enc l)
      clear HW hke
      have HLen := Aside0.mk (show (runW l).xs.length ≤ 70000000000 from Nat.le_trans (runW_len l) (Nat.le_trans (Nat.mul_le_mul_right 65537 hll) (by decide)))
      generalize runW l = s at HW' HE HLen
      obtain ⟨xs, bad⟩ := s
      cases bad with
      | true =>
        go_wp2_with (go_at_call 13; refine (WAt.bytes_bad HW'.out (Nat.le_trans HLen.out (by omega))).mono ?_; rintro e w3 ⟨⟨A2, c2, rfl⟩, hb3⟩)
        go_ret
        exact ⟨rfl, hb3⟩
      | false =>
        obtain ⟨zs, hz, hzx⟩ : ∃ zs, encAll l = some zs ∧ zs = xs := by
          obtain ⟨h1, h2⟩ := HE.out
          simp only at h1
          cases he : encAll l with
          | none => rw [he] at h1; cases h1
          | some zs => rw [he] at h2; exact ⟨zs, rfl, h2.symm⟩
        subst hzx
        have HZ := Aside0.mk hz
        have HZB := Aside0.mk (encAll_bytes l hz)
        clear hz HE
        go_wp2_with (first
          | (go_at_call 13; refine (WAt.bytes_ok HW'.out (Nat.le_trans HLen.out (by omega))).mono ?_; rintro e w3 ⟨A2, c2, rfl, hrd3, hb3⟩; have HO3 := Aside0.mk (own_lit w3 w.heap.size 5 .u8 [] hb3.size (by simp)); have HR3 := Aside0.mk (hrd3.below (below1 (.cells #[] 5))); have HB3 := Aside0.mk (below_alloc hb3 (.cells #[] 5)); clear hrd3)
          | (at_builtin; refine wpList_append_row w.heap.size rfl (.tmp 49) (.tmp 50) 27 5 .u8 1 rfl Try.underlying27 info_u8 (by decide) (.slice (some ⟨w3.heap.size, 0, none⟩) 0 0) 0 [] zs A2 zs.length c2 (by rfl) (by rfl) HO3.out HR3.out HB3.out.size (by have := HLen.out; omega) ?_; intro v4 w4 ho4 hg4 _; obtain ⟨A4, c4, rfl⟩ := own_slice ho4; simp only [Nat.zero_add, List.nil_append] at ho4; have HO4 := Aside0.mk ho4; have HB4 := Aside0.mk (HB3.out.grown hg4 HB3.out.size (own_base HO3.out)); clear ho4 hg4)
          | (at_builtin; refine wpList_append_row w.heap.size rfl (.tmp 51) (.tmp 52) 27 5 .u8 1 rfl Try.underlying27 info_u8 (by decide) (.slice A4 zs.length c4) zs.length zs tail A1 tail.length c1 (by rfl) (by rfl) HO4.out (HRD.out.below HB4.out) HB4.out.size (by have := HLen.out; omega) ?_; intro v5 w5 ho5 hg5 _; obtain ⟨A5, c5, _, rfl, _, hr5⟩ := own_reads'' ho5; have HR5 := Aside0.mk hr5; have HB5 := Aside0.mk (HB4.out.grown hg5 HB4.out.size (own_base HO4.out)); clear ho5 hg5 hr5)
          | (go_at_call 16; refine (newR' HB5.out A5 c5 HR5.out (HZB.out.append HBY.out) (by rw [List.length_append]; have := HLen.out; omega)).mono ?_; rintro e w6 ⟨g2, rfl, R6, _⟩))
        have HR6 := Aside0.mk R6
        have HG0 : Aside0 (Goes l 0 (zs ++ tail) tail zs.length ⟨0, 0, 0, 0⟩) := ⟨⟨rfl, rfl, zs, HZ.out, rfl, by simp⟩⟩
        clear R6 HW' HO3 HR3 HB3 HO4 HB4 HR5 HB5 hb3
        go_loopg [4, 11, 12] l.length (fun gg s4 s11 s12 wz => ∃ (k2 : Nat) (r : RS), k2 ≤ l.length ∧ l.length - k2 ≤ gg ∧ s11 = .int .i64 k2 ∧ Aside0 (RAt w wz g2 (zs ++ tail) r) ∧ Aside0 (Goes l k2 (zs ++ tail) tail zs.length r))
        case atStart => exact ⟨0, _, Nat.zero_le _, by omega, rfl, HR6, HG0⟩
        case round =>
          obtain ⟨k2, r, hk2, hg2, rfl, HR, HG⟩ := hrel
          clear HR6 HG0
          by_cases hlt2 : k2 < l.length
          · have hltz2 : (k2 : Int) < (l.length : Int) := by omega
            obtain ⟨ad, rfl, hok, hpc⟩ := pc_at HL.out k2 hlt2
            have HPC := Aside0.mk (PcAt.of hpc HR.out.1)
            have HST := Aside0.mk (HG.out.step hlt2 hok)
            have CN0 : ∀ W, RAt w W g2 (zs ++ tail) r → _ := fun W h => RAt.taken h l[k2] hok
            rw [HST.out.1] at CN0
            have HG2 := Aside0.mk HST.out.2
            generalize takenS (zs ++ tail) r l[k2] = r' at CN0 HG2
            have CN := Aside0.mk CN0
            clear CN0 HST hpc hok
            generalize l[k2] = p at HPC CN
            unfold Pc.val at CN
            have d0 := HPC.out.c0
            have d1 := HPC.out.c1
            have d2 := HPC.out.c2
            have d3 := HPC.out.c3
            have d4 := HPC.out.c4
            have d5 := HPC.out.c5
            go_wp2_with (go_at_call 32; refine (CN.out _ HR.out).mono ?_; rintro e w2 ⟨rfl, R2, _⟩)
            go_roundg (l.length - (k2 + 1))
            case measure => omega
            case rel => exact ⟨k2 + 1, r', by omega, by omega, by go_num, ⟨R2⟩, HG2⟩
          · have hltz2 : ¬ (k2 : Int) < (l.length : Int) := by omega
            have hat : r.at_ = zs.length ∧ r.code = 0 ∧ r.fat = 0 := by
              obtain ⟨h1, h2, qs, h3, h4, h5⟩ := HG.out
              rw [List.drop_eq_nil_of_le (by omega)] at h3
              obtain rfl := Option.some.inj h3
              exact ⟨by simpa using h5, h1, h2⟩
            obtain ⟨rat, rlast, rcode, rfat⟩ := r
            obtain ⟨rfl, rfl, rfl⟩ := hat
            clear HG HL
            cases tail with
            | nil =>
              have HEN : Aside0 ((⟨zs.length, rlast, 0, 0⟩ : RS).end_ (zs ++ []).length = ⟨zs.length, rlast, 0, 0⟩) := ⟨by simp [RS.end_]⟩
              have CE0 : ∀ W, RAt w W g2 (zs ++ []) ⟨zs.length, rlast, 0, 0⟩ → _ := fun W h => RAt.end' h
              rw [HEN.out] at CE0
              have CE := Aside0.mk CE0
              clear CE0 HEN
              go_wp2_with (first
                | (go_at_call 17; refine (RAt.at' HR.out).mono ?_; rintro e w1 ⟨rfl, rfl⟩)
                | (go_at_call 33; refine (CE.out _ HR.out).mono ?_; rintro e w2 ⟨rfl, R2, _⟩))
              go_ret
              exact ⟨rfl, below_alloc R2.1 _⟩
            | cons t0 tr =>
              have HEN : Aside0 ((⟨zs.length, rlast, 0, 0⟩ : RS).end_ (zs ++ t0 :: tr).length = ⟨zs.length, rlast, 13, zs.length⟩) := ⟨by simp [RS.end_]⟩
              have CE0 : ∀ W, RAt w W g2 (zs ++ t0 :: tr) ⟨zs.length, rlast, 0, 0⟩ → _ := fun W h => RAt.end' h
              rw [HEN.out] at CE0
              have CE := Aside0.mk CE0
              clear CE0 HEN
              have htl : (0 : Int) < ((t0 :: tr).length : Int) := by rw [List.length_cons]; omega
              have u1 : (((t0 :: tr).length : Int) == 0) = false := beq_eq_false_iff_ne.2 (by omega)
              have u2 : decide (0 < ((t0 :: tr).length : Int)) = true := decide_eq_true htl
              go_wp2_with (first
                | (go_at_call 17; refine (RAt.at' HR.out).mono ?_; rintro e w1 ⟨rfl, rfl⟩)
                | (go_at_call 33; refine (CE.out _ HR.out).mono ?_; rintro e w2 ⟨rfl, R2, _⟩))
              go_ret
              exact ⟨by first | rfl | (simp; done), below_alloc R2.1 _⟩
end Go.Proofs.Ytgcehkhlkjahjaa.Wi
