/- The writer's pieces, as they are made: numbers, ints, floats, texts. -/
import Derived.Test.YtgcehkhlkjahjaaWiW2
set_option linter.unusedVariables false
set_option linter.unusedSimpArgs false
namespace Go.Proofs.Ytgcehkhlkjahjaa.Wi
open Go Go.RowKit Go.Proofs.YtgcehkhlkjahjaaW.PrintWords
theorem piece_some {ys : List Int} {w w' : World} {e : Ending} {v : Value} {n : Nat} (hn : ys.length = n) (he : e = .returned v) (ho : w'.ownsRow w.heap.size 5 1 v n (nums .u8 ys)) (hb : Below w.heap.size w w') : PieceP (some ys) w e w' := by
  subst hn
  obtain ⟨A, c, rfl, _, hr⟩ := own_reads' ho
  exact ⟨⟨A, c, he, hr⟩, hb⟩
theorem piece_none {w w' : World} {e : Ending} (he : e = .panicked (gave 1)) (hb : Below w.heap.size w w') : PieceP none w e w' := ⟨he, hb⟩
set_option maxHeartbeats 1600000 in
theorem number1_calls (n size : Int) (hn : n ≤ 9223372036854775807) (bs bn : Nat) (w : World) (hs : w.heap[bs]? = some (.cells #[.int .i64 size] 3 (0, 0))) (hv : w.heap[bn]? = some (.cells #[.int .i64 n] 3 (0, 0))) :
    Calls Try.prog 74 #[.pointer (some ⟨bs, 0, none⟩), .pointer (some ⟨bn, 0, none⟩)] w (PieceP (pNumber n size) w) := by
  have c1 : w.cell? ⟨bs, 0, none⟩ = some (.int .i64 size) := (blk_cell hs 0).trans rfl
  have c2 : w.cell? ⟨bn, 0, none⟩ = some (.int .i64 n) := (blk_cell hv 0).trans rfl
  clear hs hv
  cases hz : sizedB size with
  | false =>
    have HP : Aside0 (pNumber n size = none) := ⟨by simp [pNumber, hz]⟩
    have HS := Aside0.mk hz
    clear hz
    go_enter Try.func74, Try.ntmps74
    go_wp2_with (first | (go_at_call 62; refine (sized_calls _ _).mono ?_; rw [HS.out]; rintro e w' ⟨rfl, rfl⟩) | (go_at_call 75; refine (must_no _).mono ?_; rintro e w' ⟨rfl, rfl⟩))
    exact ⟨rfl, by rw [HP.out]; exact piece_none rfl (Below.refl _ _)⟩
  | true =>
    have hz' : 1 ≤ size ∧ size ≤ 8 := by simpa [sizedB] using hz
    obtain ⟨z1, z8⟩ := hz'
    cases hf : fitsB n size with
    | false =>
      have HP : Aside0 (pNumber n size = none) := ⟨by simp [pNumber, hf]⟩
      have HS := Aside0.mk hz
      have HF := Aside0.mk hf
      clear hz hf
      go_enter Try.func74, Try.ntmps74
      go_wp2_with (first | (go_at_call 62; refine (sized_calls _ _).mono ?_; rw [HS.out]; rintro e w' ⟨rfl, rfl⟩) | (go_at_call 76; refine (fits_calls _ _ z1 z8 _).mono ?_; rw [HF.out]; rintro e w' ⟨rfl, rfl⟩) | (go_at_call 75; refine (must_no _).mono ?_; rintro e w' ⟨rfl, rfl⟩))
      exact ⟨rfl, by rw [HP.out]; exact piece_none rfl (Below.refl _ _)⟩
    | true =>
      have h0 : 0 ≤ n := by
        have := hf
        simp [fitsB] at this
        exact this.1
      obtain ⟨k, rfl⟩ := Int.eq_ofNat_of_zero_le (show 0 ≤ size by omega)
      have HP : Aside0 (pNumber n (k : Int) = some (be n.toNat k)) := ⟨by simp [pNumber, hz, hf]⟩
      have HS := Aside0.mk hz
      have HF := Aside0.mk hf
      clear hz hf
      go_enter Try.func74, Try.ntmps74
      go_wp2_with (first | (go_at_call 62; refine (sized_calls _ _).mono ?_; rw [HS.out]; rintro e w' ⟨rfl, rfl⟩) | (go_at_call 76; refine (fits_calls _ _ z1 z8 _).mono ?_; rw [HF.out]; rintro e w' ⟨rfl, rfl⟩) | (go_at_call 75; refine (must_ok _).mono ?_; rintro e w' ⟨rfl, rfl⟩) | (go_at_call 77; refine (digits_calls n k _ h0 (by omega)).mono ?_; rintro e w' ⟨v, rfl, ho, hb⟩))
      go_ret
      rw [HP.out]
      exact piece_some (be_length _ _) rfl ho hb
theorem u64_wrap (n : Int) : IntKind.u64.wrap n = n % 18446744073709551616 := by
  simp [IntKind.wrap, IntKind.signed, IntKind.bits]
set_option maxHeartbeats 800000 in
theorem int1_calls (n : Int) (bn : Nat) (w : World) (hv : w.heap[bn]? = some (.cells #[.int .i64 n] 3 (0, 0))) :
    Calls Try.prog 79 #[.pointer (some ⟨bn, 0, none⟩)] w (PieceP (pInt n) w) := by
  have c2 : w.cell? ⟨bn, 0, none⟩ = some (.int .i64 n) := (blk_cell hv 0).trans rfl
  have hm : 0 ≤ n % 18446744073709551616 := Int.emod_nonneg _ (by omega)
  have HP : Aside0 (pInt n = some (be (n % 18446744073709551616).toNat 8)) := ⟨rfl⟩
  clear hv
  go_enter Try.func79, Try.ntmps79
  go_wp2_with (go_at_call 77; refine (digits_calls _ 8 _ hm (by omega)).mono ?_; rintro e w' ⟨v, rfl, ho, hb⟩)
  go_ret
  rw [HP.out]
  exact piece_some (be_length _ _) rfl ho hb
set_option maxHeartbeats 800000 in
theorem float1_calls (n : Nat) (bn : Nat) (w : World) (hv : w.heap[bn]? = some (.cells #[.int .u64 n] 73 (0, 0))) :
    Calls Try.prog 80 #[.pointer (some ⟨bn, 0, none⟩)] w (PieceP (some (be n 8)) w) := by
  have c2 : w.cell? ⟨bn, 0, none⟩ = some (.int .u64 n) := (blk_cell hv 0).trans rfl
  clear hv
  go_enter Try.func80, Try.ntmps80
  go_wp2_with (go_at_call 77; refine (digits_calls _ 8 _ (by omega) (by omega)).mono ?_; rintro e w' ⟨v, rfl, ho, hb⟩)
  go_ret
  exact piece_some (be_length _ _) rfl ho hb
set_option maxHeartbeats 1600000 in
theorem fixed1_calls (s : ByteArray) (size : Int) (hs : s.size ≤ 9223372036854775807) (bs bn : Nat) (w : World) (hz : w.heap[bs]? = some (.cells #[.int .i64 size] 3 (0, 0))) (hv : w.heap[bn]? = some (.cells #[.string s] 9 (0, 0))) :
    Calls Try.prog 81 #[.pointer (some ⟨bs, 0, none⟩), .pointer (some ⟨bn, 0, none⟩)] w (PieceP (pFixed s size) w) := by
  have c1 : w.cell? ⟨bs, 0, none⟩ = some (.int .i64 size) := (blk_cell hz 0).trans rfl
  have c2 : w.cell? ⟨bn, 0, none⟩ = some (.string s) := (blk_cell hv 0).trans rfl
  clear hz hv
  have kb := fun W => print_bytes (P := Try.prog) 9 27 5 Try.underlying9 Try.underlying27 Try.underlying5 s W
  have main : ∀ (c0 c1 c2 : Bool), decide (0 ≤ size) = c0 → decide (size ≤ 65535) = c1 → ((s.size : Int) == size) = c2 → Calls Try.prog 81 #[.pointer (some ⟨bs, 0, none⟩), .pointer (some ⟨bn, 0, none⟩)] w (PieceP (if ((c0 && c1) && c2) = true then some (strBytes s) else none) w) := by
    intro c0 c1 c2 h0 h1 h2
    cases c0 <;> cases c1 <;> cases c2
    case true.true.true =>
      have HR := Aside0.mk (bytes_reads w 5 s (by omega))
      have HB := Aside0.mk (bytes_below (Below.refl w.heap.size w) (Nat.le_refl _) 5 s)
      have HL := Aside0.mk (strBytes_length s)
      go_enter Try.func81, Try.ntmps81
      go_wp2_with (go_at_call 75; refine (must_ok _).mono ?_; rintro e w' ⟨rfl, rfl⟩)
      go_ret
      refine ⟨⟨some ⟨w.heap.size, 0, none⟩, grownCap w s.size 0 5, ?_, ?_⟩, HB.out⟩
      · rw [HL.out]; rfl
      · rw [HL.out]; exact HR.out
    all_goals
      go_enter Try.func81, Try.ntmps81
      go_wp2_with (go_at_call 75; refine (must_no _).mono ?_; rintro e w' ⟨rfl, rfl⟩)
      exact ⟨rfl, piece_none rfl (Below.refl _ _)⟩
  exact main _ _ _ rfl rfl rfl
set_option maxHeartbeats 1600000 in
theorem text1_calls (s : ByteArray) (hs : s.size ≤ 9223372036854775807) (bn : Nat) (w : World) (hv : w.heap[bn]? = some (.cells #[.string s] 9 (0, 0))) :
    Calls Try.prog 78 #[.pointer (some ⟨bn, 0, none⟩)] w (PieceP (pText s) w) := by
  have c2 : w.cell? ⟨bn, 0, none⟩ = some (.string s) := (blk_cell hv 0).trans rfl
  have HV := Aside0.mk hv
  clear hv
  by_cases hl : s.size ≤ 65535
  case neg =>
    have t1 : decide (s.size ≤ 65535) = false := decide_eq_false hl
    have t2 : decide ((s.size : Int) ≤ 65535) = false := decide_eq_false (by omega)
    have HP : Aside0 (pText s = none) := ⟨by simp [pText, hl]⟩
    clear hl
    go_enter Try.func78, Try.ntmps78
    go_wp2_with (go_at_call 75; refine (must_no _).mono ?_; rintro e w' ⟨rfl, rfl⟩)
    exact ⟨rfl, by rw [HP.out]; exact piece_none rfl (Below.refl _ _)⟩
  case pos =>
    have t1 : decide (s.size ≤ 65535) = true := decide_eq_true hl
    have t2 : decide ((s.size : Int) ≤ 65535) = true := decide_eq_true (by omega)
    have HP : Aside0 (pText s = some (be s.size 2 ++ strBytes s)) := ⟨by simp [pText, hl]⟩
    have e1 : IntKind.u64.wrap (s.size : Int) = (s.size : Int) := by rw [u64_wrap]; omega
    go_enter Try.func78, Try.ntmps78
    go_wp2_with (go_at_call 75; refine (must_ok _).mono ?_; rintro e w' ⟨rfl, rfl⟩)
    have HS0 := Aside0.mk (show w.drew.cell? ⟨bn, 0, none⟩ = some (.string s) from c2)
    refine YtgcehkhlkjahjaaG.wp_region_door 6 YtgcehkhlkjahjaaG.keepT (fun _ _ => False) (fun W => W.cell? ⟨bn, 0, none⟩ = some (.string s)) (by kernel_rfl) trivial (fun _ _ _ _ h => h.elim) ?_
    refine YtgcehkhlkjahjaaG.wpAnyG_take 0 (v := .string s) rfl (by kernel_rfl) (by kernel_rfl) (by kernel_rfl) (by kernel_rfl) (by decide) (fun a u => YtgcehkhlkjahjaaG.keepT_put a u) HS0.out trivial (by rfl) (by rintro W h0; go_simp; done) ?_
    try simp only [Act.put, List.setIfInBounds_toArray, List.set_cons_zero, List.set_cons_succ]
    refine YtgcehkhlkjahjaaG.wpAnyG_take 4 (v := .string s) rfl (by kernel_rfl) (by kernel_rfl) (by kernel_rfl) (by kernel_rfl) (by decide) (fun a u => YtgcehkhlkjahjaaG.keepT_put a u) HS0.out trivial (by rfl) (by rintro W h0; go_simp; done) ?_
    try simp only [Act.put, List.setIfInBounds_toArray, List.set_cons_zero, List.set_cons_succ]
    refine YtgcehkhlkjahjaaG.wpAnyG_one 1 rfl (by kernel_rfl) (by rfl) (fun K hK => ?_)
    go_simp
    refine hK _ _ HS0.out trivial ?_
    try simp only [Act.put, List.setIfInBounds_toArray, List.set_cons_zero, List.set_cons_succ]
    clear hK K
    refine YtgcehkhlkjahjaaG.wpAnyG_one 2 rfl (by kernel_rfl) (by rfl) (fun K hK => ?_)
    go_simp
    refine hK _ _ HS0.out trivial ?_
    try simp only [Act.put, List.setIfInBounds_toArray, List.set_cons_zero, List.set_cons_succ]
    clear hK K
    refine YtgcehkhlkjahjaaG.wpAnyG_one 3 rfl (by kernel_rfl) (by rfl) (fun K hK => ?_)
    go_simp
    refine (digits_calls _ 2 _ (by omega) (by omega)).mono ?_
    rintro e W1 ⟨v, rfl, ho, hb⟩
    simp only [Int.toNat_natCast] at ho
    have HO := Aside0.mk ho
    have HB := Aside0.mk (below_then (Below.refl w.heap.size w).drew (Nat.le_refl _) hb)
    have HV1 := Aside0.mk ((HB.out.block _ (blk_lt HV.out)).trans HV.out)
    clear ho hb
    refine hK _ _ ((blk_cell HV1.out 0).trans rfl) trivial ?_
    try simp only [Act.put, List.setIfInBounds_toArray, List.set_cons_zero, List.set_cons_succ]
    clear hK K
    refine YtgcehkhlkjahjaaG.wpAnyG_one 5 rfl (by kernel_rfl) (by rfl) (fun K hK => ?_)
    refine wp_append_str w.heap.size (.tmp 9) (.tmp 10) 27 9 5 rfl Try.underlying27 Try.underlying9 info_u8 v 2 (be s.size 2) s (by rfl) (by rfl) HO.out HB.out.size (by omega) ?_
    intro v1 W2 ho1 hg1
    have HO1 := Aside0.mk ho1
    have HB1 := Aside0.mk (HB.out.grown hg1 HB.out.size (own_base HO.out))
    have HV2 := Aside0.mk ((HB1.out.block _ (blk_lt HV.out)).trans HV.out)
    clear ho1 hg1
    refine hK _ _ ((blk_cell HV2.out 0).trans rfl) trivial ?_
    try simp only [Act.put, List.setIfInBounds_toArray, List.set_cons_zero, List.set_cons_succ]
    clear hK K
    refine YtgcehkhlkjahjaaG.wpAnyG_last rfl (by kernel_rfl) (by kernel_rfl) (by rfl) (fun K hK => ?_)
    go_simp
    refine hK _ _ ?_
    go_wp2
    go_ret
    rw [HP.out]
    exact piece_some (by rw [List.length_append, be_length, strBytes_length]) rfl HO1.out HB1.out
end Go.Proofs.Ytgcehkhlkjahjaa.Wi
