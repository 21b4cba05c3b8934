/- The writer's pieces, as they are made: numbers, ints, floats, texts. -/
import Derived.Test.YtgmbfecfkdbfaaaWiW2
set_option linter.unusedVariables false
set_option linter.unusedSimpArgs false
namespace Go.Proofs.Ytgmbfecfkdbfaaa.Wi
open Go Go.RowKit Go.Proofs.YtgmbfecfkdbfaaaW.PrintWords
theorem piece_some {ys : List Int} {w w' : World} {e : Ending} {v : Value} {n : Nat} (hn : ys.length = n) (he : e = .returned v) (ho : w'.ownsRow w.heap.size 5 1 v n (nums .u8 ys)) (hb : Below w.heap.size w w') : PieceP (some ys) w e w' := by
  subst hn
  obtain ⟨A, c, rfl, _, hr⟩ := own_reads' ho
  exact ⟨⟨A, c, he, hr⟩, hb⟩
theorem piece_none {w w' : World} {e : Ending} (he : e = .panicked (gave 1)) (hb : Below w.heap.size w w') : PieceP none w e w' := ⟨he, hb⟩
set_option maxHeartbeats 1600000 in
theorem number1_calls (n size : Int) (hn : n ≤ 9223372036854775807) (bs bn : Nat) (w : World) (hs : w.heap[bs]? = some (.cells #[.int .i64 size] 3 (0, 0))) (hv : w.heap[bn]? = some (.cells #[.int .i64 n] 3 (0, 0))) :
    Calls Try.prog 148 #[.pointer (some ⟨bs, 0, none⟩), .pointer (some ⟨bn, 0, none⟩)] w (PieceP (pNumber n size) w) := by
  have c1 : w.cell? ⟨bs, 0, none⟩ = some (.int .i64 size) := (blk_cell hs 0).trans rfl
  have c2 : w.cell? ⟨bn, 0, none⟩ = some (.int .i64 n) := (blk_cell hv 0).trans rfl
  clear hs hv
  cases hz : sizedB size with
  | false =>
    have HP : Aside0 (pNumber n size = none) := ⟨by simp [pNumber, hz]⟩
    have HS := Aside0.mk hz
    clear hz
    go_enter Try.func148, Try.ntmps148
    go_wp2_with (first | (go_at_call 149; refine (sized_calls _ _).mono ?_; rw [HS.out]; rintro e w' ⟨rfl, rfl⟩) | (go_at_call 109; refine (must_no _).mono ?_; rintro e w' ⟨rfl, rfl⟩))
    exact ⟨rfl, by rw [HP.out]; exact piece_none rfl (Below.refl _ _)⟩
  | true =>
    have hz' : 1 ≤ size ∧ size ≤ 8 := by simpa [sizedB] using hz
    obtain ⟨z1, z8⟩ := hz'
    cases hf : fitsB n size with
    | false =>
      have HP : Aside0 (pNumber n size = none) := ⟨by simp [pNumber, hf]⟩
      have HS := Aside0.mk hz
      have HF := Aside0.mk hf
      clear hz hf
      go_enter Try.func148, Try.ntmps148
      go_wp2_with (first | (go_at_call 149; refine (sized_calls _ _).mono ?_; rw [HS.out]; rintro e w' ⟨rfl, rfl⟩) | (go_at_call 150; refine (fits_calls _ _ z1 z8 _).mono ?_; rw [HF.out]; rintro e w' ⟨rfl, rfl⟩) | (go_at_call 109; refine (must_no _).mono ?_; rintro e w' ⟨rfl, rfl⟩))
      exact ⟨rfl, by rw [HP.out]; exact piece_none rfl (Below.refl _ _)⟩
    | true =>
      have h0 : 0 ≤ n := by
        have := hf
        simp [fitsB] at this
        exact this.1
      obtain ⟨k, rfl⟩ := Int.eq_ofNat_of_zero_le (show 0 ≤ size by omega)
      have HP : Aside0 (pNumber n (k : Int) = some (be n.toNat k)) := ⟨by simp [pNumber, hz, hf]⟩
      have HS := Aside0.mk hz
      have HF := Aside0.mk hf
      clear hz hf
      go_enter Try.func148, Try.ntmps148
      go_wp2_with (first | (go_at_call 149; refine (sized_calls _ _).mono ?_; rw [HS.out]; rintro e w' ⟨rfl, rfl⟩) | (go_at_call 150; refine (fits_calls _ _ z1 z8 _).mono ?_; rw [HF.out]; rintro e w' ⟨rfl, rfl⟩) | (go_at_call 109; refine (must_ok _).mono ?_; rintro e w' ⟨rfl, rfl⟩) | (go_at_call 151; refine (digits_calls n k _ h0 (by omega)).mono ?_; rintro e w' ⟨v, rfl, ho, hb⟩))
      go_ret
      rw [HP.out]
      exact piece_some (be_length _ _) rfl ho hb
theorem u64_wrap (n : Int) : IntKind.u64.wrap n = n % 18446744073709551616 := by
  simp [IntKind.wrap, IntKind.signed, IntKind.bits]
set_option maxHeartbeats 800000 in
theorem int1_calls (n : Int) (bn : Nat) (w : World) (hv : w.heap[bn]? = some (.cells #[.int .i64 n] 3 (0, 0))) :
    Calls Try.prog 168 #[.pointer (some ⟨bn, 0, none⟩)] w (PieceP (pInt n) w) := by
  have c2 : w.cell? ⟨bn, 0, none⟩ = some (.int .i64 n) := (blk_cell hv 0).trans rfl
  have hm : 0 ≤ n % 18446744073709551616 := Int.emod_nonneg _ (by omega)
  have HP : Aside0 (pInt n = some (be (n % 18446744073709551616).toNat 8)) := ⟨rfl⟩
  clear hv
  go_enter Try.func168, Try.ntmps168
  go_wp2_with (go_at_call 151; refine (digits_calls _ 8 _ hm (by omega)).mono ?_; rintro e w' ⟨v, rfl, ho, hb⟩)
  go_ret
  rw [HP.out]
  exact piece_some (be_length _ _) rfl ho hb
set_option maxHeartbeats 800000 in
theorem float1_calls (n : Nat) (bn : Nat) (w : World) (hv : w.heap[bn]? = some (.cells #[.int .u64 n] 142 (0, 0))) :
    Calls Try.prog 175 #[.pointer (some ⟨bn, 0, none⟩)] w (PieceP (some (be n 8)) w) := by
  have c2 : w.cell? ⟨bn, 0, none⟩ = some (.int .u64 n) := (blk_cell hv 0).trans rfl
  clear hv
  go_enter Try.func175, Try.ntmps175
  go_wp2_with (go_at_call 151; refine (digits_calls _ 8 _ (by omega) (by omega)).mono ?_; rintro e w' ⟨v, rfl, ho, hb⟩)
  go_ret
  exact piece_some (be_length _ _) rfl ho hb
set_option maxHeartbeats 1600000 in
theorem fixed1_calls (s : ByteArray) (size : Int) (hs : s.size ≤ 9223372036854775807) (bs bn : Nat) (w : World) (hz : w.heap[bs]? = some (.cells #[.int .i64 size] 3 (0, 0))) (hv : w.heap[bn]? = some (.cells #[.string s] 9 (0, 0))) :
    Calls Try.prog 108 #[.pointer (some ⟨bs, 0, none⟩), .pointer (some ⟨bn, 0, none⟩)] w (PieceP (pFixed s size) w) := by
  have c1 : w.cell? ⟨bs, 0, none⟩ = some (.int .i64 size) := (blk_cell hz 0).trans rfl
  have c2 : w.cell? ⟨bn, 0, none⟩ = some (.string s) := (blk_cell hv 0).trans rfl
  clear hz hv
  have kb := fun W => print_bytes (P := Try.prog) 9 24 5 Try.underlying9 Try.underlying24 Try.underlying5 s W
  have main : ∀ (c0 c1 c2 : Bool), decide (0 ≤ size) = c0 → decide (size ≤ 65535) = c1 → ((s.size : Int) == size) = c2 → Calls Try.prog 108 #[.pointer (some ⟨bs, 0, none⟩), .pointer (some ⟨bn, 0, none⟩)] w (PieceP (if ((c0 && c1) && c2) = true then some (strBytes s) else none) w) := by
    intro c0 c1 c2 h0 h1 h2
    cases c0 <;> cases c1 <;> cases c2
    case true.true.true =>
      have HR := Aside0.mk (bytes_reads w 5 s (by omega))
      have HB := Aside0.mk (bytes_below (Below.refl w.heap.size w) (Nat.le_refl _) 5 s)
      have HL := Aside0.mk (strBytes_length s)
      go_enter Try.func108, Try.ntmps108
      go_wp2_with (go_at_call 109; refine (must_ok _).mono ?_; rintro e w' ⟨rfl, rfl⟩)
      go_ret
      refine ⟨⟨some ⟨w.heap.size, 0, none⟩, grownCap w s.size 0 5, ?_, ?_⟩, HB.out⟩
      · rw [HL.out]; rfl
      · rw [HL.out]; exact HR.out
    all_goals
      go_enter Try.func108, Try.ntmps108
      go_wp2_with (go_at_call 109; refine (must_no _).mono ?_; rintro e w' ⟨rfl, rfl⟩)
      exact ⟨rfl, piece_none rfl (Below.refl _ _)⟩
  exact main _ _ _ rfl rfl rfl
end Go.Proofs.Ytgmbfecfkdbfaaa.Wi
