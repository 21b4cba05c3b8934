/- The record laws' kept and owned. -/
import Derived.Test.YtgmbfecfkdbfaaaRcN
set_option linter.unusedVariables false
set_option linter.unusedSimpArgs false
namespace Go.Proofs.Ytgmbfecfkdbfaaa.Wi
open Go Go.RowKit Go.Proofs.YtgmbfecfkdbfaaaW.PrintWords
set_option maxHeartbeats 3200000 in
set_option maxRecDepth 100000 in
theorem kept_calls (A : Option Addr) (cA c : Nat) (bs : List Int) (B gl : Nat) (w : World) (hr : ReadsInt w .u8 A bs.length bs) (hl : bs.length ≤ 140737488351232) (hc : bs.length + 2 ≤ c)
    (ho : w.ownsRow B 5 1 (.slice (some ⟨gl, 0, none⟩) (bs.length + 2) c) (bs.length + 2) (nums .u8 (bs ++ [171, 172]))) :
    Calls Try.prog 14 #[.slice (some ⟨gl, 0, none⟩) bs.length c, .slice A bs.length cA] w fun e w' => e = .returned (.bool true) ∧ Fr (fun i => i = gl) w w' := by
  have HO := Aside0.mk ho
  obtain ⟨ti, hti, hte⟩ : ∃ i, Try.prog.info? 5 = some i ∧ i.size = 1 := by
    obtain ⟨i, h1, h2⟩ := Option.map_eq_some_iff.1 info_u8
    injection h2 with _ h2
    injection h2 with h2 _
    exact ⟨i, h1, h2⟩
  have hxl : ((bs ++ [(171 : Int), 172]).take bs.length) = bs := by simp
  have hll : (bs ++ [(171 : Int), 172]).length = bs.length + 2 := by rw [List.length_append]; rfl
  have hsl : ∀ W : World, (Instr.slice 24 (.slice (some ⟨gl, 0, none⟩) bs.length c) none (some (.int .i64 ((bs.length : Int) + 2))) none).run Try.prog W = .ok (.slice (some ⟨gl, 0, none⟩) (bs.length + 2) c) W := fun W => by
    have hel : Try.prog.elem 24 = 5 := by simp [Program.elem, Try.underlying24]
    have hu : Try.prog.underlying 24 = some (.slice (Try.prog.elem 24)) := by rw [hel]; exact Try.underlying24
    rw [run_slice_h W 24 (some ⟨gl, 0, none⟩) bs.length c hu .i64 ((bs.length : Int) + 2) (by omega) (by omega), hel]
    simp [sizeOf, typeInfo, hti, hte, sliced, Result.andThen, Addr.add]
    omega
  obtain ⟨hsl2, hrt, _⟩ := print_take_int (P := Try.prog) (k := .u8) 24 5 Try.underlying24 hti hte (some ⟨gl, 0, none⟩) c (bs ++ [171, 172]) (bs.length : Int) (by omega) (by rw [hll]; omega) (by rw [hll]; exact hc)
  simp only [Int.toNat_natCast, hxl, hll] at hsl2 hrt
  have HRL := Aside0.mk (show ReadsInt w .u8 (some ⟨gl, 0, none⟩) bs.length bs from by
    obtain ⟨A', c', h1, _, h2⟩ := own_reads' ho
    injection h1 with h1 _ _
    subst h1
    exact hrt w h2)
  have HS := Aside0.mk (same_eq (some ⟨gl, 0, none⟩) A c cA bs w HRL.out hr)
  have h171 := own_at ho (bs.length : Int) (by omega) (by omega)
  have h172 := own_at ho ((bs.length : Int) + 1) (by omega) (by omega)
  have r1 : rd (bs ++ [(171 : Int), 172]) (bs.length : Int) = 171 := by simp [rd, List.getD]
  have e1 : ((bs.length : Int) + 1).toNat = bs.length + 1 := by omega
  have r2 : rd (bs ++ [(171 : Int), 172]) ((bs.length : Int) + 1) = 172 := by
    unfold rd
    rw [e1]
    simp [List.getD]
  rw [r1, Int.toNat_natCast] at h171
  rw [r2, e1] at h172
  obtain ⟨m1, _⟩ := h171
  obtain ⟨m2, _⟩ := h172
  clear hr ho hti hte hxl hll hrt r1 r2 e1
  go_enter Try.func14, Try.ntmps14
  go_wp2_with (go_at_call 16; refine HS.out.mono ?_; rintro e w1 ⟨rfl, rfl⟩)
  clear m1 m2 hsl hsl2 HS HRL
  go_loopg [7] (bs.length + 2) (fun gg s7 wr => ∃ (i : Nat) (xs : List Int), i ≤ bs.length + 2 ∧ bs.length + 2 - i ≤ gg ∧ s7 = .int .i64 i ∧ Aside0 (wr.ownsRow B 5 1 (.slice (some ⟨gl, 0, none⟩) (bs.length + 2) c) (bs.length + 2) (nums .u8 xs)) ∧ Aside0 (Fr (fun i => i = gl) w wr))
  case atStart => exact ⟨0, _, by omega, by omega, rfl, HO, ⟨Fr.refl _ _⟩⟩
  case round =>
    obtain ⟨i, xs, hi, hg, rfl, HO1, HF⟩ := hrel
    clear HO
    by_cases hlt : i < bs.length + 2
    · have hltz : (i : Int) < (bs.length : Int) + 2 := by omega
      have HA := own_at HO1.out (i : Int) (by omega) (by omega)
      simp only [Int.toNat_natCast] at HA
      obtain ⟨cc, cf⟩ := HA
      have hst := own_store HO1.out (i : Int) 99
      simp only [Int.toNat_natCast] at hst
      have HST := Aside0.mk hst
      have HFR := Aside0.mk (HF.out.set_ (p := ⟨gl, i, none⟩) (.inl rfl) (.int .u8 99))
      clear hst
      go_wp2
      go_roundg (bs.length + 2 - (i + 1))
      case measure => omega
      case rel => exact ⟨i + 1, _, by omega, by omega, by go_num, ⟨HST.out.1⟩, ⟨HFR.out⟩⟩
    · have hltz : ¬ (i : Int) < (bs.length : Int) + 2 := by omega
      go_wp2
      go_ret
      exact ⟨rfl, HF.out⟩
end Go.Proofs.Ytgmbfecfkdbfaaa.Wi
