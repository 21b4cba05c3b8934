/- The laws' Lent and Back: bytes in a list of their own, and what stands there later. -/
import Derived.Test.YtgcehkhlkjahjaaWiX4
set_option linter.unusedVariables false
set_option linter.unusedSimpArgs false
namespace Go.Proofs.Ytgcehkhlkjahjaa.Wi
open Go Go.RowKit Go.Proofs.YtgcehkhlkjahjaaW.PrintWords
section
variable {P : Program} {ops : Array Oper} {rest : List Oper} {o : Oper} {a : Act} {Q : Exit → Act → World → Prop}
/-- copy(v, ys), v a row of bytes of one's own -/
theorem copy_bytes {w0 W : World} (base : Nat) (hgd : o.guard = none) (s x : Operand) (t t' e : TypeId)
    (ho : o.op = .call { callee := .builtin .copy, args := #[s, x], argTypes := #[t, t'] }) (ht : P.underlying t = some (.slice e)) (hinfo : (P.info? e).map (·.size) = some 1)
    (v : Value) (xs ys : List Int) (A : Option Addr) (m c : Nat) (hs : a.eval s = v) (hx : a.eval x = .slice A m c)
    (HO : W.ownsRow base e 1 v xs.length (nums .u8 xs)) (HR : ReadsInt W .u8 A m ys) (HB : Below base w0 W) (hbase : base ≤ W.heap.size)
    (h : ∀ w1, w1.ownsRow base e 1 v (ys.take (min m xs.length) ++ xs.drop (min m xs.length)).length (nums .u8 (ys.take (min m xs.length) ++ xs.drop (min m xs.length))) → Below base w0 w1 → W.grownBy w1 v.ownBlock → wpList P ops Q rest (a.put o.dst (.int .i64 ((min m xs.length : Nat) : Int))) w1) :
    wpList P ops Q (o :: rest) a W :=
  Kd.R_copy (enc := Value.int .u8) (h1 := fun _ => rfl) 0 base hgd s x t t' e ho ht hinfo v xs ys A m c (fun _ => True) hs hx (Kd.R_of_own HO (fun _ _ => trivial)) (Kd.C_of_reads (d := 0) HR) HB hbase (fun w1 hR hB hg => h w1 (Kd.own_of_R hR) hB hg)
end
def lentL (bs : List Int) (kk : Nat) : List Int := bs ++ (List.replicate kk 201 ++ List.replicate (3 - kk) 0)
theorem lentL_len (bs : List Int) (kk : Nat) (h : kk ≤ 3) : (lentL bs kk).length = bs.length + 3 := by simp [lentL]; omega
theorem lentL_set (bs : List Int) (kk : Nat) (h : kk < 3) : (lentL bs kk).set (bs.length + kk) 201 = lentL bs (kk + 1) := by
  unfold lentL
  rw [List.set_append_right _ _ (by omega), show bs.length + kk - bs.length = kk by omega]
  congr 1
  match kk, h with
  | 0, _ => rfl
  | 1, _ => rfl
  | 2, _ => rfl
/-- what Lent hands back -/
def LentPost (bs : List Int) (w : World) (e : Ending) (w' : World) : Prop :=
  ∃ gl, e = .returned (.slice (some ⟨gl, 0, none⟩) bs.length (bs.length + 3)) ∧ w'.ownsRow w.heap.size 5 1 (.slice (some ⟨gl, 0, none⟩) (bs.length + 3) (bs.length + 3)) (bs.length + 3) (nums .u8 (lentL bs 3)) ∧ w.heap.size ≤ gl ∧ Below w.heap.size w w'
set_option maxHeartbeats 3200000 in
set_option maxRecDepth 100000 in
theorem lent_calls (A : Option Addr) (c : Nat) (bs : List Int) (w : World) (hr : ReadsInt w .u8 A bs.length bs) (hc : bs.length ≤ c) (hl : bs.length ≤ 140737488351232) :
    Calls Try.prog 21 #[.slice A bs.length c] w (LentPost bs w) := by
  have hmk := print_make (P := Try.prog) 27 5 .u8 1 Try.underlying27 info_u8 (by decide) (bs.length + 3) (by omega)
  have HO := Aside0.mk (own_made w w.heap.size 5 .u8 (bs.length + 3) (Nat.le_refl _) (by omega))
  have HB := Aside0.mk (below_alloc (Below.refl w.heap.size w) (.cells (madeCells #[.int .u8 0] (bs.length + 3)) 5))
  have HR := Aside0.mk (hr.below HB.out)
  obtain ⟨ti, hti, hte⟩ : ∃ i, Try.prog.info? 5 = some i ∧ i.size = 1 := by
    obtain ⟨i, h1, h2⟩ := Option.map_eq_some_iff.1 info_u8
    injection h2 with _ h2
    injection h2 with h2 _
    exact ⟨i, h1, h2⟩
  have HTS := Aside0.mk (show (Try.prog.info? 5).map (·.size) = some 1 by rw [hti]; simp [hte])
  obtain ⟨hsl, _, _⟩ := print_take_int (P := Try.prog) (k := .u8) 27 5 Try.underlying27 hti hte (some ⟨w.heap.size, 0, none⟩) (bs.length + 3) (lentL bs 3) (bs.length : Int) (by omega) (by rw [lentL_len _ _ (by omega)]; omega) (by rw [lentL_len _ _ (by omega)]; omega)
  have hxl : ((lentL bs 3).take bs.length).length = bs.length := by rw [List.length_take, lentL_len _ _ (by omega)]; omega
  simp only [Int.toNat_natCast, hxl, lentL_len bs 3 (by omega)] at hsl
  have HSL := Aside0.mk hsl
  have hmk2 : ∀ W : World, (Instr.makeSlice 27 (.int .i64 ((bs.length : Int) + 3)) (.int .i64 ((bs.length : Int) + 3))).run Try.prog W = .ok (.slice (some ⟨W.heap.size, 0, none⟩) (bs.length + 3) (bs.length + 3)) (W.alloc (.cells (madeCells #[.int .u8 0] (bs.length + 3)) 5)) := hmk
  clear hr hmk hti hte hsl hxl
  go_enter Try.func21, Try.ntmps21
  go_wp2_with ((refine gate_ (.call { callee := .builtin .copy, args := #[.tmp 9, .tmp 10], argTypes := #[27, 27] }) rfl ?_; refine copy_bytes w.heap.size rfl (.tmp 9) (.tmp 10) 27 27 5 rfl Try.underlying27 HTS.out (.slice (some ⟨w.heap.size, 0, none⟩) (bs.length + 3) (bs.length + 3)) (List.replicate (bs.length + 3) 0) bs A bs.length c (by rfl) (by rfl) (by rw [List.length_replicate]; exact HO.out) HR.out HB.out HB.out.size ?_; intro w1 ho1 hb1 _; have HO1 := Aside0.mk ho1; have HB1 := Aside0.mk hb1; clear ho1 hb1))
  have HO2 : Aside0 (w1.ownsRow w.heap.size 5 1 (.slice (some ⟨w.heap.size, 0, none⟩) (bs.length + 3) (bs.length + 3)) (bs.length + 3) (nums .u8 (lentL bs 0))) := ⟨by
    have h := HO1.out
    have e : bs.take (min bs.length (List.replicate (bs.length + 3) (0 : Int)).length) ++ (List.replicate (bs.length + 3) (0 : Int)).drop (min bs.length (List.replicate (bs.length + 3) (0 : Int)).length) = lentL bs 0 := by
      rw [List.length_replicate, Nat.min_eq_left (by omega), List.take_length, List.drop_replicate, show bs.length + 3 - bs.length = 3 by omega]
      rfl
    rw [e, lentL_len bs 0 (by omega)] at h
    exact h⟩
  have HGL := Aside0.mk (Nat.le_refl w.heap.size)
  clear HO1 hmk2 HO HB HR
  obtain ⟨gl, hgl⟩ : ∃ gl, w.heap.size = gl := ⟨_, rfl⟩
  rw [show (some (⟨w.heap.size, 0, none⟩ : Addr)) = some ⟨gl, 0, none⟩ by rw [hgl]] at HO2 HSL ⊢
  have HGL : Aside0 (w.heap.size ≤ gl) := ⟨by omega⟩
  clear hgl
  go_loopg [4] 3 (fun gg s4 wr => ∃ kk : Nat, kk ≤ 3 ∧ 3 - kk ≤ gg ∧ s4 = .int .i64 ((bs.length : Int) + kk) ∧ Aside0 (wr.ownsRow w.heap.size 5 1 (.slice (some ⟨gl, 0, none⟩) (bs.length + 3) (bs.length + 3)) (bs.length + 3) (nums .u8 (lentL bs kk))) ∧ Aside0 (Below w.heap.size w wr))
  case atStart => exact ⟨0, by omega, by omega, by simp, HO2, HB1⟩
  case round =>
    obtain ⟨kk, hkk, hg, rfl, HO3, HB3⟩ := hrel
    clear HO2 HB1
    by_cases hlt : kk < 3
    · have hltz : (bs.length : Int) + kk < (bs.length : Int) + 3 := by omega
      have HA := own_at HO3.out ((bs.length : Int) + kk) (by omega) (by omega)
      have HS := own_store HO3.out ((bs.length : Int) + kk) 201
      have ei : ((bs.length : Int) + kk).toNat = bs.length + kk := by omega
      rw [ei] at HA HS
      rw [lentL_set bs kk hlt] at HS
      have HS1 := Aside0.mk HS.1
      have HB2 := Aside0.mk (HB3.out.grown HS.2 HB3.out.size (fun k hk => by injection hk with hk; have := HGL.out; omega))
      obtain ⟨cc, cf⟩ := HA
      clear HS
      go_wp2
      go_roundg (3 - (kk + 1))
      case measure => omega
      case rel => exact ⟨kk + 1, by omega, by omega, by go_num, HS1, HB2⟩
    · have hltz : ¬ (bs.length : Int) + kk < (bs.length : Int) + 3 := by omega
      obtain rfl : kk = 3 := by omega
      have hsl := HSL.out
      go_wp2
      go_ret
      exact ⟨gl, rfl, HO3.out, HGL.out, HB3.out⟩
theorem set_drop {xs ys : List Int} {i : Nat} (h : xs.drop i = ys.drop i) (x : Int) : (xs.set i x).drop (i + 1) = ys.drop (i + 1) := by
  rw [List.drop_set_of_lt (by omega), ← List.drop_drop, h, List.drop_drop]
theorem drop_rd {xs ys : List Int} {i : Nat} (h : xs.drop i = ys.drop i) : rd xs (i : Int) = rd ys (i : Int) := by
  simp only [rd, Int.toNat_natCast, List.getD]
  have h1 : xs[i]? = (xs.drop i)[0]? := by rw [List.getElem?_drop]; rfl
  have h2 : ys[i]? = (ys.drop i)[0]? := by rw [List.getElem?_drop]; rfl
  rw [h1, h2, h]
theorem lentL_in (bs : List Int) (i : Nat) (h : i < bs.length) : rd (lentL bs 3) (i : Int) = rd bs (i : Int) := by
  simp only [rd, Int.toNat_natCast, lentL, List.getD]
  rw [List.getElem?_append_left h]
theorem lentL_out (bs : List Int) (i : Nat) (h : ¬ i < bs.length) (h2 : i < bs.length + 3) : rd (lentL bs 3) (i : Int) = 201 := by
  simp only [rd, Int.toNat_natCast, lentL, List.getD]
  rw [List.getElem?_append_right (by omega)]
  have : i - bs.length < 3 := by omega
  generalize i - bs.length = j at this
  match j, this with
  | 0, _ => rfl
  | 1, _ => rfl
  | 2, _ => rfl
set_option maxHeartbeats 3200000 in
set_option maxRecDepth 100000 in
theorem back_calls (A : Option Addr) (c : Nat) (bs : List Int) (B gl : Nat) (w : World) (hr : ReadsInt w .u8 A bs.length bs) (hfar : ∀ ad, A = some ad → 0 < bs.length → ad.block ≠ gl) (hl : bs.length ≤ 140737488351232)
    (ho : w.ownsRow B 5 1 (.slice (some ⟨gl, 0, none⟩) (bs.length + 3) (bs.length + 3)) (bs.length + 3) (nums .u8 (lentL bs 3))) :
    Calls Try.prog 22 #[.slice (some ⟨gl, 0, none⟩) bs.length (bs.length + 3), .slice A bs.length c] w fun e w' => e = .returned (.bool true) ∧ Fr (fun i => i = gl) w w' := by
  have HR := Aside0.mk hr
  have HO := Aside0.mk ho
  have HFAR := Aside0.mk hfar
  have hsl : ∀ W : World, (Instr.slice 27 (.slice (some ⟨gl, 0, none⟩) bs.length (bs.length + 3)) none (some (.int .i64 ((bs.length : Int) + 3))) none).run Try.prog W = .ok (.slice (some ⟨gl, 0, none⟩) (bs.length + 3) (bs.length + 3)) W := fun W => by
    obtain ⟨ti, hti, hte⟩ : ∃ i, Try.prog.info? 5 = some i ∧ i.size = 1 := by
      obtain ⟨i, h1, h2⟩ := Option.map_eq_some_iff.1 info_u8
      injection h2 with _ h2
      injection h2 with h2 _
      exact ⟨i, h1, h2⟩
    have hel : Try.prog.elem 27 = 5 := by simp [Program.elem, Try.underlying27]
    have hu : Try.prog.underlying 27 = some (.slice (Try.prog.elem 27)) := by rw [hel]; exact Try.underlying27
    rw [run_slice_h W 27 (some ⟨gl, 0, none⟩) bs.length (bs.length + 3) hu .i64 ((bs.length : Int) + 3) (by omega) (by omega), hel]
    simp [sizeOf, typeInfo, hti, hte, sliced, Result.andThen, Addr.add]
    omega
  clear hr ho hfar
  go_enter Try.func22, Try.ntmps22
  go_wp2
  clear hsl
  go_loopg [6, 7, 8] (bs.length + 3) (fun gg s6 s7 s8 wr => ∃ (i : Nat) (xs : List Int), i ≤ bs.length + 3 ∧ bs.length + 3 - i ≤ gg ∧ s7 = .int .i64 i ∧ s6 = .bool true ∧ Aside0 (wr.ownsRow B 5 1 (.slice (some ⟨gl, 0, none⟩) (bs.length + 3) (bs.length + 3)) (bs.length + 3) (nums .u8 xs)) ∧ Aside0 (xs.drop i = (lentL bs 3).drop i) ∧ Aside0 (Fr (fun i => i = gl) w wr))
  case atStart => exact ⟨0, _, by omega, by omega, rfl, rfl, HO, ⟨rfl⟩, ⟨Fr.refl _ _⟩⟩
  case round =>
    obtain ⟨i, xs, hi, hg, rfl, rfl, HO1, HD, HF⟩ := hrel
    clear HO
    by_cases hlt : i < bs.length + 3
    · have hltz : (i : Int) < (bs.length : Int) + 3 := by omega
      have HA := own_at HO1.out (i : Int) (by omega) (by omega)
      rw [drop_rd HD.out] at HA
      simp only [Int.toNat_natCast] at HA
      obtain ⟨cc, cf⟩ := HA
      have HST := Aside0.mk (fun x : Int => own_store HO1.out (i : Int) x)
      simp only [Int.toNat_natCast] at HST
      have HFR := Aside0.mk (fun x : Int => HF.out.set_ (p := ⟨gl, i, none⟩) (.inl rfl) (.int .u8 x))
      by_cases hin : i < bs.length
      · have hinz : (i : Int) < (bs.length : Int) := by omega
        rw [lentL_in bs i hin] at cc
        have hrd := HR.out.keep ⟨HF.out.size, fun j hj hne _ => HF.out.block j hj hne⟩ HFAR.out
        obtain ⟨ad, rfl, hcell⟩ := hrd.at_ (i : Int) (by omega) hinz
        simp only [Int.toNat_natCast] at hcell
        clear hrd
        go_wp2
        go_roundg (bs.length + 3 - (i + 1))
        case measure => omega
        case rel => exact ⟨i + 1, _, by omega, by omega, by go_num, by simp, ⟨(HST.out _).1⟩, ⟨set_drop HD.out _⟩, ⟨HFR.out _⟩⟩
      · have hinz : ¬ (i : Int) < (bs.length : Int) := by omega
        rw [lentL_out bs i hin hlt] at cc
        go_wp2
        go_roundg (bs.length + 3 - (i + 1))
        case measure => omega
        case rel => exact ⟨i + 1, _, by omega, by omega, by go_num, by simp, ⟨(HST.out _).1⟩, ⟨set_drop HD.out _⟩, ⟨HFR.out _⟩⟩
    · have hltz : ¬ (i : Int) < (bs.length : Int) + 3 := by omega
      go_wp2
      go_ret
      exact ⟨rfl, HF.out⟩
end Go.Proofs.Ytgcehkhlkjahjaa.Wi
