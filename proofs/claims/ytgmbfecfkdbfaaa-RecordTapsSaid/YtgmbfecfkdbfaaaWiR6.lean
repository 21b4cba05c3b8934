/- The reader's pieces, as they are read out of a cursor: floats, truths, counts, texts. -/
import Derived.Test.YtgmbfecfkdbfaaaWiR5
set_option linter.unusedVariables false
set_option linter.unusedSimpArgs false
namespace Go.Proofs.Ytgmbfecfkdbfaaa.Wi
open Go Go.RowKit Go.Proofs.YtgmbfecfkdbfaaaW.PrintWords
section
variable {W : World} {gc gx c at_ : Nat} {A : Option Addr} {bs : List Int}
theorem CR.val_lt (h : CR W gc A bs c at_) (n : Nat) (hn : at_ + n ≤ bs.length) : val ((bs.drop at_).take n) < 256 ^ n := by
  have h1 := Wi.val_lt ((bs.drop at_).take n) ((h.byt.drop at_).take n)
  have h2 : ((bs.drop at_).take n).length = n := by rw [List.length_take, List.length_drop]; omega
  rwa [h2] at h1
set_option maxHeartbeats 1600000 in
set_option maxRecDepth 100000 in
theorem rbool1_calls (h : CR W gc A bs c at_) (x0 : Bool) (hx : W.heap[gx]? = some (.cells #[.bool x0] 4 (0, 0))) :
    Calls Try.prog 170 #[.pointer (some ⟨gc, 0, none⟩), .pointer (some ⟨gx, 0, none⟩)] W (ReadP gc gx 4 A bs c at_ (lift Value.bool (gBool (bs.drop at_))) W) := by
  have hne : gx ≠ gc := blk_ne hx h.cur (by decide)
  have hlt := blk_lt hx
  by_cases hn : bs.length < at_ + 1
  · have HF : Aside0 (lift Value.bool (gBool (bs.drop at_)) = .error 10) := ⟨by simp only [gBool, lift]; rw [if_pos (by rw [List.length_drop]; omega)]⟩
    have C := Aside0.mk (h.short 1 hn (by omega))
    clear h hx
    go_enter Try.func170, Try.ntmps170
    go_wp2_with (go_at_call 153; refine C.out.mono ?_; rintro e w' ⟨rfl, hf⟩)
    exact ⟨rfl, by rw [HF.out]; exact read_err ⟨rfl, hf⟩ hne hlt⟩
  · have HG : Aside0 (gBool (bs.drop at_) = if 1 < val ((bs.drop at_).take 1) then .error 11 else .ok (decide (val ((bs.drop at_).take 1) = 1), 1)) := ⟨by
      simp only [gBool]; rw [if_neg (by rw [List.length_drop]; omega)]⟩
    have C := Aside0.mk (h.bits 1 (by omega) (by omega))
    have HX := Aside0.mk hx
    clear h hx
    unfold CBits at C
    generalize val ((bs.drop at_).take 1) = m at C HG
    by_cases hm : 1 < m
    · have HF : Aside0 (lift Value.bool (gBool (bs.drop at_)) = .error 11) := ⟨by rw [HG.out, if_pos hm]; rfl⟩
      have t1 : decide (m ≤ 1) = false := decide_eq_false (by omega)
      have t2 : decide ((m : Int) ≤ 1) = false := decide_eq_false (by omega)
      go_enter Try.func170, Try.ntmps170
      go_wp2_with (first | (go_at_call 153; refine C.out.mono ?_; rintro e w' ⟨rfl, hcu, hf⟩; have hx1 := hf.blk HX.out hne; have cx : w'.cell? ⟨gx, 0, none⟩ = some (.bool x0) := (blk_cell hx1 0).trans rfl; have fx : w'.frozen? ⟨gx, 0, none⟩ = false := blk_frozen hx1 0) | (go_at_call 146; first | ((with_reducible refine (check_ok _ _).mono ?_); rintro e w1 ⟨rfl, rfl⟩) | ((with_reducible refine (check_no _ _).mono ?_); rintro e w1 ⟨rfl, rfl⟩)))
      exact ⟨rfl, by rw [HF.out]; exact read_err ⟨rfl, hf⟩ hne hlt⟩
    · have HF : Aside0 (lift Value.bool (gBool (bs.drop at_)) = .ok (.bool (decide (m = 1)), 1)) := ⟨by rw [HG.out, if_neg hm]; rfl⟩
      have t1 : decide (m ≤ 1) = true := decide_eq_true (by omega)
      have t2 : decide ((m : Int) ≤ 1) = true := decide_eq_true (by omega)
      have HE : Aside0 (((m : Int) == 1) = decide (m = 1)) := ⟨by rw [Bool.eq_iff_iff]; simp; omega⟩
      go_enter Try.func170, Try.ntmps170
      go_wp2_with (first | (go_at_call 153; refine C.out.mono ?_; rintro e w' ⟨rfl, hcu, hf⟩; have hx1 := hf.blk HX.out hne; have cx : w'.cell? ⟨gx, 0, none⟩ = some (.bool x0) := (blk_cell hx1 0).trans rfl; have fx : w'.frozen? ⟨gx, 0, none⟩ = false := blk_frozen hx1 0) | (go_at_call 146; first | ((with_reducible refine (check_ok _ _).mono ?_); rintro e w1 ⟨rfl, rfl⟩) | ((with_reducible refine (check_no _ _).mono ?_); rintro e w1 ⟨rfl, rfl⟩)))
      go_end0
      rw [HF.out, ← HE.out]
      exact read_ok hcu hx1 hf hne
set_option maxHeartbeats 3200000 in
set_option maxRecDepth 100000 in
theorem rfloat1_calls (h : CR W gc A bs c at_) (x0 : Nat) (hx : W.heap[gx]? = some (.cells #[.float .f64 x0] 69 (0, 0))) :
    Calls Try.prog 176 #[.pointer (some ⟨gc, 0, none⟩), .pointer (some ⟨gx, 0, none⟩)] W (ReadP gc gx 69 A bs c at_ (lift (Value.float .f64) (gFloat (bs.drop at_))) W) := by
  have hne : gx ≠ gc := blk_ne hx h.cur (by decide)
  have hlt := blk_lt hx
  have hfb : ∀ (a : Nat) (w : World), (callFunc 177 #[.int .u64 a]).run Try.prog w = .ok (.value (.float .f64 a)) w := fun a w => by kernel_rfl
  by_cases hn : bs.length < at_ + 8
  · have HF : Aside0 (lift (Value.float .f64) (gFloat (bs.drop at_)) = .error 10) := ⟨by simp only [gFloat, lift]; rw [if_pos (by rw [List.length_drop]; omega)]⟩
    have C := Aside0.mk (h.short 8 hn (by omega))
    clear h hx
    go_enter Try.func176, Try.ntmps176
    go_wp2_with (go_at_call 153; refine C.out.mono ?_; rintro e w' ⟨rfl, hf⟩)
    exact ⟨rfl, by rw [HF.out]; exact read_err ⟨rfl, hf⟩ hne hlt⟩
  · have HG : Aside0 (gFloat (bs.drop at_) = if isNan (val ((bs.drop at_).take 8)) = true ∧ val ((bs.drop at_).take 8) ≠ nanBits then .error 11 else .ok (val ((bs.drop at_).take 8), 8)) := ⟨by
      simp only [gFloat]; rw [if_neg (by rw [List.length_drop]; omega)]⟩
    have C := Aside0.mk (h.bits 8 (by omega) (by omega))
    have HX := Aside0.mk hx
    clear h hx
    unfold CBits at C
    generalize val ((bs.drop at_).take 8) = m at C HG
    have HN := Aside0.mk (fun w => isnan_calls m w)
    cases hi : isNan m with
    | false =>
      have HI := Aside0.mk hi
      have HF : Aside0 (lift (Value.float .f64) (gFloat (bs.drop at_)) = .ok (.float .f64 m, 8)) := ⟨by rw [HG.out, if_neg (by simp [hi])]; rfl⟩
      clear hi
      go_enter Try.func176, Try.ntmps176
      go_wp2_with (first | (go_at_call 153; refine C.out.mono ?_; rintro e w' ⟨rfl, hcu, hf⟩; have hx1 := hf.blk HX.out hne; have cx : w'.cell? ⟨gx, 0, none⟩ = some (.float .f64 x0) := (blk_cell hx1 0).trans rfl; have fx : w'.frozen? ⟨gx, 0, none⟩ = false := blk_frozen hx1 0) | (go_at_call 174; refine (HN.out _).mono ?_; rw [HI.out]; rintro e w2 ⟨rfl, rfl⟩) | (go_at_call 146; first | ((with_reducible refine (check_ok _ _).mono ?_); rintro e w1 ⟨rfl, rfl⟩) | ((with_reducible refine (check_no _ _).mono ?_); rintro e w1 ⟨rfl, rfl⟩)))
      go_end0
      rw [HF.out]
      exact read_ok hcu hx1 hf hne
    | true =>
      have HI := Aside0.mk hi
      by_cases hm : m = 9221120237041090560
      · have HF : Aside0 (lift (Value.float .f64) (gFloat (bs.drop at_)) = .ok (.float .f64 m, 8)) := ⟨by rw [HG.out, if_neg (by simp [hm, nanBits])]; rfl⟩
        have t1 : (m == 9221120237041090560) = true := beq_iff_eq.2 hm
        have t2 : ((m : Int) == 9221120237041090560) = true := beq_iff_eq.2 (by omega)
        clear hi hm
        go_enter Try.func176, Try.ntmps176
        go_wp2_with (first | (go_at_call 153; refine C.out.mono ?_; rintro e w' ⟨rfl, hcu, hf⟩; have hx1 := hf.blk HX.out hne; have cx : w'.cell? ⟨gx, 0, none⟩ = some (.float .f64 x0) := (blk_cell hx1 0).trans rfl; have fx : w'.frozen? ⟨gx, 0, none⟩ = false := blk_frozen hx1 0) | (go_at_call 174; refine (HN.out _).mono ?_; rw [HI.out]; rintro e w2 ⟨rfl, rfl⟩) | (go_at_call 146; first | ((with_reducible refine (check_ok _ _).mono ?_); rintro e w1 ⟨rfl, rfl⟩) | ((with_reducible refine (check_no _ _).mono ?_); rintro e w1 ⟨rfl, rfl⟩)))
        go_end0
        rw [HF.out]
        exact read_ok hcu hx1 hf hne
      · have HF : Aside0 (lift (Value.float .f64) (gFloat (bs.drop at_)) = .error 11) := ⟨by rw [HG.out, if_pos ⟨hi, by unfold nanBits; exact hm⟩]; rfl⟩
        have t1 : (m == 9221120237041090560) = false := beq_eq_false_iff_ne.2 hm
        have t2 : ((m : Int) == 9221120237041090560) = false := beq_eq_false_iff_ne.2 (by omega)
        clear hi hm
        go_enter Try.func176, Try.ntmps176
        go_wp2_with (first | (go_at_call 153; refine C.out.mono ?_; rintro e w' ⟨rfl, hcu, hf⟩; have hx1 := hf.blk HX.out hne; have cx : w'.cell? ⟨gx, 0, none⟩ = some (.float .f64 x0) := (blk_cell hx1 0).trans rfl; have fx : w'.frozen? ⟨gx, 0, none⟩ = false := blk_frozen hx1 0) | (go_at_call 174; refine (HN.out _).mono ?_; rw [HI.out]; rintro e w2 ⟨rfl, rfl⟩) | (go_at_call 146; first | ((with_reducible refine (check_ok _ _).mono ?_); rintro e w1 ⟨rfl, rfl⟩) | ((with_reducible refine (check_no _ _).mono ?_); rintro e w1 ⟨rfl, rfl⟩)))
        exact ⟨rfl, by rw [HF.out]; exact read_err ⟨rfl, hf⟩ hne hlt⟩
set_option maxHeartbeats 3200000 in
set_option maxRecDepth 100000 in
theorem rcount1_calls (h : CR W gc A bs c at_) (x0 most : Int) (bz : Nat) (hz : W.heap[bz]? = some (.cells #[.int .i64 most] 3 (0, 0))) (hx : W.heap[gx]? = some (.cells #[.int .i64 x0] 3 (0, 0))) :
    Calls Try.prog 171 #[.pointer (some ⟨gc, 0, none⟩), .pointer (some ⟨bz, 0, none⟩), .pointer (some ⟨gx, 0, none⟩)] W (ReadP gc gx 3 A bs c at_ (lift (Value.int .i64) (gCount (bs.drop at_) most)) W) := by
  have hne : gx ≠ gc := blk_ne hx h.cur (by decide)
  have hlt := blk_lt hx
  have cz : W.cell? ⟨bz, 0, none⟩ = some (.int .i64 most) := (blk_cell hz 0).trans rfl
  have nz : bz ≠ gc := blk_ne hz h.cur (by decide)
  have HZ := Aside0.mk hz
  clear hz
  by_cases h0 : most < 0
  · have HF : Aside0 (lift (Value.int .i64) (gCount (bs.drop at_) most) = .error 1) := ⟨by simp only [gCount, lift]; rw [if_pos h0]⟩
    have t1 : decide (0 ≤ most) = false := decide_eq_false (by omega)
    clear h hx
    go_enter Try.func171, Try.ntmps171
    go_wp2_with (go_at_call 146; first | ((with_reducible refine (check_ok _ _).mono ?_); rintro e w1 ⟨rfl, rfl⟩) | ((with_reducible refine (check_no _ _).mono ?_); rintro e w1 ⟨rfl, rfl⟩))
    exact ⟨rfl, by rw [HF.out]; exact read_err ⟨rfl, Fr.refl _ _⟩ hne hlt⟩
  · have t0 : decide (0 ≤ most) = true := decide_eq_true (by omega)
    by_cases hn : bs.length < at_ + 2
    · have HF : Aside0 (lift (Value.int .i64) (gCount (bs.drop at_) most) = .error 10) := ⟨by simp only [gCount, lift]; rw [if_neg h0, if_pos (by rw [List.length_drop]; omega)]⟩
      have C := Aside0.mk (h.short 2 hn (by omega))
      clear h hx
      go_enter Try.func171, Try.ntmps171
      go_wp2_with (first | (go_at_call 146; first | ((with_reducible refine (check_ok _ _).mono ?_); rintro e w1 ⟨rfl, rfl⟩) | ((with_reducible refine (check_no _ _).mono ?_); rintro e w1 ⟨rfl, rfl⟩)) | (go_at_call 153; refine C.out.mono ?_; rintro e w' ⟨rfl, hf⟩))
      exact ⟨rfl, by rw [HF.out]; exact read_err ⟨rfl, hf⟩ hne hlt⟩
    · have HG : Aside0 (gCount (bs.drop at_) most = if most < (val ((bs.drop at_).take 2) : Int) then .error 12 else .ok (val ((bs.drop at_).take 2), 2)) := ⟨by
        simp only [gCount]; rw [if_neg h0, if_neg (by rw [List.length_drop]; omega)]⟩
      have C := Aside0.mk (h.bits 2 (by omega) (by omega))
      have hV := h.val_lt 2 (by omega)
      have HX := Aside0.mk hx
      clear h hx
      unfold CBits at C
      generalize val ((bs.drop at_).take 2) = m at C HG hV
      by_cases hm : most < (m : Int)
      · have HF : Aside0 (lift (Value.int .i64) (gCount (bs.drop at_) most) = .error 12) := ⟨by rw [HG.out, if_pos hm]; rfl⟩
        have t1 : decide ((m : Int) ≤ most) = false := decide_eq_false (by omega)
        clear hm
        go_enter Try.func171, Try.ntmps171
        go_wp2_with (first | (go_at_call 146; first | ((with_reducible refine (check_ok _ _).mono ?_); rintro e w1 ⟨rfl, rfl⟩) | ((with_reducible refine (check_no _ _).mono ?_); rintro e w1 ⟨rfl, rfl⟩)) | (go_at_call 153; refine C.out.mono ?_; rintro e w' ⟨rfl, hcu, hf⟩; have hx1 := hf.blk HX.out hne; have cx : w'.cell? ⟨gx, 0, none⟩ = some (.int .i64 x0) := (blk_cell hx1 0).trans rfl; have fx : w'.frozen? ⟨gx, 0, none⟩ = false := blk_frozen hx1 0; have cz' : w'.cell? ⟨bz, 0, none⟩ = some (.int .i64 most) := (blk_cell (hf.blk HZ.out nz) 0).trans rfl))
        exact ⟨rfl, by rw [HF.out]; exact read_err ⟨rfl, hf⟩ hne hlt⟩
      · have HF : Aside0 (lift (Value.int .i64) (gCount (bs.drop at_) most) = .ok (.int .i64 m, 2)) := ⟨by rw [HG.out, if_neg hm]; rfl⟩
        have t1 : decide ((m : Int) ≤ most) = true := decide_eq_true (by omega)
        clear hm
        go_enter Try.func171, Try.ntmps171
        go_wp2_with (first | (go_at_call 146; first | ((with_reducible refine (check_ok _ _).mono ?_); rintro e w1 ⟨rfl, rfl⟩) | ((with_reducible refine (check_no _ _).mono ?_); rintro e w1 ⟨rfl, rfl⟩)) | (go_at_call 153; refine C.out.mono ?_; rintro e w' ⟨rfl, hcu, hf⟩; have hx1 := hf.blk HX.out hne; have cx : w'.cell? ⟨gx, 0, none⟩ = some (.int .i64 x0) := (blk_cell hx1 0).trans rfl; have fx : w'.frozen? ⟨gx, 0, none⟩ = false := blk_frozen hx1 0; have cz' : w'.cell? ⟨bz, 0, none⟩ = some (.int .i64 most) := (blk_cell (hf.blk HZ.out nz) 0).trans rfl))
        go_end0
        rw [HF.out]
        exact read_ok hcu hx1 hf hne
def encS (xs : List Int) : Value := .string (strOfNums xs)
set_option maxHeartbeats 3200000 in
set_option maxRecDepth 100000 in
theorem rfixed1_calls (h : CR W gc A bs c at_) (x0 : ByteArray) (size : Int) (bz : Nat) (hz : W.heap[bz]? = some (.cells #[.int .i64 size] 3 (0, 0))) (hx : W.heap[gx]? = some (.cells #[.string x0] 9 (0, 0))) :
    Calls Try.prog 145 #[.pointer (some ⟨gc, 0, none⟩), .pointer (some ⟨bz, 0, none⟩), .pointer (some ⟨gx, 0, none⟩)] W (ReadP gc gx 9 A bs c at_ (lift encS (gFixed (bs.drop at_) size)) W) := by
  have hne : gx ≠ gc := blk_ne hx h.cur (by decide)
  have hlt := blk_lt hx
  have cz : W.cell? ⟨bz, 0, none⟩ = some (.int .i64 size) := (blk_cell hz 0).trans rfl
  clear hz
  by_cases h0 : 0 ≤ size
  case neg =>
    have HF : Aside0 (lift encS (gFixed (bs.drop at_) size) = .error 1) := ⟨by simp only [gFixed, lift]; rw [if_pos (by omega)]⟩
    have t0 : decide (0 ≤ size) = false := decide_eq_false (by omega)
    clear h hx h0
    go_enter Try.func145, Try.ntmps145
    go_wp2_with (go_at_call 146; first | ((with_reducible refine (check_ok _ _).mono ?_); rintro e w1 ⟨rfl, rfl⟩) | ((with_reducible refine (check_no _ _).mono ?_); rintro e w1 ⟨rfl, rfl⟩))
    exact ⟨rfl, by rw [HF.out]; exact read_err ⟨rfl, Fr.refl _ _⟩ hne hlt⟩
  case pos =>
    obtain ⟨n, rfl⟩ := Int.eq_ofNat_of_zero_le h0
    have t0 : decide ((0 : Int) ≤ (n : Int)) = true := decide_eq_true (by omega)
    by_cases h1 : n ≤ 65535
    case neg =>
      have HF : Aside0 (lift encS (gFixed (bs.drop at_) n) = .error 1) := ⟨by simp only [gFixed, lift]; rw [if_pos (by omega)]⟩
      have t1 : decide ((n : Int) ≤ 65535) = false := decide_eq_false (by omega)
      have t2 : decide (n ≤ 65535) = false := decide_eq_false (by omega)
      clear h hx h1
      go_enter Try.func145, Try.ntmps145
      go_wp2_with (go_at_call 146; first | ((with_reducible refine (check_ok _ _).mono ?_); rintro e w1 ⟨rfl, rfl⟩) | ((with_reducible refine (check_no _ _).mono ?_); rintro e w1 ⟨rfl, rfl⟩))
      exact ⟨rfl, by rw [HF.out]; exact read_err ⟨rfl, Fr.refl _ _⟩ hne hlt⟩
    case pos =>
      have t1 : decide ((n : Int) ≤ 65535) = true := decide_eq_true (by omega)
      have t2 : decide (n ≤ 65535) = true := decide_eq_true (by omega)
      by_cases hn : bs.length < at_ + n
      · have HF : Aside0 (lift encS (gFixed (bs.drop at_) n) = .error 10) := ⟨by simp only [gFixed, lift]; rw [if_neg (by omega), if_pos (by rw [List.length_drop]; have := h.le; omega)]⟩
        have D := Aside0.mk (cbytes_short gc A bs c at_ n W h.cur h.le h.len hn (by omega))
        clear h hx
        go_enter Try.func145, Try.ntmps145
        go_wp2_with (first | (go_at_call 146; first | ((with_reducible refine (check_ok _ _).mono ?_); rintro e w1 ⟨rfl, rfl⟩) | ((with_reducible refine (check_no _ _).mono ?_); rintro e w1 ⟨rfl, rfl⟩)) | (go_at_call 147; refine D.out.mono ?_; rintro e w3 ⟨rfl, hf3⟩))
        exact ⟨rfl, by rw [HF.out]; exact read_err ⟨rfl, hf3⟩ hne hlt⟩
      · have HF : Aside0 (lift encS (gFixed (bs.drop at_) n) = .ok (.string (strOfNums ((bs.drop at_).take n)), n)) := ⟨by
          simp only [gFixed]; rw [if_neg (by omega), if_neg (by rw [List.length_drop]; have := h.le; omega)]; rfl⟩
        have D := Aside0.mk (cbytes_ok gc A bs c at_ n W h.cur h.rd h.cap h.len (by omega) h.ne_)
        have HX := Aside0.mk hx
        clear h hx
        unfold CBytes at D
        generalize (bs.drop at_).take n = xs at D HF
        go_enter Try.func145, Try.ntmps145
        go_wp2_with (first | (go_at_call 146; first | ((with_reducible refine (check_ok _ _).mono ?_); rintro e w1 ⟨rfl, rfl⟩) | ((with_reducible refine (check_no _ _).mono ?_); rintro e w1 ⟨rfl, rfl⟩)) | (go_at_call 147; refine D.out.mono ?_; rintro e w3 ⟨⟨A', c', rfl, hrd⟩, hcu, hf3⟩; have hx1 := hf3.blk HX.out hne; have cx : w3.cell? ⟨gx, 0, none⟩ = some (.string x0) := (blk_cell hx1 0).trans rfl; have fx : w3.frozen? ⟨gx, 0, none⟩ = false := blk_frozen hx1 0; have kc := string_of_reads (P := Try.prog) (c := c') Try.underlying24 Try.underlying5 Try.underlying9 hrd))
        go_end0
        rw [HF.out]
        exact read_ok hcu hx1 hf3 hne
end
end Go.Proofs.Ytgmbfecfkdbfaaa.Wi
