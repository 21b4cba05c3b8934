/- The reader's pieces, as they are read out of a cursor: floats, truths, counts, texts. -/
import Derived.Test.YtgmbfecfkdbfaaaMRecordDeltas1
import Derived.Test.YtgmbfecfkdbfaaaXOpen
import Derived.IntWalk
set_option linter.unusedVariables false
set_option linter.unusedSimpArgs false
namespace Go.Proofs.Ytgmbfecfkdbfaaa.Wi
open Go Go.RowKit Go.Proofs.YtgmbfecfkdbfaaaW.PrintWords
section
variable {W : World} {gc gx c at_ : Nat} {A : Option Addr} {bs : List Int}
theorem CR.val_lt (h : CR W gc A bs c at_) (n : Nat) (hn : at_ + n ≤ bs.length) : val ((bs.drop at_).take n) < 256 ^ n := by
  have h1 := Wi.val_lt ((bs.drop at_).take n) ((h.byt.drop at_).take n)
  have h2 : ((bs.drop at_).take n).length = n := by rw [List.length_take, List.length_drop]; omega
  rwa [h2] at h1
set_option maxHeartbeats 1600000 in
set_option maxRecDepth 100000 in
theorem rbool1_calls (h : CR W gc A bs c at_) (x0 : Bool) (hx : W.heap[gx]? = some (.cells #[.bool x0] 4 (0, 0))) :
    Calls Try.prog 170 #[.pointer (some ⟨gc, 0, none⟩), .pointer (some ⟨gx, 0, none⟩)] W (ReadP gc gx 4 A bs c at_ (lift Value.bool (gBool (bs.drop at_))) W) := by
  have hne : gx ≠ gc := blk_ne hx h.cur (by decide)
  have hlt := blk_lt hx
  by_cases hn : bs.length < at_ + 1
  · have HF : Aside0 (lift Value.bool (gBool (bs.drop at_)) = .error 10) := ⟨by simp only [gBool, lift]; rw [if_pos (by rw [List.length_drop]; omega)]⟩
    have C := Aside0.mk (h.short 1 hn (by omega))
    clear h hx
    go_enter Try.func170, Try.ntmps170
    go_wp2_with (go_at_call 153; refine C.out.mono ?_; rintro e w' ⟨rfl, hf⟩)
    exact ⟨rfl, by rw [HF.out]; exact read_err ⟨rfl, hf⟩ hne hlt⟩
  · have HG : Aside0 (gBool (bs.drop at_) = if 1 < val ((bs.drop at_).take 1) then .error 11 else .ok (decide (val ((bs.drop at_).take 1) = 1), 1)) := ⟨by
      simp only [gBool]; rw [if_neg (by rw [List.length_drop]; omega)]⟩
    have C := Aside0.mk (h.bits 1 (by omega) (by omega))
    have HX := Aside0.mk hx
    clear h hx
    unfold CBits at C
    generalize val ((bs.drop at_).take 1) = m at C HG
    by_cases hm : 1 < m
    · have HF : Aside0 (lift Value.bool (gBool (bs.drop at_)) = .error 11) := ⟨by rw [HG.out, if_pos hm]; rfl⟩
      have t1 : decide (m ≤ 1) = false := decide_eq_false (by omega)
      have t2 : decide ((m : Int) ≤ 1) = false := decide_eq_false (by omega)
      go_enter Try.func170, Try.ntmps170
      go_wp2_with (first | (go_at_call 153; refine C.out.mono ?_; rintro e w' ⟨rfl, hcu, hf⟩; have hx1 := hf.blk HX.out hne; have cx : w'.cell? ⟨gx, 0, none⟩ = some (.bool x0) := (blk_cell hx1 0).trans rfl; have fx : w'.frozen? ⟨gx, 0, none⟩ = false := blk_frozen hx1 0) | (go_at_call 146; first | ((with_reducible refine (check_ok _ _).mono ?_); rintro e w1 ⟨rfl, rfl⟩) | ((with_reducible refine (check_no _ _).mono ?_); rintro e w1 ⟨rfl, rfl⟩)))
      exact ⟨rfl, by rw [HF.out]; exact read_err ⟨rfl, hf⟩ hne hlt⟩
    · have HF : Aside0 (lift Value.bool (gBool (bs.drop at_)) = .ok (.bool (decide (m = 1)), 1)) := ⟨by rw [HG.out, if_neg hm]; rfl⟩
      have t1 : decide (m ≤ 1) = true := decide_eq_true (by omega)
      have t2 : decide ((m : Int) ≤ 1) = true := decide_eq_true (by omega)
      have HE : Aside0 (((m : Int) == 1) = decide (m = 1)) := ⟨by rw [Bool.eq_iff_iff]; simp; omega⟩
      go_enter Try.func170, Try.ntmps170
      go_wp2_with (first | (go_at_call 153; refine C.out.mono ?_; rintro e w' ⟨rfl, hcu, hf⟩; have hx1 := hf.blk HX.out hne; have cx : w'.cell? ⟨gx, 0, none⟩ = some (.bool x0) := (blk_cell hx1 0).trans rfl; have fx : w'.frozen? ⟨gx, 0, none⟩ = false := blk_frozen hx1 0) | (go_at_call 146; first | ((with_reducible refine (check_ok _ _).mono ?_); rintro e w1 ⟨rfl, rfl⟩) | ((with_reducible refine (check_no _ _).mono ?_); rintro e w1 ⟨rfl, rfl⟩)))
      go_end0
      rw [HF.out, ← HE.out]
      exact read_ok hcu hx1 hf hne
set_option maxHeartbeats 3200000 in
set_option maxRecDepth 100000 in
theorem rfloat1_calls (h : CR W gc A bs c at_) (x0 : Nat) (hx : W.heap[gx]? = some (.cells #[.float .f64 x0] 69 (0, 0))) :
    Calls Try.prog 176 #[.pointer (some ⟨gc, 0, none⟩), .pointer (some ⟨gx, 0, none⟩)] W (ReadP gc gx 69 A bs c at_ (lift (Value.float .f64) (gFloat (bs.drop at_))) W) := by
  have hne : gx ≠ gc := blk_ne hx h.cur (by decide)
  have hlt := blk_lt hx
  have hfb : ∀ (a : Nat) (w : World), (callFunc 177 #[.int .u64 a]).run Try.prog w = .ok (.value (.float .f64 a)) w := fun a w => by kernel_rfl
  by_cases hn : bs.length < at_ + 8
  · have HF : Aside0 (lift (Value.float .f64) (gFloat (bs.drop at_)) = .error 10) := ⟨by simp only [gFloat, lift]; rw [if_pos (by rw [List.length_drop]; omega)]⟩
    have C := Aside0.mk (h.short 8 hn (by omega))
    clear h hx
    go_enter Try.func176, Try.ntmps176
    go_wp2_with (go_at_call 153; refine C.out.mono ?_; rintro e w' ⟨rfl, hf⟩)
    exact ⟨rfl, by rw [HF.out]; exact read_err ⟨rfl, hf⟩ hne hlt⟩
  · have HG : Aside0 (gFloat (bs.drop at_) = if isNan (val ((bs.drop at_).take 8)) = true ∧ val ((bs.drop at_).take 8) ≠ nanBits then .error 11 else .ok (val ((bs.drop at_).take 8), 8)) := ⟨by
      simp only [gFloat]; rw [if_neg (by rw [List.length_drop]; omega)]⟩
    have C := Aside0.mk (h.bits 8 (by omega) (by omega))
    have HX := Aside0.mk hx
    clear h hx
    unfold CBits at C
    generalize val ((bs.drop at_).take 8) = m at C HG
    have HN := Aside0.mk (fun w => isnan_calls m w)
    cases hi : isNan m with
    | false =>
      have HI := Aside0.mk hi
      have HF : Aside0 (lift (Value.float .f64) (gFloat (bs.drop at_)) = .ok (.float .f64 m, 8)) := ⟨by rw [HG.out, if_neg (by simp [hi])]; rfl⟩
      clear hi
      go_enter Try.func176, Try.ntmps176
      go_wp2_with (first | (go_at_call 153; refine C.out.mono ?_; rintro e w' ⟨rfl, hcu, hf⟩; have hx1 := hf.blk HX.out hne; have cx : w'.cell? ⟨gx, 0, none⟩ = some (.float .f64 x0) := (blk_cell hx1 0).trans rfl; have fx : w'.frozen? ⟨gx, 0, none⟩ = false := blk_frozen hx1 0) | (go_at_call 174; refine (HN.out _).mono ?_; rw [HI.out]; rintro e w2 ⟨rfl, rfl⟩) | (go_at_call 146; first | ((with_reducible refine (check_ok _ _).mono ?_); rintro e w1 ⟨rfl, rfl⟩) | ((with_reducible refine (check_no _ _).mono ?_); rintro e w1 ⟨rfl, rfl⟩)))
      go_end0
      rw [HF.out]
      exact read_ok hcu hx1 hf hne
    | true =>
      have HI := Aside0.mk hi
      by_cases hm : m = 9221120237041090560
      · have HF : Aside0 (lift (Value.float .f64) (gFloat (bs.drop at_)) = .ok (.float .f64 m, 8)) := ⟨by rw [HG.out, if_neg (by simp [hm, nanBits])]; rfl⟩
        have t1 : (m == 9221120237041090560) = true := beq_iff_eq.2 hm
        have t2 : ((m : Int) == 9221120237041090560) = true := beq_iff_eq.2 (by omega)
        clear hi hm
        go_enter Try.func176, Try.ntmps176
        go_wp2_with (first | (go_at_call 153; refine C.out.mono ?_; rintro e w' ⟨rfl, hcu, hf⟩; have hx1 := hf.blk HX.out hne; have cx : w'.cell? ⟨gx, 0, none⟩ = some (.float .f64 x0) := (blk_cell hx1 0).trans rfl; have fx : w'.frozen? ⟨gx, 0, none⟩ = false := blk_frozen hx1 0) | (go_at_call 174; refine (HN.out _).mono ?_; rw [HI.out]; rintro e w2 ⟨rfl, rfl⟩) | (go_at_call 146; first | ((with_reducible refine (check_ok _ _).mono ?_); rintro e w1 ⟨rfl, rfl⟩) | ((with_reducible refine (check_no _ _).mono ?_); rintro e w1 ⟨rfl, rfl⟩)))
        go_end0
        rw [HF.out]
        exact read_ok hcu hx1 hf hne
      · have HF : Aside0 (lift (Value.float .f64) (gFloat (bs.drop at_)) = .error 11) := ⟨by rw [HG.out, if_pos ⟨hi, by unfold nanBits; exact hm⟩]; rfl⟩
        have t1 : (m == 9221120237041090560) = false := beq_eq_false_iff_ne.2 hm
        have t2 : ((m : Int) == 9221120237041090560) = false := beq_eq_false_iff_ne.2 (by omega)
        clear hi hm
        go_enter Try.func176, Try.ntmps176
        go_wp2_with (first | (go_at_call 153; refine C.out.mono ?_; rintro e w' ⟨rfl, hcu, hf⟩; have hx1 := hf.blk HX.out hne; have cx : w'.cell? ⟨gx, 0, none⟩ = some (.float .f64 x0) := (blk_cell hx1 0).trans rfl; have fx : w'.frozen? ⟨gx, 0, none⟩ = false := blk_frozen hx1 0) | (go_at_call 174; refine (HN.out _).mono ?_; rw [HI.out]; rintro e w2 ⟨rfl, rfl⟩) | (go_at_call 146; first | ((with_reducible refine (check_ok _ _).mono ?_); rintro e w1 ⟨rfl, rfl⟩) | ((with_reducible refine (check_no _ _).mono ?_); rintro e w1 ⟨rfl, rfl⟩)))
        exact ⟨rfl, by rw [HF.out]; exact read_err ⟨rfl, hf⟩ hne hlt⟩
set_option maxHeartbeats 3200000 in
set_option maxRecDepth 100000 in
theorem rcount1_calls (h : CR W gc A bs c at_) (x0 most : Int) (bz : Nat) (hz : W.heap[bz]? = some (.cells #[.int .i64 most] 3 (0, 0))) (hx : W.heap[gx]? = some (.cells #[.int .i64 x0] 3 (0, 0))) :
    Calls Try.prog 171 #[.pointer (some ⟨gc, 0, none⟩), .pointer (some ⟨bz, 0, none⟩), .pointer (some ⟨gx, 0, none⟩)] W (ReadP gc gx 3 A bs c at_ (lift (Value.int .i64) (gCount (bs.drop at_) most)) W) := by
  have hne : gx ≠ gc := blk_ne hx h.cur (by decide)
  have hlt := blk_lt hx
  have cz : W.cell? ⟨bz, 0, none⟩ = some (.int .i64 most) := (blk_cell hz 0).trans rfl
  have nz : bz ≠ gc := blk_ne hz h.cur (by decide)
  have HZ := Aside0.mk hz
  clear hz
  by_cases h0 : most < 0
  · have HF : Aside0 (lift (Value.int .i64) (gCount (bs.drop at_) most) = .error 1) := ⟨by simp only [gCount, lift]; rw [if_pos h0]⟩
    have t1 : decide (0 ≤ most) = false := decide_eq_false (by omega)
    clear h hx
    go_enter Try.func171, Try.ntmps171
    go_wp2_with (go_at_call 146; first | ((with_reducible refine (check_ok _ _).mono ?_); rintro e w1 ⟨rfl, rfl⟩) | ((with_reducible refine (check_no _ _).mono ?_); rintro e w1 ⟨rfl, rfl⟩))
    exact ⟨rfl, by rw [HF.out]; exact read_err ⟨rfl, Fr.refl _ _⟩ hne hlt⟩
  · have t0 : decide (0 ≤ most) = true := decide_eq_true (by omega)
    by_cases hn : bs.length < at_ + 2
    · have HF : Aside0 (lift (Value.int .i64) (gCount (bs.drop at_) most) = .error 10) := ⟨by simp only [gCount, lift]; rw [if_neg h0, if_pos (by rw [List.length_drop]; omega)]⟩
      have C := Aside0.mk (h.short 2 hn (by omega))
      clear h hx
      go_enter Try.func171, Try.ntmps171
      go_wp2_with (first | (go_at_call 146; first | ((with_reducible refine (check_ok _ _).mono ?_); rintro e w1 ⟨rfl, rfl⟩) | ((with_reducible refine (check_no _ _).mono ?_); rintro e w1 ⟨rfl, rfl⟩)) | (go_at_call 153; refine C.out.mono ?_; rintro e w' ⟨rfl, hf⟩))
      exact ⟨rfl, by rw [HF.out]; exact read_err ⟨rfl, hf⟩ hne hlt⟩
    · have HG : Aside0 (gCount (bs.drop at_) most = if most < (val ((bs.drop at_).take 2) : Int) then .error 12 else .ok (val ((bs.drop at_).take 2), 2)) := ⟨by
        simp only [gCount]; rw [if_neg h0, if_neg (by rw [List.length_drop]; omega)]⟩
      have C := Aside0.mk (h.bits 2 (by omega) (by omega))
      have hV := h.val_lt 2 (by omega)
      have HX := Aside0.mk hx
      clear h hx
      unfold CBits at C
      generalize val ((bs.drop at_).take 2) = m at C HG hV
      by_cases hm : most < (m : Int)
      · have HF : Aside0 (lift (Value.int .i64) (gCount (bs.drop at_) most) = .error 12) := ⟨by rw [HG.out, if_pos hm]; rfl⟩
        have t1 : decide ((m : Int) ≤ most) = false := decide_eq_false (by omega)
        clear hm
        go_enter Try.func171, Try.ntmps171
        go_wp2_with (first | (go_at_call 146; first | ((with_reducible refine (check_ok _ _).mono ?_); rintro e w1 ⟨rfl, rfl⟩) | ((with_reducible refine (check_no _ _).mono ?_); rintro e w1 ⟨rfl, rfl⟩)) | (go_at_call 153; refine C.out.mono ?_; rintro e w' ⟨rfl, hcu, hf⟩; have hx1 := hf.blk HX.out hne; have cx : w'.cell? ⟨gx, 0, none⟩ = some (.int .i64 x0) := (blk_cell hx1 0).trans rfl; have fx : w'.frozen? ⟨gx, 0, none⟩ = false := blk_frozen hx1 0; have cz' : w'.cell? ⟨bz, 0, none⟩ = some (.int .i64 most) := (blk_cell (hf.blk HZ.out nz) 0).trans rfl))
        exact ⟨rfl, by rw [HF.out]; exact read_err ⟨rfl, hf⟩ hne hlt⟩
      · have HF : Aside0 (lift (Value.int .i64) (gCount (bs.drop at_) most) = .ok (.int .i64 m, 2)) := ⟨by rw [HG.out, if_neg hm]; rfl⟩
        have t1 : decide ((m : Int) ≤ most) = true := decide_eq_true (by omega)
        clear hm
        go_enter Try.func171, Try.ntmps171
        go_wp2_with (first | (go_at_call 146; first | ((with_reducible refine (check_ok _ _).mono ?_); rintro e w1 ⟨rfl, rfl⟩) | ((with_reducible refine (check_no _ _).mono ?_); rintro e w1 ⟨rfl, rfl⟩)) | (go_at_call 153; refine C.out.mono ?_; rintro e w' ⟨rfl, hcu, hf⟩; have hx1 := hf.blk HX.out hne; have cx : w'.cell? ⟨gx, 0, none⟩ = some (.int .i64 x0) := (blk_cell hx1 0).trans rfl; have fx : w'.frozen? ⟨gx, 0, none⟩ = false := blk_frozen hx1 0; have cz' : w'.cell? ⟨bz, 0, none⟩ = some (.int .i64 most) := (blk_cell (hf.blk HZ.out nz) 0).trans rfl))
        go_end0
        rw [HF.out]
        exact read_ok hcu hx1 hf hne
def encS (xs : List Int) : Value := .string (strOfNums xs)
set_option maxHeartbeats 3200000 in
set_option maxRecDepth 100000 in
theorem rfixed1_calls (h : CR W gc A bs c at_) (x0 : ByteArray) (size : Int) (bz : Nat) (hz : W.heap[bz]? = some (.cells #[.int .i64 size] 3 (0, 0))) (hx : W.heap[gx]? = some (.cells #[.string x0] 9 (0, 0))) :
    Calls Try.prog 145 #[.pointer (some ⟨gc, 0, none⟩), .pointer (some ⟨bz, 0, none⟩), .pointer (some ⟨gx, 0, none⟩)] W (ReadP gc gx 9 A bs c at_ (lift encS (gFixed (bs.drop at_) size)) W) := by
  have hne : gx ≠ gc := blk_ne hx h.cur (by decide)
  have hlt := blk_lt hx
  have cz : W.cell? ⟨bz, 0, none⟩ = some (.int .i64 size) := (blk_cell hz 0).trans rfl
  clear hz
  by_cases h0 : 0 ≤ size
  case neg =>
    have HF : Aside0 (lift encS (gFixed (bs.drop at_) size) = .error 1) := ⟨by simp only [gFixed, lift]; rw [if_pos (by omega)]⟩
    have t0 : decide (0 ≤ size) = false := decide_eq_false (by omega)
    clear h hx h0
    go_enter Try.func145, Try.ntmps145
    go_wp2_with (go_at_call 146; first | ((with_reducible refine (check_ok _ _).mono ?_); rintro e w1 ⟨rfl, rfl⟩) | ((with_reducible refine (check_no _ _).mono ?_); rintro e w1 ⟨rfl, rfl⟩))
    exact ⟨rfl, by rw [HF.out]; exact read_err ⟨rfl, Fr.refl _ _⟩ hne hlt⟩
  case pos =>
    obtain ⟨n, rfl⟩ := Int.eq_ofNat_of_zero_le h0
    have t0 : decide ((0 : Int) ≤ (n : Int)) = true := decide_eq_true (by omega)
    by_cases h1 : n ≤ 65535
    case neg =>
      have HF : Aside0 (lift encS (gFixed (bs.drop at_) n) = .error 1) := ⟨by simp only [gFixed, lift]; rw [if_pos (by omega)]⟩
      have t1 : decide ((n : Int) ≤ 65535) = false := decide_eq_false (by omega)
      have t2 : decide (n ≤ 65535) = false := decide_eq_false (by omega)
      clear h hx h1
      go_enter Try.func145, Try.ntmps145
      go_wp2_with (go_at_call 146; first | ((with_reducible refine (check_ok _ _).mono ?_); rintro e w1 ⟨rfl, rfl⟩) | ((with_reducible refine (check_no _ _).mono ?_); rintro e w1 ⟨rfl, rfl⟩))
      exact ⟨rfl, by rw [HF.out]; exact read_err ⟨rfl, Fr.refl _ _⟩ hne hlt⟩
    case pos =>
      have t1 : decide ((n : Int) ≤ 65535) = true := decide_eq_true (by omega)
      have t2 : decide (n ≤ 65535) = true := decide_eq_true (by omega)
      by_cases hn : bs.length < at_ + n
      · have HF : Aside0 (lift encS (gFixed (bs.drop at_) n) = .error 10) := ⟨by simp only [gFixed, lift]; rw [if_neg (by omega), if_pos (by rw [List.length_drop]; have := h.le; omega)]⟩
        have D := Aside0.mk (cbytes_short gc A bs c at_ n W h.cur h.le h.len hn (by omega))
        clear h hx
        go_enter Try.func145, Try.ntmps145
        go_wp2_with (first | (go_at_call 146; first | ((with_reducible refine (check_ok _ _).mono ?_); rintro e w1 ⟨rfl, rfl⟩) | ((with_reducible refine (check_no _ _).mono ?_); rintro e w1 ⟨rfl, rfl⟩)) | (go_at_call 147; refine D.out.mono ?_; rintro e w3 ⟨rfl, hf3⟩))
        exact ⟨rfl, by rw [HF.out]; exact read_err ⟨rfl, hf3⟩ hne hlt⟩
      · have HF : Aside0 (lift encS (gFixed (bs.drop at_) n) = .ok (.string (strOfNums ((bs.drop at_).take n)), n)) := ⟨by
          simp only [gFixed]; rw [if_neg (by omega), if_neg (by rw [List.length_drop]; have := h.le; omega)]; rfl⟩
        have D := Aside0.mk (cbytes_ok gc A bs c at_ n W h.cur h.rd h.cap h.len (by omega) h.ne_)
        have HX := Aside0.mk hx
        clear h hx
        unfold CBytes at D
        generalize (bs.drop at_).take n = xs at D HF
        go_enter Try.func145, Try.ntmps145
        go_wp2_with (first | (go_at_call 146; first | ((with_reducible refine (check_ok _ _).mono ?_); rintro e w1 ⟨rfl, rfl⟩) | ((with_reducible refine (check_no _ _).mono ?_); rintro e w1 ⟨rfl, rfl⟩)) | (go_at_call 147; refine D.out.mono ?_; rintro e w3 ⟨⟨A', c', rfl, hrd⟩, hcu, hf3⟩; have hx1 := hf3.blk HX.out hne; have cx : w3.cell? ⟨gx, 0, none⟩ = some (.string x0) := (blk_cell hx1 0).trans rfl; have fx : w3.frozen? ⟨gx, 0, none⟩ = false := blk_frozen hx1 0; have kc := string_of_reads (P := Try.prog) (c := c') Try.underlying24 Try.underlying5 Try.underlying9 hrd))
        go_end0
        rw [HF.out]
        exact read_ok hcu hx1 hf3 hne
end
end Go.Proofs.Ytgmbfecfkdbfaaa.Wi
/- The reader's methods: each takes its piece, or the reader is at fault from then on. -/
set_option linter.unusedVariables false
set_option linter.unusedSimpArgs false
namespace Go.Proofs.Ytgmbfecfkdbfaaa.Wi
open Go Go.RowKit Go.Proofs.YtgmbfecfkdbfaaaW.PrintWords
section
variable {w : World} {B g : Nat} {ro : Option Nat} {bs : List Int} {r : RS}
theorem take_any {α : Type} (f : Nat) (caps : Array Value) (eg : ∀ args w, (callFunc f args).run Try.prog w = .ok (.enter f args) w) (d : α) (enc : α → Value) (G : List Int → Except Int (α × Nat)) (gx : Nat) (T : TypeId) (hB : B ≤ w.heap.size)
    (hr : Rd w B g ro bs r) (hx : w.heap[gx]? = some (.cells #[enc d] T (0, 0))) (hT : T ≠ 202) (hTu : 5 ≠ T) (hG : ∀ x k, G (bs.drop r.at_) = .ok (x, k) → k ≤ (bs.drop r.at_).length)
    (hp : ∀ (W : World) (gc : Nat) (A : Option Addr) (c : Nat), Below w.heap.size w W → CR W gc A bs c r.at_ → Calls Try.prog f (#[.pointer (some ⟨gc, 0, none⟩)] ++ caps) W (ReadP gc gx T A bs c r.at_ (lift enc (G (bs.drop r.at_))) W)) :
    Calls Try.prog 144 #[.pointer (some ⟨g, 0, none⟩), .func (.func f) #[] caps] w (TPost B g ro bs gx T (enc (r.take bs d G).1) (r.take bs d G).2 w) := by
  by_cases hc : r.code = 0
  · have h := take_calls f caps eg (lift enc (G (bs.drop r.at_))) B g ro bs r gx T (enc d) w hB hr hx hT hTu hc (fun u k h => by
        cases hg : G (bs.drop r.at_) with
        | error e => rw [hg] at h; cases h
        | ok p =>
          obtain ⟨x, m⟩ := p
          rw [hg] at h
          simp only [lift, Except.ok.injEq, Prod.mk.injEq] at h
          obtain ⟨_, rfl⟩ := h
          have := hG x m hg
          rw [List.length_drop] at this
          have := hr.le
          omega)
      (fun W gc A c h1 h2 h3 h4 h5 _ => hp W gc A c h1 ⟨h2, h3, h4, hr.le, hr.byt, hr.len, h5⟩)
    unfold RS.take
    rw [if_neg (by simp [hc])]
    cases hg : G (bs.drop r.at_) with
    | error e => rw [hg] at h; exact h
    | ok p => rw [hg] at h; exact h
  · unfold RS.take
    rw [if_pos hc]
    exact take_faulty (.func (.func f) #[] caps) B g ro bs r gx T (enc d) w hr hx hc
/-- what a reader's method leaves -/
def RPost (B g : Nat) (ro : Option Nat) (bs : List Int) (u : Value) (r : RS) (w : World) (e : Ending) (w' : World) : Prop :=
  e = .returned u ∧ Rd w' B g ro bs r ∧ Fr (fun i => i = g) w w'
theorem fr_fresh {w w1 w2 : World} {g gx : Nat} (hb : Below w.heap.size w w1) (hf : Fr (fun i => i = g ∨ i = gx) w1 w2) (hx : w.heap.size ≤ gx) : Fr (fun i => i = g) w w2 :=
  (Fr.of_below hb).trans hf (fun i hi h => h.elim (fun e => e) (fun e => by omega))
theorem val_take_lt (l : List Int) (n : Nat) (h : Bytes l) (hn : n ≤ l.length) : val (l.take n) < 256 ^ n := by
  have h1 := val_lt (l.take n) (h.take n)
  rwa [List.length_take, Nat.min_eq_left hn] at h1
theorem gNumber_le {l : List Int} {size x : Int} {k : Nat} (h : gNumber l size = .ok (x, k)) : k ≤ l.length ∧ 0 ≤ x ∧ x < 9223372036854775808 := by
  unfold gNumber at h
  split at h
  · cases h
  · split at h
    · cases h
    · split at h
      · cases h
      · injection h with h
        injection h with h1 h2
        subst h1 h2
        omega
theorem gInt_le {l : List Int} {x : Int} {k : Nat} (h : gInt l = .ok (x, k)) : k ≤ l.length := by
  unfold gInt at h
  split at h
  · cases h
  · injection h with h
    injection h with h1 h2
    omega
theorem gFloat_le {l : List Int} {x : Nat} {k : Nat} (h : gFloat l = .ok (x, k)) : k ≤ l.length := by
  unfold gFloat at h
  split at h
  · cases h
  · split at h
    · cases h
    · injection h with h
      injection h with h1 h2
      omega
theorem gBool_le {l : List Int} {x : Bool} {k : Nat} (h : gBool l = .ok (x, k)) : k ≤ l.length := by
  unfold gBool at h
  split at h
  · cases h
  · split at h
    · cases h
    · injection h with h
      injection h with h1 h2
      omega
theorem gText_le {l : List Int} {most : Int} {x : List Int} {k : Nat} (h : gText l most = .ok (x, k)) : k ≤ l.length := by
  unfold gText at h
  split at h
  · cases h
  · split at h
    · cases h
    · split at h
      · cases h
      · split at h
        · cases h
        · injection h with h
          injection h with h1 h2
          omega
theorem gFixed_le {l : List Int} {size : Int} {x : List Int} {k : Nat} (h : gFixed l size = .ok (x, k)) : k ≤ l.length := by
  unfold gFixed at h
  split at h
  · cases h
  · split at h
    · cases h
    · injection h with h
      injection h with h1 h2
      omega
theorem gCount_le {l : List Int} {most x : Int} {k : Nat} (h : gCount l most = .ok (x, k)) : k ≤ l.length := by
  unfold gCount at h
  split at h
  · cases h
  · split at h
    · cases h
    · split at h
      · cases h
      · injection h with h
        injection h with h1 h2
        omega
theorem number_range (r : RS) (bs : List Int) (size : Int) : 0 ≤ (r.take bs 0 (fun l => gNumber l size)).1 ∧ (r.take bs 0 (fun l => gNumber l size)).1 < 9223372036854775808 := by
  unfold RS.take
  split
  · exact ⟨by simp, by simp⟩
  · split
    · rename_i x n h
      exact (gNumber_le h).2
    · exact ⟨by simp, by simp⟩
theorem ent_rNumber : ∀ args w, (callFunc 152 args).run Try.prog w = .ok (.enter 152 args) w := enters_of Try.func152 (by kernel_rfl) rfl
set_option maxHeartbeats 1600000 in
set_option maxRecDepth 100000 in
theorem rNumber_calls (size : Int) (hr : Rd w B g ro bs r) (hB : B ≤ w.heap.size) :
    Calls Try.prog 112 #[.pointer (some ⟨g, 0, none⟩), .int .i64 size] w (RPost B g ro bs (.int .i64 (r.take bs (0 : Int) (fun l => gNumber l size)).1) (r.take bs (0 : Int) (fun l => gNumber l size)).2 w) := by
  have C := take_any 152 #[.pointer (some ⟨w.heap.size, 0, none⟩), .pointer (some ⟨w.heap.size + 1, 0, none⟩)] ent_rNumber (0 : Int) (Value.int .u64) (fun l => gNumber l size) (w.heap.size + 1) 142 (Nat.le_trans hB (below2 _ _).size) (w := ((w.alloc (.cells #[.int .i64 size] 3)).alloc (.cells #[.int .u64 0] 142))) (hr.below (below2 _ _)) (two_1 w _ _) (by decide) (by decide) (fun x k h => (gNumber_le h).1)
    (fun W gc A c hW h => rnumber1_calls h _ size _ (blk_b (two_0 w _ _) hW) (blk_b (two_1 w _ _) hW))
  have hx0 := number_range r bs size
  obtain ⟨hx1, hx2⟩ := hx0
  have C' := Aside0.mk C
  clear C hr
  generalize (r.take bs (0 : Int) (fun l => gNumber l size)) = p at *
  obtain ⟨x, r'⟩ := p
  simp only at *
  have hmf : ∀ (fn : Fn) (first cap : Array Value) (w : World), (Instr.makeFunc fn first cap).run Try.prog w = .ok (.func fn first cap) w := fun _ _ _ _ => rfl
  go_enter Try.func112, Try.ntmps112
  go_wp2_with (go_at_call 144; refine C'.out.mono ?_; rintro e w' ⟨rfl, hrd, hgx, hf⟩; have cx : w'.cell? ⟨w.heap.size + 1, 0, none⟩ = some (.int .u64 x) := (blk_cell hgx 0).trans rfl)
  go_ret
  exact ⟨rfl, hrd, fr_fresh (below2 _ _) hf (by omega)⟩
theorem ent_rInt : ∀ args w, (callFunc 169 args).run Try.prog w = .ok (.enter 169 args) w := enters_of Try.func169 (by kernel_rfl) rfl
set_option maxHeartbeats 1600000 in
set_option maxRecDepth 100000 in
theorem rInt_calls (hr : Rd w B g ro bs r) (hB : B ≤ w.heap.size) :
    Calls Try.prog 155 #[.pointer (some ⟨g, 0, none⟩)] w (RPost B g ro bs (.int .i64 (r.take bs (0 : Int) gInt).1) (r.take bs (0 : Int) gInt).2 w) := by
  have C := take_any 169 #[.pointer (some ⟨w.heap.size, 0, none⟩)] ent_rInt (0 : Int) (Value.int .i64) gInt (w.heap.size) 3 (Nat.le_trans hB (below1 _).size) (w := (w.alloc (.cells #[.int .i64 0] 3))) (hr.below (below1 _)) (heap_alloc_new w _) (by decide) (by decide) (fun x k h => gInt_le h)
    (fun W gc A c hW h => rint1_calls h _ (blk_b (heap_alloc_new w _) hW))
  have C' := Aside0.mk C
  clear C hr
  generalize (r.take bs (0 : Int) gInt) = p at *
  obtain ⟨x, r'⟩ := p
  simp only at *
  have hmf : ∀ (fn : Fn) (first cap : Array Value) (w : World), (Instr.makeFunc fn first cap).run Try.prog w = .ok (.func fn first cap) w := fun _ _ _ _ => rfl
  go_enter Try.func155, Try.ntmps155
  go_wp2_with (go_at_call 144; refine C'.out.mono ?_; rintro e w' ⟨rfl, hrd, hgx, hf⟩; have cx : w'.cell? ⟨w.heap.size, 0, none⟩ = some (.int .i64 x) := (blk_cell hgx 0).trans rfl)
  go_ret
  exact ⟨rfl, hrd, fr_fresh (below1 _) hf (by omega)⟩
theorem ent_rFloat : ∀ args w, (callFunc 176 args).run Try.prog w = .ok (.enter 176 args) w := enters_of Try.func176 (by kernel_rfl) rfl
set_option maxHeartbeats 1600000 in
set_option maxRecDepth 100000 in
theorem rFloat_calls (hr : Rd w B g ro bs r) (hB : B ≤ w.heap.size) :
    Calls Try.prog 165 #[.pointer (some ⟨g, 0, none⟩)] w (RPost B g ro bs (.float .f64 (r.take bs (0 : Nat) gFloat).1) (r.take bs (0 : Nat) gFloat).2 w) := by
  have C := take_any 176 #[.pointer (some ⟨w.heap.size, 0, none⟩)] ent_rFloat (0 : Nat) (Value.float .f64) gFloat (w.heap.size) 69 (Nat.le_trans hB (below1 _).size) (w := (w.alloc (.cells #[.float .f64 0] 69))) (hr.below (below1 _)) (heap_alloc_new w _) (by decide) (by decide) (fun x k h => gFloat_le h)
    (fun W gc A c hW h => rfloat1_calls h _ (blk_b (heap_alloc_new w _) hW))
  have C' := Aside0.mk C
  clear C hr
  generalize (r.take bs (0 : Nat) gFloat) = p at *
  obtain ⟨x, r'⟩ := p
  simp only at *
  have hmf : ∀ (fn : Fn) (first cap : Array Value) (w : World), (Instr.makeFunc fn first cap).run Try.prog w = .ok (.func fn first cap) w := fun _ _ _ _ => rfl
  go_enter Try.func165, Try.ntmps165
  go_wp2_with (go_at_call 144; refine C'.out.mono ?_; rintro e w' ⟨rfl, hrd, hgx, hf⟩; have cx : w'.cell? ⟨w.heap.size, 0, none⟩ = some (.float .f64 x) := (blk_cell hgx 0).trans rfl)
  go_ret
  exact ⟨rfl, hrd, fr_fresh (below1 _) hf (by omega)⟩
theorem ent_rBool : ∀ args w, (callFunc 170 args).run Try.prog w = .ok (.enter 170 args) w := enters_of Try.func170 (by kernel_rfl) rfl
set_option maxHeartbeats 1600000 in
set_option maxRecDepth 100000 in
theorem rBool_calls (hr : Rd w B g ro bs r) (hB : B ≤ w.heap.size) :
    Calls Try.prog 157 #[.pointer (some ⟨g, 0, none⟩)] w (RPost B g ro bs (.bool (r.take bs false gBool).1) (r.take bs false gBool).2 w) := by
  have C := take_any 170 #[.pointer (some ⟨w.heap.size, 0, none⟩)] ent_rBool false Value.bool gBool (w.heap.size) 4 (Nat.le_trans hB (below1 _).size) (w := (w.alloc (.cells #[.bool false] 4))) (hr.below (below1 _)) (heap_alloc_new w _) (by decide) (by decide) (fun x k h => gBool_le h)
    (fun W gc A c hW h => rbool1_calls h _ (blk_b (heap_alloc_new w _) hW))
  have C' := Aside0.mk C
  clear C hr
  generalize (r.take bs false gBool) = p at *
  obtain ⟨x, r'⟩ := p
  simp only at *
  have hmf : ∀ (fn : Fn) (first cap : Array Value) (w : World), (Instr.makeFunc fn first cap).run Try.prog w = .ok (.func fn first cap) w := fun _ _ _ _ => rfl
  go_enter Try.func157, Try.ntmps157
  go_wp2_with (go_at_call 144; refine C'.out.mono ?_; rintro e w' ⟨rfl, hrd, hgx, hf⟩; have cx : w'.cell? ⟨w.heap.size, 0, none⟩ = some (.bool x) := (blk_cell hgx 0).trans rfl)
  go_ret
  exact ⟨rfl, hrd, fr_fresh (below1 _) hf (by omega)⟩
theorem ent_rFixed : ∀ args w, (callFunc 145 args).run Try.prog w = .ok (.enter 145 args) w := enters_of Try.func145 (by kernel_rfl) rfl
set_option maxHeartbeats 1600000 in
set_option maxRecDepth 100000 in
theorem rFixed_calls (size : Int) (hr : Rd w B g ro bs r) (hB : B ≤ w.heap.size) :
    Calls Try.prog 110 #[.pointer (some ⟨g, 0, none⟩), .int .i64 size] w (RPost B g ro bs (encS (r.take bs ([] : List Int) (fun l => gFixed l size)).1) (r.take bs ([] : List Int) (fun l => gFixed l size)).2 w) := by
  have C := take_any 145 #[.pointer (some ⟨w.heap.size, 0, none⟩), .pointer (some ⟨w.heap.size + 1, 0, none⟩)] ent_rFixed ([] : List Int) encS (fun l => gFixed l size) (w.heap.size + 1) 9 (Nat.le_trans hB (below2 _ _).size) (w := ((w.alloc (.cells #[.int .i64 size] 3)).alloc (.cells #[.string ⟨#[]⟩] 9))) (hr.below (below2 _ _)) (two_1 w _ _) (by decide) (by decide) (fun x k h => gFixed_le h)
    (fun W gc A c hW h => rfixed1_calls h _ size _ (blk_b (two_0 w _ _) hW) (blk_b (two_1 w _ _) hW))
  have C' := Aside0.mk C
  clear C hr
  generalize (r.take bs ([] : List Int) (fun l => gFixed l size)) = p at *
  obtain ⟨x, r'⟩ := p
  simp only at *
  have hmf : ∀ (fn : Fn) (first cap : Array Value) (w : World), (Instr.makeFunc fn first cap).run Try.prog w = .ok (.func fn first cap) w := fun _ _ _ _ => rfl
  go_enter Try.func110, Try.ntmps110
  go_wp2_with (go_at_call 144; refine C'.out.mono ?_; rintro e w' ⟨rfl, hrd, hgx, hf⟩; have cx : w'.cell? ⟨w.heap.size + 1, 0, none⟩ = some (encS x) := (blk_cell hgx 0).trans rfl)
  go_ret
  exact ⟨rfl, hrd, fr_fresh (below2 _ _) hf (by omega)⟩
theorem ent_rCount : ∀ args w, (callFunc 171 args).run Try.prog w = .ok (.enter 171 args) w := enters_of Try.func171 (by kernel_rfl) rfl
set_option maxHeartbeats 1600000 in
set_option maxRecDepth 100000 in
theorem rCount_calls (most : Int) (hr : Rd w B g ro bs r) (hB : B ≤ w.heap.size) :
    Calls Try.prog 159 #[.pointer (some ⟨g, 0, none⟩), .int .i64 most] w (RPost B g ro bs (.int .i64 (r.take bs (0 : Int) (fun l => gCount l most)).1) (r.take bs (0 : Int) (fun l => gCount l most)).2 w) := by
  have C := take_any 171 #[.pointer (some ⟨w.heap.size, 0, none⟩), .pointer (some ⟨w.heap.size + 1, 0, none⟩)] ent_rCount (0 : Int) (Value.int .i64) (fun l => gCount l most) (w.heap.size + 1) 3 (Nat.le_trans hB (below2 _ _).size) (w := ((w.alloc (.cells #[.int .i64 most] 3)).alloc (.cells #[.int .i64 0] 3))) (hr.below (below2 _ _)) (two_1 w _ _) (by decide) (by decide) (fun x k h => gCount_le h)
    (fun W gc A c hW h => rcount1_calls h _ most _ (blk_b (two_0 w _ _) hW) (blk_b (two_1 w _ _) hW))
  have C' := Aside0.mk C
  clear C hr
  generalize (r.take bs (0 : Int) (fun l => gCount l most)) = p at *
  obtain ⟨x, r'⟩ := p
  simp only at *
  have hmf : ∀ (fn : Fn) (first cap : Array Value) (w : World), (Instr.makeFunc fn first cap).run Try.prog w = .ok (.func fn first cap) w := fun _ _ _ _ => rfl
  go_enter Try.func159, Try.ntmps159
  go_wp2_with (go_at_call 144; refine C'.out.mono ?_; rintro e w' ⟨rfl, hrd, hgx, hf⟩; have cx : w'.cell? ⟨w.heap.size + 1, 0, none⟩ = some (.int .i64 x) := (blk_cell hgx 0).trans rfl)
  go_ret
  exact ⟨rfl, hrd, fr_fresh (below2 _ _) hf (by omega)⟩
end
end Go.Proofs.Ytgmbfecfkdbfaaa.Wi
/- The reader's other methods: where it stands, what is left, what is wrong; a new reader. -/
set_option linter.unusedVariables false
set_option linter.unusedSimpArgs false
namespace Go.Proofs.Ytgmbfecfkdbfaaa.Wi
open Go Go.RowKit Go.Proofs.YtgmbfecfkdbfaaaW.PrintWords
def RS.fail (r : RS) (e : Int) : RS := if r.code = 0 ∧ e ≠ 0 then { r with code := e, fat := r.last } else r
def RS.end_ (r : RS) (n : Nat) : RS := if r.code = 0 ∧ r.at_ < n then { r with code := 13, fat := r.at_ } else r
section
variable {w : World} {B g : Nat} {ro : Option Nat} {bs : List Int} {r : RS}
set_option maxHeartbeats 1600000 in
set_option maxRecDepth 100000 in
theorem rLeft_calls (hr : Rd w B g ro bs r) : Calls Try.prog 141 #[.pointer (some ⟨g, 0, none⟩)] w fun e w' => e = .returned (.int .i64 ((bs.length : Int) - r.at_)) ∧ Drawn0 w w' := by
  have hle := hr.le
  have hlen := hr.len
  obtain ⟨v, hb, ho, _⟩ := hr.at_
  obtain ⟨A, c, rfl, _, _⟩ := own_reads' ho
  have c0 : w.cell? ⟨g, 0, none⟩ = some (.slice A bs.length c) := (blk_cell hb 0).trans rfl
  have c1 : w.cell? ⟨g, 1, none⟩ = some (.int .i64 r.at_) := (blk_cell hb 1).trans rfl
  clear hr hb ho
  have e1 : IntKind.i64.wrap ((bs.length : Int) - r.at_) = (bs.length : Int) - r.at_ := IntWalk.i64_in _ (by omega)
  go_enter Try.func141, Try.ntmps141
  go_wp2
  go_quiet (fail)
  go_wp2
  go_ret
  exact ⟨rfl, ⟨⟨_, rfl⟩⟩⟩
set_option maxHeartbeats 1600000 in
set_option maxRecDepth 100000 in
theorem rEnd_calls (hr : Rd w B g ro bs r) : Calls Try.prog 101 #[.pointer (some ⟨g, 0, none⟩)] w (RPost B g ro bs (.agg #[.int .i64 (r.end_ bs.length).code, .int .i64 (r.end_ bs.length).fat]) (r.end_ bs.length) w) := by
  obtain ⟨v, hb, ho, hro⟩ := hr.at_
  have hg := blk_lt hb
  have hle := hr.le
  have HR := Aside0.mk hr
  have HB := Aside0.mk hb
  have HO := Aside0.mk ho
  have HRO := Aside0.mk hro
  have c3 : ∀ o : Obj, (w.alloc o).cell? ⟨g, 3, none⟩ = some (.int .i64 r.code) := fun o => (World.cell?_alloc_lt w _ _ hg).trans ((blk_cell hb 3).trans rfl)
  have c4 : ∀ o : Obj, (w.alloc o).cell? ⟨g, 4, none⟩ = some (.int .i64 r.fat) := fun o => (World.cell?_alloc_lt w _ _ hg).trans ((blk_cell hb 4).trans rfl)
  have c1 : ∀ o : Obj, (w.alloc o).cell? ⟨g, 1, none⟩ = some (.int .i64 r.at_) := fun o => (World.cell?_alloc_lt w _ _ hg).trans ((blk_cell hb 1).trans rfl)
  have CL := Aside0.mk (fun o : Obj => rLeft_calls (hr.below (below1 o)))
  clear hr hb ho hro
  by_cases h0 : r.code = 0
  case neg =>
    have t1 : (r.code == 0) = false := beq_eq_false_iff_ne.2 h0
    have HF : Aside0 (r.end_ bs.length = r) := ⟨by simp [RS.end_, h0]⟩
    clear h0
    go_enter Try.func101, Try.ntmps101
    go_wp2
    refine bodyPost_ret (v := .agg #[.int .i64 r.code, .int .i64 r.fat]) (by simp [results, Try.results101, go_sem]) rfl ?_
    rw [HF.out]
    exact ⟨rfl, HR.out.below (below1 _), Fr.of_below (below1 _)⟩
  case pos =>
    have t1 : (r.code == 0) = true := beq_iff_eq.2 h0
    by_cases he : r.at_ < bs.length
    · have t2 : decide (r.at_ < bs.length) = true := decide_eq_true he
      have HF : Aside0 (r.end_ bs.length = { r with code := 13, fat := r.at_ }) := ⟨by simp [RS.end_, he, h0]⟩
      clear h0 he
      go_enter Try.func101, Try.ntmps101
      go_wp2_with (go_at_call 141; refine (CL.out _).mono ?_; rintro e w' ⟨rfl, ⟨n, rfl⟩⟩; have f3 : ((w.alloc (.cells #[.int .i64 0, .int .i64 0] 31)).drewN n).frozen? ⟨g, 3, none⟩ = false := blk_frozen (blk_b HB.out (below1 _)) 3; have f4 : ((w.alloc (.cells #[.int .i64 0, .int .i64 0] 31)).drewN n).frozen? ⟨g, 4, none⟩ = false := blk_frozen (blk_b HB.out (below1 _)) 4)
      have b0 : ((w.alloc (.cells #[.int .i64 0, .int .i64 0] 31)).drewN n).heap[g]? = some _ := blk_b HB.out (pw_below_drewN (below1 _) n)
      have q0 : ((w.alloc (.cells #[.int .i64 0, .int .i64 0] 31)).drewN n).heap[w.heap.size]? = some (.cells #[.int .i64 0, .int .i64 0] 31 (0, 0)) := heap_alloc_new w _
      have hfr : Fr (fun i => i = g) w (((((((w.alloc (.cells #[.int .i64 0, .int .i64 0] 31)).drewN n).setCell ⟨g, 3, none⟩ (.int .i64 13)).setCell ⟨g, 4, none⟩ (.int .i64 r.at_)).setCell ⟨w.heap.size, 0, none⟩ (.int .i64 13)).setCell ⟨w.heap.size, 1, none⟩ (.int .i64 r.at_))) :=
        ((((((Fr.refl (fun i => i = g) w).alloc _).drewN n).set_ (p := ⟨g, 3, none⟩) (.inl rfl) _).set_ (p := ⟨g, 4, none⟩) (.inl rfl) _).set_ (p := ⟨w.heap.size, 0, none⟩) (.inr (Nat.le_refl _)) _).set_ (p := ⟨w.heap.size, 1, none⟩) (.inr (Nat.le_refl _)) _
      have hgn : g ≠ w.heap.size := by omega
      have hb2 := blk_far (blk_far (blk_set (blk_set b0 3 (.int .i64 13)) 4 (.int .i64 r.at_)) (p := ⟨w.heap.size, 0, none⟩) hgn (.int .i64 13)) (p := ⟨w.heap.size, 1, none⟩) hgn (.int .i64 r.at_)
      have hq2 := blk_set (blk_set (blk_far (blk_far q0 (p := ⟨g, 3, none⟩) (Ne.symm hgn) (.int .i64 13)) (p := ⟨g, 4, none⟩) (Ne.symm hgn) (.int .i64 r.at_)) 0 (.int .i64 13)) 1 (.int .i64 r.at_)
      generalize ((((((w.alloc (.cells #[.int .i64 0, .int .i64 0] 31)).drewN n).setCell ⟨g, 3, none⟩ (.int .i64 13)).setCell ⟨g, 4, none⟩ (.int .i64 r.at_)).setCell ⟨w.heap.size, 0, none⟩ (.int .i64 13)).setCell ⟨w.heap.size, 1, none⟩ (.int .i64 r.at_)) = W2 at hfr hb2 hq2
      have k0 : W2.cell? ⟨w.heap.size, 0, none⟩ = some (.int .i64 13) := (blk_cell hq2 0).trans (by simp)
      have k1 : W2.cell? ⟨w.heap.size, 1, none⟩ = some (.int .i64 r.at_) := (blk_cell hq2 1).trans (by simp)
      refine bodyPost_ret (v := .agg #[.int .i64 13, .int .i64 r.at_]) (by simp [results, Try.results101, go_sem, k0, k1]) rfl ?_
      rw [HF.out]
      refine ⟨rfl, ⟨⟨v, ?_, hfr.own HO.out ?_, HRO.out⟩, HR.out.base, HR.out.le, HR.out.byt, HR.out.len⟩, hfr⟩
      · simp at hb2
        exact hb2
      · rintro j hj rfl
        exact own_ne HO.out HB.out (by decide) hj.symm
    · have t2 : decide (r.at_ < bs.length) = false := decide_eq_false he
      have HF : Aside0 (r.end_ bs.length = r) := ⟨by simp [RS.end_, he]⟩
      clear he h0
      go_enter Try.func101, Try.ntmps101
      go_wp2_with (go_at_call 141; refine (CL.out _).mono ?_; rintro e w' ⟨rfl, ⟨n, rfl⟩⟩)
      have b0 : ((w.alloc (.cells #[.int .i64 0, .int .i64 0] 31)).drewN n).heap[g]? = some _ := blk_b HB.out (pw_below_drewN (below1 _) n)
      have q0 : ((w.alloc (.cells #[.int .i64 0, .int .i64 0] 31)).drewN n).heap[w.heap.size]? = some (.cells #[.int .i64 0, .int .i64 0] 31 (0, 0)) := heap_alloc_new w _
      have hbe : Below w.heap.size w ((((w.alloc (.cells #[.int .i64 0, .int .i64 0] 31)).drewN n).setCell ⟨w.heap.size, 0, none⟩ (.int .i64 r.code)).setCell ⟨w.heap.size, 1, none⟩ (.int .i64 r.fat)) :=
        ((pw_below_drewN (below1 _) n).setCell (Nat.le_refl _) _).setCell (Nat.le_refl _) _
      have hq2 := blk_set (blk_set q0 0 (.int .i64 r.code)) 1 (.int .i64 r.fat)
      generalize ((((w.alloc (.cells #[.int .i64 0, .int .i64 0] 31)).drewN n).setCell ⟨w.heap.size, 0, none⟩ (.int .i64 r.code)).setCell ⟨w.heap.size, 1, none⟩ (.int .i64 r.fat)) = W2 at hbe hq2
      have k0 : W2.cell? ⟨w.heap.size, 0, none⟩ = some (.int .i64 r.code) := (blk_cell hq2 0).trans (by simp)
      have k1 : W2.cell? ⟨w.heap.size, 1, none⟩ = some (.int .i64 r.fat) := (blk_cell hq2 1).trans (by simp)
      refine bodyPost_ret (v := .agg #[.int .i64 r.code, .int .i64 r.fat]) (by simp [results, Try.results101, go_sem, k0, k1]) rfl ?_
      rw [HF.out]
      exact ⟨rfl, HR.out.below hbe, Fr.of_below hbe⟩
end
set_option maxHeartbeats 800000 in
set_option maxRecDepth 100000 in
theorem newReader_calls (A : Option Addr) (c : Nat) (bs : List Int) (w : World) (hr : ReadsInt w .u8 A bs.length bs) (hb : Bytes bs) (hl : bs.length ≤ 140737488355328) :
    Calls Try.prog 100 #[.slice A bs.length c] w fun e w' => ∃ g ro, e = .returned (.pointer (some ⟨g, 0, none⟩)) ∧ Rd w' w.heap.size g ro bs ⟨0, 0, 0, 0⟩ ∧ Below w.heap.size w w' := by
  have HR := Aside0.mk hr
  have HBy := Aside0.mk hb
  clear hr hb
  go_enter Try.func100, Try.ntmps100
  go_wp2_with (at_builtin; refine wpList_append_row w.heap.size rfl _ (.tmp 3) 24 5 .u8 1 rfl Try.underlying24 info_u8 (by decide) (.slice none 0 0) 0 [] bs A bs.length c (by rfl) (by rfl) (own_nil _ _ _ _) HR.out (Nat.le_refl _) (by omega) ?_; intro v1 w1 ho1 hg1 _; obtain ⟨A1, c1, rfl⟩ := own_slice ho1)
  simp only [Nat.zero_add, List.nil_append] at ho1
  have hb1 := (Below.refl w.heap.size w).grown hg1 (Nat.le_refl _) (fun k hk => by cases hk)
  have key : Rd (w1.alloc (.cells #[.slice A1 bs.length c1, .int .i64 0, .int .i64 0, .int .i64 0, .int .i64 0] 202)) w.heap.size w1.heap.size _ bs ⟨0, 0, 0, 0⟩ :=
    ⟨⟨_, heap_alloc_new w1 _, ho1.alloc _, rfl⟩, hb1.size, Nat.zero_le _, HBy.out, hl⟩
  have hb2 := below_alloc hb1 (.cells #[.slice A1 bs.length c1, .int .i64 0, .int .i64 0, .int .i64 0, .int .i64 0] 202)
  go_ret
  exact ⟨_, _, rfl, key, hb2⟩
end Go.Proofs.Ytgmbfecfkdbfaaa.Wi
/- Arguments of the laws on pieces: bytes, and lists of pieces, as they are read. -/
set_option linter.unusedVariables false
set_option linter.unusedSimpArgs false
namespace Go.Proofs.YtgmbfecfkdbfaaaW.PrintWords.Kd
/-- a kind whose values are known to be so -/
def sub {α : Type} (d : Kd α) (φ : α → Prop) : Kd α where
  sz := d.sz
  E := d.E
  K w x cs := d.K w x cs ∧ φ x
  M w base ok x cs := d.M w base ok x cs ∧ φ x
  K_len h := d.K_len h.1
  K_one h := d.K_one h.1
  K_below hb h := ⟨d.K_below hb h.1, h.2⟩
  K_of_M h := ⟨d.K_of_M h.1, h.2⟩
  M_mono hk h := ⟨d.M_mono hk h.1, h.2⟩
  M_bound h := ⟨d.M_bound h.1, h.2⟩
  M_move hm h := ⟨d.M_move hm h.1, h.2⟩
  M_lower hb h := ⟨d.M_lower hb h.1, h.2⟩
end Go.Proofs.YtgmbfecfkdbfaaaW.PrintWords.Kd
namespace Go.Proofs.Ytgmbfecfkdbfaaa.Wi
open Go Go.RowKit Go.Proofs.YtgmbfecfkdbfaaaW.PrintWords Go.Proofs.YtgmbfecfkdbfaaaX Go.ChangeShapes Go.WideShapes
def I64 (n : Int) : Prop := -9223372036854775808 ≤ n ∧ n ≤ 9223372036854775807
def kI : Kd Int := Kd.sub (Kd.int .i64) I64
def kB : Kd Int := Kd.sub (Kd.int .u8) (fun n => 0 ≤ n ∧ n ≤ 255)
def kF : Kd Nat := Kd.sub Kd.f64 (fun n => n < 18446744073709551616)
def kS : Kd ByteArray := Kd.sub Kd.string (fun s => s.size ≤ 9223372036854775807)
theorem kB_reads {w : World} {A : Option Addr} {n : Nat} {xs : List Int} (h : kB.C w A n xs) : ReadsInt w .u8 A n xs ∧ Bytes xs := by
  refine ⟨Kd.reads_of_C (enc := Value.int .u8) (d := (0 : Int)) (h1 := fun _ => rfl) (Kd.C_imp (d := kB) (d' := Kd.int .u8) rfl (fun _ _ _ hp => hp.1) h), ?_⟩
  intro x hx
  obtain ⟨j, hj, rfl⟩ := List.getElem_of_mem hx
  have hl : xs.length = n := h.1
  obtain ⟨ad, c, e, _, hK, _⟩ := Kd.C_get h (0 : Int) (j : Int) (by omega) (by omega)
  have h2 := hK.2
  simp only [Int.toNat_natCast, List.getD_eq_getElem?_getD, List.getElem?_eq_getElem hj, Option.getD_some] at h2
  exact h2
section
variable {P : Program} {t : TypeId}
theorem opI (h : P.underlying t = some (.int .i64)) (hc : P.cellsOf t = 1) : Opn P kI t := ⟨hc, fun H enc w base spare held fuel cs x hx => by
  obtain ⟨n, rfl, _, hw⟩ := DataW.trod_int h hx
  exact ⟨n, rfl, by unfold I64; simpa [Lit.wf, IntKind.min, IntKind.max, IntKind.signed, IntKind.bits] using hw⟩⟩
theorem opB (h : P.underlying t = some (.int .u8)) (hc : P.cellsOf t = 1) : Opn P kB t := ⟨hc, fun H enc w base spare held fuel cs x hx => by
  obtain ⟨n, rfl, _, hw⟩ := DataW.trod_int h hx
  exact ⟨n, rfl, by simpa [Lit.wf, IntKind.min, IntKind.max, IntKind.signed, IntKind.bits] using hw⟩⟩
theorem opS (h : P.underlying t = some .string) (hc : P.cellsOf t = 1) : Opn P kS t := ⟨hc, fun H enc w base spare held fuel cs x hx => by
  obtain ⟨n, rfl, _, hw⟩ := DataW.trod_string h hx
  exact ⟨n, rfl, by simpa [maxLen] using hw⟩⟩
theorem opF (h : P.underlying t = some (.float .f64)) (hc : P.cellsOf t = 1) : Opn P kF t := ⟨hc, fun H enc w base spare held fuel cs x hx => by
  cases fuel with
  | zero => simp [DataW.trod] at hx
  | succ n =>
    unfold DataW.trod at hx
    rw [h] at hx
    split at hx <;> simp_all
    rename_i he
    subst he
    obtain ⟨⟨_, hw⟩, _⟩ := hx
    exact ⟨_, rfl, by simpa [Lit.wf] using hw⟩⟩
end
theorem opByte : Opn Try.prog kB 5 := opB Try.underlying5 (by kernel_rfl)
end Go.Proofs.Ytgmbfecfkdbfaaa.Wi
/- The laws' put: a piece, by the program; and what a reader makes of a piece. -/
set_option linter.unusedVariables false
set_option linter.unusedSimpArgs false
namespace Go.Proofs.Ytgmbfecfkdbfaaa.Wi
open Go Go.RowKit Go.Proofs.YtgmbfecfkdbfaaaW.PrintWords
section
variable {w : World} {B g : Nat} {ro : Option Nat} {s : WS}
end
end Go.Proofs.Ytgmbfecfkdbfaaa.Wi
/- The laws' readers: does a piece come out as nothing, or as it was put? -/
set_option linter.unusedVariables false
set_option linter.unusedSimpArgs false
namespace Go.Proofs.Ytgmbfecfkdbfaaa.Wi
open Go Go.RowKit Go.Proofs.YtgmbfecfkdbfaaaW.PrintWords
def rNum (bs : List Int) (r : RS) (size : Int) := r.take bs (0 : Int) (fun l => gNumber l size)
def rInt (bs : List Int) (r : RS) := r.take bs (0 : Int) gInt
def rFlo (bs : List Int) (r : RS) := r.take bs (0 : Nat) gFloat
def rBoo (bs : List Int) (r : RS) := r.take bs false gBool
def rTex (bs : List Int) (r : RS) (most : Int) := r.take bs ([] : List Int) (fun l => gText l most)
def rFix (bs : List Int) (r : RS) (size : Int) := r.take bs ([] : List Int) (fun l => gFixed l size)
def rCou (bs : List Int) (r : RS) (most : Int) := r.take bs (0 : Int) (fun l => gCount l most)
section
variable {w : World} {B g : Nat} {ro : Option Nat} {bs : List Int} {r : RS}
theorem RPost.from {u : Value} {w1 w' : World} {e : Ending} (h : RPost B g ro bs u r w1 e w') (hb : Below w.heap.size w w1) : RPost B g ro bs u r w e w' :=
  ⟨h.1, h.2.1, (Fr.of_below hb).trans h.2.2 (fun _ _ h => h)⟩
end
end Go.Proofs.Ytgmbfecfkdbfaaa.Wi
/- The laws' awake: the document's examples hold. -/
set_option linter.unusedVariables false
set_option linter.unusedSimpArgs false
namespace Go.Proofs.Ytgmbfecfkdbfaaa.Wi
open Go Go.RowKit Go.Proofs.YtgmbfecfkdbfaaaW.PrintWords
/-- a writer of the call's own -/
def WAt (w W : World) (g : Nat) (s : WS) : Prop := Below w.heap.size w W ∧ ∃ ro, Wr W w.heap.size g ro s
/-- a reader of the call's own -/
def RAt (w W : World) (g : Nat) (bs : List Int) (r : RS) : Prop := Below w.heap.size w W ∧ ∃ ro, Rd W w.heap.size g ro bs r
section
variable {w W : World} {g : Nat} {s s' : WS} {bs : List Int} {r r' : RS}
theorem WAt.of {ro : Option Nat} {e : Ending} {W' : World} (hb : Below w.heap.size w W) (hw : Wr W w.heap.size g ro s) (h : WPost w.heap.size g ro s' W e W') : e = .returned (.tuple #[]) ∧ WAt w W' g s' := by
  obtain ⟨he, ro', hw', _, hf⟩ := h
  exact ⟨he, hb.trans (hf.below hb.size (fun i hi => by
    rcases hi with rfl | hi
    · exact hw.base
    · exact (hw.ro_lt i hi).1)), ro', hw'⟩
theorem RAt.of {ro : Option Nat} {e : Ending} {W' : World} {u : Value} (hb : Below w.heap.size w W) (hw : Rd W w.heap.size g ro bs r) (h : RPost w.heap.size g ro bs u r' W e W') : e = .returned u ∧ RAt w W' g bs r' ∧ Fr (fun i => i = g) W W' := by
  obtain ⟨he, hw', hf⟩ := h
  exact ⟨he, ⟨hb.trans (hf.below hb.size (fun i hi => by
    subst hi
    exact hw.base)), ⟨ro, hw'⟩⟩, hf⟩
theorem Rd.lower {B B' : Nat} {ro : Option Nat} (h : Rd w B g ro bs r) (hB : B' ≤ B) : Rd w B' g ro bs r := by
  obtain ⟨v, hb, ho, hr⟩ := h.at_
  exact ⟨⟨v, hb, own_upto ho (fun k hk => Nat.le_trans hB (own_base ho k hk)), hr⟩, Nat.le_trans hB h.base, h.le, h.byt, h.len⟩
theorem Wr.lower {B B' : Nat} {ro : Option Nat} (h : Wr w B g ro s) (hB : B' ≤ B) : Wr w B' g ro s := by
  obtain ⟨v, hb, ho, hr⟩ := h.at_
  exact ⟨⟨v, hb, own_upto ho (fun k hk => Nat.le_trans hB (own_base ho k hk)), hr⟩, Nat.le_trans hB h.base⟩
theorem WAt.number (h : WAt w W g s) (n size : Int) (hn : n ≤ 9223372036854775807) (hs : s.put (pNumber n size) = s') (hl : s'.xs.length ≤ 140737488355328) : Calls Try.prog 111 #[.pointer (some ⟨g, 0, none⟩), .int .i64 n, .int .i64 size] W fun e W' => e = .returned (.tuple #[]) ∧ WAt w W' g s' := by
  obtain ⟨hb, ro, hw⟩ := h
  subst hs
  exact (wNumber_calls n size hn hw hb.size hl).mono fun e W' h => WAt.of hb hw h
theorem WAt.bool (h : WAt w W g s) (is : Bool) (hs : s.put (pBool is) = s') (hl : s'.xs.length ≤ 140737488355328) : Calls Try.prog 156 #[.pointer (some ⟨g, 0, none⟩), .bool is] W fun e W' => e = .returned (.tuple #[]) ∧ WAt w W' g s' := by
  obtain ⟨hb, ro, hw⟩ := h
  subst hs
  exact (wBool_calls is hw hb.size hl).mono fun e W' h => WAt.of hb hw h
theorem WAt.count (h : WAt w W g s) (n : Int) (hn : n ≤ 9223372036854775807) (hs : s.put (pNumber n 2) = s') (hl : s'.xs.length ≤ 140737488355328) : Calls Try.prog 158 #[.pointer (some ⟨g, 0, none⟩), .int .i64 n] W fun e W' => e = .returned (.tuple #[]) ∧ WAt w W' g s' := by
  obtain ⟨hb, ro, hw⟩ := h
  subst hs
  exact (wCount_calls n hn hw hb.size hl).mono fun e W' h => WAt.of hb hw h
theorem RAt.number (h : RAt w W g bs r) (size x : Int) (hs : rNum bs r size = (x, r')) : Calls Try.prog 112 #[.pointer (some ⟨g, 0, none⟩), .int .i64 size] W fun e W' => e = .returned (.int .i64 x) ∧ RAt w W' g bs r' ∧ Fr (fun i => i = g) W W' := by
  obtain ⟨hb, ro, hw⟩ := h
  have C := rNumber_calls size hw hb.size
  unfold rNum at hs
  rw [hs] at C
  exact C.mono fun e W' h => RAt.of hb hw h
theorem RAt.bool (h : RAt w W g bs r) (x : Bool) (hs : rBoo bs r = (x, r')) : Calls Try.prog 157 #[.pointer (some ⟨g, 0, none⟩)] W fun e W' => e = .returned (.bool x) ∧ RAt w W' g bs r' ∧ Fr (fun i => i = g) W W' := by
  obtain ⟨hb, ro, hw⟩ := h
  have C := rBool_calls hw hb.size
  unfold rBoo at hs
  rw [hs] at C
  exact C.mono fun e W' h => RAt.of hb hw h
theorem RAt.count (h : RAt w W g bs r) (most x : Int) (hs : rCou bs r most = (x, r')) : Calls Try.prog 159 #[.pointer (some ⟨g, 0, none⟩), .int .i64 most] W fun e W' => e = .returned (.int .i64 x) ∧ RAt w W' g bs r' ∧ Fr (fun i => i = g) W W' := by
  obtain ⟨hb, ro, hw⟩ := h
  have C := rCount_calls most hw hb.size
  unfold rCou at hs
  rw [hs] at C
  exact C.mono fun e W' h => RAt.of hb hw h
theorem RAt.end' (h : RAt w W g bs r) : Calls Try.prog 101 #[.pointer (some ⟨g, 0, none⟩)] W fun e W' => e = .returned (.agg #[.int .i64 (r.end_ bs.length).code, .int .i64 (r.end_ bs.length).fat]) ∧ RAt w W' g bs (r.end_ bs.length) ∧ Fr (fun i => i = g) W W' := by
  obtain ⟨hb, ro, hw⟩ := h
  exact (rEnd_calls hw).mono fun e W' h => RAt.of hb hw h
theorem RAt.below (h : RAt w W g bs r) {W' : World} (hb : Below W.heap.size W W') : RAt w W' g bs r := by
  obtain ⟨hb0, ro, hw⟩ := h
  exact ⟨below_then hb0 hb0.size hb, ro, hw.below hb⟩
theorem RAt.lt (h : RAt w W g bs r) : g < W.heap.size := by
  obtain ⟨hb0, ro, hw⟩ := h
  exact hw.lt
theorem WAt.below (h : WAt w W g s) {W' : World} (hb : Below W.heap.size W W') : WAt w W' g s := by
  obtain ⟨hb0, ro, hw⟩ := h
  exact ⟨below_then hb0 hb0.size hb, ro, hw.below hb⟩
theorem newR (hb : Below w.heap.size w W) (A : Option Addr) (c : Nat) (hr : ReadsInt W .u8 A bs.length bs) (hB : Bytes bs) (hl : bs.length ≤ 140737488355328) : Calls Try.prog 100 #[.slice A bs.length c] W fun e W' => ∃ g, e = .returned (.pointer (some ⟨g, 0, none⟩)) ∧ RAt w W' g bs ⟨0, 0, 0, 0⟩ ∧ Below W.heap.size W W' := by
  refine (newReader_calls A c bs W hr hB hl).mono fun e W' h => ?_
  obtain ⟨g, ro, he, hrd, hb'⟩ := h
  exact ⟨g, he, ⟨below_then hb hb.size hb', ro, hrd.lower hb.size⟩, hb'⟩
theorem newW (hb : Below w.heap.size w W) : Calls Try.prog 51 #[] W fun e W' => e = .returned (.pointer (some ⟨W.heap.size, 0, none⟩)) ∧ WAt w W' W.heap.size ⟨[], false⟩ ∧ Below W.heap.size W W' := by
  refine (newWriter_calls W).mono fun e W' h => ?_
  obtain ⟨he, hw, hb'⟩ := h
  exact ⟨he, ⟨below_then hb hb.size hb', none, hw.lower hb.size⟩, hb'⟩
theorem WAt.bytes (h : WAt w W g s) (hl : s.xs.length ≤ 140737488355328) : Calls Try.prog 55 #[.pointer (some ⟨g, 0, none⟩)] W fun e W' => ∃ A c, e = .returned (.tuple #[.slice A s.out.length c, .int .i64 s.err]) ∧ ReadsInt W' .u8 A s.out.length s.out ∧ Below w.heap.size w W' := by
  obtain ⟨hb, ro, hw⟩ := h
  refine (wBytes_calls hw hl).mono fun e W' h => ?_
  obtain ⟨v, rfl, ho, hb'⟩ := h
  obtain ⟨A, c, rfl, _, hr⟩ := own_reads' ho
  exact ⟨A, c, rfl, hr, below_then hb hb.size hb'⟩
end
def exB : List Int := [1, 2, 1, 0, 2, 97, 98, 0, 3]
theorem exBytes : Bytes exB := by unfold exB Bytes; decide
theorem ex1 : (⟨[], false⟩ : WS).put (pNumber 258 2) = ⟨[1, 2], false⟩ := rfl
theorem ex2 : (⟨[1, 2], false⟩ : WS).put (pBool true) = ⟨[1, 2, 1], false⟩ := rfl
theorem ex3 : (⟨[1, 2, 1], false⟩ : WS).put (pText ⟨#[97, 98]⟩) = ⟨[1, 2, 1, 0, 2, 97, 98], false⟩ := rfl
theorem ex4 : (⟨[1, 2, 1, 0, 2, 97, 98], false⟩ : WS).put (pNumber 3 2) = ⟨exB, false⟩ := rfl
theorem ey1 : rNum exB ⟨0, 0, 0, 0⟩ 2 = (258, ⟨2, 0, 0, 0⟩) := rfl
theorem ey2 : rBoo exB ⟨2, 0, 0, 0⟩ = (true, ⟨3, 2, 0, 0⟩) := rfl
theorem ey3 : rTex exB ⟨3, 2, 0, 0⟩ 5 = ([97, 98], ⟨7, 3, 0, 0⟩) := rfl
theorem ey4 : rCou exB ⟨7, 3, 0, 0⟩ 3 = (3, ⟨9, 7, 0, 0⟩) := rfl
theorem ey5 : rBoo exB ⟨9, 7, 0, 0⟩ = (false, ⟨9, 7, 10, 9⟩) := rfl
theorem exStr : strOfNums exB = ⟨#[1, 2, 1, 0, 2, 97, 98, 0, 3]⟩ := rfl
theorem exStr2 : strOfNums [97, 98] = ⟨#[97, 98]⟩ := rfl
end Go.Proofs.Ytgmbfecfkdbfaaa.Wi
/- WireFault: behind the first fault nothing is taken any more, and it stays; a fault that is made stands where the last piece began. -/
set_option linter.unusedVariables false
set_option linter.unusedSimpArgs false
namespace Go.Proofs.Ytgmbfecfkdbfaaa.Wi
open Go Go.RowKit Go.Proofs.YtgmbfecfkdbfaaaW.PrintWords
theorem take_bad {α : Type} {bs : List Int} {r : RS} (h : r.code ≠ 0) (d : α) (G : List Int → Except Int (α × Nat)) : r.take bs d G = (d, r) := by
  unfold RS.take
  rw [if_pos h]
theorem empty_str : (strOfNums []).toList.isEmpty = true := by
  simp [strOfNums, ByteArray.toList, ByteArray.toList.loop, ByteArray.size]
theorem take_good {α : Type} {bs : List Int} {r : RS} (h : r.code = 0) (d : α) (G : List Int → Except Int (α × Nat)) : (r.take bs d G).2.code = 0 → (r.take bs d G).2.last = r.at_ ∨ ∃ e, G (bs.drop r.at_) = .error e ∧ e = 0 := by
  unfold RS.take
  rw [if_neg (by simp [h])]
  cases hg : G (bs.drop r.at_) with
  | ok p => intro _; exact .inl rfl
  | error e => intro he; exact .inr ⟨e, rfl, he⟩
theorem gNumber_err {l : List Int} {size e : Int} (h : gNumber l size = .error e) : e ≠ 0 := by
  unfold gNumber at h
  repeat' split at h
  all_goals first | (injection h with h; omega) | cases h
theorem gInt_err {l : List Int} {e : Int} (h : gInt l = .error e) : e ≠ 0 := by
  unfold gInt at h
  repeat' split at h
  all_goals first | (injection h with h; omega) | cases h
theorem gFloat_err {l : List Int} {e : Int} (h : gFloat l = .error e) : e ≠ 0 := by
  unfold gFloat at h
  repeat' split at h
  all_goals first | (injection h with h; omega) | cases h
theorem gBool_err {l : List Int} {e : Int} (h : gBool l = .error e) : e ≠ 0 := by
  unfold gBool at h
  repeat' split at h
  all_goals first | (injection h with h; omega) | cases h
theorem gText_err {l : List Int} {most e : Int} (h : gText l most = .error e) : e ≠ 0 := by
  unfold gText at h
  repeat' split at h
  all_goals first | (injection h with h; omega) | cases h
theorem gFixed_err {l : List Int} {size e : Int} (h : gFixed l size = .error e) : e ≠ 0 := by
  unfold gFixed at h
  repeat' split at h
  all_goals first | (injection h with h; omega) | cases h
theorem gCount_err {l : List Int} {most e : Int} (h : gCount l most = .error e) : e ≠ 0 := by
  unfold gCount at h
  repeat' split at h
  all_goals first | (injection h with h; omega) | cases h
theorem take_last {α : Type} {bs : List Int} {r : RS} (h : r.code = 0) (d : α) (G : List Int → Except Int (α × Nat)) (hG : ∀ l e, G l = .error e → e ≠ 0) (hc : (r.take bs d G).2.code = 0) : (r.take bs d G).2.last = r.at_ := by
  rcases take_good h d G hc with h1 | ⟨e, h1, h2⟩
  · exact h1
  · exact absurd h2 (hG _ _ h1)
end Go.Proofs.Ytgmbfecfkdbfaaa.Wi
/- Plain laws of pieces: what is put is taken; what is taken is put; bytes of parts. No program in sight. -/
set_option linter.unusedVariables false
set_option linter.unusedSimpArgs false
namespace Go.Proofs.Ytgmbfecfkdbfaaa.Wi
open Go Go.RowKit Go.Proofs.YtgmbfecfkdbfaaaW.PrintWords
theorem put_nil (s : WS) : s.put (some []) = s := by
  cases s with
  | mk xs bad => cases bad <;> simp [WS.put]
theorem put_len (s : WS) (o : Option (List Int)) (h : ∀ ys, o = some ys → ys.length ≤ 65537) : (s.put o).xs.length ≤ s.xs.length + 65537 := by
  unfold WS.put
  split
  · omega
  · cases o with
    | none => simp
    | some ys =>
      have := h ys rfl
      simp only [List.length_append]
      omega
theorem take_app {α : Type} (ys rest : List α) : (ys ++ rest).take ys.length = ys := by simp
/-- what was put is taken -/
theorem val_take_be (n s : Nat) (rest : List Int) (h : n < 256 ^ s) : Wi.val ((be n s ++ rest).take s) = n := by
  have := take_app (be n s) rest
  rw [be_length] at this
  rw [this, val_be s n h]
theorem fits_lt {n size : Int} (hz : sizedB size = true) (hf : fitsB n size = true) (hn : n ≤ 9223372036854775807) : 0 ≤ n ∧ n.toNat < 256 ^ size.toNat ∧ n.toNat < 9223372036854775808 := by
  have hz' : 1 ≤ size ∧ size ≤ 8 := by simpa [sizedB] using hz
  have hf' : 0 ≤ n ∧ (size = 8 ∨ n < 256 ^ size.toNat) := by simpa [fitsB] using hf
  obtain ⟨h0, h1⟩ := hf'
  refine ⟨h0, ?_, by omega⟩
  rcases h1 with rfl | h1
  · have : (256 : Nat) ^ (8 : Int).toNat = 18446744073709551616 := by decide
    omega
  · have h2 : ((n.toNat : Nat) : Int) < ((256 ^ size.toNat : Nat) : Int) := by
      rw [Int.natCast_pow, Int.toNat_of_nonneg h0]
      exact h1
    omega
theorem gNumber_put {n size : Int} {ys rest : List Int} (hn : n ≤ 9223372036854775807) (h : pNumber n size = some ys) : gNumber (ys ++ rest) size = .ok (n, ys.length) := by
  unfold pNumber at h
  split at h
  · rename_i hc
    simp only [Bool.and_eq_true] at hc
    obtain rfl := Option.some.inj h
    obtain ⟨h0, h1, h2⟩ := fits_lt hc.1 hc.2 hn
    have hz' : 1 ≤ size ∧ size ≤ 8 := by simpa [sizedB] using hc.1
    have hv := val_take_be n.toNat size.toNat rest h1
    unfold gNumber
    rw [if_neg (by simp [hc.1]), if_neg (by rw [List.length_append, be_length]; omega), hv, if_neg (by omega), be_length]
    congr 2
    omega
  · cases h
theorem asInt_mod (n : Int) (h : I64 n) : asInt (n % 18446744073709551616).toNat = n := by
  unfold asInt I64 at *
  split <;> omega
theorem gInt_put {n : Int} {ys rest : List Int} (hn : I64 n) (h : pInt n = some ys) : gInt (ys ++ rest) = .ok (n, ys.length) := by
  obtain rfl := Option.some.inj h
  have hm : (n % 18446744073709551616).toNat < 256 ^ 8 := by
    have h1 := Int.emod_lt_of_pos n (show (0 : Int) < 18446744073709551616 by omega)
    have h2 := Int.emod_nonneg n (show (18446744073709551616 : Int) ≠ 0 by omega)
    have : (256 : Nat) ^ 8 = 18446744073709551616 := by decide
    omega
  unfold gInt
  rw [if_neg (by rw [List.length_append, be_length]; omega), val_take_be _ 8 rest hm, asInt_mod n hn, be_length]
theorem fBits_lt {n : Nat} (h : n < 18446744073709551616) : fBits n < 256 ^ 8 := by
  have : (256 : Nat) ^ 8 = 18446744073709551616 := by decide
  unfold fBits nanBits
  split <;> omega
theorem fBits_ok (n : Nat) : ¬ (isNan (fBits n) = true ∧ fBits n ≠ nanBits) := by
  unfold fBits
  split
  · simp
  · rename_i h
    intro hc
    exact h hc.1
theorem fBits_nan {n : Nat} (h : isNan n = true) : fBits n = nanBits := by unfold fBits; rw [if_pos h]
theorem fBits_num {n : Nat} (h : ¬ isNan n = true) : fBits n = n := by unfold fBits; rw [if_neg h]
theorem fBits_idem (n : Nat) : fBits (fBits n) = fBits n := by
  have h := fBits_ok n
  by_cases hn : isNan (fBits n) = true
  · rcases Nat.decEq (fBits n) nanBits with he | he
    · exact absurd ⟨hn, he⟩ h
    · rw [fBits_nan hn, he]
  · exact fBits_num hn
theorem gFloat_put {n : Nat} {ys rest : List Int} (hn : n < 18446744073709551616) (h : pFloat n = some ys) : gFloat (ys ++ rest) = .ok (fBits n, ys.length) := by
  obtain rfl := Option.some.inj h
  unfold gFloat
  rw [if_neg (by rw [List.length_append, be_length]; omega), val_take_be _ 8 rest (fBits_lt hn), if_neg (fBits_ok n), be_length]
theorem gBool_put {is : Bool} {ys rest : List Int} (h : pBool is = some ys) : gBool (ys ++ rest) = .ok (is, ys.length) := by
  cases is <;>
  · obtain rfl := Option.some.inj h
    rfl
theorem strOf_strBytes (s : ByteArray) : strOfNums (strBytes s) = s := by
  obtain ⟨⟨l⟩⟩ := s
  simp only [strOfNums, strBytes, List.map_map]
  congr 2
  conv => rhs; rw [← List.map_id l]
  apply List.map_congr_left
  intro b _
  simp
theorem gText_put {s : ByteArray} {ys rest : List Int} (h : pText s = some ys) : gText (ys ++ rest) (s.size : Int) = .ok (strBytes s, ys.length) := by
  unfold pText at h
  split at h
  · rename_i hs
    obtain rfl := Option.some.inj h
    have hp : (256 : Nat) ^ 2 = 65536 := by decide
    have hv : Wi.val ((be s.size 2 ++ strBytes s ++ rest).take 2) = s.size := by
      rw [List.append_assoc]
      exact val_take_be s.size 2 _ (by omega)
    have hl : (be s.size 2 ++ strBytes s ++ rest).length = 2 + s.size + rest.length := by
      rw [List.length_append, List.length_append, be_length, strBytes_length]
    have hd : (be s.size 2 ++ strBytes s ++ rest).drop 2 = strBytes s ++ rest := by
      rw [List.append_assoc]
      have := List.drop_left (l₁ := be s.size 2) (l₂ := strBytes s ++ rest)
      rwa [be_length] at this
    unfold gText
    rw [if_neg (by omega), if_neg (by omega), hv, if_neg (by omega), hl, if_neg (by omega), hd]
    have := take_app (strBytes s) rest
    rw [strBytes_length] at this
    rw [this, List.length_append, be_length, strBytes_length]
  · cases h
theorem gFixed_put {s : ByteArray} {size : Int} {ys rest : List Int} (h : pFixed s size = some ys) : gFixed (ys ++ rest) size = .ok (strBytes s, ys.length) := by
  unfold pFixed at h
  split at h
  · rename_i hc
    simp only [fixedB, Bool.and_eq_true, decide_eq_true_eq, beq_iff_eq] at hc
    obtain rfl := Option.some.inj h
    unfold gFixed
    rw [if_neg (by omega), if_neg (by rw [List.length_append, strBytes_length]; omega)]
    have e : size.toNat = (strBytes s).length := by rw [strBytes_length]; omega
    rw [e, take_app]
  · cases h
theorem gCount_put {n : Int} {ys rest : List Int} (hn : n ≤ 9223372036854775807) (h : pNumber n 2 = some ys) : gCount (ys ++ rest) n = .ok (n, ys.length) := by
  unfold pNumber at h
  split at h
  · rename_i hc
    simp only [Bool.and_eq_true] at hc
    obtain rfl := Option.some.inj h
    obtain ⟨h0, h1, h2⟩ := fits_lt hc.1 hc.2 hn
    have hv := val_take_be n.toNat 2 rest h1
    have e2 : (2 : Int).toNat = 2 := rfl
    rw [e2] at *
    unfold gCount
    rw [if_neg (by omega), if_neg (by rw [List.length_append, be_length]; omega), hv, if_neg (by omega), be_length]
    congr 2
    omega
  · cases h
theorem take_ok {α : Type} {bs : List Int} {r : RS} {d : α} {G : List Int → Except Int (α × Nat)} {x : α} {k : Nat} (hc : r.code = 0) (h : G (bs.drop r.at_) = .ok (x, k)) : r.take bs d G = (x, ⟨r.at_ + k, r.at_, 0, r.fat⟩) := by
  unfold RS.take
  rw [if_neg (by simp [hc]), h]
end Go.Proofs.Ytgmbfecfkdbfaaa.Wi
/- Plain laws of pieces: what is taken is put as it stood; the bytes of parts. No program in sight. -/
set_option linter.unusedVariables false
set_option linter.unusedSimpArgs false
namespace Go.Proofs.Ytgmbfecfkdbfaaa.Wi
open Go Go.RowKit Go.Proofs.YtgmbfecfkdbfaaaW.PrintWords
theorem be_take (l : List Int) (n : Nat) (h : Bytes l) (hn : n ≤ l.length) : be (Wi.val (l.take n)) n = l.take n := by
  have h1 := be_val (l.take n) (h.take n)
  rwa [List.length_take, Nat.min_eq_left hn] at h1
theorem strBytes_strOf (l : List Int) (h : Bytes l) : strBytes (strOfNums l) = l := by
  simp only [strBytes, strOfNums, List.map_map]
  conv => rhs; rw [← List.map_id l]
  apply List.map_congr_left
  intro x hx
  have := h x hx
  simp only [Function.comp, UInt8.toNat_ofNat', id]
  omega
theorem gNumber_form {l : List Int} {size x : Int} {k : Nat} (hb : Bytes l) (h : gNumber l size = .ok (x, k)) : pNumber x size = some (l.take k) ∧ k ≤ l.length := by
  have hk := gNumber_le h
  unfold gNumber at h
  split at h
  · cases h
  · rename_i hz
    split at h
    · cases h
    · split at h
      · cases h
      · rename_i hl hv
        injection h with h
        injection h with h1 h2
        subst h1 h2
        have hz2 : sizedB size = true := by simpa using hz
        have hz' : 1 ≤ size ∧ size ≤ 8 := by simpa [sizedB] using hz2
        have hlt := val_take_lt l size.toNat hb hk.1
        have hf : fitsB (Wi.val (l.take size.toNat) : Int) size = true := by
          simp only [fitsB, Bool.and_eq_true, Bool.or_eq_true, decide_eq_true_eq]
          refine ⟨by omega, ?_⟩
          right
          have : ((Wi.val (l.take size.toNat) : Nat) : Int) < ((256 ^ size.toNat : Nat) : Int) := by omega
          rw [Int.natCast_pow] at this
          exact this
        refine ⟨?_, hk.1⟩
        unfold pNumber
        rw [if_pos (by rw [hz2, hf]; rfl), Int.toNat_natCast, be_take l _ hb hk.1]
theorem gInt_form {l : List Int} {x : Int} {k : Nat} (hb : Bytes l) (h : gInt l = .ok (x, k)) : pInt x = some (l.take k) ∧ k ≤ l.length := by
  have hk := gInt_le h
  unfold gInt at h
  split at h
  · cases h
  · injection h with h
    injection h with h1 h2
    subst h1 h2
    have hlt := val_take_lt l 8 hb hk
    have e : (256 : Nat) ^ 8 = 18446744073709551616 := by decide
    rw [e] at hlt
    refine ⟨?_, hk⟩
    unfold pInt
    have : (asInt (Wi.val (l.take 8)) % 18446744073709551616).toNat = Wi.val (l.take 8) := by
      unfold asInt
      split <;> omega
    rw [this, be_take l 8 hb hk]
theorem gFloat_form {l : List Int} {x : Nat} {k : Nat} (hb : Bytes l) (h : gFloat l = .ok (x, k)) : pFloat x = some (l.take k) ∧ k ≤ l.length := by
  have hk := gFloat_le h
  unfold gFloat at h
  split at h
  · cases h
  · split at h
    · cases h
    · rename_i hc
      injection h with h
      injection h with h1 h2
      subst h1 h2
      refine ⟨?_, hk⟩
      have e : fBits (Wi.val (l.take 8)) = Wi.val (l.take 8) := by
        unfold fBits
        split
        · rename_i hn
          rcases Nat.decEq (Wi.val (l.take 8)) nanBits with he | he
          · exact absurd ⟨hn, he⟩ hc
          · exact he.symm
        · rfl
      unfold pFloat
      rw [e, be_take l 8 hb hk]
theorem gBool_form {l : List Int} {x : Bool} {k : Nat} (hb : Bytes l) (h : gBool l = .ok (x, k)) : pBool x = some (l.take k) ∧ k ≤ l.length := by
  have hk := gBool_le h
  unfold gBool at h
  split at h
  · cases h
  · split at h
    · cases h
    · rename_i hv
      injection h with h
      injection h with h1 h2
      subst h1 h2
      refine ⟨?_, hk⟩
      have h3 := be_take l 1 hb hk
      by_cases hv1 : Wi.val (l.take 1) = 1
      · rw [hv1] at h3
        rw [hv1, ← h3]
        rfl
      · have hv0 : Wi.val (l.take 1) = 0 := by omega
        rw [hv0] at h3
        rw [hv0, ← h3]
        rfl
theorem gText_form {l : List Int} {most : Int} {x : List Int} {k : Nat} (hb : Bytes l) (h : gText l most = .ok (x, k)) : pText (strOfNums x) = some (l.take k) ∧ k ≤ l.length := by
  have hk := gText_le h
  unfold gText at h
  split at h
  · cases h
  · split at h
    · cases h
    · split at h
      · cases h
      · split at h
        · cases h
        · rename_i h2 h3 h4
          injection h with h
          injection h with h1 hk2
          subst h1 hk2
          have hlt := val_take_lt l 2 hb (by omega)
          have e : (256 : Nat) ^ 2 = 65536 := by decide
          rw [e] at hlt
          refine ⟨?_, hk⟩
          have hx : Bytes ((l.drop 2).take (Wi.val (l.take 2))) := (hb.drop 2).take _
          have hs : (strOfNums ((l.drop 2).take (Wi.val (l.take 2)))).size = Wi.val (l.take 2) := by
            rw [strOfNums_size, List.length_take, List.length_drop]
            omega
          unfold pText
          rw [if_pos (by omega), hs, strBytes_strOf _ hx, be_take l 2 hb (by omega), ← List.take_add]
theorem gFixed_form {l : List Int} {size : Int} {x : List Int} {k : Nat} (hb : Bytes l) (h : gFixed l size = .ok (x, k)) : pFixed (strOfNums x) size = some (l.take k) ∧ k ≤ l.length := by
  have hk := gFixed_le h
  unfold gFixed at h
  split at h
  · cases h
  · split at h
    · cases h
    · injection h with h
      injection h with h1 h2
      subst h1 h2
      refine ⟨?_, hk⟩
      have hs : (strOfNums (l.take size.toNat)).size = size.toNat := by
        rw [strOfNums_size, List.length_take]
        omega
      unfold pFixed
      rw [if_pos, strBytes_strOf _ (hb.take _)]
      simp only [fixedB, Bool.and_eq_true, decide_eq_true_eq, beq_iff_eq]
      omega
theorem gCount_form {l : List Int} {most x : Int} {k : Nat} (hb : Bytes l) (h : gCount l most = .ok (x, k)) : pNumber x 2 = some (l.take k) ∧ k ≤ l.length := by
  have hk := gCount_le h
  unfold gCount at h
  split at h
  · cases h
  · split at h
    · cases h
    · split at h
      · cases h
      · injection h with h
        injection h with h1 h2
        subst h1 h2
        have hlt := val_take_lt l 2 hb (by omega)
        have e : (256 : Nat) ^ 2 = 65536 := by decide
        rw [e] at hlt
        refine ⟨?_, hk⟩
        have hf : fitsB (Wi.val (l.take 2) : Int) 2 = true := by
          simp only [fitsB, Bool.and_eq_true, Bool.or_eq_true, decide_eq_true_eq]
          refine ⟨by omega, ?_⟩
          right
          show ((Wi.val (l.take 2) : Nat) : Int) < 65536
          omega
        unfold pNumber
        rw [if_pos (by rw [hf]; rfl), Int.toNat_natCast]
        exact congrArg some (be_take l 2 hb (by omega))
/-- a reader behind a piece: it took it, or is at fault where it stood -/
theorem take_cases {α : Type} {bs : List Int} {r : RS} {d : α} {G : List Int → Except Int (α × Nat)} (hc : r.code = 0) (hG : ∀ l e, G l = .error e → e ≠ 0) :
    (∃ x k, G (bs.drop r.at_) = .ok (x, k) ∧ r.take bs d G = (x, ⟨r.at_ + k, r.at_, 0, r.fat⟩)) ∨ (∃ e, e ≠ 0 ∧ r.take bs d G = (d, ⟨r.at_, r.last, e, r.at_⟩)) := by
  cases h : G (bs.drop r.at_) with
  | ok p => exact .inl ⟨p.1, p.2, rfl, take_ok hc h⟩
  | error e =>
    refine .inr ⟨e, hG _ _ h, ?_⟩
    unfold RS.take
    rw [if_neg (by simp [hc]), h]
end Go.Proofs.Ytgmbfecfkdbfaaa.Wi
/- The document's reader: its inner functions. -/
set_option linter.unusedVariables false
set_option linter.unusedSimpArgs false
namespace Go.Proofs.Ytgmbfecfkdbfaaa.Wi
open Go Go.RowKit Go.Proofs.YtgmbfecfkdbfaaaW.PrintWords
/-- the document's reader, in memory -/
structure XR (W : World) (gx : Nat) (A : Option Addr) (c : Nat) (bs : List Int) (r : RS) : Prop where
  blk : W.heap[gx]? = some (.cells #[.slice A bs.length c, .int .i64 r.at_, .int .i64 r.last, .int .i64 r.code, .int .i64 r.fat] 89 (0, 0))
  rd_ : ReadsInt W .u8 A bs.length bs
  far : ∀ ad, A = some ad → 0 < bs.length → ad.block ≠ gx
  le : r.at_ ≤ bs.length
  len : bs.length ≤ 140737488355328
  byt : Bytes bs
  cap : bs.length ≤ c
def RS.badX (r : RS) (e : Int) : RS := if r.code = 0 then ⟨r.at_, r.last, e, r.at_⟩ else r
/-- what a method of the document's reader leaves -/
def XPost (gx : Nat) (A : Option Addr) (c : Nat) (bs : List Int) (v : Value) (r : RS) (w : World) (e : Ending) (w' : World) : Prop :=
  e = .returned v ∧ XR w' gx A c bs r ∧ Fr (fun i => i = gx) w w'
section
variable {w W W' : World} {gx : Nat} {A : Option Addr} {c : Nat} {bs : List Int} {r : RS}
theorem XR.lt (h : XR W gx A c bs r) : gx < W.heap.size := blk_lt h.blk
theorem XR.below (h : XR W gx A c bs r) (hb : Below W.heap.size W W') : XR W' gx A c bs r :=
  ⟨(Fr.of_below (S := fun _ => False) hb).blk h.blk (fun h => h), h.rd_.below hb, h.far, h.le, h.len, h.byt, h.cap⟩
theorem XR.drew (h : XR W gx A c bs r) (n : Nat) : XR (W.drewN n) gx A c bs r := h.below (below_drewN (Below.refl _ _) n)
theorem XR.set_ (h : XR W gx A c bs r) (j : Nat) (u : Value) {cs' : Array Value} (e : (#[.slice A bs.length c, .int .i64 r.at_, .int .i64 r.last, .int .i64 r.code, .int .i64 r.fat] : Array Value).setIfInBounds j u = cs') : (W.setCell ⟨gx, j, none⟩ u).heap[gx]? = some (.cells cs' 89 (0, 0)) := blk_put h.blk j u e
theorem XR.of_keep {r' : RS} (h : XR W gx A c bs r) (hk : KeepBut W W' gx none) (hq : W'.heap[gx]? = some (.cells #[.slice A bs.length c, .int .i64 r'.at_, .int .i64 r'.last, .int .i64 r'.code, .int .i64 r'.fat] 89 (0, 0))) (hle : r'.at_ ≤ bs.length) : XR W' gx A c bs r' :=
  ⟨hq, h.rd_.keep hk h.far, h.far, hle, h.len, h.byt, h.cap⟩
theorem XPost.from {v : Value} {w1 : World} {e : Ending} (h : XPost gx A c bs v r w1 e W') (hf : Fr (fun i => i = gx) w w1) : XPost gx A c bs v r w e W' :=
  ⟨h.1, h.2.1, hf.trans h.2.2 (fun _ _ h => h)⟩
theorem xBad_calls (e : Int) (h : XR w gx A c bs r) : Calls Try.prog 102 #[.pointer (some ⟨gx, 0, none⟩), .int .i64 e] w (XPost gx A c bs (.tuple #[]) (r.badX e) w) := by
  have H := Aside0.mk h
  have d1 : _ = some (Value.int .i64 (r.at_ : Int)) := blk_cell h.blk 1
  have d3 : _ = some (Value.int .i64 r.code) := blk_cell h.blk 3
  have d4 : _ = some (Value.int .i64 r.fat) := blk_cell h.blk 4
  have f3 := blk_frozen h.blk 3
  have f4 := blk_frozen h.blk 4
  by_cases hc : r.code = 0
  · have HB : Aside0 (r.badX e = ⟨r.at_, r.last, e, r.at_⟩) := ⟨by simp [RS.badX, hc]⟩
    have u : (r.code == 0) = true := by simp [hc]
    clear h hc
    go_enter Try.func102, Try.ntmps102
    go_wp2
    go_end0
    rw [HB.out]
    exact ⟨rfl, H.out.of_keep (((KeepBut.refl w gx none).set_ 3 _).set_ 4 _) (blk_put (H.out.set_ 3 _ rfl) 4 _ rfl) H.out.le, ((Fr.refl (fun i => i = gx) w).set_ (.inl rfl) _).set_ (.inl rfl) _⟩
  · have HB : Aside0 (r.badX e = r) := ⟨by simp [RS.badX, hc]⟩
    have u : (r.code == 0) = false := by simp [hc]
    clear h hc
    go_enter Try.func102, Try.ntmps102
    go_wp2
    go_end0
    rw [HB.out]
    exact ⟨rfl, H.out, Fr.refl _ _⟩
theorem xHas_calls (at_ : Nat) (n : Int) (ha : at_ ≤ 2) (h : XR w gx A c bs r) : Calls Try.prog 142 #[.pointer (some ⟨gx, 0, none⟩), .int .i64 at_, .int .i64 n] w (XPost gx A c bs (.bool (decide (n ≤ (bs.length : Int) - r.at_ - at_))) r w) := by
  have H := Aside0.mk h
  have d0 : _ = some (Value.slice A bs.length c) := blk_cell h.blk 0
  have d1 : _ = some (Value.int .i64 (r.at_ : Int)) := blk_cell h.blk 1
  have h1 := h.le
  have h2 := h.len
  clear h
  go_enter Try.func142, Try.ntmps142
  go_wp2
  go_quiet (fail)
  go_wp2
  go_ret
  exact ⟨by go_num, H.out.drew _, Fr.of_below (below_drewN (Below.refl _ _) _)⟩
theorem xSome_yes (n : Int) (hc : r.code = 0) (hn : n ≤ (bs.length : Int) - r.at_) (h : XR w gx A c bs r) : Calls Try.prog 103 #[.pointer (some ⟨gx, 0, none⟩), .int .i64 n] w (XPost gx A c bs (.bool true) r w) := by
  have d3 : _ = some (Value.int .i64 r.code) := blk_cell h.blk 3
  have CH := xHas_calls 0 n (by omega) h
  have u : (r.code != 0) = false := by simp [hc]
  rw [show decide (n ≤ (bs.length : Int) - r.at_ - (0 : Nat)) = true from decide_eq_true (by omega)] at CH
  have C := Aside0.mk CH
  clear hc hn CH h
  go_enter Try.func103, Try.ntmps103
  go_wp2_with (go_at_call 142; refine C.out.mono ?_; rintro e w1 ⟨rfl, X1, f1⟩)
  go_ret
  exact ⟨rfl, X1, f1⟩
theorem xSome_no (n : Int) (hc : r.code = 0) (hn : ¬ n ≤ (bs.length : Int) - r.at_) (h : XR w gx A c bs r) : Calls Try.prog 103 #[.pointer (some ⟨gx, 0, none⟩), .int .i64 n] w (XPost gx A c bs (.bool false) (r.badX 10) w) := by
  have d3 : _ = some (Value.int .i64 r.code) := blk_cell h.blk 3
  have CH := xHas_calls 0 n (by omega) h
  have u : (r.code != 0) = false := by simp [hc]
  rw [show decide (n ≤ (bs.length : Int) - r.at_ - (0 : Nat)) = false from decide_eq_false (by omega)] at CH
  have C := Aside0.mk CH
  clear hc hn CH h
  go_enter Try.func103, Try.ntmps103
  go_wp2_with (first | (go_at_call 142; refine C.out.mono ?_; rintro e w1 ⟨rfl, X1, f1⟩) | (go_at_call 102; refine (xBad_calls 10 X1).mono ?_; rintro e w2 ⟨rfl, X2, f2⟩))
  go_ret
  exact ⟨rfl, X2, f1.trans f2 (fun _ _ h => h)⟩
theorem xSome_off (n : Int) (hc : r.code ≠ 0) (h : XR w gx A c bs r) : Calls Try.prog 103 #[.pointer (some ⟨gx, 0, none⟩), .int .i64 n] w (XPost gx A c bs (.bool false) r w) := by
  have H := Aside0.mk h
  have d3 : _ = some (Value.int .i64 r.code) := blk_cell h.blk 3
  have u : (r.code != 0) = true := bne_iff_ne.2 hc
  clear hc h
  go_enter Try.func103, Try.ntmps103
  go_wp2
  go_ret
  exact ⟨rfl, H.out, Fr.refl _ _⟩
theorem val_step' (xs : List Int) (k : Nat) (h : k < xs.length) (x : Int) (hx : rd xs k = x) (h0 : 0 ≤ x) : ((val (xs.take k) : Int) * 256 + x) = (val (xs.take (k + 1)) : Int) := by
  rw [List.take_succ_eq_append_getElem h, val_snoc]
  have : xs[k] = x := by
    rw [← hx]
    simp [rd, List.getD, h]
  rw [this]
  omega
theorem xNumber0_calls (at_ size : Nat) (ha : at_ ≤ 2) (hs : size ≤ 8) (hle : r.at_ + at_ + size ≤ bs.length) (h : XR w gx A c bs r) : Calls Try.prog 104 #[.pointer (some ⟨gx, 0, none⟩), .int .i64 at_, .int .i64 size] w (XPost gx A c bs (.int .u64 (val ((bs.drop (r.at_ + at_)).take size) : Nat)) r w) := by
  have H := Aside0.mk h
  have HLE := Aside0.mk hle
  have hl2 := h.len
  have hl1 := h.le
  clear h hle
  go_enter Try.func104, Try.ntmps104
  go_wp2
  go_loopg [7, 8] size (fun gg s7 s8 wr => ∃ kk : Nat, kk ≤ size ∧ size - kk ≤ gg ∧ s8 = .int .i64 kk ∧ s7 = .int .u64 (val ((bs.drop (r.at_ + at_)).take kk) : Nat) ∧ Aside0 (XR wr gx A c bs r) ∧ Aside0 (Fr (fun i => i = gx) w wr))
  case atStart => exact ⟨0, Nat.zero_le _, by omega, rfl, by simp [val], H, ⟨Fr.refl _ _⟩⟩
  case round =>
    obtain ⟨kk, hkk, hg, rfl, rfl, HX, HF⟩ := hrel
    by_cases hlt : kk < size
    · have hltz : (kk : Int) < (size : Int) := by omega
      have d0 : _ = some (Value.slice A bs.length c) := blk_cell HX.out.blk 0
      have d1 : _ = some (Value.int .i64 (r.at_ : Int)) := blk_cell HX.out.blk 1
      have hix : ((r.at_ : Int) + at_ + kk) < (bs.length : Int) := by have := HLE.out; omega
      obtain ⟨ad, rfl, hcell⟩ := HX.out.rd_.at_ ((r.at_ : Int) + at_ + kk) (by omega) hix
      have hto : ((r.at_ : Int) + at_ + kk).toNat = r.at_ + at_ + kk := by omega
      rw [hto] at hcell
      obtain ⟨x, hx⟩ : ∃ x, rd bs ((r.at_ : Int) + at_ + kk) = x := ⟨_, rfl⟩
      rw [hx] at hcell
      have hxr : 0 ≤ x ∧ x ≤ 255 := HX.out.byt x (by rw [← hx]; have := rd_mem bs (r.at_ + at_ + kk) (by have := HLE.out; omega); simpa using this)
      have hrx : rd (bs.drop (r.at_ + at_)) kk = x := by
        rw [← hx]
        simp only [rd, Int.toNat_natCast, hto, List.getD, List.getElem?_drop]
      have hst := val_step' (bs.drop (r.at_ + at_)) kk (by rw [List.length_drop]; have := HLE.out; omega) x hrx hxr.1
      have hvl := val_take_lt (bs.drop (r.at_ + at_)) (kk + 1) (HX.out.byt.drop _) (by rw [List.length_drop]; have := HLE.out; omega)
      have hp : (256 : Nat) ^ (kk + 1) ≤ 256 ^ 8 := Nat.pow_le_pow_right (by omega) (by omega)
      have e8 : (256 : Nat) ^ 8 = 18446744073709551616 := by decide
      rw [e8] at hp
      have HST := Aside0.mk hst
      have HW : Aside0 (IntKind.u64.wrap (IntKind.u64.wrap ((val ((bs.drop (r.at_ + at_)).take kk) : Int) * 256) + x) = (val ((bs.drop (r.at_ + at_)).take (kk + 1)) : Int)) := ⟨by
        rw [u64_wrap, u64_wrap]
        omega⟩
      clear hst hvl hp e8 hrx hx
      have hi0 : (0 : Int) ≤ (r.at_ : Int) + at_ + kk := by omega
      have hs1 : IntKind.i64.wrap ((r.at_ : Int) + at_) = (r.at_ : Int) + at_ := IntWalk.i64_in _ (by omega)
      have hs2 : IntKind.i64.wrap ((r.at_ : Int) + at_ + kk) = (r.at_ : Int) + at_ + kk := IntWalk.i64_in _ (by omega)
      go_wp2
      go_quiet (fail)
      clear hs1 hs2 hto
      go_wp2
      go_roundg (size - (kk + 1))
      case measure => omega
      case rel => exact ⟨kk + 1, by omega, by omega, by go_num, by rw [HW.out], ⟨HX.out.drew _⟩, ⟨HF.out.trans (Fr.of_below (below_drewN (Below.refl _ _) _)) (fun _ _ h => h)⟩⟩
    · have hltz : ¬ (kk : Int) < (size : Int) := by omega
      have hke : kk = size := by omega
      subst hke
      go_wp2
      go_ret
      exact ⟨rfl, HX.out, HF.out⟩
theorem xTook_calls (n : Nat) (hn : r.at_ + n ≤ bs.length) (h : XR w gx A c bs r) : Calls Try.prog 105 #[.pointer (some ⟨gx, 0, none⟩), .int .i64 n] w (XPost gx A c bs (.tuple #[]) ⟨r.at_ + n, r.at_, r.code, r.fat⟩ w) := by
  have H := Aside0.mk h
  have HN := Aside0.mk hn
  have d1 : _ = some (Value.int .i64 (r.at_ : Int)) := blk_cell h.blk 1
  have f1 := blk_frozen h.blk 1
  have f2 := blk_frozen h.blk 2
  have h2 := h.len
  have d2 : _ = some (Value.int .i64 (r.last : Int)) := blk_cell h.blk 2
  have hn2 : (r.at_ : Int) + n ≤ 140737488355328 := by omega
  clear h hn
  go_enter Try.func105, Try.ntmps105
  go_wp2
  go_end0
  exact ⟨rfl, H.out.of_keep (((KeepBut.refl w gx none).set_ 2 _).set_ 1 _) (blk_put (H.out.set_ 2 _ rfl) 1 _ (by go_num)) HN.out, ((Fr.refl (fun i => i = gx) w).set_ (.inl rfl) _).set_ (.inl rfl) _⟩
end
end Go.Proofs.Ytgmbfecfkdbfaaa.Wi
/- The document's reader: its methods. -/
set_option linter.unusedVariables false
set_option linter.unusedSimpArgs false
namespace Go.Proofs.Ytgmbfecfkdbfaaa.Wi
open Go Go.RowKit Go.Proofs.YtgmbfecfkdbfaaaW.PrintWords
theorem take_err {α : Type} {bs : List Int} {r : RS} {d : α} {G : List Int → Except Int (α × Nat)} {e : Int} (hc : r.code = 0) (h : G (bs.drop r.at_) = .error e) : r.take bs d G = (d, r.badX e) := by
  unfold RS.take RS.badX
  rw [if_neg (by simp [hc]), h, if_pos hc]
theorem take_errX {α : Type} {bs : List Int} {r : RS} {d : α} {G : List Int → Except Int (α × Nat)} {e : Int} (h : G (bs.drop r.at_) = .error e) : r.take bs d G = (d, r.badX e) := by
  by_cases hc : r.code = 0
  · exact take_err hc h
  · rw [take_bad hc]
    unfold RS.badX
    rw [if_neg hc]
theorem badX_off {r : RS} {e : Int} (he : e ≠ 0) : (r.badX e).code ≠ 0 := by
  unfold RS.badX
  split
  · exact he
  · assumption
section
variable {w W W' : World} {gx : Nat} {A : Option Addr} {c : Nat} {bs : List Int} {r : RS}
set_option maxRecDepth 100000 in
theorem xNum_calls (size : Int) (h : XR w gx A c bs r) : Calls Try.prog 48 #[.pointer (some ⟨gx, 0, none⟩), .int .i64 size] w (XPost gx A c bs (.int .i64 (rNum bs r size).1) (rNum bs r size).2 w) := by
  have H := Aside0.mk h
  have hl := h.len
  have ha := h.le
  by_cases hz : size < 1 ∨ 8 < size
  · have HT : Aside0 (rNum bs r size = (0, r.badX 1)) := ⟨take_errX (by unfold gNumber; rw [if_pos (by simp [sizedB]; omega)])⟩
    have HC : Aside0 ((r.badX 1).code ≠ 0) := ⟨badX_off (by decide)⟩
    clear h
    rcases hz with hz | hz
    · skip
      go_enter Try.func48, Try.ntmps48
      go_wp2_with (first | (go_at_call 102; refine (xBad_calls 1 H.out).mono ?_; rintro e w1 ⟨rfl, X1, f1⟩) | (go_at_call 103; refine (xSome_off size HC.out X1).mono ?_; rintro e w2 ⟨rfl, X2, f2⟩))
      go_ret
      rw [HT.out]
      exact ⟨by first | rfl | (simp; done), X2, (f1).trans f2 (fun _ _ h => h)⟩

    · have hz' : ¬ size < 1 := by omega
      go_enter Try.func48, Try.ntmps48
      go_wp2_with (first | (go_at_call 102; refine (xBad_calls 1 H.out).mono ?_; rintro e w1 ⟨rfl, X1, f1⟩) | (go_at_call 103; refine (xSome_off size HC.out X1).mono ?_; rintro e w2 ⟨rfl, X2, f2⟩))
      go_ret
      rw [HT.out]
      exact ⟨by first | rfl | (simp; done), X2, (f1).trans f2 (fun _ _ h => h)⟩

  · obtain ⟨k, rfl⟩ : ∃ k : Nat, size = k := ⟨size.toNat, by omega⟩
    have hz1 : ¬ (k : Int) < 1 := by omega
    have hz2 : ¬ 8 < (k : Int) := by omega
    have hsz : sizedB (k : Int) = true := by simp [sizedB]; omega
    clear hz
    by_cases hc : r.code = 0
    · by_cases hn : (k : Int) ≤ (bs.length : Int) - r.at_
      · have HC := Aside0.mk hc
        have HN := Aside0.mk hn
        have HLE : Aside0 (r.at_ + 0 + k ≤ bs.length) := ⟨by omega⟩
        have HTK : Aside0 (r.at_ + k ≤ bs.length) := ⟨by omega⟩
        by_cases hv : 9223372036854775808 ≤ val ((bs.drop r.at_).take k)
        · have HT : Aside0 (rNum bs r k = (0, r.badX 11)) := ⟨take_err hc (by unfold gNumber; rw [if_neg (by simp [hsz]), if_neg (by rw [List.length_drop]; omega), if_pos (by simpa using hv)])⟩
          have CN0 := fun (W : World) (h : XR W gx A c bs r) => xNumber0_calls 0 k (by omega) (by omega) HLE.out h
          simp only [Nat.add_zero] at CN0
          have CN := Aside0.mk CN0
          clear CN0
          have HVL := Aside0.mk (val_take_lt (bs.drop r.at_) k (h.byt.drop _) (by rw [List.length_drop]; omega))
          generalize val ((bs.drop r.at_).take k) = v at *
          have hvz : (9223372036854775808 : Int) ≤ (v : Int) := by omega
          clear hsz h hc hn hv
          go_enter Try.func48, Try.ntmps48
          go_wp2_with (first | (go_at_call 103; refine (xSome_yes k HC.out HN.out H.out).mono ?_; rintro e w1 ⟨rfl, X1, f1⟩) | (go_at_call 104; refine (CN.out _ X1).mono ?_; rintro e w2 ⟨rfl, X2, f2⟩) | (go_at_call 102; refine (xBad_calls 11 X2).mono ?_; rintro e w3 ⟨rfl, X3, f3⟩))
          go_ret
          rw [HT.out]
          exact ⟨by first | rfl | (simp; done), X3, ((f1).trans f2 (fun _ _ h => h)).trans f3 (fun _ _ h => h)⟩

        · have HT : Aside0 (rNum bs r k = ((val ((bs.drop r.at_).take k) : Int), ⟨r.at_ + k, r.at_, 0, r.fat⟩)) := ⟨take_ok hc (by unfold gNumber; rw [if_neg (by simp [hsz]), if_neg (by rw [List.length_drop]; omega), if_neg (by simpa using hv)]; simp)⟩
          have CN0 := fun (W : World) (h : XR W gx A c bs r) => xNumber0_calls 0 k (by omega) (by omega) HLE.out h
          simp only [Nat.add_zero] at CN0
          have CN := Aside0.mk CN0
          clear CN0
          have HVL := Aside0.mk (val_take_lt (bs.drop r.at_) k (h.byt.drop _) (by rw [List.length_drop]; omega))
          generalize val ((bs.drop r.at_).take k) = v at *
          have hvz : decide ((9223372036854775808 : Int) ≤ (v : Int)) = false := decide_eq_false (by omega)
          have hvw : wrap64 (v : Int) = (v : Int) := by unfold wrap64; omega
          have HCC := Aside0.mk hc
          clear hsz h hc hn hv
          go_enter Try.func48, Try.ntmps48
          go_wp2_with (first | (go_at_call 103; refine (xSome_yes k HC.out HN.out H.out).mono ?_; rintro e w1 ⟨rfl, X1, f1⟩) | (go_at_call 104; refine (CN.out _ X1).mono ?_; rintro e w2 ⟨rfl, X2, f2⟩) | (go_at_call 105; refine (xTook_calls k (HTK.out) X2).mono ?_; rintro e w3 ⟨rfl, X3, f3⟩))
          go_ret
          rw [HT.out]
          have hX3 := X3
          rw [HCC.out] at hX3
          exact ⟨by first | rfl | (simp; done) | (simp [hvw]; done), hX3, ((f1).trans f2 (fun _ _ h => h)).trans f3 (fun _ _ h => h)⟩

      · have HC := Aside0.mk hc
        have HN := Aside0.mk hn
        have HT : Aside0 (rNum bs r k = (0, r.badX 10)) := ⟨take_err hc (by unfold gNumber; rw [if_neg (by simp [hsz]), if_pos (by rw [List.length_drop]; omega)])⟩
        clear hsz h hc hn
        go_enter Try.func48, Try.ntmps48
        go_wp2_with (first | (go_at_call 103; refine (xSome_no k HC.out HN.out H.out).mono ?_; rintro e w1 ⟨rfl, X1, f1⟩))
        go_ret
        rw [HT.out]
        exact ⟨by first | rfl | (simp; done), X1, f1⟩

    · have HC := Aside0.mk hc
      have HT : Aside0 (rNum bs r k = (0, r)) := ⟨take_bad hc _ _⟩
      clear hsz h hc
      go_enter Try.func48, Try.ntmps48
      go_wp2_with (first | (go_at_call 103; refine (xSome_off k HC.out H.out).mono ?_; rintro e w1 ⟨rfl, X1, f1⟩))
      go_ret
      rw [HT.out]
      exact ⟨by first | rfl | (simp; done), X1, f1⟩

set_option maxHeartbeats 1600000 in
set_option maxRecDepth 100000 in
theorem xInt_calls (h : XR w gx A c bs r) : Calls Try.prog 69 #[.pointer (some ⟨gx, 0, none⟩)] w (XPost gx A c bs (.int .i64 (rInt bs r).1) (rInt bs r).2 w) := by
  have H := Aside0.mk h
  have hl := h.len
  have ha := h.le
  by_cases hc : r.code = 0
  case neg =>
    have HC := Aside0.mk hc
    have HT : Aside0 (rInt bs r = (0, r)) := ⟨take_bad hc _ _⟩
    clear h hc
    go_enter Try.func69, Try.ntmps69
    go_wp2_with (first | (go_at_call 103; refine (xSome_off 8 HC.out H.out).mono ?_; rintro e w1 ⟨rfl, X1, f1⟩))
    go_ret
    rw [HT.out]
    exact ⟨by first | rfl | (simp; done), X1, f1⟩
  by_cases hn : (8 : Int) ≤ (bs.length : Int) - r.at_
  case neg =>
    have HC := Aside0.mk hc
    have HN := Aside0.mk hn
    have HT : Aside0 (rInt bs r = (0, r.badX 10)) := ⟨take_err hc (by unfold gInt; rw [if_pos (by rw [List.length_drop]; omega)])⟩
    clear h hc hn
    go_enter Try.func69, Try.ntmps69
    go_wp2_with (first | (go_at_call 103; refine (xSome_no 8 HC.out HN.out H.out).mono ?_; rintro e w1 ⟨rfl, X1, f1⟩))
    go_ret
    rw [HT.out]
    exact ⟨by first | rfl | (simp; done), X1, f1⟩
  have HC := Aside0.mk hc
  have HN := Aside0.mk hn
  have HLE : Aside0 (r.at_ + 0 + 8 ≤ bs.length) := ⟨by omega⟩
  have HTK : Aside0 (r.at_ + 8 ≤ bs.length) := ⟨by omega⟩
  have HT : Aside0 (rInt bs r = (asInt (val ((bs.drop r.at_).take 8)), ⟨r.at_ + 8, r.at_, 0, r.fat⟩)) := ⟨take_ok hc (by unfold gInt; rw [if_neg (by rw [List.length_drop]; omega)])⟩
  have CN0 := fun (W : World) (h : XR W gx A c bs r) => xNumber0_calls 0 8 (by omega) (by omega) HLE.out h
  simp only [Nat.add_zero] at CN0
  have CN := Aside0.mk CN0
  clear CN0
  have HVL := Aside0.mk (val_take_lt (bs.drop r.at_) 8 (h.byt.drop _) (by rw [List.length_drop]; omega))
  generalize val ((bs.drop r.at_).take 8) = v at *
  have hvw : wrap64 (v : Int) = asInt v := asInt_wrap v HVL.out
  clear h hc hn
  go_enter Try.func69, Try.ntmps69
  go_wp2_with (first | (go_at_call 103; refine (xSome_yes 8 HC.out HN.out H.out).mono ?_; rintro e w1 ⟨rfl, X1, f1⟩) | (go_at_call 104; refine (CN.out _ X1).mono ?_; rintro e w2 ⟨rfl, X2, f2⟩) | (go_at_call 105; refine (xTook_calls 8 (HTK.out) X2).mono ?_; rintro e w3 ⟨rfl, X3, f3⟩))
  go_ret
  rw [HT.out]
  have hX := X3
  rw [HC.out] at hX
  exact ⟨by first | rfl | (simp; done) | (simp [hvw]; done), hX, ((f1).trans f2 (fun _ _ h => h)).trans f3 (fun _ _ h => h)⟩
set_option maxHeartbeats 1600000 in
set_option maxRecDepth 100000 in
theorem xBoo_calls (h : XR w gx A c bs r) : Calls Try.prog 70 #[.pointer (some ⟨gx, 0, none⟩)] w (XPost gx A c bs (.bool (rBoo bs r).1) (rBoo bs r).2 w) := by
  have H := Aside0.mk h
  have hl := h.len
  have ha := h.le
  by_cases hc : r.code = 0
  case neg =>
    have HC := Aside0.mk hc
    have HT : Aside0 (rBoo bs r = (false, r)) := ⟨take_bad hc _ _⟩
    clear h hc
    go_enter Try.func70, Try.ntmps70
    go_wp2_with (first | (go_at_call 103; refine (xSome_off 1 HC.out H.out).mono ?_; rintro e w1 ⟨rfl, X1, f1⟩))
    go_ret
    rw [HT.out]
    exact ⟨by first | rfl | (simp; done), X1, f1⟩
  by_cases hn : (1 : Int) ≤ (bs.length : Int) - r.at_
  case neg =>
    have HC := Aside0.mk hc
    have HN := Aside0.mk hn
    have HT : Aside0 (rBoo bs r = (false, r.badX 10)) := ⟨take_err hc (by unfold gBool; rw [if_pos (by rw [List.length_drop]; omega)])⟩
    clear h hc hn
    go_enter Try.func70, Try.ntmps70
    go_wp2_with (first | (go_at_call 103; refine (xSome_no 1 HC.out HN.out H.out).mono ?_; rintro e w1 ⟨rfl, X1, f1⟩))
    go_ret
    rw [HT.out]
    exact ⟨by first | rfl | (simp; done), X1, f1⟩
  have HC := Aside0.mk hc
  have HN := Aside0.mk hn
  have HLE : Aside0 (r.at_ + 0 + 1 ≤ bs.length) := ⟨by omega⟩
  have HTK : Aside0 (r.at_ + 1 ≤ bs.length) := ⟨by omega⟩
  by_cases hv : 1 < val ((bs.drop r.at_).take 1)
  · have HT : Aside0 (rBoo bs r = (false, r.badX 11)) := ⟨take_err hc (by unfold gBool; rw [if_neg (by rw [List.length_drop]; omega), if_pos hv])⟩
    have CN0 := fun (W : World) (h : XR W gx A c bs r) => xNumber0_calls 0 1 (by omega) (by omega) HLE.out h
    simp only [Nat.add_zero] at CN0
    have CN := Aside0.mk CN0
    clear CN0
    have HVL := Aside0.mk (val_take_lt (bs.drop r.at_) 1 (h.byt.drop _) (by rw [List.length_drop]; omega))
    generalize val ((bs.drop r.at_).take 1) = v at *
    have hvz : (1 : Int) < (v : Int) := by omega
    clear h hc hn hv
    go_enter Try.func70, Try.ntmps70
    go_wp2_with (first | (go_at_call 103; refine (xSome_yes 1 HC.out HN.out H.out).mono ?_; rintro e w1 ⟨rfl, X1, f1⟩) | (go_at_call 104; refine (CN.out _ X1).mono ?_; rintro e w2 ⟨rfl, X2, f2⟩) | (go_at_call 102; refine (xBad_calls 11 X2).mono ?_; rintro e w3 ⟨rfl, X3, f3⟩))
    go_ret
    rw [HT.out]
    exact ⟨by first | rfl | (simp; done), X3, ((f1).trans f2 (fun _ _ h => h)).trans f3 (fun _ _ h => h)⟩
  · have HT : Aside0 (rBoo bs r = (decide (val ((bs.drop r.at_).take 1) = 1), ⟨r.at_ + 1, r.at_, 0, r.fat⟩)) := ⟨take_ok hc (by unfold gBool; rw [if_neg (by rw [List.length_drop]; omega), if_neg hv])⟩
    have CN0 := fun (W : World) (h : XR W gx A c bs r) => xNumber0_calls 0 1 (by omega) (by omega) HLE.out h
    simp only [Nat.add_zero] at CN0
    have CN := Aside0.mk CN0
    clear CN0
    have HVL := Aside0.mk (val_take_lt (bs.drop r.at_) 1 (h.byt.drop _) (by rw [List.length_drop]; omega))
    generalize val ((bs.drop r.at_).take 1) = v at *
    have hvz : ¬ (1 : Int) < (v : Int) := by omega
    have HV : Aside0 (((v : Int) == 1) = decide (v = 1)) := ⟨by rw [Bool.eq_iff_iff]; simp; omega⟩
    clear h hc hn hv
    go_enter Try.func70, Try.ntmps70
    go_wp2_with (first | (go_at_call 103; refine (xSome_yes 1 HC.out HN.out H.out).mono ?_; rintro e w1 ⟨rfl, X1, f1⟩) | (go_at_call 104; refine (CN.out _ X1).mono ?_; rintro e w2 ⟨rfl, X2, f2⟩) | (go_at_call 105; refine (xTook_calls 1 (HTK.out) X2).mono ?_; rintro e w3 ⟨rfl, X3, f3⟩))
    go_ret
    rw [← HV.out] at HT
    rw [HT.out]
    have hX := X3
    rw [HC.out] at hX
    exact ⟨by first | rfl | (simp; done), hX, ((f1).trans f2 (fun _ _ h => h)).trans f3 (fun _ _ h => h)⟩
set_option maxHeartbeats 1600000 in
set_option maxRecDepth 100000 in
theorem xCou_calls (most : Int) (h : XR w gx A c bs r) : Calls Try.prog 78 #[.pointer (some ⟨gx, 0, none⟩), .int .i64 most] w (XPost gx A c bs (.int .i64 (rCou bs r most).1) (rCou bs r most).2 w) := by
  have H := Aside0.mk h
  have hl := h.len
  have ha := h.le
  by_cases hz : most < 0
  · have HT : Aside0 (rCou bs r most = (0, r.badX 1)) := ⟨take_errX (by unfold gCount; rw [if_pos hz])⟩
    have HC : Aside0 ((r.badX 1).code ≠ 0) := ⟨badX_off (by decide)⟩
    clear h
    go_enter Try.func78, Try.ntmps78
    go_wp2_with (first | (go_at_call 102; refine (xBad_calls 1 H.out).mono ?_; rintro e w1 ⟨rfl, X1, f1⟩) | (go_at_call 103; refine (xSome_off 2 HC.out X1).mono ?_; rintro e w2 ⟨rfl, X2, f2⟩))
    go_ret
    rw [HT.out]
    exact ⟨by first | rfl | (simp; done), X2, (f1).trans f2 (fun _ _ h => h)⟩
  by_cases hc : r.code = 0
  case neg =>
    have HC := Aside0.mk hc
    have HT : Aside0 (rCou bs r most = (0, r)) := ⟨take_bad hc _ _⟩
    clear h hc
    go_enter Try.func78, Try.ntmps78
    go_wp2_with (first | (go_at_call 103; refine (xSome_off 2 HC.out H.out).mono ?_; rintro e w1 ⟨rfl, X1, f1⟩))
    go_ret
    rw [HT.out]
    exact ⟨by first | rfl | (simp; done), X1, f1⟩
  by_cases hn : (2 : Int) ≤ (bs.length : Int) - r.at_
  case neg =>
    have HC := Aside0.mk hc
    have HN := Aside0.mk hn
    have HT : Aside0 (rCou bs r most = (0, r.badX 10)) := ⟨take_err hc (by unfold gCount; rw [if_neg hz, if_pos (by rw [List.length_drop]; omega)])⟩
    clear h hc hn
    go_enter Try.func78, Try.ntmps78
    go_wp2_with (first | (go_at_call 103; refine (xSome_no 2 HC.out HN.out H.out).mono ?_; rintro e w1 ⟨rfl, X1, f1⟩))
    go_ret
    rw [HT.out]
    exact ⟨by first | rfl | (simp; done), X1, f1⟩
  have HC := Aside0.mk hc
  have HN := Aside0.mk hn
  have HLE : Aside0 (r.at_ + 0 + 2 ≤ bs.length) := ⟨by omega⟩
  have HTK : Aside0 (r.at_ + 2 ≤ bs.length) := ⟨by omega⟩
  by_cases hv : most < (val ((bs.drop r.at_).take 2) : Int)
  · have HT : Aside0 (rCou bs r most = (0, r.badX 12)) := ⟨take_err hc (by unfold gCount; rw [if_neg hz, if_neg (by rw [List.length_drop]; omega), if_pos hv])⟩
    have CN0 := fun (W : World) (h : XR W gx A c bs r) => xNumber0_calls 0 2 (by omega) (by omega) HLE.out h
    simp only [Nat.add_zero] at CN0
    have CN := Aside0.mk CN0
    clear CN0
    have HVL := Aside0.mk (val_take_lt (bs.drop r.at_) 2 (h.byt.drop _) (by rw [List.length_drop]; omega))
    generalize val ((bs.drop r.at_).take 2) = v at *
    have hvb := HVL.out
    have hvw : wrap64 (v : Int) = (v : Int) := by unfold wrap64; omega
    clear h hc hn hvb
    go_enter Try.func78, Try.ntmps78
    go_wp2_with (first | (go_at_call 103; refine (xSome_yes 2 HC.out HN.out H.out).mono ?_; rintro e w1 ⟨rfl, X1, f1⟩) | (go_at_call 104; refine (CN.out _ X1).mono ?_; rintro e w2 ⟨rfl, X2, f2⟩) | (go_at_call 102; refine (xBad_calls 12 X2).mono ?_; rintro e w3 ⟨rfl, X3, f3⟩))
    go_ret
    rw [HT.out]
    exact ⟨by first | rfl | (simp; done), X3, ((f1).trans f2 (fun _ _ h => h)).trans f3 (fun _ _ h => h)⟩
  · have HT : Aside0 (rCou bs r most = ((val ((bs.drop r.at_).take 2) : Int), ⟨r.at_ + 2, r.at_, 0, r.fat⟩)) := ⟨take_ok hc (by unfold gCount; rw [if_neg hz, if_neg (by rw [List.length_drop]; omega), if_neg hv])⟩
    have CN0 := fun (W : World) (h : XR W gx A c bs r) => xNumber0_calls 0 2 (by omega) (by omega) HLE.out h
    simp only [Nat.add_zero] at CN0
    have CN := Aside0.mk CN0
    clear CN0
    have HVL := Aside0.mk (val_take_lt (bs.drop r.at_) 2 (h.byt.drop _) (by rw [List.length_drop]; omega))
    generalize val ((bs.drop r.at_).take 2) = v at *
    have hvb := HVL.out
    have hvw : wrap64 (v : Int) = (v : Int) := by unfold wrap64; omega
    clear h hc hn hvb
    go_enter Try.func78, Try.ntmps78
    go_wp2_with (first | (go_at_call 103; refine (xSome_yes 2 HC.out HN.out H.out).mono ?_; rintro e w1 ⟨rfl, X1, f1⟩) | (go_at_call 104; refine (CN.out _ X1).mono ?_; rintro e w2 ⟨rfl, X2, f2⟩) | (go_at_call 105; refine (xTook_calls 2 (HTK.out) X2).mono ?_; rintro e w3 ⟨rfl, X3, f3⟩))
    go_ret
    rw [HT.out]
    have hX := X3
    rw [HC.out] at hX
    exact ⟨by first | rfl | (simp; done) | (simp [hvw]; done), hX, ((f1).trans f2 (fun _ _ h => h)).trans f3 (fun _ _ h => h)⟩
theorem mid_eq (l : List Int) (a n : Nat) : (l.take (a + n)).drop a = (l.drop a).take n := by
  rw [List.drop_take, show a + n - a = n by omega]
theorem cut_str (h : XR w gx A c bs r) (a n : Nat) (hle : a + n ≤ bs.length) : ∃ A' c', (∀ W : World, (Instr.slice 24 (.slice A bs.length c) (some (.int .i64 (a : Int))) (some (.int .i64 ((a : Int) + n))) none).run Try.prog W = .ok (.slice A' n c') W) ∧
    (∀ W : World, XR W gx A c bs r → ∀ m, (convert 24 9 (.slice A' n c')).run Try.prog (W.drewN m) = .ok (.string (strOfNums ((bs.drop a).take n))) (W.drewN m)) := by
  obtain ⟨ti, hti, hte⟩ : ∃ i, Try.prog.info? 5 = some i ∧ i.size = 1 := by
    obtain ⟨i, h1, h2⟩ := Option.map_eq_some_iff.1 info_u8
    injection h2 with _ h2
    injection h2 with h2 _
    exact ⟨i, h1, h2⟩
  obtain ⟨A', h1, h2, _⟩ := print_mid_int (P := Try.prog) (k := .u8) 24 5 Try.underlying24 hti hte A c bs (a : Int) ((a : Int) + n) (by omega) (by omega) (by omega) h.cap
  have e1 : ((a : Int) + n).toNat = a + n := by omega
  have e3 : ((bs.take (a + n)).drop a).length = n := by rw [List.length_drop, List.length_take]; omega
  simp only [Int.toNat_natCast, e1, e3] at h1 h2
  refine ⟨A', _, h1, fun W hX m => ?_⟩
  have h3 := h2 W hX.rd_
  rw [mid_eq] at h3
  exact string_of_reads Try.underlying24 Try.underlying5 Try.underlying9 (h3.drewN m)
set_option maxHeartbeats 1600000 in
set_option maxRecDepth 100000 in
theorem xFix_calls (size : Int) (h : XR w gx A c bs r) : Calls Try.prog 49 #[.pointer (some ⟨gx, 0, none⟩), .int .i64 size] w (XPost gx A c bs (.string (strOfNums (rFix bs r size).1)) (rFix bs r size).2 w) := by
  have H := Aside0.mk h
  have hl := h.len
  have ha := h.le
  by_cases hz : size < 0 ∨ 65535 < size
  · have HT : Aside0 (rFix bs r size = ([], r.badX 1)) := ⟨take_errX (by unfold gFixed; rw [if_pos (by omega)])⟩
    have HC : Aside0 ((r.badX 1).code ≠ 0) := ⟨badX_off (by decide)⟩
    clear h
    rcases hz with hz | hz
    · skip
      go_enter Try.func49, Try.ntmps49
      go_wp2_with (first | (go_at_call 102; refine (xBad_calls 1 H.out).mono ?_; rintro e w1 ⟨rfl, X1, f1⟩) | (go_at_call 103; refine (xSome_off size HC.out X1).mono ?_; rintro e w2 ⟨rfl, X2, f2⟩))
      go_ret
      rw [HT.out]
      exact ⟨by first | rfl | (simp; done), X2, (f1).trans f2 (fun _ _ h => h)⟩
    · have hz' : ¬ size < 0 := by omega
      go_enter Try.func49, Try.ntmps49
      go_wp2_with (first | (go_at_call 102; refine (xBad_calls 1 H.out).mono ?_; rintro e w1 ⟨rfl, X1, f1⟩) | (go_at_call 103; refine (xSome_off size HC.out X1).mono ?_; rintro e w2 ⟨rfl, X2, f2⟩))
      go_ret
      rw [HT.out]
      exact ⟨by first | rfl | (simp; done), X2, (f1).trans f2 (fun _ _ h => h)⟩
  obtain ⟨k, rfl⟩ : ∃ k : Nat, size = k := ⟨size.toNat, by omega⟩
  have hz1 : ¬ (k : Int) < 0 := by omega
  have hz2 : ¬ 65535 < (k : Int) := by omega
  by_cases hc : r.code = 0
  case neg =>
    have HC := Aside0.mk hc
    have HT : Aside0 (rFix bs r k = ([], r)) := ⟨take_bad hc _ _⟩
    clear h hc
    go_enter Try.func49, Try.ntmps49
    go_wp2_with (first | (go_at_call 103; refine (xSome_off k HC.out H.out).mono ?_; rintro e w1 ⟨rfl, X1, f1⟩))
    go_ret
    rw [HT.out]
    exact ⟨by first | rfl | (simp; done), X1, f1⟩
  by_cases hn : (k : Int) ≤ (bs.length : Int) - r.at_
  case neg =>
    have HC := Aside0.mk hc
    have HN := Aside0.mk hn
    have HT : Aside0 (rFix bs r k = ([], r.badX 10)) := ⟨take_err hc (by unfold gFixed; rw [if_neg (by omega), if_pos (by rw [List.length_drop]; omega)])⟩
    clear h hc hn
    go_enter Try.func49, Try.ntmps49
    go_wp2_with (first | (go_at_call 103; refine (xSome_no k HC.out HN.out H.out).mono ?_; rintro e w1 ⟨rfl, X1, f1⟩))
    go_ret
    rw [HT.out]
    exact ⟨by first | rfl | (simp; done), X1, f1⟩
  have HC := Aside0.mk hc
  have HN := Aside0.mk hn
  have HT : Aside0 (rFix bs r k = ((bs.drop r.at_).take k, ⟨r.at_ + k, r.at_, 0, r.fat⟩)) := ⟨take_ok hc (by unfold gFixed; rw [if_neg (by omega), if_neg (by rw [List.length_drop]; omega), Int.toNat_natCast])⟩
  have HTK : Aside0 (r.at_ + k ≤ bs.length) := ⟨by omega⟩
  obtain ⟨A', c', hsl, hcv⟩ := cut_str h r.at_ k (by omega)
  have HSL := Aside0.mk hsl
  have HCV := Aside0.mk hcv
  have hs1 : IntKind.i64.wrap ((r.at_ : Int) + k) = (r.at_ : Int) + k := IntWalk.i64_in _ (by omega)
  have HS1 := Aside0.mk hs1
  clear h hc hn hz hsl hcv hs1
  go_enter Try.func49, Try.ntmps49
  go_wp2_with ((go_at_call 103; refine (xSome_yes k HC.out HN.out H.out).mono ?_; rintro e w1 ⟨rfl, X1, f1⟩))
  have hs1 := HS1.out
  have hsl := HSL.out
  have kcv := HCV.out _ X1
  have d0 : _ = Option.some (Value.slice A bs.length c) := blk_cell X1.blk 0
  have d1 : _ = Option.some (Value.int .i64 (r.at_ : Int)) := blk_cell X1.blk 1
  go_quiet (fail)
  have X2 := X1.drew nq
  clear hs1 hsl kcv d0 d1
  go_wp2_with ((go_at_call 105; refine (xTook_calls k (HTK.out) X2).mono ?_; rintro e w3 ⟨rfl, X3, f3⟩))
  go_ret
  rw [HT.out]
  have hX := X3
  rw [HC.out] at hX
  exact ⟨by first | rfl | (simp; done), hX, (f1.trans (Fr.of_below (below_drewN (Below.refl _ _) _)) (fun _ _ h => h)).trans f3 (fun _ _ h => h)⟩
end
end Go.Proofs.Ytgmbfecfkdbfaaa.Wi
/- The document's reader: Text, Fail, End. -/
set_option linter.unusedVariables false
set_option linter.unusedSimpArgs false
namespace Go.Proofs.Ytgmbfecfkdbfaaa.Wi
open Go Go.RowKit Go.Proofs.YtgmbfecfkdbfaaaW.PrintWords
section
variable {w W W' : World} {gx : Nat} {A : Option Addr} {c : Nat} {bs : List Int} {r : RS}
set_option maxHeartbeats 1600000 in
theorem xEnd_calls (h : XR w gx A c bs r) : Calls Try.prog 106 #[.pointer (some ⟨gx, 0, none⟩)] w (XPost gx A c bs (.agg #[.int .i64 (r.end_ bs.length).code, .int .i64 (r.end_ bs.length).fat]) (r.end_ bs.length) w) := by
  have H := Aside0.mk (h.below (below1 (.cells #[.int .i64 0, .int .i64 0] 31)))
  have HN := Aside0.mk (heap_alloc_new w (.cells #[.int .i64 0, .int .i64 0] 31))
  have HF := Aside0.mk (Fr.of_below (S := fun i => i = gx) (below1 (w := w) (.cells #[.int .i64 0, .int .i64 0] 31)))
  have d0 : _ = some (Value.slice A bs.length c) := blk_cell H.out.blk 0
  have d1 : _ = some (Value.int .i64 (r.at_ : Int)) := blk_cell H.out.blk 1
  have hne : w.heap.size ≠ gx := by have := h.lt; omega
  have HNE := Aside0.mk hne
  by_cases hm : r.at_ < bs.length
  · have HB : Aside0 (r.end_ bs.length = r.badX 13) := ⟨by by_cases hc : r.code = 0 <;> simp [RS.end_, RS.badX, hm, hc]⟩
    have hmz : (r.at_ : Int) < (bs.length : Int) := by omega
    have HM := Aside0.mk (fun (W : World) (h : XR W gx A c bs r) => xBad_calls 13 h)
    rw [HB.out]
    have HH := Aside0.mk h
    clear h hm hne HB
    go_enter Try.func106, Try.ntmps106
    go_wp2
    go_quiet (fail)
    have X0 := H.out.drew nq
    have F0 := HF.out.trans (Fr.of_below (S := fun i => i = gx) (below_drewN (Below.refl _ _) nq)) (fun _ _ h => h)
    have Q0 : ((w.alloc (.cells #[.int .i64 0, .int .i64 0] 31)).drewN nq).heap[w.heap.size]? = some (.cells #[.int .i64 0, .int .i64 0] 31 (0, 0)) := HN.out
    clear d0 d1 hmz H HN HF
    generalize (w.alloc (.cells #[.int .i64 0, .int .i64 0] 31)).drewN nq = W0 at *
    obtain ⟨gr, hgr⟩ : ∃ gr, w.heap.size = gr := ⟨_, rfl⟩
    rw [hgr] at Q0 HNE ⊢
    have HGE : Aside0 (w.heap.size ≤ gr) := ⟨by omega⟩
    clear hgr
    generalize r.badX 13 = r' at *
    go_wp2_with (go_at_call 102; refine (HM.out _ X0).mono ?_; rintro e w1 ⟨rfl, X1, f1⟩; have q1 := f1.blk Q0 HNE.out; have b3 : _ = some (Value.int .i64 r'.code) := blk_cell X1.blk 3; have b4 : _ = some (Value.int .i64 r'.fat) := blk_cell X1.blk 4; have e0 : _ = some (Value.int .i64 0) := blk_cell q1 0; have e1 : _ = some (Value.int .i64 0) := blk_cell q1 1; have z0 := blk_frozen q1 0; have z1 := blk_frozen q1 1)
    have hfr := ((F0.trans f1 (fun _ _ h => h)).set_ (p := ⟨gr, 0, none⟩) (.inr HGE.out) (.int .i64 r'.code)).set_ (p := ⟨gr, 1, none⟩) (.inr HGE.out) (.int .i64 r'.fat)
    have hb2 := blk_far (blk_far X1.blk (p := ⟨gr, 0, none⟩) (Ne.symm HNE.out) (.int .i64 r'.code)) (p := ⟨gr, 1, none⟩) (Ne.symm HNE.out) (.int .i64 r'.fat)
    have hq2 := blk_set (blk_set q1 0 (.int .i64 r'.code)) 1 (.int .i64 r'.fat)
    generalize (w1.setCell ⟨gr, 0, none⟩ (.int .i64 r'.code)).setCell ⟨gr, 1, none⟩ (.int .i64 r'.fat) = W2 at hfr hb2 hq2
    have k0 : W2.cell? ⟨gr, 0, none⟩ = some (.int .i64 r'.code) := (blk_cell hq2 0).trans (by simp)
    have k1 : W2.cell? ⟨gr, 1, none⟩ = some (.int .i64 r'.fat) := (blk_cell hq2 1).trans (by simp)
    refine bodyPost_ret (v := .agg #[.int .i64 r'.code, .int .i64 r'.fat]) (by simp [results, Try.results106, go_sem, k0, k1]) rfl ?_
    exact ⟨rfl, HH.out.of_keep ⟨hfr.size, fun i hi hne _ => hfr.block i hi hne⟩ hb2 X1.le, hfr⟩
  · have HB : Aside0 (r.end_ bs.length = r) := ⟨by simp [RS.end_, hm]⟩
    have hmz : decide (r.at_ < bs.length) = false := decide_eq_false (by omega)
    rw [HB.out]
    have HH := Aside0.mk h
    clear h hm hne HB
    go_enter Try.func106, Try.ntmps106
    go_wp2
    go_quiet (fail)
    have X0 := H.out.drew nq
    have F0 := HF.out.trans (Fr.of_below (S := fun i => i = gx) (below_drewN (Below.refl _ _) nq)) (fun _ _ h => h)
    have Q0 : ((w.alloc (.cells #[.int .i64 0, .int .i64 0] 31)).drewN nq).heap[w.heap.size]? = some (.cells #[.int .i64 0, .int .i64 0] 31 (0, 0)) := HN.out
    clear d0 d1 H HN HF
    generalize (w.alloc (.cells #[.int .i64 0, .int .i64 0] 31)).drewN nq = W0 at *
    obtain ⟨gr, hgr⟩ : ∃ gr, w.heap.size = gr := ⟨_, rfl⟩
    rw [hgr] at Q0 HNE ⊢
    have HGE : Aside0 (w.heap.size ≤ gr) := ⟨by omega⟩
    clear hgr
    have b3 : _ = some (Value.int .i64 r.code) := blk_cell X0.blk 3
    have b4 : _ = some (Value.int .i64 r.fat) := blk_cell X0.blk 4
    have e0 : _ = some (Value.int .i64 0) := blk_cell Q0 0
    have e1 : _ = some (Value.int .i64 0) := blk_cell Q0 1
    have z0 := blk_frozen Q0 0
    have z1 := blk_frozen Q0 1
    go_wp2
    have hfr := ((F0).set_ (p := ⟨gr, 0, none⟩) (.inr HGE.out) (.int .i64 r.code)).set_ (p := ⟨gr, 1, none⟩) (.inr HGE.out) (.int .i64 r.fat)
    have hb2 := blk_far (blk_far X0.blk (p := ⟨gr, 0, none⟩) (Ne.symm HNE.out) (.int .i64 r.code)) (p := ⟨gr, 1, none⟩) (Ne.symm HNE.out) (.int .i64 r.fat)
    have hq2 := blk_set (blk_set Q0 0 (.int .i64 r.code)) 1 (.int .i64 r.fat)
    generalize (W0.setCell ⟨gr, 0, none⟩ (.int .i64 r.code)).setCell ⟨gr, 1, none⟩ (.int .i64 r.fat) = W2 at hfr hb2 hq2
    have k0 : W2.cell? ⟨gr, 0, none⟩ = some (.int .i64 r.code) := (blk_cell hq2 0).trans (by simp)
    have k1 : W2.cell? ⟨gr, 1, none⟩ = some (.int .i64 r.fat) := (blk_cell hq2 1).trans (by simp)
    refine bodyPost_ret (v := .agg #[.int .i64 r.code, .int .i64 r.fat]) (by simp [results, Try.results106, go_sem, k0, k1]) rfl ?_
    exact ⟨rfl, HH.out.of_keep ⟨hfr.size, fun i hi hne _ => hfr.block i hi hne⟩ hb2 X0.le, hfr⟩
end
end Go.Proofs.Ytgmbfecfkdbfaaa.Wi
/- WireBack: what is put is taken, piece by piece, whatever stands behind. -/
set_option linter.unusedVariables false
set_option linter.unusedSimpArgs false
namespace Go.Proofs.Ytgmbfecfkdbfaaa.Wi
open Go Go.RowKit Go.Proofs.YtgmbfecfkdbfaaaW.PrintWords
theorem take_step {α : Type} (l : List α) (k : Nat) (h : k < l.length) : l.take (k + 1) = l.take k ++ [l[k]] := List.take_succ_eq_append_getElem h
theorem pNumber_bytes {n size : Int} {ys : List Int} (h : pNumber n size = some ys) : Bytes ys := by
  unfold pNumber at h
  split at h
  · obtain rfl := Option.some.inj h
    exact be_bytes _ _
  · cases h
theorem own_reads'' {w : World} {base n : Nat} {e : TypeId} {k : IntKind} {v : Value} {xs : List Int} (h : w.ownsRow base e 1 v n (nums k xs)) : ∃ (A : Option Addr) (c m : Nat), v = .slice A n c ∧ n ≤ c ∧ ReadsInt w k A n xs := by
  obtain ⟨A, c, h1, h2, h3⟩ := own_reads' h
  exact ⟨A, c, 0, h1, h2, h3⟩
section
variable {w W : World} {g : Nat} {xs : List Int}
theorem newR' {bs : List Int} {n : Nat} (hb : Below w.heap.size w W) (A : Option Addr) (c : Nat) (hr : ReadsInt W .u8 A n bs) (hB : Bytes bs) (hl : bs.length ≤ 140737488355328) : Calls Try.prog 100 #[.slice A n c] W fun e W' => ∃ g, e = .returned (.pointer (some ⟨g, 0, none⟩)) ∧ RAt w W' g bs ⟨0, 0, 0, 0⟩ ∧ Below W.heap.size W W' := by
  have hn : bs.length = n := hr.1
  subst hn
  exact newR hb A c hr hB hl
theorem WAt.bytes_bad (h : WAt w W g ⟨xs, true⟩) (hl : xs.length ≤ 140737488355328) : Calls Try.prog 55 #[.pointer (some ⟨g, 0, none⟩)] W fun e W' => (∃ A c, e = .returned (.tuple #[.slice A 0 c, .int .i64 1])) ∧ Below w.heap.size w W' :=
  (WAt.bytes h hl).mono fun e W' ⟨A, c, he, _, hb⟩ => ⟨⟨A, c, he⟩, hb⟩
theorem WAt.bytes_ok (h : WAt w W g ⟨xs, false⟩) (hl : xs.length ≤ 140737488355328) : Calls Try.prog 55 #[.pointer (some ⟨g, 0, none⟩)] W fun e W' => ∃ A c, e = .returned (.tuple #[.slice A xs.length c, .int .i64 0]) ∧ ReadsInt W' .u8 A xs.length xs ∧ Below w.heap.size w W' :=
  WAt.bytes h hl
end
end Go.Proofs.Ytgmbfecfkdbfaaa.Wi
/- The document's writer: put, Digits, fits. -/
set_option linter.unusedVariables false
set_option linter.unusedSimpArgs false
namespace Go.Proofs.Ytgmbfecfkdbfaaa.Wi
open Go Go.RowKit Go.Proofs.YtgmbfecfkdbfaaaW.PrintWords
/-- the document's writer at block g: its bytes lie in row ro, from block B on -/
structure Vr (w : World) (B g : Nat) (ro : Option Nat) (s : WS) : Prop where
  at_ : ∃ v, w.heap[g]? = some (.cells #[v, .bool s.bad] 81 (0, 0)) ∧ w.ownsRow B 5 1 v s.xs.length (nums .u8 s.xs) ∧ v.ownBlock = ro
  base : B ≤ g
section
variable {w w' W : World} {B g : Nat} {ro : Option Nat} {s s' : WS}
theorem Vr.lt (h : Vr w B g ro s) : g < w.heap.size := by
  obtain ⟨v, hb, _⟩ := h.at_
  exact blk_lt hb
theorem Vr.keep {S : Nat → Prop} (h : Vr w B g ro s) (hf : Fr S w w') (hg : ¬ S g) (hr : ∀ k, ro = some k → ¬ S k) : Vr w' B g ro s := by
  obtain ⟨v, hb, ho, rfl⟩ := h.at_
  exact ⟨⟨v, hf.blk hb hg, hf.own ho hr, rfl⟩, h.base⟩
theorem Vr.below (h : Vr w B g ro s) (hb : Below w.heap.size w w') : Vr w' B g ro s := h.keep (S := fun _ => False) (Fr.of_below hb) (fun h => h) (fun _ _ h => h)
def VPost (B g : Nat) (ro : Option Nat) (s : WS) (w : World) (e : Ending) (w' : World) : Prop :=
  e = .returned (.tuple #[]) ∧ ∃ ro', Vr w' B g ro' s ∧ (ro' = ro ∨ ∃ b, ro' = some b ∧ w.heap.size ≤ b) ∧ Fr (WrS g ro) w w'
theorem VPost.from {w1 w' : World} {e : Ending} (h : VPost B g ro s w1 e w') (hb : Below w.heap.size w w1) : VPost B g ro s w e w' := by
  obtain ⟨he, ro', h1, h2, h3⟩ := h
  refine ⟨he, ro', h1, ?_, (Fr.of_below hb).trans h3 (fun _ _ h => h)⟩
  rcases h2 with h2 | ⟨b, e, h2⟩
  · exact .inl h2
  · exact .inr ⟨b, e, Nat.le_trans hb.size h2⟩
set_option maxHeartbeats 1600000 in
theorem vput_no (A : Option Addr) (m c : Nat) (hw : Vr w B g ro s) : Calls Try.prog 95 #[.pointer (some ⟨g, 0, none⟩), .bool false, .slice A m c] w (VPost B g ro (s.put none) w) := by
  obtain ⟨v, hb, ho, hro⟩ := hw.at_
  have HB := Aside0.mk hb
  have HO := Aside0.mk ho
  have HW := Aside0.mk hw
  have HRO := Aside0.mk hro
  have c1 : _ = some (Value.bool s.bad) := blk_cell hb 1
  have z1 := blk_frozen hb 1
  have HS : Aside0 (s.put none = ⟨s.xs, true⟩) := ⟨by
    cases s with
    | mk xs bad => cases bad <;> rfl⟩
  rw [HS.out]
  clear hb ho hw hro
  go_enter Try.func95, Try.ntmps95
  go_wp2
  go_end0
  have hf := (Fr.refl (fun i => i = g) w).set_ (p := ⟨g, 1, none⟩) (.inl rfl) (.bool true)
  refine ⟨rfl, ro, ⟨⟨v, blk_put HB.out 1 _ rfl, hf.own HO.out ?_, HRO.out⟩, HW.out.base⟩, .inl rfl, hf.mono (fun i _ h => .inl h)⟩
  rintro k hk rfl
  exact own_ne HO.out HB.out (by decide) hk.symm
set_option maxHeartbeats 1600000 in
theorem vput_yes (A : Option Addr) (m c : Nat) (ys : List Int) (hr : ReadsInt w .u8 A m ys) (hB : B ≤ w.heap.size) (hw : Vr w B g ro s) (hl : (s.put (some ys)).xs.length ≤ 140737488355328) : Calls Try.prog 95 #[.pointer (some ⟨g, 0, none⟩), .bool true, .slice A m c] w (VPost B g ro (s.put (some ys)) w) := by
  obtain ⟨v, hb, ho, hro⟩ := hw.at_
  obtain ⟨xs, bad⟩ := s
  have HB := Aside0.mk hb
  have HO := Aside0.mk ho
  have HW := Aside0.mk hw
  have HRO := Aside0.mk hro
  have HR := Aside0.mk hr
  have hm : ys.length = m := hr.1
  have c0 : _ = some v := blk_cell hb 0
  have c1 : _ = some (Value.bool bad) := blk_cell hb 1
  have z0 := blk_frozen hb 0
  cases bad with
  | true =>
    clear hb ho hw hro hr hl hm
    go_enter Try.func95, Try.ntmps95
    go_wp2
    go_end0
    exact ⟨rfl, ro, HW.out, .inl rfl, Fr.refl _ _⟩
  | false =>
    have hl2 : xs.length + m ≤ 140737488355328 := by simpa [WS.put, hm] using hl
    have HL := Aside0.mk hl2
    have HBS := Aside0.mk hB
    clear hb ho hw hro hr hl hl2 hB
    go_enter Try.func95, Try.ntmps95
    go_wp2_with (at_builtin; (refine wpList_append_row B rfl (.tmp 20) (.tmp 21) 24 5 .u8 1 rfl Try.underlying24 info_u8 (by decide) v xs.length xs ys A m c (by rfl) (by rfl) HO.out HR.out HBS.out (by have := HL.out; omega) ?_; intro v1 w1 ho1 hg1 hv1; obtain ⟨A1, c1, rfl⟩ := own_slice ho1; have hb1 := ((Fr.refl (WrS g ro) w).grown hg1 (fun k hk => .inl (.inr (by rw [← HRO.out, hk])))); have HF1 := Aside0.mk hb1; have HO1 := Aside0.mk ho1; have HV1 := Aside0.mk hv1; have hbk : w1.heap[g]? = some (.cells #[v, .bool false] 81 (0, 0)) := ((hg1.block g (blk_lt HB.out) (own_ne HO.out HB.out (by decide))).trans HB.out); have HB1 := Aside0.mk hbk; have y0 : _ = some v := blk_cell hbk 0; have x0 := blk_frozen hbk 0; clear ho1 hg1 hv1 hb1 hbk))
    go_end0
    have hf := (Fr.refl (fun i => i = g) w1).set_ (p := ⟨g, 0, none⟩) (.inl rfl) (.slice A1 (xs.length + m) c1)
    refine ⟨rfl, (Value.slice A1 (xs.length + m) c1).ownBlock, ⟨⟨.slice A1 (xs.length + m) c1, blk_put HB1.out 0 _ rfl, ?_, rfl⟩, HW.out.base⟩, ?_, HF1.out.trans (hf.mono (S' := WrS g ro) (fun i _ h => .inl h)) (fun _ _ h => h)⟩
    · have h := hf.own HO1.out (fun k hk e => by
        subst e
        exact own_ne HO1.out HB1.out (by decide) hk.symm)
      have e : (xs ++ ys).length = xs.length + m := by rw [List.length_append, hm]
      show (w1.setCell _ _).ownsRow B _ 1 _ (xs ++ ys).length (nums .u8 (xs ++ ys))
      rw [e]
      exact h
    · rcases HV1.out with h | h
      · exact .inl (by rw [h, HRO.out])
      · exact .inr ⟨_, h, Nat.le_refl _⟩
end
theorem reads_one (W : World) (x : Int) : ReadsInt (W.alloc (.cells #[.int .u8 x] 5)) .u8 (some ⟨W.heap.size, 0, none⟩) 1 [x] := by
  have ho := own_lit W W.heap.size 5 .u8 [x] (Nat.le_refl _) (by simp)
  obtain ⟨A, c, h1, _, h2⟩ := own_reads' ho
  injection h1 with h1 _ _
  subst h1
  exact h2
theorem be_take_succ (n : Nat) : ∀ (size kk : Nat), kk < size → (be n size).take (kk + 1) = (be n size).take kk ++ [(((n / 256 ^ (size - 1 - kk)) % 256 : Nat) : Int)]
  | 0, _, h => by omega
  | s + 1, 0, _ => by simp [be]
  | s + 1, kk + 1, h => by
    have ih := be_take_succ n s kk (by omega)
    simp only [be, List.take_succ_cons, List.cons_append]
    rw [ih, show s + 1 - 1 - (kk + 1) = s - 1 - kk by omega]
set_option maxHeartbeats 1600000 in
theorem xDigits_calls (n : Int) (size : Nat) (w : World) (h0 : 0 ≤ n) (h8 : size ≤ 8) :
    Calls Try.prog 97 #[.int .u64 n, .int .i64 size] w fun e w' => ∃ A c, e = .returned (.slice A size c) ∧ ReadsInt w' .u8 A size (be n.toNat size) ∧ w'.ownsRow w.heap.size 5 1 (.slice A size c) size (nums .u8 (be n.toNat size)) ∧ Below w.heap.size w w' := by
  go_enter Try.func97, Try.ntmps97
  go_wp2
  go_loopg [5, 6] size (fun gg s5 s6 wr => ∃ (kk : Nat) (A : Option Addr) (c : Nat), kk ≤ size ∧ size - kk ≤ gg ∧ s6 = .int .i64 ((size : Int) - 1 - kk) ∧ s5 = .slice A kk c ∧ Aside0 (wr.ownsRow w.heap.size 5 1 (.slice A kk c) kk (nums .u8 ((be n.toNat size).take kk))) ∧ Aside0 (Below w.heap.size w wr))
  case atStart => exact ⟨0, none, 0, Nat.zero_le _, by omega, by simp, rfl, ⟨⟨by simp [nums], .inl ⟨rfl, rfl⟩⟩⟩, ⟨Below.refl _ _⟩⟩
  case round =>
    obtain ⟨kk, A, c, hkk, hg, rfl, rfl, HO1, HB1⟩ := hrel
    by_cases hlt : kk < size
    · have hltz : (0 : Int) ≤ (size : Int) - 1 - kk := by omega
      have HOA := Aside0.mk (fun o : Obj => (Fr.of_below (S := fun _ => False) (below1 (w := wr) o)).own HO1.out (fun _ _ h => h))
      go_wp2_with (at_builtin; refine wpList_append_row w.heap.size rfl (.tmp 13) (.tmp 20) 24 5 .u8 1 rfl Try.underlying24 info_u8 (by decide) (.slice A kk c) kk _ _ (some ⟨wr.heap.size, 0, none⟩) 1 1 (by rfl) (by rfl) (HOA.out _) (reads_one wr _) (Nat.le_trans HB1.out.size (below1 _).size) (by omega) ?_; intro v1 w1 ho1 hg1 hv1)
      have ho2 : w1.ownsRow w.heap.size 5 1 v1 (kk + 1) (nums .u8 ((be n.toNat size).take (kk + 1))) := by
        rw [be_take_succ _ _ _ hlt, ← shr_digit n _ h0]
        exact ho1
      obtain ⟨A1, c1, rfl, _, _⟩ := own_reads' ho2
      have HB2 := Aside0.mk ((below_alloc HB1.out _).grown hg1 (Nat.le_trans HB1.out.size (below1 _).size) (own_base HO1.out))
      go_roundg (size - (kk + 1))
      case measure => omega
      case rel => exact ⟨kk + 1, A1, c1, by omega, by omega, by first | go_num | (congr 1; omega), rfl, ⟨ho2⟩, HB2⟩
    · have hltz : ¬ (0 : Int) ≤ (size : Int) - 1 - kk := by omega
      obtain rfl : kk = size := by omega
      go_wp2
      go_ret
      rw [List.take_of_length_le (by rw [be_length]; omega)] at HO1
      obtain ⟨A', c', h1, _, h2⟩ := own_reads' HO1.out
      injection h1 with h1 _ h3
      subst h1 h3
      exact ⟨A, c, rfl, h2, HO1.out, HB1.out⟩
end Go.Proofs.Ytgmbfecfkdbfaaa.Wi
/- The document's writer: fits, and its methods. -/
set_option linter.unusedVariables false
set_option linter.unusedSimpArgs false
namespace Go.Proofs.Ytgmbfecfkdbfaaa.Wi
open Go Go.RowKit Go.Proofs.YtgmbfecfkdbfaaaW.PrintWords
theorem fits_eq (N k : Nat) (h1 : 1 ≤ k) (h8 : k ≤ 8) (hN : N < 9223372036854775808) : ((N / 256 ^ k : Nat) == 0) = fitsB N k := by
  have hp : 0 < 256 ^ k := Nat.pow_pos (by decide)
  by_cases h : N < 256 ^ k
  · have h4 : ((N : Int) < 256 ^ k) := by
      have h5 := Int.ofNat_lt.2 h
      rw [Int.natCast_pow] at h5
      exact h5
    have e1 : fitsB N k = true := by
      unfold fitsB
      rw [Int.toNat_natCast, decide_eq_true h4, decide_eq_true (Int.natCast_nonneg N), Bool.or_true, Bool.and_true]
    rw [Nat.div_eq_of_lt h, e1]
    rfl
  · have h2 : 0 < N / 256 ^ k := Nat.div_pos (by omega) hp
    have h3 : k ≠ 8 := by
      rintro rfl
      exact h (Nat.lt_trans hN (by decide))
    have h4 : ¬ ((N : Int) < 256 ^ k) := by
      intro h5
      refine h (Int.ofNat_lt.1 ?_)
      rw [Int.natCast_pow]
      exact h5
    have h5 : ¬ ((k : Int) = 8) := by omega
    have e1 : fitsB N k = false := by
      unfold fitsB
      rw [Int.toNat_natCast, decide_eq_false h4, decide_eq_false h5, Bool.or_false, Bool.and_false]
    rw [e1]
    exact beq_eq_false_iff_ne.2 (by omega)
set_option maxHeartbeats 1600000 in
theorem vFits_calls (N k : Nat) (w : World) (h1 : 1 ≤ k) (h8 : k ≤ 8) (hN : N < 9223372036854775808) :
    Calls Try.prog 96 #[.int .i64 N, .int .i64 k] w fun e w' => e = .returned (.bool (fitsB N k)) ∧ w = w' := by
  have HF := Aside0.mk (fits_eq N k h1 h8 hN)
  go_enter Try.func96, Try.ntmps96
  go_wp2
  go_loopg [0, 5] k (fun gg s0 s5 wr => ∃ kk : Nat, kk ≤ k ∧ k - kk ≤ gg ∧ s5 = .int .i64 kk ∧ (∃ m : Nat, s0 = .int .i64 m ∧ m ≤ N ∧ Aside0 (m = N / 256 ^ kk)) ∧ wr = w)
  case atStart => exact ⟨0, Nat.zero_le _, by omega, rfl, ⟨N, rfl, Nat.le_refl _, ⟨by simp⟩⟩, rfl⟩
  case round =>
    obtain ⟨kk, hkk, hg, rfl, ⟨m, rfl, hm, HM⟩, rfl⟩ := hrel
    by_cases hlt : kk < k
    · have hltz : (kk : Int) < (k : Int) := by omega
      have hlt8 : (kk : Int) < 8 := by omega
      go_wp2
      go_roundg (k - (kk + 1))
      case measure => omega
      case rel => exact ⟨kk + 1, by omega, by omega, by go_num, ⟨m / 256, by first | rfl | go_num | (congr 1; omega), Nat.le_trans (Nat.div_le_self _ _) hm, ⟨by rw [HM.out, Nat.div_div_eq_div_mul, ← Nat.pow_succ]⟩⟩, rfl⟩
    · have hltz : ¬ (kk : Int) < (k : Int) := by omega
      obtain rfl : kk = k := by omega
      go_wp2
      go_ret
      refine ⟨?_, rfl⟩
      rw [← HF.out, ← HM.out]
      show Ending.returned (Value.bool ((m : Int) == 0)) = Ending.returned (Value.bool (m == 0))
      congr 2
      rw [Bool.eq_iff_iff]
      simp
section
variable {P : Program} {ops : Array Oper} {rest : List Oper} {o : Oper} {a : Act} {Q : Exit → Act → World → Prop}
theorem wpList_append_str {W : World} (base : Nat) (hgd : o.guard = none) (s x : Operand) (t u e : TypeId)
    (ho : o.op = .call { callee := .builtin .append, args := #[s, x], argTypes := #[t, u] })
    (ht : P.underlying t = some (.slice e)) (hu : P.underlying u = some .string) (hinfo : (P.info? e).map (fun i => (i.zero, i.size, i.bytes)) = some (some (.int .u8 0), 1, 1))
    (v : Value) (n : Nat) (xs : List Int) (y : ByteArray) (hs : a.eval s = v) (hx : a.eval x = .string y)
    (HO : W.ownsRow base e 1 v n (nums .u8 xs)) (hbase : base ≤ W.heap.size) (hl : n + y.size ≤ 140737488355328)
    (h : ∀ v1 w1, w1.ownsRow base e 1 v1 (n + y.size) (nums .u8 (xs ++ strBytes y)) → W.grownBy w1 v.ownBlock → wpList P ops Q rest (a.put o.dst v1) w1) : wpList P ops Q (o :: rest) a W :=
  wpList_plain hgd fun K hK => wp_append_str base s x t u e ho ht hu hinfo v n xs y hs hx HO hbase hl (fun v1 w1 h1 h2 => hK _ _ (h v1 w1 h1 h2))
end
section
variable {w w' W : World} {B g : Nat} {ro : Option Nat} {s : WS}
set_option maxHeartbeats 1600000 in
set_option maxRecDepth 100000 in
theorem vNumber_calls (n size : Int) (hn : n ≤ 9223372036854775807) (hw : Vr w B g ro s) (hB : B ≤ w.heap.size) (hl : (s.put (pNumber n size)).xs.length ≤ 140737488355328) :
    Calls Try.prog 43 #[.pointer (some ⟨g, 0, none⟩), .int .i64 n, .int .i64 size] w (VPost B g ro (s.put (pNumber n size)) w) := by
  have HW := Aside0.mk hw
  have HBS := Aside0.mk hB
  by_cases hz : size < 1 ∨ 8 < size
  · have HP : Aside0 (pNumber n size = none) := ⟨by unfold pNumber; rw [if_neg]; simp [sizedB]; omega⟩
    clear hw hB hl
    rcases hz with hz | hz
    · skip
      go_enter Try.func43, Try.ntmps43
      go_wp2_with ((go_at_call 95; refine (vput_no _ _ _ HW.out).mono ?_; rintro e wp ⟨rfl, hP⟩))
      go_end0
      rw [HP.out]
      exact ⟨rfl, hP⟩
    · have hz' : ¬ size < 1 := by omega
      go_enter Try.func43, Try.ntmps43
      go_wp2_with ((go_at_call 95; refine (vput_no _ _ _ HW.out).mono ?_; rintro e wp ⟨rfl, hP⟩))
      go_end0
      rw [HP.out]
      exact ⟨rfl, hP⟩
  · obtain ⟨k, rfl⟩ : ∃ k : Nat, size = k := ⟨size.toNat, by omega⟩
    have hz1 : ¬ (k : Int) < 1 := by omega
    have hz2 : ¬ 8 < (k : Int) := by omega
    have hk1 : 1 ≤ k := by omega
    have hk8 : k ≤ 8 := by omega
    have hsz : sizedB (k : Int) = true := by simp [sizedB]; omega
    clear hz
    by_cases hneg : n < 0
    · have HP : Aside0 (pNumber n k = none) := ⟨by unfold pNumber fitsB; rw [if_neg]; simp [show ¬ 0 ≤ n by omega]⟩
      clear hw hB hl hsz
      go_enter Try.func43, Try.ntmps43
      go_wp2_with ((go_at_call 95; refine (vput_no _ _ _ HW.out).mono ?_; rintro e wp ⟨rfl, hP⟩))
      go_end0
      rw [HP.out]
      exact ⟨rfl, hP⟩
    · obtain ⟨N, rfl⟩ : ∃ N : Nat, n = N := ⟨n.toNat, by omega⟩
      have hN : N < 9223372036854775808 := by omega
      cases hfb : fitsB N k with
      | false =>
        have HFB := Aside0.mk hfb
        have HP : Aside0 (pNumber N k = none) := ⟨by unfold pNumber; rw [hfb]; simp⟩
        clear hw hB hl hsz hfb
        go_enter Try.func43, Try.ntmps43
        go_wp2_with (first | (go_at_call 96; refine (vFits_calls N k _ hk1 hk8 hN).mono ?_; rw [HFB.out]; rintro e w0 ⟨rfl, rfl⟩) | (go_at_call 97; refine (xDigits_calls (N : Int) k _ (by omega) (by omega)).mono ?_; rintro e w1 ⟨A1, c1, rfl, r1, o1, b1⟩; have HR1 := Aside0.mk r1; have HB1 := Aside0.mk b1; have HO1 := Aside0.mk o1; clear r1 b1 o1) | (go_at_call 95; refine (vput_no _ _ _ (HW.out.below HB1.out)).mono ?_; rintro e wp ⟨rfl, hP⟩))
        go_end0
        rw [HP.out]
        exact VPost.from ⟨rfl, hP⟩ HB1.out
      | true =>
        have HFB := Aside0.mk hfb
        have HP : Aside0 (pNumber N k = some (be N k)) := ⟨by unfold pNumber; rw [hfb, hsz]; simp⟩
        rw [HP.out] at hl
        have HLN := Aside0.mk hl
        clear hw hB hl hsz hfb
        go_enter Try.func43, Try.ntmps43
        go_wp2_with (first | (go_at_call 96; refine (vFits_calls N k _ hk1 hk8 hN).mono ?_; rw [HFB.out]; rintro e w0 ⟨rfl, rfl⟩) | (go_at_call 97; refine (xDigits_calls (N : Int) k _ (by omega) (by omega)).mono ?_; rintro e w1 ⟨A1, c1, rfl, r1, o1, b1⟩; have HR1 := Aside0.mk r1; have HB1 := Aside0.mk b1; have HO1 := Aside0.mk o1; clear r1 b1 o1) | (go_at_call 95; refine (vput_yes _ _ _ _ HR1.out (Nat.le_trans HBS.out HB1.out.size) (HW.out.below HB1.out) HLN.out).mono ?_; rintro e wp ⟨rfl, hP⟩))
        go_end0
        rw [HP.out]
        exact VPost.from ⟨rfl, hP⟩ HB1.out
set_option maxHeartbeats 1600000 in
set_option maxRecDepth 100000 in
theorem vInt_calls (n : Int) (hw : Vr w B g ro s) (hB : B ≤ w.heap.size) (hl : (s.put (pInt n)).xs.length ≤ 140737488355328) :
    Calls Try.prog 63 #[.pointer (some ⟨g, 0, none⟩), .int .i64 n] w (VPost B g ro (s.put (pInt n)) w) := by
  have HW := Aside0.mk hw
  have HBS := Aside0.mk hB
  have HLN := Aside0.mk hl
  have hnm : 0 ≤ n % 18446744073709551616 := Int.emod_nonneg _ (by decide)
  clear hw hB hl
  go_enter Try.func63, Try.ntmps63
  go_wp2_with (first | (go_at_call 97; refine (xDigits_calls (n % 18446744073709551616) 8 _ (by omega) (by omega)).mono ?_; rintro e w1 ⟨A1, c1, rfl, r1, o1, b1⟩; have HR1 := Aside0.mk r1; have HB1 := Aside0.mk b1; have HO1 := Aside0.mk o1; clear r1 b1 o1) | (go_at_call 95; refine (vput_yes _ _ _ _ HR1.out (Nat.le_trans HBS.out (HB1.out).size) (HW.out.below HB1.out) HLN.out).mono ?_; rintro e wp ⟨rfl, hP⟩))
  go_end0
  exact VPost.from ⟨rfl, hP⟩ HB1.out
set_option maxHeartbeats 1600000 in
set_option maxRecDepth 100000 in
theorem vBool_calls (is : Bool) (hw : Vr w B g ro s) (hB : B ≤ w.heap.size) (hl : (s.put (pBool is)).xs.length ≤ 140737488355328) :
    Calls Try.prog 64 #[.pointer (some ⟨g, 0, none⟩), .bool is] w (VPost B g ro (s.put (pBool is)) w) := by
  have HW := Aside0.mk hw
  have HBS := Aside0.mk hB
  cases is with
  | true =>
    have HP : Aside0 (pBool true = some [1]) := ⟨rfl⟩
    rw [HP.out] at hl
    have HLN := Aside0.mk hl
    clear hw hB hl
    go_enter Try.func64, Try.ntmps64
    go_wp2_with ((go_at_call 95; refine (vput_yes _ _ _ _ (reads_one w 1) (Nat.le_trans HBS.out ((below1 _)).size) (HW.out.below (below1 _)) HLN.out).mono ?_; rintro e wp ⟨rfl, hP⟩))
    go_end0
    rw [HP.out]
    exact VPost.from ⟨rfl, hP⟩ (below1 _)
  | false =>
    have HP : Aside0 (pBool false = some [0]) := ⟨rfl⟩
    rw [HP.out] at hl
    have HLN := Aside0.mk hl
    clear hw hB hl
    go_enter Try.func64, Try.ntmps64
    go_wp2_with ((go_at_call 95; refine (vput_yes _ _ _ _ (reads_one w 0) (Nat.le_trans HBS.out ((below1 _)).size) (HW.out.below (below1 _)) HLN.out).mono ?_; rintro e wp ⟨rfl, hP⟩))
    go_end0
    rw [HP.out]
    exact VPost.from ⟨rfl, hP⟩ (below1 _)
set_option maxHeartbeats 1600000 in
set_option maxRecDepth 100000 in
theorem vCount_calls (n : Int) (hn : n ≤ 9223372036854775807) (hw : Vr w B g ro s) (hB : B ≤ w.heap.size) (hl : (s.put (pNumber n 2)).xs.length ≤ 140737488355328) :
    Calls Try.prog 76 #[.pointer (some ⟨g, 0, none⟩), .int .i64 n] w (VPost B g ro (s.put (pNumber n 2)) w) := by
  have HW := Aside0.mk hw
  have HBS := Aside0.mk hB
  have HLN := Aside0.mk hl
  clear hw hB hl
  go_enter Try.func76, Try.ntmps76
  go_wp2_with (go_at_call 43; refine (vNumber_calls n 2 hn HW.out HBS.out HLN.out).mono ?_; rintro e wp ⟨rfl, hP⟩)
  go_end0
  exact ⟨rfl, hP⟩
set_option maxHeartbeats 1600000 in
set_option maxRecDepth 100000 in
theorem vFixed_calls (y : ByteArray) (size : Int) (hy : y.size ≤ 9223372036854775807) (hw : Vr w B g ro s) (hB : B ≤ w.heap.size) (hl : (s.put (pFixed y size)).xs.length ≤ 140737488355328) :
    Calls Try.prog 44 #[.pointer (some ⟨g, 0, none⟩), .string y, .int .i64 size] w (VPost B g ro (s.put (pFixed y size)) w) := by
  have HW := Aside0.mk hw
  have HBS := Aside0.mk hB
  have kb := fun W : World => print_bytes (P := Try.prog) 9 24 5 Try.underlying9 Try.underlying24 Try.underlying5 y W
  by_cases hz : fixedB y size = true
  · have HP : Aside0 (pFixed y size = some (strBytes y)) := ⟨by unfold pFixed; rw [if_pos hz]⟩
    rw [HP.out] at hl
    have HLN := Aside0.mk hl
    have hz1 : 0 ≤ size ∧ size ≤ 65535 ∧ (y.size : Int) = size := by
      unfold fixedB at hz
      simp only [Bool.and_eq_true, decide_eq_true_eq, beq_iff_eq] at hz
      exact ⟨hz.1.1, hz.1.2, hz.2⟩
    obtain ⟨hz1, hz2, rfl⟩ := hz1
    clear hw hB hl hz
    go_enter Try.func44, Try.ntmps44
    go_wp2_with ((go_at_call 95; refine (vput_yes _ _ _ _ (bytes_reads _ 5 y hy) (Nat.le_trans HBS.out (bytes_below (Below.refl _ w) (Nat.le_refl _) 5 y).size) (HW.out.below (bytes_below (Below.refl _ w) (Nat.le_refl _) 5 y)) HLN.out).mono ?_; rintro e wp ⟨rfl, hP⟩))
    go_end0
    rw [HP.out]
    exact VPost.from ⟨rfl, hP⟩ (bytes_below (Below.refl _ w) (Nat.le_refl _) 5 y)
  · have HP : Aside0 (pFixed y size = none) := ⟨by unfold pFixed; rw [if_neg hz]⟩
    clear hw hB hl
    by_cases h1 : 0 ≤ size
    · by_cases h2 : size ≤ 65535
      · have h3 : ((y.size : Int) == size) = false := by
          cases h : ((y.size : Int) == size) with
          | false => rfl
          | true => exact absurd (by unfold fixedB; simp [h1, h2, h]) hz
        clear hz
        go_enter Try.func44, Try.ntmps44
        go_wp2_with ((go_at_call 95; refine (vput_no _ _ _ (HW.out.below (bytes_below (Below.refl _ w) (Nat.le_refl _) 5 y))).mono ?_; rintro e wp ⟨rfl, hP⟩))
        go_end0
        rw [HP.out]
        exact VPost.from ⟨rfl, hP⟩ (bytes_below (Below.refl _ w) (Nat.le_refl _) 5 y)
      · clear hz
        go_enter Try.func44, Try.ntmps44
        go_wp2_with ((go_at_call 95; refine (vput_no _ _ _ (HW.out.below (bytes_below (Below.refl _ w) (Nat.le_refl _) 5 y))).mono ?_; rintro e wp ⟨rfl, hP⟩))
        go_end0
        rw [HP.out]
        exact VPost.from ⟨rfl, hP⟩ (bytes_below (Below.refl _ w) (Nat.le_refl _) 5 y)
    · clear hz
      go_enter Try.func44, Try.ntmps44
      go_wp2_with ((go_at_call 95; refine (vput_no _ _ _ (HW.out.below (bytes_below (Below.refl _ w) (Nat.le_refl _) 5 y))).mono ?_; rintro e wp ⟨rfl, hP⟩))
      go_end0
      rw [HP.out]
      exact VPost.from ⟨rfl, hP⟩ (bytes_below (Below.refl _ w) (Nat.le_refl _) 5 y)
end
end Go.Proofs.Ytgmbfecfkdbfaaa.Wi
/- The laws' model: a piece, by the document's writer; its bytes. -/
set_option linter.unusedVariables false
set_option linter.unusedSimpArgs false
namespace Go.Proofs.Ytgmbfecfkdbfaaa.Wi
open Go Go.RowKit Go.Proofs.YtgmbfecfkdbfaaaW.PrintWords
def VBPost (s : WS) (w : World) (e : Ending) (w' : World) : Prop := ∃ A c, e = .returned (.tuple #[.slice A s.out.length c, .int .i64 s.err]) ∧ ReadsInt w' .u8 A s.out.length s.out ∧ Below w.heap.size w w'
set_option maxHeartbeats 1600000 in
theorem vBytes_calls {w : World} {B g : Nat} {ro : Option Nat} {s : WS} (hw : Vr w B g ro s) (hl : s.xs.length ≤ 140737488355328) : Calls Try.prog 56 #[.pointer (some ⟨g, 0, none⟩)] w (VBPost s w) := by
  obtain ⟨v, hb, ho, hro⟩ := hw.at_
  obtain ⟨xs, bad⟩ := s
  have c0 : _ = some v := blk_cell hb 0
  have c1 : _ = some (Value.bool bad) := blk_cell hb 1
  obtain ⟨A, c, rfl, _, hr⟩ := own_reads' ho
  cases bad with
  | true =>
    clear hb ho hro hw hr
    go_enter Try.func56, Try.ntmps56
    go_wp2
    go_ret2
    exact ⟨none, 0, rfl, ⟨rfl, by simp [WS.out], fun h => absurd h (by simp [WS.out])⟩, Below.refl _ _⟩
  | false =>
    have HR := Aside0.mk hr
    have HL := Aside0.mk hl
    have HO3 := Aside0.mk (own_lit w w.heap.size 5 .u8 [] (Nat.le_refl _) (by simp))
    have HR3 := Aside0.mk (hr.below (below1 (.cells #[] 5)))
    have HB3 := Aside0.mk (below1 (w := w) (.cells #[] 5))
    have e0 : _ = some (Value.slice A xs.length c) := (blk_cell ((Fr.of_below (S := fun _ => False) HB3.out).blk hb (fun h => h)) 0)
    clear hb ho hro hw hr hl
    go_enter Try.func56, Try.ntmps56
    go_wp2_with (at_builtin; refine wpList_append_row w.heap.size rfl (.tmp 8) (.tmp 12) 24 5 .u8 1 rfl Try.underlying24 info_u8 (by decide) (.slice (some ⟨w.heap.size, 0, none⟩) 0 0) 0 [] xs A xs.length c (by rfl) (by rfl) HO3.out HR3.out HB3.out.size (by have := HL.out; simp only at this; omega) ?_; intro v4 w4 ho4 hg4 _; simp only [Nat.zero_add, List.nil_append] at ho4; obtain ⟨A4, c4, _, rfl, _, hr4⟩ := own_reads'' ho4; have HR4 := Aside0.mk hr4; have HB4 := Aside0.mk (HB3.out.grown hg4 HB3.out.size (own_base HO3.out)); clear ho4 hg4 hr4)
    go_ret2
    exact ⟨A4, c4, rfl, HR4.out, HB4.out⟩
section
variable {w : World} {B g : Nat} {ro : Option Nat} {s : WS}
end
end Go.Proofs.Ytgmbfecfkdbfaaa.Wi
/- A record's pieces: a token, numbers: put where the side writes, laid down where it reads. -/
set_option linter.unusedVariables false
set_option linter.unusedSimpArgs false
namespace Go.Proofs.Ytgmbfecfkdbfaaa.Wi
open Go Go.RowKit Go.Proofs.YtgmbfecfkdbfaaaW.PrintWords
section
variable {w : World} {B g : Nat} {ro : Option Nat} {s : WS} {bs : List Int} {r : RS}
set_option maxHeartbeats 3200000 in
set_option maxRecDepth 100000 in
theorem token_w (bt o : Nat) (y : ByteArray) (hy : y.size ≤ 9223372036854775807) (hp : w.cell? ⟨bt, o, none⟩ = some (.string y)) (hbg : bt ≠ g) (hbr : ro ≠ some bt) (hw : Wr w B g ro s) (hB : B ≤ w.heap.size) (hl : (s.put (pFixed y 8)).xs.length ≤ 140737488355328) :
    Calls Try.prog 53 #[.agg #[.pointer (some ⟨g, 0, none⟩), .pointer none], .pointer (some ⟨bt, o, none⟩)] w (WPost B g ro (s.put (pFixed y 8)) w) := by
  have hbt : bt < w.heap.size := World.block_lt_of_cell? w _ hp
  have hgl := hw.lt
  have hrl := hw.ro_lt
  have HW := Aside0.mk ((hw.below (below1 (.cells #[.pointer (some ⟨g, 0, none⟩), .pointer none] 97))).below (Below.refl _ _).drew)
  have HB := Aside0.mk (Nat.le_trans hB (below1 (w := w) (.cells #[.pointer (some ⟨g, 0, none⟩), .pointer none] 97)).size)
  have hp1 : (w.alloc (.cells #[.pointer (some ⟨g, 0, none⟩), .pointer none] 97)).cell? ⟨bt, o, none⟩ = some (.string y) := (World.cell?_alloc_lt w _ _ hbt).trans hp
  have hq := heap_alloc_new w (.cells #[.pointer (some ⟨g, 0, none⟩), .pointer none] 97)
  have HS0 := Aside0.mk (show (w.alloc (.cells #[.pointer (some ⟨g, 0, none⟩), .pointer none] 97)).drew.cell? ⟨w.heap.size, 0, none⟩ = some (.pointer (some ⟨g, 0, none⟩)) ∧ (w.alloc (.cells #[.pointer (some ⟨g, 0, none⟩), .pointer none] 97)).drew.cell? ⟨bt, o, none⟩ = some (.string y) from ⟨(blk_cell hq 0).trans rfl, hp1⟩)
  have HBL := Aside0.mk (show Below w.heap.size w (w.alloc (.cells #[.pointer (some ⟨g, 0, none⟩), .pointer none] 97)).drew from (below1 (.cells #[.pointer (some ⟨g, 0, none⟩), .pointer none] 97)).drew)
  have HK : Aside0 (∀ W, Fr (WrS g ro) (w.alloc (.cells #[.pointer (some ⟨g, 0, none⟩), .pointer none] 97)).drew W → W.cell? ⟨w.heap.size, 0, none⟩ = some (.pointer (some ⟨g, 0, none⟩)) ∧ W.cell? ⟨bt, o, none⟩ = some (.string y)) := ⟨fun W hf => by
    have e1 : ∀ k, k < (w.alloc (.cells #[.pointer (some ⟨g, 0, none⟩), .pointer none] 97)).drew.heap.size → ¬ WrS g ro k → ∀ p : Addr, p.block = k → W.cell? p = (w.alloc (.cells #[.pointer (some ⟨g, 0, none⟩), .pointer none] 97)).drew.cell? p := fun k hk hn p hpk => World.cell?_of_block (by rw [hpk]; exact hf.block k hk hn)
    have hsz := (below1 (w := w) (.cells #[.pointer (some ⟨g, 0, none⟩), .pointer none] 97)).size
    have hsz2 : w.heap.size < (w.alloc (.cells #[.pointer (some ⟨g, 0, none⟩), .pointer none] 97)).drew.heap.size := blk_lt hq
    refine ⟨(e1 _ hsz2 ?_ _ rfl).trans HS0.out.1, (e1 bt (by show bt < (w.alloc (.cells #[.pointer (some ⟨g, 0, none⟩), .pointer none] 97)).heap.size; omega) ?_ _ rfl).trans HS0.out.2⟩
    · rintro (e | e)
      · omega
      · have := (hrl _ e).2
        omega
    · rintro (e | e)
      · exact hbg e
      · exact hbr e⟩
  clear hw hB hp hp1 hq hbt hgl hrl
  go_enter Try.func53, Try.ntmps53
  go_wp2
  refine YtgmbfecfkdbfaaaG.wp_region_door 99 YtgmbfecfkdbfaaaG.keepT (fun _ _ => False) (fun W => W.cell? ⟨w.heap.size, 0, none⟩ = some (.pointer (some ⟨g, 0, none⟩)) ∧ W.cell? ⟨bt, o, none⟩ = some (.string y)) (by kernel_rfl) trivial (fun _ _ _ _ h => h.elim) ?_
  refine YtgmbfecfkdbfaaaG.wpAnyG_take 0 (v := .pointer (some ⟨w.heap.size, 0, none⟩)) rfl (by kernel_rfl) (by kernel_rfl) (by kernel_rfl) (by kernel_rfl) (by decide) (fun a u => YtgmbfecfkdbfaaaG.keepT_put a u) HS0.out trivial (by rfl) (by rintro W ⟨h0, h1⟩; go_simp; done) ?_
  try simp only [Act.put, List.getElem_toArray, List.getElem_cons_zero, List.getElem_cons_succ, List.setIfInBounds_toArray, List.set_cons_zero, List.set_cons_succ]
  refine YtgmbfecfkdbfaaaG.wpAnyG_take 1 (v := .pointer (some ⟨g, 0, none⟩)) rfl (by kernel_rfl) (by kernel_rfl) (by kernel_rfl) (by kernel_rfl) (by decide) (fun a u => YtgmbfecfkdbfaaaG.keepT_put a u) HS0.out trivial (by rfl) (by rintro W ⟨h0, h1⟩; go_simp; done) ?_
  try simp only [Act.put, List.getElem_toArray, List.getElem_cons_zero, List.getElem_cons_succ, List.setIfInBounds_toArray, List.set_cons_zero, List.set_cons_succ]
  refine YtgmbfecfkdbfaaaG.wpAnyG_take 2 (v := .pointer (some ⟨bt, o, none⟩)) rfl (by kernel_rfl) (by kernel_rfl) (by kernel_rfl) (by kernel_rfl) (by decide) (fun a u => YtgmbfecfkdbfaaaG.keepT_put a u) HS0.out trivial (by rfl) (by rintro W ⟨h0, h1⟩; go_simp; done) ?_
  try simp only [Act.put, List.getElem_toArray, List.getElem_cons_zero, List.getElem_cons_succ, List.setIfInBounds_toArray, List.set_cons_zero, List.set_cons_succ]
  refine YtgmbfecfkdbfaaaG.wpAnyG_take 3 (v := .pointer (some ⟨bt, o, none⟩)) rfl (by kernel_rfl) (by kernel_rfl) (by kernel_rfl) (by kernel_rfl) (by decide) (fun a u => YtgmbfecfkdbfaaaG.keepT_put a u) HS0.out trivial (by rfl) (by rintro W ⟨h0, h1⟩; go_simp; done) ?_
  try simp only [Act.put, List.getElem_toArray, List.getElem_cons_zero, List.getElem_cons_succ, List.setIfInBounds_toArray, List.set_cons_zero, List.set_cons_succ]
  refine YtgmbfecfkdbfaaaG.wpAnyG_take 4 (v := .string y) rfl (by kernel_rfl) (by kernel_rfl) (by kernel_rfl) (by kernel_rfl) (by decide) (fun a u => YtgmbfecfkdbfaaaG.keepT_put a u) HS0.out trivial (by rfl) (by rintro W ⟨h0, h1⟩; go_simp; done) ?_
  try simp only [Act.put, List.getElem_toArray, List.getElem_cons_zero, List.getElem_cons_succ, List.setIfInBounds_toArray, List.set_cons_zero, List.set_cons_succ]
  refine YtgmbfecfkdbfaaaG.wpAnyG_one 5 rfl (by kernel_rfl) (by rfl) (fun K hK => ?_)
  go_simp
  refine (wFixed_calls y 8 hy HW.out HB.out hl).mono ?_
  rintro e w5 ⟨rfl, hP⟩
  obtain ⟨ro', hw', hgr, hf⟩ := hP
  refine hK _ _ (HK.out _ hf) trivial ?_
  clear hK K
  refine YtgmbfecfkdbfaaaG.wpAnyG_done (by kernel_rfl) ?_ _
  go_wp2
  go_end0
  exact WPost.from (w1 := (w.alloc (.cells #[.pointer (some ⟨g, 0, none⟩), .pointer none] 97)).drew) ⟨rfl, ro', hw', hgr, hf⟩ HBL.out
end
section
variable {w : World} {B g : Nat} {ro : Option Nat} {s : WS} {bs : List Int} {r : RS}
/-- numbers, one behind the other -/
def putN (s : WS) (ns : List Int) (size : Int) : WS := ns.foldl (fun s n => s.put (pNumber n size)) s
theorem putN_snoc (s : WS) (ns : List Int) (n size : Int) : putN s (ns ++ [n]) size = (putN s ns size).put (pNumber n size) := by simp [putN]
theorem putN_len (s : WS) (ns : List Int) (size : Int) : (putN s ns size).xs.length ≤ s.xs.length + ns.length * 65537 := by
  induction ns generalizing s with
  | nil => simp [putN]
  | cons n r ih =>
    have h1 := ih (s.put (pNumber n size))
    have h2 := put_len s (pNumber n size) (fun ys h => Nat.le_trans (pNumber_len h) (by omega))
    show (putN (s.put (pNumber n size)) r size).xs.length ≤ _
    rw [List.length_cons, Nat.add_mul]
    omega
set_option maxHeartbeats 3200000 in
set_option maxRecDepth 100000 in
theorem number_w (size : Int) (ad : Addr) (c : Nat) (As : List Addr) (ns : List Int) (hlen : As.length = ns.length) (hns : ∀ n ∈ ns, n ≤ 9223372036854775807) (hcl : ns.length ≤ 1000)
    (hp : ∀ i, (hi : i < As.length) → w.cell? (ad.add i) = some (.pointer (some As[i])) ∧ ad.block ≠ g ∧ ro ≠ some ad.block) (hv : ∀ i, (hi : i < As.length) → (hj : i < ns.length) → w.cell? As[i] = some (.int .i64 ns[i]) ∧ (As[i]).block ≠ g ∧ ro ≠ some (As[i]).block)
    (hw : Wr w B g ro s) (hB : B ≤ w.heap.size) (hl : s.xs.length ≤ 100000000000) :
    Calls Try.prog 54 #[.agg #[.pointer (some ⟨g, 0, none⟩), .pointer none], .int .i64 size, .slice (some ad) ns.length c] w (WPost B g ro (putN s ns size) w) := by
  have hgl := hw.lt
  have hrl := hw.ro_lt
  have HW := Aside0.mk (hw.below (below1 (.cells #[.pointer (some ⟨g, 0, none⟩), .pointer none] 97)))
  have HB := Aside0.mk (Nat.le_trans hB (below1 (w := w) (.cells #[.pointer (some ⟨g, 0, none⟩), .pointer none] 97)).size)
  have hq := heap_alloc_new w (.cells #[.pointer (some ⟨g, 0, none⟩), .pointer none] 97)
  have HBL := Aside0.mk (below1 (w := w) (.cells #[.pointer (some ⟨g, 0, none⟩), .pointer none] 97))
  have hsz2 : w.heap.size < (w.alloc (.cells #[.pointer (some ⟨g, 0, none⟩), .pointer none] 97)).heap.size := blk_lt hq
  have HK : Aside0 (∀ W, Fr (WrS g ro) (w.alloc (.cells #[.pointer (some ⟨g, 0, none⟩), .pointer none] 97)) W → W.cell? ⟨w.heap.size, 0, none⟩ = some (.pointer (some ⟨g, 0, none⟩)) ∧ ∀ i, (hi : i < As.length) → (hj : i < ns.length) → W.cell? (ad.add i) = some (.pointer (some As[i])) ∧ W.cell? As[i] = some (.int .i64 ns[i])) := ⟨fun W hf => by
    have e1 : ∀ p : Addr, p.block < (w.alloc (.cells #[.pointer (some ⟨g, 0, none⟩), .pointer none] 97)).heap.size → ¬ WrS g ro p.block → W.cell? p = (w.alloc (.cells #[.pointer (some ⟨g, 0, none⟩), .pointer none] 97)).cell? p := fun p hk hn => World.cell?_of_block (hf.block _ hk hn)
    refine ⟨(e1 _ hsz2 ?_).trans ((blk_cell hq 0).trans rfl), fun i hi hj => ?_⟩
    · rintro (e | e)
      · simp only at e; omega
      · have := (hrl _ e).2
        simp only at this
        omega
    · obtain ⟨a1, a2, a3⟩ := hp i hi
      obtain ⟨b1, b2, b3⟩ := hv i hi hj
      have l1 := World.block_lt_of_cell? w _ a1
      have l2 := World.block_lt_of_cell? w _ b1
      rw [add_block] at l1
      refine ⟨(e1 _ (by rw [add_block]; omega) ?_).trans ((World.cell?_alloc_lt w _ _ (by rw [add_block]; exact l1)).trans a1), (e1 _ (by omega) ?_).trans ((World.cell?_alloc_lt w _ _ l2).trans b1)⟩
      · rw [add_block]
        rintro (e | e)
        · exact a2 e
        · exact a3 e
      · rintro (e | e)
        · exact b2 e
        · exact b3 e⟩
  have HNS := Aside0.mk hns
  have HLN := Aside0.mk (show ∀ k, (putN s (ns.take k) size).xs.length ≤ 140737488355328 from fun k => by
    have h1 := putN_len s (ns.take k) size
    have h2 : (ns.take k).length ≤ 1000 := by rw [List.length_take]; omega
    have h3 := Nat.mul_le_mul_right 65537 h2
    omega)
  clear hw hB hq hgl hrl hp hv hns hsz2
  go_enter Try.func54, Try.ntmps54
  go_wp2
  generalize hW1 : w.alloc (.cells #[.pointer (some ⟨g, 0, none⟩), .pointer none] 97) = W1 at *
  generalize hgb : w.heap.size = gb at HK ⊢
  clear hgb
  go_loopg [7, 10] ns.length (fun gg s7 s10 wr => ∃ (kk : Nat) (ro' : Option Nat), kk ≤ ns.length ∧ ns.length - kk ≤ gg ∧ s10 = .int .i64 kk ∧ Aside0 (Wr wr B g ro' (putN s (ns.take kk) size)) ∧ Aside0 (ro' = ro ∨ ∃ b, ro' = some b ∧ W1.heap.size ≤ b) ∧ Aside0 (Fr (WrS g ro) W1 wr))
  case atStart => exact ⟨0, ro, by omega, by omega, rfl, by simpa [putN] using HW, ⟨.inl rfl⟩, ⟨Fr.refl _ _⟩⟩
  case round =>
    obtain ⟨kk, ro', hkk, hgg, rfl, HW2, HR2, HF2⟩ := hrel
    clear HW
    by_cases hlt : kk < ns.length
    · have hltz : (kk : Int) < (ns.length : Int) := by omega
      obtain ⟨hbox, hcs⟩ := HK.out _ HF2.out
      obtain ⟨hc1, hc2⟩ := hcs kk (by omega) hlt
      clear hcs
      have hnn := HNS.out ns[kk] (List.getElem_mem hlt)
      have hln := HLN.out (kk + 1)
      have htk : ns.take (kk + 1) = ns.take kk ++ [ns[kk]] := List.take_succ_eq_append_getElem hlt
      have HKK : Aside0 (∀ W, Fr (WrS g ro) W1 W → W.cell? ⟨gb, 0, none⟩ = some (.pointer (some ⟨g, 0, none⟩)) ∧ W.cell? (As[kk]'(by omega)) = some (.int .i64 ns[kk])) := ⟨fun W hf => ⟨(HK.out W hf).1, ((HK.out W hf).2 kk (by omega) hlt).2⟩⟩
      have HTK := Aside0.mk htk
      rw [htk, putN_snoc] at hln
      clear htk
      generalize As[kk]'(by omega) = pa at *
      generalize ns[kk] = n at *
      obtain ⟨pb, po, ps⟩ := pa
      have HS0 := Aside0.mk (show wr.drew.cell? ⟨gb, 0, none⟩ = some (.pointer (some ⟨g, 0, none⟩)) ∧ wr.drew.cell? ⟨pb, po, ps⟩ = some (.int .i64 n) from ⟨hbox, hc2⟩)
      have HWD := Aside0.mk (HW2.out.below (Below.refl _ _).drew)
      have HBW := Aside0.mk (show B ≤ wr.drew.heap.size from Nat.le_trans HB.out HF2.out.size)
      go_wp2
      refine YtgmbfecfkdbfaaaG.wp_region_door 99 YtgmbfecfkdbfaaaG.keepT (fun _ _ => False) (fun W => W.cell? ⟨gb, 0, none⟩ = some (.pointer (some ⟨g, 0, none⟩)) ∧ W.cell? ⟨pb, po, ps⟩ = some (.int .i64 n)) (by kernel_rfl) trivial (fun _ _ _ _ h => h.elim) ?_
      refine YtgmbfecfkdbfaaaG.wpAnyG_take 0 (v := .pointer (some ⟨gb, 0, none⟩)) rfl (by kernel_rfl) (by kernel_rfl) (by kernel_rfl) (by kernel_rfl) (by decide) (fun a u => YtgmbfecfkdbfaaaG.keepT_put a u) HS0.out trivial (by rfl) (by rintro W ⟨h0, h1⟩; go_simp; done) ?_
      try simp only [Act.put, List.getElem_toArray, List.getElem_cons_zero, List.getElem_cons_succ, List.setIfInBounds_toArray, List.set_cons_zero, List.set_cons_succ]
      refine YtgmbfecfkdbfaaaG.wpAnyG_take 1 (v := .pointer (some ⟨g, 0, none⟩)) rfl (by kernel_rfl) (by kernel_rfl) (by kernel_rfl) (by kernel_rfl) (by decide) (fun a u => YtgmbfecfkdbfaaaG.keepT_put a u) HS0.out trivial (by rfl) (by rintro W ⟨h0, h1⟩; go_simp; done) ?_
      try simp only [Act.put, List.getElem_toArray, List.getElem_cons_zero, List.getElem_cons_succ, List.setIfInBounds_toArray, List.set_cons_zero, List.set_cons_succ]
      refine YtgmbfecfkdbfaaaG.wpAnyG_take 2 (v := .pointer (some ⟨pb, po, ps⟩)) rfl (by kernel_rfl) (by kernel_rfl) (by kernel_rfl) (by kernel_rfl) (by decide) (fun a u => YtgmbfecfkdbfaaaG.keepT_put a u) HS0.out trivial (by rfl) (by rintro W ⟨h0, h1⟩; go_simp; done) ?_
      try simp only [Act.put, List.getElem_toArray, List.getElem_cons_zero, List.getElem_cons_succ, List.setIfInBounds_toArray, List.set_cons_zero, List.set_cons_succ]
      refine YtgmbfecfkdbfaaaG.wpAnyG_take 3 (v := .pointer (some ⟨pb, po, ps⟩)) rfl (by kernel_rfl) (by kernel_rfl) (by kernel_rfl) (by kernel_rfl) (by decide) (fun a u => YtgmbfecfkdbfaaaG.keepT_put a u) HS0.out trivial (by rfl) (by rintro W ⟨h0, h1⟩; go_simp; done) ?_
      try simp only [Act.put, List.getElem_toArray, List.getElem_cons_zero, List.getElem_cons_succ, List.setIfInBounds_toArray, List.set_cons_zero, List.set_cons_succ]
      refine YtgmbfecfkdbfaaaG.wpAnyG_take 4 (v := .int .i64 n) rfl (by kernel_rfl) (by kernel_rfl) (by kernel_rfl) (by kernel_rfl) (by decide) (fun a u => YtgmbfecfkdbfaaaG.keepT_put a u) HS0.out trivial (by rfl) (by rintro W ⟨h0, h1⟩; go_simp; done) ?_
      try simp only [Act.put, List.getElem_toArray, List.getElem_cons_zero, List.getElem_cons_succ, List.setIfInBounds_toArray, List.set_cons_zero, List.set_cons_succ]
      refine YtgmbfecfkdbfaaaG.wpAnyG_take 5 (v := .int .i64 size) rfl (by kernel_rfl) (by kernel_rfl) (by kernel_rfl) (by kernel_rfl) (by decide) (fun a u => YtgmbfecfkdbfaaaG.keepT_put a u) HS0.out trivial (by rfl) (by rintro W ⟨h0, h1⟩; go_simp; done) ?_
      try simp only [Act.put, List.getElem_toArray, List.getElem_cons_zero, List.getElem_cons_succ, List.setIfInBounds_toArray, List.set_cons_zero, List.set_cons_succ]
      refine YtgmbfecfkdbfaaaG.wpAnyG_one 6 rfl (by kernel_rfl) (by rfl) (fun K hK => ?_)
      go_simp
      refine (wNumber_calls n size hnn HWD.out HBW.out hln).mono ?_
      rintro e w5 ⟨rfl, ro2, hw2, hgr2, hf2⟩
      have hf3 : Fr (WrS g ro) W1 w5 := (HF2.out.trans (Fr.of_below (S := WrS g ro) (Below.refl _ wr).drew) (fun _ _ h => h)).trans hf2 (fun i hi hs => by
        rcases hs with e | e
        · exact .inl e
        · rcases HR2.out with h | ⟨b, h, hb⟩
          · exact .inr (by rw [← h, e])
          · rw [h] at e
            obtain rfl := Option.some.inj e
            omega)
      have hr3 : ro2 = ro ∨ ∃ b, ro2 = some b ∧ W1.heap.size ≤ b := by
        rcases hgr2 with h | ⟨b, h, hb⟩
        · rw [h]; exact HR2.out
        · exact .inr ⟨b, h, Nat.le_trans HF2.out.size hb⟩
      have HW4 : Aside0 (Wr w5 B g ro2 (putN s (ns.take (kk + 1)) size)) := ⟨by rw [HTK.out, putN_snoc]; exact hw2⟩
      have HF4 := Aside0.mk hf3
      have HR4 := Aside0.mk hr3
      have hkk5 := HKK.out _ hf3
      clear hf3 hr3 hw2 hgr2 hf2
      refine hK _ _ hkk5 trivial ?_
      try simp only [Act.put, List.getElem_toArray, List.getElem_cons_zero, List.getElem_cons_succ, List.setIfInBounds_toArray, List.set_cons_zero, List.set_cons_succ]
      clear hK K hkk5
      refine YtgmbfecfkdbfaaaG.wpAnyG_done (by kernel_rfl) ?_ _
      go_wp2
      go_roundg (ns.length - (kk + 1))
      case measure => omega
      case rel => exact ⟨kk + 1, ro2, by omega, by omega, by go_num, HW4, HR4, HF4⟩
    · have hltz : ¬ (kk : Int) < (ns.length : Int) := by omega
      have hke : kk = ns.length := by omega
      have HW3 : Aside0 (Wr wr B g ro' (putN s ns size)) := ⟨by have := HW2.out; rwa [hke, List.take_length] at this⟩
      clear hke HW2
      go_wp2
      go_end0
      exact WPost.from (w1 := W1) ⟨rfl, ro', HW3.out, HR2.out, HF2.out⟩ HBL.out
end
end Go.Proofs.Ytgmbfecfkdbfaaa.Wi
