/- The document's reader: its methods. -/
import Derived.Test.YtgmbfecfkdbfaaaWiX1
set_option linter.unusedVariables false
set_option linter.unusedSimpArgs false
namespace Go.Proofs.Ytgmbfecfkdbfaaa.Wi
open Go Go.RowKit Go.Proofs.YtgmbfecfkdbfaaaW.PrintWords
theorem take_err {α : Type} {bs : List Int} {r : RS} {d : α} {G : List Int → Except Int (α × Nat)} {e : Int} (hc : r.code = 0) (h : G (bs.drop r.at_) = .error e) : r.take bs d G = (d, r.badX e) := by
  unfold RS.take RS.badX
  rw [if_neg (by simp [hc]), h, if_pos hc]
theorem take_errX {α : Type} {bs : List Int} {r : RS} {d : α} {G : List Int → Except Int (α × Nat)} {e : Int} (h : G (bs.drop r.at_) = .error e) : r.take bs d G = (d, r.badX e) := by
  by_cases hc : r.code = 0
  · exact take_err hc h
  · rw [take_bad hc]
    unfold RS.badX
    rw [if_neg hc]
theorem badX_off {r : RS} {e : Int} (he : e ≠ 0) : (r.badX e).code ≠ 0 := by
  unfold RS.badX
  split
  · exact he
  · assumption
section
variable {w W W' : World} {gx : Nat} {A : Option Addr} {c : Nat} {bs : List Int} {r : RS}
set_option maxRecDepth 100000 in
theorem xNum_calls (size : Int) (h : XR w gx A c bs r) : Calls Try.prog 48 #[.pointer (some ⟨gx, 0, none⟩), .int .i64 size] w (XPost gx A c bs (.int .i64 (rNum bs r size).1) (rNum bs r size).2 w) := by
  have H := Aside0.mk h
  have hl := h.len
  have ha := h.le
  by_cases hz : size < 1 ∨ 8 < size
  · have HT : Aside0 (rNum bs r size = (0, r.badX 1)) := ⟨take_errX (by unfold gNumber; rw [if_pos (by simp [sizedB]; omega)])⟩
    have HC : Aside0 ((r.badX 1).code ≠ 0) := ⟨badX_off (by decide)⟩
    clear h
    rcases hz with hz | hz
    · skip
      go_enter Try.func48, Try.ntmps48
      go_wp2_with (first | (go_at_call 102; refine (xBad_calls 1 H.out).mono ?_; rintro e w1 ⟨rfl, X1, f1⟩) | (go_at_call 103; refine (xSome_off size HC.out X1).mono ?_; rintro e w2 ⟨rfl, X2, f2⟩))
      go_ret
      rw [HT.out]
      exact ⟨by first | rfl | (simp; done), X2, (f1).trans f2 (fun _ _ h => h)⟩

    · have hz' : ¬ size < 1 := by omega
      go_enter Try.func48, Try.ntmps48
      go_wp2_with (first | (go_at_call 102; refine (xBad_calls 1 H.out).mono ?_; rintro e w1 ⟨rfl, X1, f1⟩) | (go_at_call 103; refine (xSome_off size HC.out X1).mono ?_; rintro e w2 ⟨rfl, X2, f2⟩))
      go_ret
      rw [HT.out]
      exact ⟨by first | rfl | (simp; done), X2, (f1).trans f2 (fun _ _ h => h)⟩

  · obtain ⟨k, rfl⟩ : ∃ k : Nat, size = k := ⟨size.toNat, by omega⟩
    have hz1 : ¬ (k : Int) < 1 := by omega
    have hz2 : ¬ 8 < (k : Int) := by omega
    have hsz : sizedB (k : Int) = true := by simp [sizedB]; omega
    clear hz
    by_cases hc : r.code = 0
    · by_cases hn : (k : Int) ≤ (bs.length : Int) - r.at_
      · have HC := Aside0.mk hc
        have HN := Aside0.mk hn
        have HLE : Aside0 (r.at_ + 0 + k ≤ bs.length) := ⟨by omega⟩
        have HTK : Aside0 (r.at_ + k ≤ bs.length) := ⟨by omega⟩
        by_cases hv : 9223372036854775808 ≤ val ((bs.drop r.at_).take k)
        · have HT : Aside0 (rNum bs r k = (0, r.badX 11)) := ⟨take_err hc (by unfold gNumber; rw [if_neg (by simp [hsz]), if_neg (by rw [List.length_drop]; omega), if_pos (by simpa using hv)])⟩
          have CN0 := fun (W : World) (h : XR W gx A c bs r) => xNumber0_calls 0 k (by omega) (by omega) HLE.out h
          simp only [Nat.add_zero] at CN0
          have CN := Aside0.mk CN0
          clear CN0
          have HVL := Aside0.mk (val_take_lt (bs.drop r.at_) k (h.byt.drop _) (by rw [List.length_drop]; omega))
          generalize val ((bs.drop r.at_).take k) = v at *
          have hvz : (9223372036854775808 : Int) ≤ (v : Int) := by omega
          clear hsz h hc hn hv
          go_enter Try.func48, Try.ntmps48
          go_wp2_with (first | (go_at_call 103; refine (xSome_yes k HC.out HN.out H.out).mono ?_; rintro e w1 ⟨rfl, X1, f1⟩) | (go_at_call 104; refine (CN.out _ X1).mono ?_; rintro e w2 ⟨rfl, X2, f2⟩) | (go_at_call 102; refine (xBad_calls 11 X2).mono ?_; rintro e w3 ⟨rfl, X3, f3⟩))
          go_ret
          rw [HT.out]
          exact ⟨by first | rfl | (simp; done), X3, ((f1).trans f2 (fun _ _ h => h)).trans f3 (fun _ _ h => h)⟩

        · have HT : Aside0 (rNum bs r k = ((val ((bs.drop r.at_).take k) : Int), ⟨r.at_ + k, r.at_, 0, r.fat⟩)) := ⟨take_ok hc (by unfold gNumber; rw [if_neg (by simp [hsz]), if_neg (by rw [List.length_drop]; omega), if_neg (by simpa using hv)]; simp)⟩
          have CN0 := fun (W : World) (h : XR W gx A c bs r) => xNumber0_calls 0 k (by omega) (by omega) HLE.out h
          simp only [Nat.add_zero] at CN0
          have CN := Aside0.mk CN0
          clear CN0
          have HVL := Aside0.mk (val_take_lt (bs.drop r.at_) k (h.byt.drop _) (by rw [List.length_drop]; omega))
          generalize val ((bs.drop r.at_).take k) = v at *
          have hvz : decide ((9223372036854775808 : Int) ≤ (v : Int)) = false := decide_eq_false (by omega)
          have hvw : wrap64 (v : Int) = (v : Int) := by unfold wrap64; omega
          have HCC := Aside0.mk hc
          clear hsz h hc hn hv
          go_enter Try.func48, Try.ntmps48
          go_wp2_with (first | (go_at_call 103; refine (xSome_yes k HC.out HN.out H.out).mono ?_; rintro e w1 ⟨rfl, X1, f1⟩) | (go_at_call 104; refine (CN.out _ X1).mono ?_; rintro e w2 ⟨rfl, X2, f2⟩) | (go_at_call 105; refine (xTook_calls k (HTK.out) X2).mono ?_; rintro e w3 ⟨rfl, X3, f3⟩))
          go_ret
          rw [HT.out]
          have hX3 := X3
          rw [HCC.out] at hX3
          exact ⟨by first | rfl | (simp; done) | (simp [hvw]; done), hX3, ((f1).trans f2 (fun _ _ h => h)).trans f3 (fun _ _ h => h)⟩

      · have HC := Aside0.mk hc
        have HN := Aside0.mk hn
        have HT : Aside0 (rNum bs r k = (0, r.badX 10)) := ⟨take_err hc (by unfold gNumber; rw [if_neg (by simp [hsz]), if_pos (by rw [List.length_drop]; omega)])⟩
        clear hsz h hc hn
        go_enter Try.func48, Try.ntmps48
        go_wp2_with (first | (go_at_call 103; refine (xSome_no k HC.out HN.out H.out).mono ?_; rintro e w1 ⟨rfl, X1, f1⟩))
        go_ret
        rw [HT.out]
        exact ⟨by first | rfl | (simp; done), X1, f1⟩

    · have HC := Aside0.mk hc
      have HT : Aside0 (rNum bs r k = (0, r)) := ⟨take_bad hc _ _⟩
      clear hsz h hc
      go_enter Try.func48, Try.ntmps48
      go_wp2_with (first | (go_at_call 103; refine (xSome_off k HC.out H.out).mono ?_; rintro e w1 ⟨rfl, X1, f1⟩))
      go_ret
      rw [HT.out]
      exact ⟨by first | rfl | (simp; done), X1, f1⟩

set_option maxHeartbeats 1600000 in
set_option maxRecDepth 100000 in
theorem xInt_calls (h : XR w gx A c bs r) : Calls Try.prog 69 #[.pointer (some ⟨gx, 0, none⟩)] w (XPost gx A c bs (.int .i64 (rInt bs r).1) (rInt bs r).2 w) := by
  have H := Aside0.mk h
  have hl := h.len
  have ha := h.le
  by_cases hc : r.code = 0
  case neg =>
    have HC := Aside0.mk hc
    have HT : Aside0 (rInt bs r = (0, r)) := ⟨take_bad hc _ _⟩
    clear h hc
    go_enter Try.func69, Try.ntmps69
    go_wp2_with (first | (go_at_call 103; refine (xSome_off 8 HC.out H.out).mono ?_; rintro e w1 ⟨rfl, X1, f1⟩))
    go_ret
    rw [HT.out]
    exact ⟨by first | rfl | (simp; done), X1, f1⟩
  by_cases hn : (8 : Int) ≤ (bs.length : Int) - r.at_
  case neg =>
    have HC := Aside0.mk hc
    have HN := Aside0.mk hn
    have HT : Aside0 (rInt bs r = (0, r.badX 10)) := ⟨take_err hc (by unfold gInt; rw [if_pos (by rw [List.length_drop]; omega)])⟩
    clear h hc hn
    go_enter Try.func69, Try.ntmps69
    go_wp2_with (first | (go_at_call 103; refine (xSome_no 8 HC.out HN.out H.out).mono ?_; rintro e w1 ⟨rfl, X1, f1⟩))
    go_ret
    rw [HT.out]
    exact ⟨by first | rfl | (simp; done), X1, f1⟩
  have HC := Aside0.mk hc
  have HN := Aside0.mk hn
  have HLE : Aside0 (r.at_ + 0 + 8 ≤ bs.length) := ⟨by omega⟩
  have HTK : Aside0 (r.at_ + 8 ≤ bs.length) := ⟨by omega⟩
  have HT : Aside0 (rInt bs r = (asInt (val ((bs.drop r.at_).take 8)), ⟨r.at_ + 8, r.at_, 0, r.fat⟩)) := ⟨take_ok hc (by unfold gInt; rw [if_neg (by rw [List.length_drop]; omega)])⟩
  have CN0 := fun (W : World) (h : XR W gx A c bs r) => xNumber0_calls 0 8 (by omega) (by omega) HLE.out h
  simp only [Nat.add_zero] at CN0
  have CN := Aside0.mk CN0
  clear CN0
  have HVL := Aside0.mk (val_take_lt (bs.drop r.at_) 8 (h.byt.drop _) (by rw [List.length_drop]; omega))
  generalize val ((bs.drop r.at_).take 8) = v at *
  have hvw : wrap64 (v : Int) = asInt v := asInt_wrap v HVL.out
  clear h hc hn
  go_enter Try.func69, Try.ntmps69
  go_wp2_with (first | (go_at_call 103; refine (xSome_yes 8 HC.out HN.out H.out).mono ?_; rintro e w1 ⟨rfl, X1, f1⟩) | (go_at_call 104; refine (CN.out _ X1).mono ?_; rintro e w2 ⟨rfl, X2, f2⟩) | (go_at_call 105; refine (xTook_calls 8 (HTK.out) X2).mono ?_; rintro e w3 ⟨rfl, X3, f3⟩))
  go_ret
  rw [HT.out]
  have hX := X3
  rw [HC.out] at hX
  exact ⟨by first | rfl | (simp; done) | (simp [hvw]; done), hX, ((f1).trans f2 (fun _ _ h => h)).trans f3 (fun _ _ h => h)⟩
set_option maxHeartbeats 1600000 in
set_option maxRecDepth 100000 in
theorem xBoo_calls (h : XR w gx A c bs r) : Calls Try.prog 70 #[.pointer (some ⟨gx, 0, none⟩)] w (XPost gx A c bs (.bool (rBoo bs r).1) (rBoo bs r).2 w) := by
  have H := Aside0.mk h
  have hl := h.len
  have ha := h.le
  by_cases hc : r.code = 0
  case neg =>
    have HC := Aside0.mk hc
    have HT : Aside0 (rBoo bs r = (false, r)) := ⟨take_bad hc _ _⟩
    clear h hc
    go_enter Try.func70, Try.ntmps70
    go_wp2_with (first | (go_at_call 103; refine (xSome_off 1 HC.out H.out).mono ?_; rintro e w1 ⟨rfl, X1, f1⟩))
    go_ret
    rw [HT.out]
    exact ⟨by first | rfl | (simp; done), X1, f1⟩
  by_cases hn : (1 : Int) ≤ (bs.length : Int) - r.at_
  case neg =>
    have HC := Aside0.mk hc
    have HN := Aside0.mk hn
    have HT : Aside0 (rBoo bs r = (false, r.badX 10)) := ⟨take_err hc (by unfold gBool; rw [if_pos (by rw [List.length_drop]; omega)])⟩
    clear h hc hn
    go_enter Try.func70, Try.ntmps70
    go_wp2_with (first | (go_at_call 103; refine (xSome_no 1 HC.out HN.out H.out).mono ?_; rintro e w1 ⟨rfl, X1, f1⟩))
    go_ret
    rw [HT.out]
    exact ⟨by first | rfl | (simp; done), X1, f1⟩
  have HC := Aside0.mk hc
  have HN := Aside0.mk hn
  have HLE : Aside0 (r.at_ + 0 + 1 ≤ bs.length) := ⟨by omega⟩
  have HTK : Aside0 (r.at_ + 1 ≤ bs.length) := ⟨by omega⟩
  by_cases hv : 1 < val ((bs.drop r.at_).take 1)
  · have HT : Aside0 (rBoo bs r = (false, r.badX 11)) := ⟨take_err hc (by unfold gBool; rw [if_neg (by rw [List.length_drop]; omega), if_pos hv])⟩
    have CN0 := fun (W : World) (h : XR W gx A c bs r) => xNumber0_calls 0 1 (by omega) (by omega) HLE.out h
    simp only [Nat.add_zero] at CN0
    have CN := Aside0.mk CN0
    clear CN0
    have HVL := Aside0.mk (val_take_lt (bs.drop r.at_) 1 (h.byt.drop _) (by rw [List.length_drop]; omega))
    generalize val ((bs.drop r.at_).take 1) = v at *
    have hvz : (1 : Int) < (v : Int) := by omega
    clear h hc hn hv
    go_enter Try.func70, Try.ntmps70
    go_wp2_with (first | (go_at_call 103; refine (xSome_yes 1 HC.out HN.out H.out).mono ?_; rintro e w1 ⟨rfl, X1, f1⟩) | (go_at_call 104; refine (CN.out _ X1).mono ?_; rintro e w2 ⟨rfl, X2, f2⟩) | (go_at_call 102; refine (xBad_calls 11 X2).mono ?_; rintro e w3 ⟨rfl, X3, f3⟩))
    go_ret
    rw [HT.out]
    exact ⟨by first | rfl | (simp; done), X3, ((f1).trans f2 (fun _ _ h => h)).trans f3 (fun _ _ h => h)⟩
  · have HT : Aside0 (rBoo bs r = (decide (val ((bs.drop r.at_).take 1) = 1), ⟨r.at_ + 1, r.at_, 0, r.fat⟩)) := ⟨take_ok hc (by unfold gBool; rw [if_neg (by rw [List.length_drop]; omega), if_neg hv])⟩
    have CN0 := fun (W : World) (h : XR W gx A c bs r) => xNumber0_calls 0 1 (by omega) (by omega) HLE.out h
    simp only [Nat.add_zero] at CN0
    have CN := Aside0.mk CN0
    clear CN0
    have HVL := Aside0.mk (val_take_lt (bs.drop r.at_) 1 (h.byt.drop _) (by rw [List.length_drop]; omega))
    generalize val ((bs.drop r.at_).take 1) = v at *
    have hvz : ¬ (1 : Int) < (v : Int) := by omega
    have HV : Aside0 (((v : Int) == 1) = decide (v = 1)) := ⟨by rw [Bool.eq_iff_iff]; simp; omega⟩
    clear h hc hn hv
    go_enter Try.func70, Try.ntmps70
    go_wp2_with (first | (go_at_call 103; refine (xSome_yes 1 HC.out HN.out H.out).mono ?_; rintro e w1 ⟨rfl, X1, f1⟩) | (go_at_call 104; refine (CN.out _ X1).mono ?_; rintro e w2 ⟨rfl, X2, f2⟩) | (go_at_call 105; refine (xTook_calls 1 (HTK.out) X2).mono ?_; rintro e w3 ⟨rfl, X3, f3⟩))
    go_ret
    rw [← HV.out] at HT
    rw [HT.out]
    have hX := X3
    rw [HC.out] at hX
    exact ⟨by first | rfl | (simp; done), hX, ((f1).trans f2 (fun _ _ h => h)).trans f3 (fun _ _ h => h)⟩
set_option maxHeartbeats 1600000 in
set_option maxRecDepth 100000 in
theorem xCou_calls (most : Int) (h : XR w gx A c bs r) : Calls Try.prog 78 #[.pointer (some ⟨gx, 0, none⟩), .int .i64 most] w (XPost gx A c bs (.int .i64 (rCou bs r most).1) (rCou bs r most).2 w) := by
  have H := Aside0.mk h
  have hl := h.len
  have ha := h.le
  by_cases hz : most < 0
  · have HT : Aside0 (rCou bs r most = (0, r.badX 1)) := ⟨take_errX (by unfold gCount; rw [if_pos hz])⟩
    have HC : Aside0 ((r.badX 1).code ≠ 0) := ⟨badX_off (by decide)⟩
    clear h
    go_enter Try.func78, Try.ntmps78
    go_wp2_with (first | (go_at_call 102; refine (xBad_calls 1 H.out).mono ?_; rintro e w1 ⟨rfl, X1, f1⟩) | (go_at_call 103; refine (xSome_off 2 HC.out X1).mono ?_; rintro e w2 ⟨rfl, X2, f2⟩))
    go_ret
    rw [HT.out]
    exact ⟨by first | rfl | (simp; done), X2, (f1).trans f2 (fun _ _ h => h)⟩
  by_cases hc : r.code = 0
  case neg =>
    have HC := Aside0.mk hc
    have HT : Aside0 (rCou bs r most = (0, r)) := ⟨take_bad hc _ _⟩
    clear h hc
    go_enter Try.func78, Try.ntmps78
    go_wp2_with (first | (go_at_call 103; refine (xSome_off 2 HC.out H.out).mono ?_; rintro e w1 ⟨rfl, X1, f1⟩))
    go_ret
    rw [HT.out]
    exact ⟨by first | rfl | (simp; done), X1, f1⟩
  by_cases hn : (2 : Int) ≤ (bs.length : Int) - r.at_
  case neg =>
    have HC := Aside0.mk hc
    have HN := Aside0.mk hn
    have HT : Aside0 (rCou bs r most = (0, r.badX 10)) := ⟨take_err hc (by unfold gCount; rw [if_neg hz, if_pos (by rw [List.length_drop]; omega)])⟩
    clear h hc hn
    go_enter Try.func78, Try.ntmps78
    go_wp2_with (first | (go_at_call 103; refine (xSome_no 2 HC.out HN.out H.out).mono ?_; rintro e w1 ⟨rfl, X1, f1⟩))
    go_ret
    rw [HT.out]
    exact ⟨by first | rfl | (simp; done), X1, f1⟩
  have HC := Aside0.mk hc
  have HN := Aside0.mk hn
  have HLE : Aside0 (r.at_ + 0 + 2 ≤ bs.length) := ⟨by omega⟩
  have HTK : Aside0 (r.at_ + 2 ≤ bs.length) := ⟨by omega⟩
  by_cases hv : most < (val ((bs.drop r.at_).take 2) : Int)
  · have HT : Aside0 (rCou bs r most = (0, r.badX 12)) := ⟨take_err hc (by unfold gCount; rw [if_neg hz, if_neg (by rw [List.length_drop]; omega), if_pos hv])⟩
    have CN0 := fun (W : World) (h : XR W gx A c bs r) => xNumber0_calls 0 2 (by omega) (by omega) HLE.out h
    simp only [Nat.add_zero] at CN0
    have CN := Aside0.mk CN0
    clear CN0
    have HVL := Aside0.mk (val_take_lt (bs.drop r.at_) 2 (h.byt.drop _) (by rw [List.length_drop]; omega))
    generalize val ((bs.drop r.at_).take 2) = v at *
    have hvb := HVL.out
    have hvw : wrap64 (v : Int) = (v : Int) := by unfold wrap64; omega
    clear h hc hn hvb
    go_enter Try.func78, Try.ntmps78
    go_wp2_with (first | (go_at_call 103; refine (xSome_yes 2 HC.out HN.out H.out).mono ?_; rintro e w1 ⟨rfl, X1, f1⟩) | (go_at_call 104; refine (CN.out _ X1).mono ?_; rintro e w2 ⟨rfl, X2, f2⟩) | (go_at_call 102; refine (xBad_calls 12 X2).mono ?_; rintro e w3 ⟨rfl, X3, f3⟩))
    go_ret
    rw [HT.out]
    exact ⟨by first | rfl | (simp; done), X3, ((f1).trans f2 (fun _ _ h => h)).trans f3 (fun _ _ h => h)⟩
  · have HT : Aside0 (rCou bs r most = ((val ((bs.drop r.at_).take 2) : Int), ⟨r.at_ + 2, r.at_, 0, r.fat⟩)) := ⟨take_ok hc (by unfold gCount; rw [if_neg hz, if_neg (by rw [List.length_drop]; omega), if_neg hv])⟩
    have CN0 := fun (W : World) (h : XR W gx A c bs r) => xNumber0_calls 0 2 (by omega) (by omega) HLE.out h
    simp only [Nat.add_zero] at CN0
    have CN := Aside0.mk CN0
    clear CN0
    have HVL := Aside0.mk (val_take_lt (bs.drop r.at_) 2 (h.byt.drop _) (by rw [List.length_drop]; omega))
    generalize val ((bs.drop r.at_).take 2) = v at *
    have hvb := HVL.out
    have hvw : wrap64 (v : Int) = (v : Int) := by unfold wrap64; omega
    clear h hc hn hvb
    go_enter Try.func78, Try.ntmps78
    go_wp2_with (first | (go_at_call 103; refine (xSome_yes 2 HC.out HN.out H.out).mono ?_; rintro e w1 ⟨rfl, X1, f1⟩) | (go_at_call 104; refine (CN.out _ X1).mono ?_; rintro e w2 ⟨rfl, X2, f2⟩) | (go_at_call 105; refine (xTook_calls 2 (HTK.out) X2).mono ?_; rintro e w3 ⟨rfl, X3, f3⟩))
    go_ret
    rw [HT.out]
    have hX := X3
    rw [HC.out] at hX
    exact ⟨by first | rfl | (simp; done) | (simp [hvw]; done), hX, ((f1).trans f2 (fun _ _ h => h)).trans f3 (fun _ _ h => h)⟩
theorem mid_eq (l : List Int) (a n : Nat) : (l.take (a + n)).drop a = (l.drop a).take n := by
  rw [List.drop_take, show a + n - a = n by omega]
theorem cut_str (h : XR w gx A c bs r) (a n : Nat) (hle : a + n ≤ bs.length) : ∃ A' c', (∀ W : World, (Instr.slice 24 (.slice A bs.length c) (some (.int .i64 (a : Int))) (some (.int .i64 ((a : Int) + n))) none).run Try.prog W = .ok (.slice A' n c') W) ∧
    (∀ W : World, XR W gx A c bs r → ∀ m, (convert 24 9 (.slice A' n c')).run Try.prog (W.drewN m) = .ok (.string (strOfNums ((bs.drop a).take n))) (W.drewN m)) := by
  obtain ⟨ti, hti, hte⟩ : ∃ i, Try.prog.info? 5 = some i ∧ i.size = 1 := by
    obtain ⟨i, h1, h2⟩ := Option.map_eq_some_iff.1 info_u8
    injection h2 with _ h2
    injection h2 with h2 _
    exact ⟨i, h1, h2⟩
  obtain ⟨A', h1, h2, _⟩ := print_mid_int (P := Try.prog) (k := .u8) 24 5 Try.underlying24 hti hte A c bs (a : Int) ((a : Int) + n) (by omega) (by omega) (by omega) h.cap
  have e1 : ((a : Int) + n).toNat = a + n := by omega
  have e3 : ((bs.take (a + n)).drop a).length = n := by rw [List.length_drop, List.length_take]; omega
  simp only [Int.toNat_natCast, e1, e3] at h1 h2
  refine ⟨A', _, h1, fun W hX m => ?_⟩
  have h3 := h2 W hX.rd_
  rw [mid_eq] at h3
  exact string_of_reads Try.underlying24 Try.underlying5 Try.underlying9 (h3.drewN m)
set_option maxHeartbeats 1600000 in
set_option maxRecDepth 100000 in
theorem xFix_calls (size : Int) (h : XR w gx A c bs r) : Calls Try.prog 49 #[.pointer (some ⟨gx, 0, none⟩), .int .i64 size] w (XPost gx A c bs (.string (strOfNums (rFix bs r size).1)) (rFix bs r size).2 w) := by
  have H := Aside0.mk h
  have hl := h.len
  have ha := h.le
  by_cases hz : size < 0 ∨ 65535 < size
  · have HT : Aside0 (rFix bs r size = ([], r.badX 1)) := ⟨take_errX (by unfold gFixed; rw [if_pos (by omega)])⟩
    have HC : Aside0 ((r.badX 1).code ≠ 0) := ⟨badX_off (by decide)⟩
    clear h
    rcases hz with hz | hz
    · skip
      go_enter Try.func49, Try.ntmps49
      go_wp2_with (first | (go_at_call 102; refine (xBad_calls 1 H.out).mono ?_; rintro e w1 ⟨rfl, X1, f1⟩) | (go_at_call 103; refine (xSome_off size HC.out X1).mono ?_; rintro e w2 ⟨rfl, X2, f2⟩))
      go_ret
      rw [HT.out]
      exact ⟨by first | rfl | (simp; done), X2, (f1).trans f2 (fun _ _ h => h)⟩
    · have hz' : ¬ size < 0 := by omega
      go_enter Try.func49, Try.ntmps49
      go_wp2_with (first | (go_at_call 102; refine (xBad_calls 1 H.out).mono ?_; rintro e w1 ⟨rfl, X1, f1⟩) | (go_at_call 103; refine (xSome_off size HC.out X1).mono ?_; rintro e w2 ⟨rfl, X2, f2⟩))
      go_ret
      rw [HT.out]
      exact ⟨by first | rfl | (simp; done), X2, (f1).trans f2 (fun _ _ h => h)⟩
  obtain ⟨k, rfl⟩ : ∃ k : Nat, size = k := ⟨size.toNat, by omega⟩
  have hz1 : ¬ (k : Int) < 0 := by omega
  have hz2 : ¬ 65535 < (k : Int) := by omega
  by_cases hc : r.code = 0
  case neg =>
    have HC := Aside0.mk hc
    have HT : Aside0 (rFix bs r k = ([], r)) := ⟨take_bad hc _ _⟩
    clear h hc
    go_enter Try.func49, Try.ntmps49
    go_wp2_with (first | (go_at_call 103; refine (xSome_off k HC.out H.out).mono ?_; rintro e w1 ⟨rfl, X1, f1⟩))
    go_ret
    rw [HT.out]
    exact ⟨by first | rfl | (simp; done), X1, f1⟩
  by_cases hn : (k : Int) ≤ (bs.length : Int) - r.at_
  case neg =>
    have HC := Aside0.mk hc
    have HN := Aside0.mk hn
    have HT : Aside0 (rFix bs r k = ([], r.badX 10)) := ⟨take_err hc (by unfold gFixed; rw [if_neg (by omega), if_pos (by rw [List.length_drop]; omega)])⟩
    clear h hc hn
    go_enter Try.func49, Try.ntmps49
    go_wp2_with (first | (go_at_call 103; refine (xSome_no k HC.out HN.out H.out).mono ?_; rintro e w1 ⟨rfl, X1, f1⟩))
    go_ret
    rw [HT.out]
    exact ⟨by first | rfl | (simp; done), X1, f1⟩
  have HC := Aside0.mk hc
  have HN := Aside0.mk hn
  have HT : Aside0 (rFix bs r k = ((bs.drop r.at_).take k, ⟨r.at_ + k, r.at_, 0, r.fat⟩)) := ⟨take_ok hc (by unfold gFixed; rw [if_neg (by omega), if_neg (by rw [List.length_drop]; omega), Int.toNat_natCast])⟩
  have HTK : Aside0 (r.at_ + k ≤ bs.length) := ⟨by omega⟩
  obtain ⟨A', c', hsl, hcv⟩ := cut_str h r.at_ k (by omega)
  have HSL := Aside0.mk hsl
  have HCV := Aside0.mk hcv
  have hs1 : IntKind.i64.wrap ((r.at_ : Int) + k) = (r.at_ : Int) + k := IntWalk.i64_in _ (by omega)
  have HS1 := Aside0.mk hs1
  clear h hc hn hz hsl hcv hs1
  go_enter Try.func49, Try.ntmps49
  go_wp2_with ((go_at_call 103; refine (xSome_yes k HC.out HN.out H.out).mono ?_; rintro e w1 ⟨rfl, X1, f1⟩))
  have hs1 := HS1.out
  have hsl := HSL.out
  have kcv := HCV.out _ X1
  have d0 : _ = Option.some (Value.slice A bs.length c) := blk_cell X1.blk 0
  have d1 : _ = Option.some (Value.int .i64 (r.at_ : Int)) := blk_cell X1.blk 1
  go_quiet (fail)
  have X2 := X1.drew nq
  clear hs1 hsl kcv d0 d1
  go_wp2_with ((go_at_call 105; refine (xTook_calls k (HTK.out) X2).mono ?_; rintro e w3 ⟨rfl, X3, f3⟩))
  go_ret
  rw [HT.out]
  have hX := X3
  rw [HC.out] at hX
  exact ⟨by first | rfl | (simp; done), hX, (f1.trans (Fr.of_below (below_drewN (Below.refl _ _) _)) (fun _ _ h => h)).trans f3 (fun _ _ h => h)⟩
end
end Go.Proofs.Ytgmbfecfkdbfaaa.Wi
