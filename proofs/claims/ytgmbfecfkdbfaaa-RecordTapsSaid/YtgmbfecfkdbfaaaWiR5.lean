/- The reader's pieces, as they are read out of a cursor. -/
import Derived.Test.YtgmbfecfkdbfaaaWiR4
set_option linter.unusedVariables false
set_option linter.unusedSimpArgs false
namespace Go.Proofs.Ytgmbfecfkdbfaaa.Wi
open Go Go.RowKit Go.Proofs.YtgmbfecfkdbfaaaW.PrintWords
/-- a piece's value as the program has it -/
def lift {α : Type} (enc : α → Value) : Except Int (α × Nat) → Except Int (Value × Nat)
  | .ok (x, k) => .ok (enc x, k)
  | .error e => .error e
theorem read_err {gc gx c at_ : Nat} {T : TypeId} {A : Option Addr} {bs : List Int} {k : Int} {W W' : World} (h : CGave gc k W (.panicked (gave k)) W') (hne : gx ≠ gc) (hx : gx < W.heap.size) : ReadP gc gx T A bs c at_ (.error k) W (.panicked (gave k)) W' :=
  ⟨⟨rfl, h.2.block gx hx hne⟩, h.2.mono (fun _ _ h => .inl h)⟩
theorem read_ok {gc gx c at_ k : Nat} {T : TypeId} {A : Option Addr} {bs : List Int} {u u0 : Value} {W W' : World} (hcu : Cur W' gc A bs.length c (at_ + k)) (hx : W'.heap[gx]? = some (.cells #[u0] T (0, 0))) (hf : Fr (CurS gc) W W') (hne : gx ≠ gc) :
    ReadP gc gx T A bs c at_ (.ok (u, k)) W (.returned (.tuple #[])) (W'.setCell ⟨gx, 0, none⟩ u) := by
  refine ⟨⟨rfl, ?_, ?_⟩, (hf.mono (fun _ _ h => .inl h)).set_ (.inl (.inr rfl)) _⟩
  · exact blk_far hcu (fun e => hne e.symm) _
  · have := blk_set hx 0 u
    simpa using this
/-- what a cursor over a reader's bytes is -/
structure CR (W : World) (gc : Nat) (A : Option Addr) (bs : List Int) (c at_ : Nat) : Prop where
  cur : Cur W gc A bs.length c at_
  rd : ReadsInt W .u8 A bs.length bs
  cap : bs.length ≤ c
  le : at_ ≤ bs.length
  byt : Bytes bs
  len : bs.length ≤ 140737488355328
  ne_ : ∀ ad, A = some ad → ad.block ≠ gc
section
variable {W : World} {gc gx c at_ : Nat} {A : Option Addr} {bs : List Int}
theorem CR.short (h : CR W gc A bs c at_) (n : Nat) (hn : bs.length < at_ + n) (hn2 : n ≤ 140737488355328) : Calls Try.prog 153 #[.pointer (some ⟨gc, 0, none⟩), .int .i64 n] W (CGave gc 10 W) := cbits_short gc A bs c at_ n W h.cur h.le h.len hn hn2
theorem CR.bits (h : CR W gc A bs c at_) (n : Nat) (hn : at_ + n ≤ bs.length) (hn8 : n ≤ 8) : Calls Try.prog 153 #[.pointer (some ⟨gc, 0, none⟩), .int .i64 n] W (CBits gc A bs c at_ n W) := cbits_ok gc A bs c at_ n W h.cur h.rd h.cap h.len h.byt hn hn8 h.ne_
theorem asInt_wrap (n : Nat) (h : n < 18446744073709551616) : wrap64 (n : Int) = asInt n := by
  unfold asInt wrap64
  split <;> omega
set_option maxHeartbeats 1600000 in
set_option maxRecDepth 100000 in
theorem rint1_calls (h : CR W gc A bs c at_) (x0 : Int) (hx : W.heap[gx]? = some (.cells #[.int .i64 x0] 3 (0, 0))) :
    Calls Try.prog 169 #[.pointer (some ⟨gc, 0, none⟩), .pointer (some ⟨gx, 0, none⟩)] W (ReadP gc gx 3 A bs c at_ (lift (Value.int .i64) (gInt (bs.drop at_))) W) := by
  have hne : gx ≠ gc := blk_ne hx h.cur (by decide)
  have hlt := blk_lt hx
  by_cases hn : bs.length < at_ + 8
  · have HF : Aside0 (lift (Value.int .i64) (gInt (bs.drop at_)) = .error 10) := ⟨by simp [gInt, lift, show bs.length - at_ < 8 by omega]⟩
    have C := Aside0.mk (h.short 8 hn (by omega))
    clear h hx
    go_enter Try.func169, Try.ntmps169
    go_wp2_with (go_at_call 153; refine C.out.mono ?_; rintro e w' ⟨rfl, hf⟩)
    exact ⟨rfl, by rw [HF.out]; exact read_err ⟨rfl, hf⟩ hne hlt⟩
  · have HF : Aside0 (lift (Value.int .i64) (gInt (bs.drop at_)) = .ok (.int .i64 (asInt (val ((bs.drop at_).take 8))), 8)) := ⟨by simp [gInt, lift, show ¬ bs.length - at_ < 8 by omega]⟩
    have HV := Aside0.mk (val_lt ((bs.drop at_).take 8) ((h.byt.drop at_).take 8))
    have HVL : Aside0 (((bs.drop at_).take 8).length = 8) := ⟨by rw [List.length_take, List.length_drop]; omega⟩
    have C := Aside0.mk (h.bits 8 (by omega) (by omega))
    have HX := Aside0.mk hx
    clear h hx
    unfold CBits at C
    generalize val ((bs.drop at_).take 8) = n at C HF HV
    have HW : Aside0 (wrap64 (n : Int) = asInt n) := ⟨asInt_wrap n (by have := HV.out; rw [HVL.out] at this; exact this)⟩
    go_enter Try.func169, Try.ntmps169
    go_wp2_with (go_at_call 153; refine C.out.mono ?_; rintro e w' ⟨rfl, hcu, hf⟩; have hx1 := hf.blk HX.out hne; have cx : w'.cell? ⟨gx, 0, none⟩ = some (.int .i64 x0) := (blk_cell hx1 0).trans rfl; have fx : w'.frozen? ⟨gx, 0, none⟩ = false := blk_frozen hx1 0)
    go_end0
    rw [HF.out, HW.out]
    exact read_ok hcu hx1 hf hne
set_option maxHeartbeats 1600000 in
set_option maxRecDepth 100000 in
theorem rnumber1_calls (h : CR W gc A bs c at_) (x0 : Int) (size : Int) (bz : Nat) (hz : W.heap[bz]? = some (.cells #[.int .i64 size] 3 (0, 0))) (hx : W.heap[gx]? = some (.cells #[.int .u64 x0] 142 (0, 0))) :
    Calls Try.prog 152 #[.pointer (some ⟨gc, 0, none⟩), .pointer (some ⟨bz, 0, none⟩), .pointer (some ⟨gx, 0, none⟩)] W (ReadP gc gx 142 A bs c at_ (lift (Value.int .u64) (gNumber (bs.drop at_) size)) W) := by
  have hne : gx ≠ gc := blk_ne hx h.cur (by decide)
  have hlt := blk_lt hx
  have cz : W.cell? ⟨bz, 0, none⟩ = some (.int .i64 size) := (blk_cell hz 0).trans rfl
  clear hz
  cases hs : sizedB size with
  | false =>
    have HF : Aside0 (lift (Value.int .u64) (gNumber (bs.drop at_) size) = .error 1) := ⟨by simp [gNumber, lift, hs]⟩
    have HS := Aside0.mk hs
    clear h hx hs
    go_enter Try.func152, Try.ntmps152
    go_wp2_with (first | (go_at_call 149; refine (sized_calls _ _).mono ?_; rw [HS.out]; rintro e w2 ⟨rfl, rfl⟩) | (go_at_call 146; refine (check_no _ _).mono ?_; rintro e w1 ⟨rfl, rfl⟩))
    exact ⟨rfl, by rw [HF.out]; exact read_err ⟨rfl, Fr.refl _ _⟩ hne hlt⟩
  | true =>
    have hz' : 1 ≤ size ∧ size ≤ 8 := by simpa [sizedB] using hs
    obtain ⟨n, rfl⟩ := Int.eq_ofNat_of_zero_le (show 0 ≤ size by omega)
    have HS := Aside0.mk hs
    by_cases hn : bs.length < at_ + n
    · have HF : Aside0 (lift (Value.int .u64) (gNumber (bs.drop at_) n) = .error 10) := ⟨by
        have h1 : (((bs.drop at_).length : Nat) : Int) < (n : Int) := by rw [List.length_drop]; omega
        simp only [gNumber, hs, if_neg (show ¬ (true = false) by decide), if_pos h1, lift]⟩
      have C := Aside0.mk (h.short n hn (by omega))
      clear h hx hs
      go_enter Try.func152, Try.ntmps152
      go_wp2_with (first | (go_at_call 149; refine (sized_calls _ _).mono ?_; rw [HS.out]; rintro e w2 ⟨rfl, rfl⟩) | (go_at_call 146; refine (check_ok _ _).mono ?_; rintro e w1 ⟨rfl, rfl⟩) | (go_at_call 153; refine C.out.mono ?_; rintro e w' ⟨rfl, hf⟩))
      exact ⟨rfl, by rw [HF.out]; exact read_err ⟨rfl, hf⟩ hne hlt⟩
    · have h1 : ¬ (((bs.drop at_).length : Nat) : Int) < (n : Int) := by rw [List.length_drop]; have := h.le; omega
      have HG : Aside0 (gNumber (bs.drop at_) n = if 9223372036854775808 ≤ val ((bs.drop at_).take n) then .error 11 else .ok (val ((bs.drop at_).take n), n)) := ⟨by
        simp only [gNumber, hs, if_neg (show ¬ (true = false) by decide), if_neg h1, Int.toNat_natCast]⟩
      have C := Aside0.mk (h.bits n (by omega) (by omega))
      have HX := Aside0.mk hx
      clear h hx hs h1
      unfold CBits at C
      generalize val ((bs.drop at_).take n) = m at C HG
      by_cases hm : 9223372036854775808 ≤ m
      · have HF : Aside0 (lift (Value.int .u64) (gNumber (bs.drop at_) n) = .error 11) := ⟨by rw [HG.out, if_pos hm]; rfl⟩
        have t1 : decide (m ≤ 9223372036854775807) = false := decide_eq_false (by omega)
        have t2 : decide ((m : Int) ≤ 9223372036854775807) = false := decide_eq_false (by omega)
        go_enter Try.func152, Try.ntmps152
        go_wp2_with (first | (go_at_call 149; refine (sized_calls _ _).mono ?_; rw [HS.out]; rintro e w2 ⟨rfl, rfl⟩) | (go_at_call 153; refine C.out.mono ?_; rintro e w' ⟨rfl, hcu, hf⟩; have hx1 := hf.blk HX.out hne; have cx : w'.cell? ⟨gx, 0, none⟩ = some (.int .u64 x0) := (blk_cell hx1 0).trans rfl; have fx : w'.frozen? ⟨gx, 0, none⟩ = false := blk_frozen hx1 0) | (go_at_call 146; first | ((with_reducible refine (check_ok _ _).mono ?_); rintro e w1 ⟨rfl, rfl⟩) | ((with_reducible refine (check_no _ _).mono ?_); rintro e w1 ⟨rfl, rfl⟩)))
        exact ⟨rfl, by rw [HF.out]; exact read_err ⟨rfl, hf⟩ hne hlt⟩
      · have HF : Aside0 (lift (Value.int .u64) (gNumber (bs.drop at_) n) = .ok (.int .u64 m, n)) := ⟨by rw [HG.out, if_neg hm]; rfl⟩
        have t1 : decide (m ≤ 9223372036854775807) = true := decide_eq_true (by omega)
        have t2 : decide ((m : Int) ≤ 9223372036854775807) = true := decide_eq_true (by omega)
        go_enter Try.func152, Try.ntmps152
        go_wp2_with (first | (go_at_call 149; refine (sized_calls _ _).mono ?_; rw [HS.out]; rintro e w2 ⟨rfl, rfl⟩) | (go_at_call 153; refine C.out.mono ?_; rintro e w' ⟨rfl, hcu, hf⟩; have hx1 := hf.blk HX.out hne; have cx : w'.cell? ⟨gx, 0, none⟩ = some (.int .u64 x0) := (blk_cell hx1 0).trans rfl; have fx : w'.frozen? ⟨gx, 0, none⟩ = false := blk_frozen hx1 0) | (go_at_call 146; refine (check_ok _ _).mono ?_; rintro e w1 ⟨rfl, rfl⟩))
        go_end0
        rw [HF.out]
        exact read_ok hcu hx1 hf hne
end
end Go.Proofs.Ytgmbfecfkdbfaaa.Wi
