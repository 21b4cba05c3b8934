/- The laws' awake: the document's examples hold. -/
import Derived.Test.YtgcehkhlkjahjaaWiL2
set_option linter.unusedVariables false
set_option linter.unusedSimpArgs false
namespace Go.Proofs.Ytgcehkhlkjahjaa.Wi
open Go Go.RowKit Go.Proofs.YtgcehkhlkjahjaaW.PrintWords
/-- a writer of the call's own -/
def WAt (w W : World) (g : Nat) (s : WS) : Prop := Below w.heap.size w W ∧ ∃ ro, Wr W w.heap.size g ro s
/-- a reader of the call's own -/
def RAt (w W : World) (g : Nat) (bs : List Int) (r : RS) : Prop := Below w.heap.size w W ∧ ∃ ro, Rd W w.heap.size g ro bs r
section
variable {w W : World} {g : Nat} {s s' : WS} {bs : List Int} {r r' : RS}
theorem WAt.of {ro : Option Nat} {e : Ending} {W' : World} (hb : Below w.heap.size w W) (hw : Wr W w.heap.size g ro s) (h : WPost w.heap.size g ro s' W e W') : e = .returned (.tuple #[]) ∧ WAt w W' g s' := by
  obtain ⟨he, ro', hw', _, hf⟩ := h
  exact ⟨he, hb.trans (hf.below hb.size (fun i hi => by
    rcases hi with rfl | hi
    · exact hw.base
    · exact (hw.ro_lt i hi).1)), ro', hw'⟩
theorem RAt.of {ro : Option Nat} {e : Ending} {W' : World} {u : Value} (hb : Below w.heap.size w W) (hw : Rd W w.heap.size g ro bs r) (h : RPost w.heap.size g ro bs u r' W e W') : e = .returned u ∧ RAt w W' g bs r' ∧ Fr (fun i => i = g) W W' := by
  obtain ⟨he, hw', hf⟩ := h
  exact ⟨he, ⟨hb.trans (hf.below hb.size (fun i hi => by
    subst hi
    exact hw.base)), ⟨ro, hw'⟩⟩, hf⟩
theorem Rd.lower {B B' : Nat} {ro : Option Nat} (h : Rd w B g ro bs r) (hB : B' ≤ B) : Rd w B' g ro bs r := by
  obtain ⟨v, hb, ho, hr⟩ := h.at_
  exact ⟨⟨v, hb, own_upto ho (fun k hk => Nat.le_trans hB (own_base ho k hk)), hr⟩, Nat.le_trans hB h.base, h.le, h.byt, h.len⟩
theorem Wr.lower {B B' : Nat} {ro : Option Nat} (h : Wr w B g ro s) (hB : B' ≤ B) : Wr w B' g ro s := by
  obtain ⟨v, hb, ho, hr⟩ := h.at_
  exact ⟨⟨v, hb, own_upto ho (fun k hk => Nat.le_trans hB (own_base ho k hk)), hr⟩, Nat.le_trans hB h.base⟩
theorem WAt.number (h : WAt w W g s) (n size : Int) (hn : n ≤ 9223372036854775807) (hs : s.put (pNumber n size) = s') (hl : s'.xs.length ≤ 140737488355328) : Calls Try.prog 34 #[.pointer (some ⟨g, 0, none⟩), .int .i64 n, .int .i64 size] W fun e W' => e = .returned (.tuple #[]) ∧ WAt w W' g s' := by
  obtain ⟨hb, ro, hw⟩ := h
  subst hs
  exact (wNumber_calls n size hn hw hb.size hl).mono fun e W' h => WAt.of hb hw h
theorem WAt.bool (h : WAt w W g s) (is : Bool) (hs : s.put (pBool is) = s') (hl : s'.xs.length ≤ 140737488355328) : Calls Try.prog 35 #[.pointer (some ⟨g, 0, none⟩), .bool is] W fun e W' => e = .returned (.tuple #[]) ∧ WAt w W' g s' := by
  obtain ⟨hb, ro, hw⟩ := h
  subst hs
  exact (wBool_calls is hw hb.size hl).mono fun e W' h => WAt.of hb hw h
theorem WAt.text (h : WAt w W g s) (y : ByteArray) (hy : y.size ≤ 9223372036854775807) (hs : s.put (pText y) = s') (hl : s'.xs.length ≤ 140737488355328) : Calls Try.prog 36 #[.pointer (some ⟨g, 0, none⟩), .string y] W fun e W' => e = .returned (.tuple #[]) ∧ WAt w W' g s' := by
  obtain ⟨hb, ro, hw⟩ := h
  subst hs
  exact (wText_calls y hy hw hb.size hl).mono fun e W' h => WAt.of hb hw h
theorem WAt.count (h : WAt w W g s) (n : Int) (hn : n ≤ 9223372036854775807) (hs : s.put (pNumber n 2) = s') (hl : s'.xs.length ≤ 140737488355328) : Calls Try.prog 37 #[.pointer (some ⟨g, 0, none⟩), .int .i64 n] W fun e W' => e = .returned (.tuple #[]) ∧ WAt w W' g s' := by
  obtain ⟨hb, ro, hw⟩ := h
  subst hs
  exact (wCount_calls n hn hw hb.size hl).mono fun e W' h => WAt.of hb hw h
theorem RAt.number (h : RAt w W g bs r) (size x : Int) (hs : rNum bs r size = (x, r')) : Calls Try.prog 25 #[.pointer (some ⟨g, 0, none⟩), .int .i64 size] W fun e W' => e = .returned (.int .i64 x) ∧ RAt w W' g bs r' ∧ Fr (fun i => i = g) W W' := by
  obtain ⟨hb, ro, hw⟩ := h
  have C := rNumber_calls size hw hb.size
  unfold rNum at hs
  rw [hs] at C
  exact C.mono fun e W' h => RAt.of hb hw h
theorem RAt.bool (h : RAt w W g bs r) (x : Bool) (hs : rBoo bs r = (x, r')) : Calls Try.prog 28 #[.pointer (some ⟨g, 0, none⟩)] W fun e W' => e = .returned (.bool x) ∧ RAt w W' g bs r' ∧ Fr (fun i => i = g) W W' := by
  obtain ⟨hb, ro, hw⟩ := h
  have C := rBool_calls hw hb.size
  unfold rBoo at hs
  rw [hs] at C
  exact C.mono fun e W' h => RAt.of hb hw h
theorem RAt.text (h : RAt w W g bs r) (most : Int) (x : List Int) (hs : rTex bs r most = (x, r')) : Calls Try.prog 29 #[.pointer (some ⟨g, 0, none⟩), .int .i64 most] W fun e W' => e = .returned (.string (strOfNums x)) ∧ RAt w W' g bs r' ∧ Fr (fun i => i = g) W W' := by
  obtain ⟨hb, ro, hw⟩ := h
  have C := rText_calls most hw hb.size
  unfold rTex at hs
  rw [hs] at C
  exact C.mono fun e W' h => RAt.of hb hw h
theorem RAt.count (h : RAt w W g bs r) (most x : Int) (hs : rCou bs r most = (x, r')) : Calls Try.prog 31 #[.pointer (some ⟨g, 0, none⟩), .int .i64 most] W fun e W' => e = .returned (.int .i64 x) ∧ RAt w W' g bs r' ∧ Fr (fun i => i = g) W W' := by
  obtain ⟨hb, ro, hw⟩ := h
  have C := rCount_calls most hw hb.size
  unfold rCou at hs
  rw [hs] at C
  exact C.mono fun e W' h => RAt.of hb hw h
theorem RAt.fault (h : RAt w W g bs r) : Calls Try.prog 18 #[.pointer (some ⟨g, 0, none⟩)] W fun e W' => e = .returned (.agg #[.int .i64 r.code, .int .i64 r.fat]) ∧ RAt w W' g bs r ∧ Fr (fun i => i = g) W W' := by
  obtain ⟨hb, ro, hw⟩ := h
  exact (rFault_calls hw).mono fun e W' h => ⟨h.1, ⟨below_then hb hb.size h.2, ro, hw.below h.2⟩, Fr.of_below h.2⟩
theorem RAt.at' (h : RAt w W g bs r) : Calls Try.prog 17 #[.pointer (some ⟨g, 0, none⟩)] W fun e W' => e = .returned (.int .i64 r.at_) ∧ W = W' := by
  obtain ⟨hb, ro, hw⟩ := h
  exact rAt_calls hw
theorem RAt.fail' (h : RAt w W g bs r) (x : Int) : Calls Try.prog 20 #[.pointer (some ⟨g, 0, none⟩), .int .i64 x] W fun e W' => e = .returned (.tuple #[]) ∧ RAt w W' g bs (r.fail x) ∧ Fr (fun i => i = g) W W' := by
  obtain ⟨hb, ro, hw⟩ := h
  exact (rFail_calls x hw).mono fun e W' h => RAt.of hb hw h
theorem RAt.end' (h : RAt w W g bs r) : Calls Try.prog 33 #[.pointer (some ⟨g, 0, none⟩)] W fun e W' => e = .returned (.agg #[.int .i64 (r.end_ bs.length).code, .int .i64 (r.end_ bs.length).fat]) ∧ RAt w W' g bs (r.end_ bs.length) ∧ Fr (fun i => i = g) W W' := by
  obtain ⟨hb, ro, hw⟩ := h
  exact (rEnd_calls hw).mono fun e W' h => RAt.of hb hw h
theorem RAt.nothing (h : RAt w W g bs r) (p : Pc) (hp : p.Ok) : Calls Try.prog 19 #[.pointer (some ⟨g, 0, none⟩), p.val] W fun e W' => e = .returned (.bool (nothingB bs r p)) ∧ RAt w W' g bs (nothingS bs r p) ∧ Fr (fun i => i = g) W W' := by
  obtain ⟨hb, ro, hw⟩ := h
  exact (nothing_calls p hp hw hb.size).mono fun e W' h => RAt.of hb hw h
theorem RAt.taken (h : RAt w W g bs r) (p : Pc) (hp : p.Ok) : Calls Try.prog 32 #[.pointer (some ⟨g, 0, none⟩), p.val] W fun e W' => e = .returned (.bool (takenB bs r p)) ∧ RAt w W' g bs (takenS bs r p) ∧ Fr (fun i => i = g) W W' := by
  obtain ⟨hb, ro, hw⟩ := h
  exact (taken_calls p hp hw hb.size).mono fun e W' h => RAt.of hb hw h
theorem RAt.below (h : RAt w W g bs r) {W' : World} (hb : Below W.heap.size W W') : RAt w W' g bs r := by
  obtain ⟨hb0, ro, hw⟩ := h
  exact ⟨below_then hb0 hb0.size hb, ro, hw.below hb⟩
theorem RAt.lt (h : RAt w W g bs r) : g < W.heap.size := by
  obtain ⟨hb0, ro, hw⟩ := h
  exact hw.lt
theorem WAt.below (h : WAt w W g s) {W' : World} (hb : Below W.heap.size W W') : WAt w W' g s := by
  obtain ⟨hb0, ro, hw⟩ := h
  exact ⟨below_then hb0 hb0.size hb, ro, hw.below hb⟩
theorem WAt.put (h : WAt w W g s) (p : Pc) (hp : p.Ok) (hl : (s.step p).xs.length ≤ 140737488355328) : Calls Try.prog 11 #[.pointer (some ⟨g, 0, none⟩), p.val] W fun e W' => e = .returned (.tuple #[]) ∧ WAt w W' g (s.step p) := by
  obtain ⟨hb, ro, hw⟩ := h
  exact (lput_calls p hp hw hb.size hl).mono fun e W' h => WAt.of hb hw h
theorem newR (hb : Below w.heap.size w W) (A : Option Addr) (c : Nat) (hr : ReadsInt W .u8 A bs.length bs) (hB : Bytes bs) (hl : bs.length ≤ 140737488355328) : Calls Try.prog 16 #[.slice A bs.length c] W fun e W' => ∃ g, e = .returned (.pointer (some ⟨g, 0, none⟩)) ∧ RAt w W' g bs ⟨0, 0, 0, 0⟩ ∧ Below W.heap.size W W' := by
  refine (newReader_calls A c bs W hr hB hl).mono fun e W' h => ?_
  obtain ⟨g, ro, he, hrd, hb'⟩ := h
  exact ⟨g, he, ⟨below_then hb hb.size hb', ro, hrd.lower hb.size⟩, hb'⟩
theorem newW (hb : Below w.heap.size w W) : Calls Try.prog 10 #[] W fun e W' => e = .returned (.pointer (some ⟨W.heap.size, 0, none⟩)) ∧ WAt w W' W.heap.size ⟨[], false⟩ ∧ Below W.heap.size W W' := by
  refine (newWriter_calls W).mono fun e W' h => ?_
  obtain ⟨he, hw, hb'⟩ := h
  exact ⟨he, ⟨below_then hb hb.size hb', none, hw.lower hb.size⟩, hb'⟩
/-- the cells of a piece that lies in a list -/
structure PcAt (W : World) (ad : Addr) (p : Pc) : Prop where
  c0 : W.cell? ad = some (.int .i64 p.kind)
  c1 : W.cell? ⟨ad.block, ad.off + 1, none⟩ = some (.int .i64 p.n)
  c2 : W.cell? ⟨ad.block, ad.off + 2, none⟩ = some (.int .i64 p.size)
  c3 : W.cell? ⟨ad.block, ad.off + 3, none⟩ = some (.float .f64 p.x)
  c4 : W.cell? ⟨ad.block, ad.off + 4, none⟩ = some (.bool p.is)
  c5 : W.cell? ⟨ad.block, ad.off + 5, none⟩ = some (.string p.s)
theorem PcAt.of {ad : Addr} {p : Pc} (h : PcAt w ad p) (hb : Below w.heap.size w W) : PcAt W ad p :=
  ⟨pw_cell_below hb h.c0, pw_cell_below hb h.c1, pw_cell_below hb h.c2, pw_cell_below hb h.c3, pw_cell_below hb h.c4, pw_cell_below hb h.c5⟩
theorem pc_at {A : Option Addr} {l : List Pc} (h : kPc.C w A l.length l) (k : Nat) (hk : k < l.length) : ∃ ad, A = some ad ∧ (l[k]'hk).Ok ∧ PcAt w (ad.add (k * 6)) (l[k]'hk) := by
  obtain ⟨ad, e, hok, d0, d1, d2, d3, d4, d5⟩ := at_pc h k hk
  exact ⟨ad, e, hok, d0, d1, d2, d3, d4, d5⟩
theorem WAt.bytes (h : WAt w W g s) (hl : s.xs.length ≤ 140737488355328) : Calls Try.prog 13 #[.pointer (some ⟨g, 0, none⟩)] W fun e W' => ∃ A c, e = .returned (.tuple #[.slice A s.out.length c, .int .i64 s.err]) ∧ ReadsInt W' .u8 A s.out.length s.out ∧ Below w.heap.size w W' := by
  obtain ⟨hb, ro, hw⟩ := h
  refine (wBytes_calls hw hl).mono fun e W' h => ?_
  obtain ⟨v, rfl, ho, hb'⟩ := h
  obtain ⟨A, c, rfl, _, hr⟩ := own_reads' ho
  exact ⟨A, c, rfl, hr, below_then hb hb.size hb'⟩
end
def exB : List Int := [1, 2, 1, 0, 2, 97, 98, 0, 3]
theorem exBytes : Bytes exB := by unfold exB Bytes; decide
theorem ex1 : (⟨[], false⟩ : WS).put (pNumber 258 2) = ⟨[1, 2], false⟩ := rfl
theorem ex2 : (⟨[1, 2], false⟩ : WS).put (pBool true) = ⟨[1, 2, 1], false⟩ := rfl
theorem ex3 : (⟨[1, 2, 1], false⟩ : WS).put (pText ⟨#[97, 98]⟩) = ⟨[1, 2, 1, 0, 2, 97, 98], false⟩ := rfl
theorem ex4 : (⟨[1, 2, 1, 0, 2, 97, 98], false⟩ : WS).put (pNumber 3 2) = ⟨exB, false⟩ := rfl
theorem ey1 : rNum exB ⟨0, 0, 0, 0⟩ 2 = (258, ⟨2, 0, 0, 0⟩) := rfl
theorem ey2 : rBoo exB ⟨2, 0, 0, 0⟩ = (true, ⟨3, 2, 0, 0⟩) := rfl
theorem ey3 : rTex exB ⟨3, 2, 0, 0⟩ 5 = ([97, 98], ⟨7, 3, 0, 0⟩) := rfl
theorem ey4 : rCou exB ⟨7, 3, 0, 0⟩ 3 = (3, ⟨9, 7, 0, 0⟩) := rfl
theorem ey5 : rBoo exB ⟨9, 7, 0, 0⟩ = (false, ⟨9, 7, 10, 9⟩) := rfl
theorem exStr : strOfNums exB = ⟨#[1, 2, 1, 0, 2, 97, 98, 0, 3]⟩ := rfl
theorem exStr2 : strOfNums [97, 98] = ⟨#[97, 98]⟩ := rfl
set_option maxHeartbeats 8000000 in
set_option maxRecDepth 100000 in
theorem awake_calls (w : World) : Calls Try.prog 9 #[] w fun e w' => e = .returned (.bool true) ∧ Below w.heap.size w w' := by
  have HE := Aside0.mk exBytes
  have hl : exB.length = 9 := rfl
  have HLE := Aside0.mk hl
  have HS1 := Aside0.mk exStr
  clear hl
  have X4 := Aside0.mk ex4
  have Y1 := Aside0.mk ey1
  have Y2 := Aside0.mk ey2
  have Y3 := Aside0.mk ey3
  have Y4 := Aside0.mk ey4
  have Y5 := Aside0.mk ey5
  have hO : (⟨exB, false⟩ : WS).out = exB := rfl
  have HO := Aside0.mk hO
  clear hO
  generalize exB = b at HE HLE HS1 X4 Y1 Y2 Y3 Y4 Y5 HO
  go_enter Try.func9, Try.ntmps9
  go_wp2_with (first
    | (go_at_call 10; refine (newWriter_calls _).mono ?_; rintro e w0 ⟨rfl, hw, hb⟩; have S0 : WAt w w0 w.heap.size ⟨[], false⟩ := ⟨hb, _, hw⟩; clear hw hb)
    | (go_at_call 34; refine (WAt.number S0 258 2 (by omega) ex1 (by decide)).mono ?_; rintro e w1 ⟨rfl, S1⟩)
    | (go_at_call 35; refine (WAt.bool S1 true ex2 (by decide)).mono ?_; rintro e w2 ⟨rfl, S2⟩)
    | (go_at_call 36; refine (WAt.text S2 ⟨#[97, 98]⟩ (by decide) ex3 (by decide)).mono ?_; rintro e w3 ⟨rfl, S3⟩)
    | (go_at_call 37; refine (WAt.count S3 3 (by omega) X4.out (by rw [HLE.out]; decide)).mono ?_; rintro e w4 ⟨rfl, S4⟩)
    | (go_at_call 13; refine (WAt.bytes S4 (by rw [HLE.out]; decide)).mono ?_; rw [HO.out]; rintro e w5 ⟨A, c, rfl, hrd, hb5⟩)
    | (go_at_call 16; refine (newReader_calls A c b _ hrd HE.out (by rw [HLE.out]; decide)).mono ?_; rintro e w6 ⟨g, ro, rfl, hrr, hb6⟩; have kc := string_of_reads (P := Try.prog) (c := c) Try.underlying27 Try.underlying5 Try.underlying9 (hrd.below hb6); rw [HS1.out] at kc; have R0 : RAt w w6 g b ⟨0, 0, 0, 0⟩ := ⟨below_then hb5 hb5.size hb6, ro, hrr.lower hb5.size⟩; clear hrr hb6)
    | (go_at_call 25; refine (RAt.number R0 2 258 Y1.out).mono ?_; rintro e w7 ⟨rfl, R1, _⟩)
    | (go_at_call 28; first | (refine (RAt.bool R4 false Y5.out).mono ?_; rintro e w11 ⟨rfl, R5, _⟩) | (refine (RAt.bool R1 true Y2.out).mono ?_; rintro e w8 ⟨rfl, R2, _⟩))
    | (go_at_call 29; refine (RAt.text R2 5 [97, 98] Y3.out).mono ?_; rw [exStr2]; rintro e w9 ⟨rfl, R3, _⟩)
    | (go_at_call 31; refine (RAt.count R3 3 3 Y4.out).mono ?_; rintro e w10 ⟨rfl, R4, _⟩)
    | (go_at_call 18; refine (RAt.fault R5).mono ?_; rintro e w12 ⟨rfl, R6, _⟩)
    )
  go_ret
  exact ⟨rfl, R6.1⟩
end Go.Proofs.Ytgcehkhlkjahjaa.Wi
