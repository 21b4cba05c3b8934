/- The laws' awake: the document's examples hold. -/
import Derived.Test.YtgmbfecfkdbfaaaWiL2
set_option linter.unusedVariables false
set_option linter.unusedSimpArgs false
namespace Go.Proofs.Ytgmbfecfkdbfaaa.Wi
open Go Go.RowKit Go.Proofs.YtgmbfecfkdbfaaaW.PrintWords
/-- a writer of the call's own -/
def WAt (w W : World) (g : Nat) (s : WS) : Prop := Below w.heap.size w W ∧ ∃ ro, Wr W w.heap.size g ro s
/-- a reader of the call's own -/
def RAt (w W : World) (g : Nat) (bs : List Int) (r : RS) : Prop := Below w.heap.size w W ∧ ∃ ro, Rd W w.heap.size g ro bs r
section
variable {w W : World} {g : Nat} {s s' : WS} {bs : List Int} {r r' : RS}
theorem WAt.of {ro : Option Nat} {e : Ending} {W' : World} (hb : Below w.heap.size w W) (hw : Wr W w.heap.size g ro s) (h : WPost w.heap.size g ro s' W e W') : e = .returned (.tuple #[]) ∧ WAt w W' g s' := by
  obtain ⟨he, ro', hw', _, hf⟩ := h
  exact ⟨he, hb.trans (hf.below hb.size (fun i hi => by
    rcases hi with rfl | hi
    · exact hw.base
    · exact (hw.ro_lt i hi).1)), ro', hw'⟩
theorem RAt.of {ro : Option Nat} {e : Ending} {W' : World} {u : Value} (hb : Below w.heap.size w W) (hw : Rd W w.heap.size g ro bs r) (h : RPost w.heap.size g ro bs u r' W e W') : e = .returned u ∧ RAt w W' g bs r' ∧ Fr (fun i => i = g) W W' := by
  obtain ⟨he, hw', hf⟩ := h
  exact ⟨he, ⟨hb.trans (hf.below hb.size (fun i hi => by
    subst hi
    exact hw.base)), ⟨ro, hw'⟩⟩, hf⟩
theorem Rd.lower {B B' : Nat} {ro : Option Nat} (h : Rd w B g ro bs r) (hB : B' ≤ B) : Rd w B' g ro bs r := by
  obtain ⟨v, hb, ho, hr⟩ := h.at_
  exact ⟨⟨v, hb, own_upto ho (fun k hk => Nat.le_trans hB (own_base ho k hk)), hr⟩, Nat.le_trans hB h.base, h.le, h.byt, h.len⟩
theorem Wr.lower {B B' : Nat} {ro : Option Nat} (h : Wr w B g ro s) (hB : B' ≤ B) : Wr w B' g ro s := by
  obtain ⟨v, hb, ho, hr⟩ := h.at_
  exact ⟨⟨v, hb, own_upto ho (fun k hk => Nat.le_trans hB (own_base ho k hk)), hr⟩, Nat.le_trans hB h.base⟩
theorem WAt.number (h : WAt w W g s) (n size : Int) (hn : n ≤ 9223372036854775807) (hs : s.put (pNumber n size) = s') (hl : s'.xs.length ≤ 140737488355328) : Calls Try.prog 111 #[.pointer (some ⟨g, 0, none⟩), .int .i64 n, .int .i64 size] W fun e W' => e = .returned (.tuple #[]) ∧ WAt w W' g s' := by
  obtain ⟨hb, ro, hw⟩ := h
  subst hs
  exact (wNumber_calls n size hn hw hb.size hl).mono fun e W' h => WAt.of hb hw h
theorem WAt.bool (h : WAt w W g s) (is : Bool) (hs : s.put (pBool is) = s') (hl : s'.xs.length ≤ 140737488355328) : Calls Try.prog 156 #[.pointer (some ⟨g, 0, none⟩), .bool is] W fun e W' => e = .returned (.tuple #[]) ∧ WAt w W' g s' := by
  obtain ⟨hb, ro, hw⟩ := h
  subst hs
  exact (wBool_calls is hw hb.size hl).mono fun e W' h => WAt.of hb hw h
theorem WAt.count (h : WAt w W g s) (n : Int) (hn : n ≤ 9223372036854775807) (hs : s.put (pNumber n 2) = s') (hl : s'.xs.length ≤ 140737488355328) : Calls Try.prog 158 #[.pointer (some ⟨g, 0, none⟩), .int .i64 n] W fun e W' => e = .returned (.tuple #[]) ∧ WAt w W' g s' := by
  obtain ⟨hb, ro, hw⟩ := h
  subst hs
  exact (wCount_calls n hn hw hb.size hl).mono fun e W' h => WAt.of hb hw h
theorem RAt.number (h : RAt w W g bs r) (size x : Int) (hs : rNum bs r size = (x, r')) : Calls Try.prog 112 #[.pointer (some ⟨g, 0, none⟩), .int .i64 size] W fun e W' => e = .returned (.int .i64 x) ∧ RAt w W' g bs r' ∧ Fr (fun i => i = g) W W' := by
  obtain ⟨hb, ro, hw⟩ := h
  have C := rNumber_calls size hw hb.size
  unfold rNum at hs
  rw [hs] at C
  exact C.mono fun e W' h => RAt.of hb hw h
theorem RAt.bool (h : RAt w W g bs r) (x : Bool) (hs : rBoo bs r = (x, r')) : Calls Try.prog 157 #[.pointer (some ⟨g, 0, none⟩)] W fun e W' => e = .returned (.bool x) ∧ RAt w W' g bs r' ∧ Fr (fun i => i = g) W W' := by
  obtain ⟨hb, ro, hw⟩ := h
  have C := rBool_calls hw hb.size
  unfold rBoo at hs
  rw [hs] at C
  exact C.mono fun e W' h => RAt.of hb hw h
theorem RAt.count (h : RAt w W g bs r) (most x : Int) (hs : rCou bs r most = (x, r')) : Calls Try.prog 159 #[.pointer (some ⟨g, 0, none⟩), .int .i64 most] W fun e W' => e = .returned (.int .i64 x) ∧ RAt w W' g bs r' ∧ Fr (fun i => i = g) W W' := by
  obtain ⟨hb, ro, hw⟩ := h
  have C := rCount_calls most hw hb.size
  unfold rCou at hs
  rw [hs] at C
  exact C.mono fun e W' h => RAt.of hb hw h
theorem RAt.end' (h : RAt w W g bs r) : Calls Try.prog 101 #[.pointer (some ⟨g, 0, none⟩)] W fun e W' => e = .returned (.agg #[.int .i64 (r.end_ bs.length).code, .int .i64 (r.end_ bs.length).fat]) ∧ RAt w W' g bs (r.end_ bs.length) ∧ Fr (fun i => i = g) W W' := by
  obtain ⟨hb, ro, hw⟩ := h
  exact (rEnd_calls hw).mono fun e W' h => RAt.of hb hw h
theorem RAt.below (h : RAt w W g bs r) {W' : World} (hb : Below W.heap.size W W') : RAt w W' g bs r := by
  obtain ⟨hb0, ro, hw⟩ := h
  exact ⟨below_then hb0 hb0.size hb, ro, hw.below hb⟩
theorem RAt.lt (h : RAt w W g bs r) : g < W.heap.size := by
  obtain ⟨hb0, ro, hw⟩ := h
  exact hw.lt
theorem WAt.below (h : WAt w W g s) {W' : World} (hb : Below W.heap.size W W') : WAt w W' g s := by
  obtain ⟨hb0, ro, hw⟩ := h
  exact ⟨below_then hb0 hb0.size hb, ro, hw.below hb⟩
theorem newR (hb : Below w.heap.size w W) (A : Option Addr) (c : Nat) (hr : ReadsInt W .u8 A bs.length bs) (hB : Bytes bs) (hl : bs.length ≤ 140737488355328) : Calls Try.prog 100 #[.slice A bs.length c] W fun e W' => ∃ g, e = .returned (.pointer (some ⟨g, 0, none⟩)) ∧ RAt w W' g bs ⟨0, 0, 0, 0⟩ ∧ Below W.heap.size W W' := by
  refine (newReader_calls A c bs W hr hB hl).mono fun e W' h => ?_
  obtain ⟨g, ro, he, hrd, hb'⟩ := h
  exact ⟨g, he, ⟨below_then hb hb.size hb', ro, hrd.lower hb.size⟩, hb'⟩
theorem newW (hb : Below w.heap.size w W) : Calls Try.prog 51 #[] W fun e W' => e = .returned (.pointer (some ⟨W.heap.size, 0, none⟩)) ∧ WAt w W' W.heap.size ⟨[], false⟩ ∧ Below W.heap.size W W' := by
  refine (newWriter_calls W).mono fun e W' h => ?_
  obtain ⟨he, hw, hb'⟩ := h
  exact ⟨he, ⟨below_then hb hb.size hb', none, hw.lower hb.size⟩, hb'⟩
theorem WAt.bytes (h : WAt w W g s) (hl : s.xs.length ≤ 140737488355328) : Calls Try.prog 55 #[.pointer (some ⟨g, 0, none⟩)] W fun e W' => ∃ A c, e = .returned (.tuple #[.slice A s.out.length c, .int .i64 s.err]) ∧ ReadsInt W' .u8 A s.out.length s.out ∧ Below w.heap.size w W' := by
  obtain ⟨hb, ro, hw⟩ := h
  refine (wBytes_calls hw hl).mono fun e W' h => ?_
  obtain ⟨v, rfl, ho, hb'⟩ := h
  obtain ⟨A, c, rfl, _, hr⟩ := own_reads' ho
  exact ⟨A, c, rfl, hr, below_then hb hb.size hb'⟩
end
def exB : List Int := [1, 2, 1, 0, 2, 97, 98, 0, 3]
theorem exBytes : Bytes exB := by unfold exB Bytes; decide
theorem ex1 : (⟨[], false⟩ : WS).put (pNumber 258 2) = ⟨[1, 2], false⟩ := rfl
theorem ex2 : (⟨[1, 2], false⟩ : WS).put (pBool true) = ⟨[1, 2, 1], false⟩ := rfl
theorem ex3 : (⟨[1, 2, 1], false⟩ : WS).put (pText ⟨#[97, 98]⟩) = ⟨[1, 2, 1, 0, 2, 97, 98], false⟩ := rfl
theorem ex4 : (⟨[1, 2, 1, 0, 2, 97, 98], false⟩ : WS).put (pNumber 3 2) = ⟨exB, false⟩ := rfl
theorem ey1 : rNum exB ⟨0, 0, 0, 0⟩ 2 = (258, ⟨2, 0, 0, 0⟩) := rfl
theorem ey2 : rBoo exB ⟨2, 0, 0, 0⟩ = (true, ⟨3, 2, 0, 0⟩) := rfl
theorem ey3 : rTex exB ⟨3, 2, 0, 0⟩ 5 = ([97, 98], ⟨7, 3, 0, 0⟩) := rfl
theorem ey4 : rCou exB ⟨7, 3, 0, 0⟩ 3 = (3, ⟨9, 7, 0, 0⟩) := rfl
theorem ey5 : rBoo exB ⟨9, 7, 0, 0⟩ = (false, ⟨9, 7, 10, 9⟩) := rfl
theorem exStr : strOfNums exB = ⟨#[1, 2, 1, 0, 2, 97, 98, 0, 3]⟩ := rfl
theorem exStr2 : strOfNums [97, 98] = ⟨#[97, 98]⟩ := rfl
end Go.Proofs.Ytgmbfecfkdbfaaa.Wi
