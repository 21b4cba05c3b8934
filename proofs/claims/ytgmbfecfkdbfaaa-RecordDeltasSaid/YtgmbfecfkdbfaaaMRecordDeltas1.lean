/- Plain words for pieces as bytes: digits of numbers, what a piece stands as, what is taken out of bytes; no program in sight. -/
import Derived.RowKit
import Derived.Test.YtgmbfecfkdbfaaaProg
import Derived.Below
import Derived.Deep.Draws
import Derived.Deep.AppendLies
import Derived.Maps.AppendAt
import Derived.OwnWalk
import Derived.Laws.BytesArg
import Derived.Laws.MakeOwn
import Derived.Laws.OwnMore
import Derived.Tactics
import Derived.Lib.ConvBytes
import Derived.Laws.Slices
import Derived.WalkKit
import Derived.KernelRfl
import Derived.RowKit3
import Derived.Deep.LoopGhost
import Derived.Deep.QuietTactic
import Derived.BigQuiet
import Derived.WideLaws
import Derived.Deep.DeepCutAuto
import Derived.Deep.CutBlock
import Derived.Deep.RegionHeld3
import Derived.Laws.Rows
import Derived.Lib.AppendStr
import Derived.ArgAppend
import Derived.OrdersHeld
import Derived.Laws.BitsLemmas
import Derived.Laws.BitsAllLaws
import Derived.Recover
import Derived.Defers
import Derived.Outline
import Derived.Test.YtgmbfecfkdbfaaaWWords
import Derived.Test.YtgmbfecfkdbfaaaWLast
import Derived.Test.YtgmbfecfkdbfaaaXF64
import Derived.Test.YtgmbfecfkdbfaaaXDoor
import Derived.RegionTactic
set_option linter.unusedVariables false
namespace Go.Proofs.Ytgmbfecfkdbfaaa.Wi
open Go
/-- the lowest digits of a number, the highest first -/
def be (n : Nat) : Nat → List Int
  | 0 => []
  | s + 1 => (((n / 256 ^ s) % 256 : Nat) : Int) :: be n s
theorem be_length (n s : Nat) : (be n s).length = s := by
  induction s with
  | zero => rfl
  | succ s ih => simp [be, ih]
def Byte (x : Int) : Prop := 0 ≤ x ∧ x ≤ 255
def Bytes (l : List Int) : Prop := ∀ x, x ∈ l → 0 ≤ x ∧ x ≤ 255
theorem Bytes.nil : Bytes [] := fun _ h => by cases h
theorem Bytes.append {l r : List Int} (h : Bytes l) (k : Bytes r) : Bytes (l ++ r) := fun x hx => by
  rcases List.mem_append.1 hx with h' | h'
  · exact h x h'
  · exact k x h'
theorem Bytes.left {l r : List Int} (h : Bytes (l ++ r)) : Bytes l := fun x hx => h x (List.mem_append.2 (.inl hx))
theorem Bytes.take {l : List Int} (h : Bytes l) (n : Nat) : Bytes (l.take n) := fun x hx => h x (List.mem_of_mem_take hx)
theorem Bytes.drop {l : List Int} (h : Bytes l) (n : Nat) : Bytes (l.drop n) := fun x hx => h x (List.mem_of_mem_drop hx)
theorem be_bytes (n s : Nat) : Bytes (be n s) := by
  induction s with
  | zero => exact Bytes.nil
  | succ s ih =>
    intro x hx
    rcases List.mem_cons.1 hx with rfl | h
    · have := Nat.mod_lt (n / 256 ^ s) (show 0 < 256 by omega)
      omega
    · exact ih x h
theorem be_snoc (n s : Nat) : be n (s + 1) = be (n / 256) s ++ [((n % 256 : Nat) : Int)] := by
  induction s with
  | zero => simp [be]
  | succ s ih =>
    rw [be, ih]
    show _ = (_ :: be (n / 256) s) ++ _
    rw [Nat.div_div_eq_div_mul, ← Nat.pow_succ']
    rfl
theorem snoc_ind {α : Type} {P : List α → Prop} (h0 : P []) (h1 : ∀ l x, P l → P (l ++ [x])) (l : List α) : P l := by
  rw [← List.reverse_reverse l]
  induction l.reverse with
  | nil => exact h0
  | cons x r ih =>
    rw [List.reverse_cons]
    exact h1 _ _ ih
/-- what bytes say as a number -/
def val (l : List Int) : Nat := l.foldl (fun n x => n * 256 + x.toNat) 0
theorem val_nil : val [] = 0 := rfl
theorem val_snoc (l : List Int) (x : Int) : val (l ++ [x]) = val l * 256 + x.toNat := by simp [val]
theorem val_lt (l : List Int) (h : Bytes l) : val l < 256 ^ l.length := by
  revert h
  refine snoc_ind (P := fun l => Bytes l → val l < 256 ^ l.length) ?_ ?_ l
  · intro _; simp [val]
  · intro l x ih h
    have h1 := ih h.left
    have h2 := h x (by simp)
    rw [val_snoc, List.length_append, List.length_singleton, Nat.pow_succ]
    omega
theorem val_be (s : Nat) : ∀ n, n < 256 ^ s → val (be n s) = n := by
  induction s with
  | zero => intro n h; simp at h; subst h; rfl
  | succ s ih =>
    intro n h
    rw [be_snoc, val_snoc, ih (n / 256) (by rw [Nat.pow_succ] at h; exact Nat.div_lt_of_lt_mul (by omega))]
    simp
    omega
theorem be_val (l : List Int) (h : Bytes l) : be (val l) l.length = l := by
  revert h
  refine snoc_ind (P := fun l => Bytes l → be (val l) l.length = l) ?_ ?_ l
  · intro _; rfl
  · intro l x ih h
    have h2 := h x (by simp)
    rw [List.length_append, List.length_singleton, be_snoc, val_snoc]
    rw [show (val l * 256 + x.toNat) / 256 = val l by omega, ih h.left]
    have : (val l * 256 + x.toNat) % 256 = x.toNat := by omega
    rw [this]
    congr 2
    omega
theorem pow_256_le {a b : Nat} (h : a ≤ b) : 256 ^ a ≤ 256 ^ b := Nat.pow_le_pow_right (by omega) h
/-- a writer: its bytes; was something wrong? -/
structure WS where
  xs : List Int
  bad : Bool
def WS.put (s : WS) (o : Option (List Int)) : WS :=
  if s.bad = true then s else match o with
    | some ys => ⟨s.xs ++ ys, false⟩
    | none => ⟨s.xs, true⟩
def sizedB (size : Int) : Bool := decide (1 ≤ size) && decide (size ≤ 8)
def fitsB (n size : Int) : Bool := decide (0 ≤ n) && (decide (size = 8) || decide (n < 256 ^ size.toNat))
/-- what a number of so many bytes is put as -/
def pNumber (n size : Int) : Option (List Int) :=
  if (sizedB size && fitsB n size) = true then some (be n.toNat size.toNat) else none
def pInt (n : Int) : Option (List Int) := some (be (n % 18446744073709551616).toNat 8)
/-- the bits of the one NaN that is put -/
def nanBits : Nat := 9221120237041090560
/-- any NaN's bits: no float is equal to itself? -/
def isNan (n : Nat) : Bool := FloatKind.f64.format.order n n != some .eq
def fBits (n : Nat) : Nat := if isNan n = true then nanBits else n
def pFloat (n : Nat) : Option (List Int) := some (be (fBits n) 8)
def pBool (is : Bool) : Option (List Int) := pNumber (if is = true then 1 else 0) 1
def strBytes (s : ByteArray) : List Int := s.data.toList.map fun b => (b.toNat : Int)
theorem strBytes_length (s : ByteArray) : (strBytes s).length = s.size := by
  rw [strBytes, List.length_map, Array.length_toList]; rfl
theorem strBytes_bytes (s : ByteArray) : Bytes (strBytes s) := fun x hx => by
  simp only [strBytes, List.mem_map] at hx
  obtain ⟨b, _, rfl⟩ := hx
  have := b.toNat_lt
  omega
def pText (s : ByteArray) : Option (List Int) := if s.size ≤ 65535 then some (be s.size 2 ++ strBytes s) else none
def fixedB (s : ByteArray) (size : Int) : Bool := (decide (0 ≤ size) && decide (size ≤ 65535)) && ((s.size : Int) == size)
def pFixed (s : ByteArray) (size : Int) : Option (List Int) := if fixedB s size = true then some (strBytes s) else none
/-- a reader: where the next piece begins, where the last one began; what is wrong, where -/
structure RS where
  at_ : Nat
  last : Int
  code : Int
  fat : Int
/-- a piece out of what is left: what it is, how many bytes it took; or what is wrong -/
def gNumber (l : List Int) (size : Int) : Except Int (Int × Nat) :=
  if sizedB size = false then .error 1
  else if (l.length : Int) < size then .error 10
  else if 9223372036854775808 ≤ val (l.take size.toNat) then .error 11
  else .ok (val (l.take size.toNat), size.toNat)
/-- a number as an int -/
def asInt (n : Nat) : Int := if n < 9223372036854775808 then n else (n : Int) - 18446744073709551616
def gInt (l : List Int) : Except Int (Int × Nat) :=
  if l.length < 8 then .error 10 else .ok (asInt (val (l.take 8)), 8)
def gFloat (l : List Int) : Except Int (Nat × Nat) :=
  if l.length < 8 then .error 10
  else if isNan (val (l.take 8)) = true ∧ val (l.take 8) ≠ nanBits then .error 11
  else .ok (val (l.take 8), 8)
def gBool (l : List Int) : Except Int (Bool × Nat) :=
  if l.length < 1 then .error 10
  else if 1 < val (l.take 1) then .error 11
  else .ok (decide (val (l.take 1) = 1), 1)
def gText (l : List Int) (most : Int) : Except Int (List Int × Nat) :=
  if most < 0 then .error 1
  else if l.length < 2 then .error 10
  else if most < (val (l.take 2) : Int) then .error 12
  else if l.length - 2 < val (l.take 2) then .error 10
  else .ok ((l.drop 2).take (val (l.take 2)), 2 + val (l.take 2))
def gFixed (l : List Int) (size : Int) : Except Int (List Int × Nat) :=
  if ¬ (0 ≤ size ∧ size ≤ 65535) then .error 1
  else if (l.length : Int) < size then .error 10
  else .ok (l.take size.toNat, size.toNat)
def gCount (l : List Int) (most : Int) : Except Int (Int × Nat) :=
  if most < 0 then .error 1
  else if l.length < 2 then .error 10
  else if most < (val (l.take 2) : Int) then .error 12
  else .ok (val (l.take 2), 2)
/-- what is taken, and where the reader is then -/
def RS.take {α : Type} (b : List Int) (r : RS) (d : α) (g : List Int → Except Int (α × Nat)) : α × RS :=
  if r.code ≠ 0 then (d, r) else match g (b.drop r.at_) with
    | .ok (x, n) => (x, ⟨r.at_ + n, r.at_, 0, r.fat⟩)
    | .error e => (d, ⟨r.at_, r.last, e, r.at_⟩)
end Go.Proofs.Ytgmbfecfkdbfaaa.Wi
/- Words for a writer and a reader in memory, and what of the memory a call on them may turn. -/
set_option linter.unusedVariables false
namespace Go.Proofs.Ytgmbfecfkdbfaaa.Wi
open Go Go.RowKit Go.Proofs.YtgmbfecfkdbfaaaW.PrintWords
/-- Blocks that are not in S are as they were; new ones may be there. -/
structure Fr (S : Nat → Prop) (w w' : World) : Prop where
  os : w'.os = w.os
  tape : w'.tape = w.tape
  output : w'.output = w.output
  size : w.heap.size ≤ w'.heap.size
  block : ∀ i, i < w.heap.size → ¬ S i → w'.heap[i]? = w.heap[i]?
namespace Fr
variable {S S' : Nat → Prop} {w w1 w2 : World}
theorem refl (S : Nat → Prop) (w : World) : Fr S w w := ⟨rfl, rfl, rfl, Nat.le_refl _, fun _ _ _ => rfl⟩
theorem of_below (h : Below w.heap.size w w1) : Fr S w w1 := ⟨h.os, h.tape, h.output, h.size, fun i hi _ => h.block i hi⟩
theorem below {B : Nat} (h : Fr S w w1) (hB : B ≤ w.heap.size) (hS : ∀ i, S i → B ≤ i) : Below B w w1 :=
  ⟨h.os, h.tape, h.output, h.size, fun i hi => h.block i (Nat.lt_of_lt_of_le hi hB) (fun hs => by have := hS i hs; omega)⟩
theorem mono (h : Fr S w w1) (hS : ∀ i, i < w.heap.size → S i → S' i) : Fr S' w w1 := ⟨h.os, h.tape, h.output, h.size, fun i hi hn => h.block i hi (fun hs => hn (hS i hi hs))⟩
theorem trans (h : Fr S w w1) (k : Fr S' w1 w2) (hS : ∀ i, i < w.heap.size → S' i → S i) : Fr S w w2 :=
  ⟨k.os.trans h.os, k.tape.trans h.tape, k.output.trans h.output, Nat.le_trans h.size k.size, fun i hi hn => (k.block i (Nat.lt_of_lt_of_le hi h.size) (fun hs => hn (hS i hi hs))).trans (h.block i hi hn)⟩
theorem alloc (h : Fr S w w1) (o : Obj) : Fr S w (w1.alloc o) := h.trans (of_below (S := S) (below_alloc (Below.refl _ _) o)) (fun _ _ h => h)
theorem drew (h : Fr S w w1) : Fr S w w1.drew := ⟨h.os, h.tape, h.output, h.size, h.block⟩
theorem drewN (h : Fr S w w1) (n : Nat) : Fr S w (w1.drewN n) := ⟨h.os, h.tape, h.output, h.size, h.block⟩
theorem set_ (h : Fr S w w1) {p : Addr} (hp : S p.block ∨ w.heap.size ≤ p.block) (u : Value) : Fr S w (w1.setCell p u) :=
  ⟨h.os, h.tape, h.output, by simpa [World.setCell] using h.size, fun i hi hn => (Below.heap_setCell w1 p u i (by
    rintro rfl
    rcases hp with hp | hp
    · exact hn hp
    · omega)).trans (h.block i hi hn)⟩
theorem grown (h : Fr S w w1) {row : Option Nat} (hg : w1.grownBy w2 row) (hr : ∀ k, row = some k → S k ∨ w.heap.size ≤ k) : Fr S w w2 :=
  ⟨hg.os.trans h.os, hg.tape.trans h.tape, hg.output.trans h.output, Nat.le_trans h.size hg.size, fun i hi hn => (hg.block i (Nat.lt_of_lt_of_le hi h.size) (by
    intro e
    rcases hr i e.symm with hs | hs
    · exact hn hs
    · omega)).trans (h.block i hi hn)⟩
theorem then_below (h : Fr S w w1) (hb : Below w1.heap.size w1 w2) : Fr S w w2 := h.trans (of_below (S := S) hb) (fun _ _ h => h)
theorem blk (h : Fr S w w1) {g : Nat} {o : Obj} (hb : w.heap[g]? = some o) (hg : ¬ S g) : w1.heap[g]? = some o := (h.block g (blk_lt hb) hg).trans hb
theorem own (h : Fr S w w1) {base : Nat} {e : TypeId} {size n : Nat} {v : Value} {xs : List Value} (ho : w.ownsRow base e size v n xs) (hg : ∀ k, v.ownBlock = some k → ¬ S k) : w1.ownsRow base e size v n xs := by
  obtain ⟨h1, h2⟩ := ho
  refine ⟨h1, ?_⟩
  rcases h2 with h2 | ⟨b, cap, cur, rfl, hb, hh, r⟩
  · exact .inl h2
  · exact .inr ⟨b, cap, cur, rfl, hb, h.blk hh (hg b rfl), r⟩
end Fr
theorem own_upto {w : World} {base : Nat} {e : TypeId} {size n : Nat} {v : Value} {xs : List Value} (h : w.ownsRow base e size v n xs) {base' : Nat} (hb : ∀ k, v.ownBlock = some k → base' ≤ k) : w.ownsRow base' e size v n xs := by
  refine ⟨h.1, ?_⟩
  rcases h.2 with h2 | ⟨b, cap, cur, rfl, _, r⟩
  · exact .inl h2
  · exact .inr ⟨b, cap, cur, rfl, hb b rfl, r⟩
/-- A row that the call itself made reads as a list. -/
theorem own_reads' {w : World} {base n : Nat} {e : TypeId} {k : IntKind} {v : Value} {xs : List Int} (h : w.ownsRow base e 1 v n (nums k xs)) : ∃ A c, v = .slice A n c ∧ n ≤ c ∧ ReadsInt w k A n xs := by
  obtain ⟨A, c, rfl, hr⟩ := own_reads h
  refine ⟨A, c, rfl, ?_, hr⟩
  rcases h.2 with ⟨h1, rfl⟩ | ⟨g, cap, cur, h1, _, _, hnc, _⟩
  · exact Nat.zero_le _
  · injection h1 with _ _ h1
    omega
/-- append(v, ys...): v a row of the call's own, ys a slice that is read, nil let in. -/
theorem run_append_row {P : Program} {W : World} (base : Nat) (t ty e : TypeId) (k : IntKind) (bytes : Nat)
    (ht : P.underlying t = some (.slice e)) (hinfo : (P.info? e).map (fun i => (i.zero, i.size, i.bytes)) = some (some (.int k 0), 1, bytes)) (hb0 : 0 < bytes)
    (v : Value) (n : Nat) (xs ys : List Int) (A : Option Addr) (m c : Nat) (HO : W.ownsRow base e 1 v n (nums k xs)) (HR : ReadsInt W k A m ys) (hbase : base ≤ W.heap.size) (hl : (n + m) * bytes ≤ 140737488355328) :
    ∃ v1 w1, (Builtin.append_ #[t, t] ty #[v, .slice A m c]).run P W = .ok v1 w1 ∧ w1.ownsRow base e 1 v1 (n + m) (nums k (xs ++ ys)) ∧ W.grownBy w1 v.ownBlock ∧ (v1.ownBlock = v.ownBlock ∨ v1.ownBlock = some W.heap.size) := by
  obtain ⟨i0, hi, hzz⟩ := Option.map_eq_some_iff.1 hinfo
  simp only [Prod.mk.injEq] at hzz
  obtain ⟨hz0, hz1, hz2⟩ := hzz
  have hm : ys.length = m := HR.1
  have hlen : n + m ≤ 140737488355328 := Nat.le_trans (Nat.le_mul_of_pos_right _ hb0) hl
  rcases A with _ | ad
  · have h0 : m = 0 := by
      rcases Nat.eq_zero_or_pos m with h0 | h0
      · exact h0
      · obtain ⟨ad, h, _⟩ := HR.2.2 h0
        cases h
    subst h0
    obtain rfl : ys = [] := List.eq_nil_of_length_eq_zero hm
    refine ⟨v, W, ?_, by simpa using HO, World.grownBy.refl W _, .inl rfl⟩
    rcases HO.2 with ⟨rfl, hn⟩ | ⟨g, cap, cur, rfl, _, _, hnc, _⟩
    · simp [Builtin.append_, run_underlying ht, sizeOf, typeInfo, hi, Builtin.lenOf, Builtin.firstCells]
    · simp [Builtin.append_, run_underlying ht, sizeOf, typeInfo, hi, Builtin.lenOf, Builtin.firstCells, hnc, storeCells]
  · have hcells : ∀ j u, (nums k ys)[j]? = some u → W.cell? (ad.add j) = some u := by
      intro j u hu
      have hj : j < ys.length := by
        rcases Nat.lt_or_ge j ys.length with h | h
        · exact h
        · simp [nums, List.getElem?_eq_none h] at hu
      obtain ⟨ad', h', hc⟩ := HR.2.2 (by omega)
      injection h' with h'
      subst h'
      have := hc j (by omega)
      simp [nums, List.getElem?_eq_getElem hj] at hu
      subst hu
      rw [this]
      simp [List.getD_eq_getElem?_getD, List.getElem?_eq_getElem hj]
    obtain ⟨v1, w1, hr, h2, h3, _, h5⟩ := run_append_own_at (P := P) W base t ty e i0 (.int k 0) 1 bytes ht hi hz0 hz1 hz2 rfl (by omega) v n (nums k xs) HO ad m c (nums k ys) (by simp [nums, hm]) hcells
      (by intro u hu; simp only [nums, List.mem_map] at hu; obtain ⟨q, _, rfl⟩ := hu; rfl) (by simp only [maxLen]; omega) hl hbase
    exact ⟨v1, w1, hr, by simpa [nums] using h2, h3, h5⟩
section
variable {P : Program} {ops : Array Oper} {rest : List Oper} {o : Oper} {a : Act} {Q : Exit → Act → World → Prop} {K : Act → World → Prop}
theorem wp_append_row {W : World} (base : Nat) (s x : Operand) (t e : TypeId) (k : IntKind) (bytes : Nat)
    (ho : o.op = .call { callee := .builtin .append, args := #[s, x], argTypes := #[t, t] })
    (ht : P.underlying t = some (.slice e)) (hinfo : (P.info? e).map (fun i => (i.zero, i.size, i.bytes)) = some (some (.int k 0), 1, bytes)) (hb0 : 0 < bytes)
    (v : Value) (n : Nat) (xs ys : List Int) (A : Option Addr) (m c : Nat) (hs : a.eval s = v) (hx : a.eval x = .slice A m c)
    (HO : W.ownsRow base e 1 v n (nums k xs)) (HR : ReadsInt W k A m ys) (hbase : base ≤ W.heap.size) (hl : (n + m) * bytes ≤ 140737488355328)
    (h : ∀ v1 w1, w1.ownsRow base e 1 v1 (n + m) (nums k (xs ++ ys)) → W.grownBy w1 v.ownBlock → (v1.ownBlock = v.ownBlock ∨ v1.ownBlock = some W.heap.size) → K (a.put o.dst v1) w1) : o.wp P a W K Q := by
  obtain ⟨v1, w1, hr, h1, h2, h3⟩ := run_append_row base t o.type e k bytes ht hinfo hb0 v n xs ys A m c HO HR hbase hl
  unfold Oper.wp execOp
  simp only [ho, resolve, invoke, builtin, Sem.run_bind, Sem.run_pure, Result.andThen_ok, List.map_toArray, List.map_cons, List.map_nil, hs, hx, hr]
  exact h v1 w1 h1 h2 h3
theorem wp_append_str {W : World} (base : Nat) (s x : Operand) (t u e : TypeId)
    (ho : o.op = .call { callee := .builtin .append, args := #[s, x], argTypes := #[t, u] })
    (ht : P.underlying t = some (.slice e)) (hu : P.underlying u = some .string) (hinfo : (P.info? e).map (fun i => (i.zero, i.size, i.bytes)) = some (some (.int .u8 0), 1, 1))
    (v : Value) (n : Nat) (xs : List Int) (y : ByteArray) (hs : a.eval s = v) (hx : a.eval x = .string y)
    (HO : W.ownsRow base e 1 v n (nums .u8 xs)) (hbase : base ≤ W.heap.size) (hl : n + y.size ≤ 140737488355328)
    (h : ∀ v1 w1, w1.ownsRow base e 1 v1 (n + y.size) (nums .u8 (xs ++ strBytes y)) → W.grownBy w1 v.ownBlock → K (a.put o.dst v1) w1) : o.wp P a W K Q := by
  obtain ⟨i0, hi, hzz⟩ := Option.map_eq_some_iff.1 hinfo
  simp only [Prod.mk.injEq] at hzz
  obtain ⟨hz0, hz1, hz2⟩ := hzz
  obtain ⟨v1, w1, hr, h1, h2, _⟩ := Lib.run_append_own_string (P := P) W base t u o.type e i0 ht hu hi hz0 hz1 hz2 v n (nums .u8 xs) HO y (by simp only [maxLen]; omega) hl hbase
  have hc : nums .u8 (xs ++ strBytes y) = nums .u8 xs ++ Lib.strCells y := by
    rw [nums_append]
    congr 1
    simp [nums, strBytes, Lib.strCells]
  unfold Oper.wp execOp
  simp only [ho, resolve, invoke, builtin, Sem.run_bind, Sem.run_pure, Result.andThen_ok, List.map_toArray, List.map_cons, List.map_nil, hs, hx, hr]
  exact h v1 w1 (by rw [hc]; exact h1) h2
theorem wpList_append_row {W : World} (base : Nat) (hgd : o.guard = none) (s x : Operand) (t e : TypeId) (k : IntKind) (bytes : Nat)
    (ho : o.op = .call { callee := .builtin .append, args := #[s, x], argTypes := #[t, t] })
    (ht : P.underlying t = some (.slice e)) (hinfo : (P.info? e).map (fun i => (i.zero, i.size, i.bytes)) = some (some (.int k 0), 1, bytes)) (hb0 : 0 < bytes)
    (v : Value) (n : Nat) (xs ys : List Int) (A : Option Addr) (m c : Nat) (hs : a.eval s = v) (hx : a.eval x = .slice A m c)
    (HO : W.ownsRow base e 1 v n (nums k xs)) (HR : ReadsInt W k A m ys) (hbase : base ≤ W.heap.size) (hl : (n + m) * bytes ≤ 140737488355328)
    (h : ∀ v1 w1, w1.ownsRow base e 1 v1 (n + m) (nums k (xs ++ ys)) → W.grownBy w1 v.ownBlock → (v1.ownBlock = v.ownBlock ∨ v1.ownBlock = some W.heap.size) → wpList P ops Q rest (a.put o.dst v1) w1) : wpList P ops Q (o :: rest) a W :=
  wpList_plain hgd fun K hK => wp_append_row base s x t e k bytes ho ht hinfo hb0 v n xs ys A m c hs hx HO HR hbase hl (fun v1 w1 h1 h2 h3 => hK _ _ (h v1 w1 h1 h2 h3))
end
theorem info_u8 : (Try.prog.info? 5).map (fun i => (i.zero, i.size, i.bytes)) = some (some (.int .u8 0), 1, 1) := by kernel_rfl
/-- a writer at block g: its bytes lie in row ro, from block B on -/
structure Wr (w : World) (B g : Nat) (ro : Option Nat) (s : WS) : Prop where
  at_ : ∃ v, w.heap[g]? = some (.cells #[v, .bool s.bad] 148 (0, 0)) ∧ w.ownsRow B 5 1 v s.xs.length (nums .u8 s.xs) ∧ v.ownBlock = ro
  base : B ≤ g
/-- what a call on it may turn -/
def WrS (g : Nat) (ro : Option Nat) : Nat → Prop := fun i => i = g ∨ ro = some i
theorem Wr.lt {w : World} {B g : Nat} {ro : Option Nat} {s : WS} (h : Wr w B g ro s) : g < w.heap.size := by
  obtain ⟨v, hb, _⟩ := h.at_
  exact blk_lt hb
theorem Wr.ro_lt {w : World} {B g : Nat} {ro : Option Nat} {s : WS} (h : Wr w B g ro s) (k : Nat) (hk : ro = some k) : B ≤ k ∧ k < w.heap.size := by
  obtain ⟨v, hb, ho, rfl⟩ := h.at_
  exact ⟨own_base ho k hk, own_lt ho k hk⟩
theorem Wr.ne {w : World} {B g : Nat} {ro : Option Nat} {s : WS} (h : Wr w B g ro s) : ro ≠ some g := by
  obtain ⟨v, hb, ho, rfl⟩ := h.at_
  exact fun e => own_ne ho hb (by decide) e.symm
theorem Wr.keep {w w' : World} {B g : Nat} {ro : Option Nat} {s : WS} {S : Nat → Prop} (h : Wr w B g ro s) (hf : Fr S w w') (hg : ¬ S g) (hr : ∀ k, ro = some k → ¬ S k) : Wr w' B g ro s := by
  obtain ⟨v, hb, ho, rfl⟩ := h.at_
  exact ⟨⟨v, hf.blk hb hg, hf.own ho hr, rfl⟩, h.base⟩
theorem Wr.below {w w' : World} {B g : Nat} {ro : Option Nat} {s : WS} (h : Wr w B g ro s) (hb : Below w.heap.size w w') : Wr w' B g ro s :=
  h.keep (S := fun _ => False) (Fr.of_below hb) (fun h => h) (fun _ _ h => h)
/-- what a call that puts a piece leaves -/
def WPost (B g : Nat) (ro : Option Nat) (s : WS) (w : World) (e : Ending) (w' : World) : Prop :=
  e = .returned (.tuple #[]) ∧ ∃ ro', Wr w' B g ro' s ∧ (ro' = ro ∨ ∃ b, ro' = some b ∧ w.heap.size ≤ b) ∧ Fr (WrS g ro) w w'
end Go.Proofs.Ytgmbfecfkdbfaaa.Wi
/- The writer's small functions: what may not be is given up; a number's digits. -/
set_option linter.unusedVariables false
set_option linter.unusedSimpArgs false
namespace Go.Proofs.Ytgmbfecfkdbfaaa.Wi
open Go Go.RowKit Go.Proofs.YtgmbfecfkdbfaaaW.PrintWords
/-- what was given up with an error's number -/
def gave (e : Int) : List PanicEntry := [{ v := .iface 26 (.int .i64 e), recovered := false }]
set_option maxHeartbeats 400000 in
theorem must_ok (w : World) : Calls Try.prog 109 #[.bool true] w fun en w' => en = .returned (.tuple #[]) ∧ w = w' := by
  go_enter Try.func109, Try.ntmps109
  go_wp2
  go_end0
  exact ⟨rfl, rfl⟩
set_option maxHeartbeats 400000 in
theorem must_no (w : World) : Calls Try.prog 109 #[.bool false] w fun en w' => en = .panicked (gave 1) ∧ w = w' := by
  unfold gave
  go_enter Try.func109, Try.ntmps109
  go_wp2
  exact ⟨rfl, rfl, rfl⟩
def mustE : Bool → Ending
  | true => .returned (.tuple #[])
  | false => .panicked (gave 1)
theorem must_any (b : Bool) (w : World) : Calls Try.prog 109 #[.bool b] w fun en w' => en = mustE b ∧ w = w' := by
  cases b
  · exact must_no w
  · exact must_ok w
set_option maxHeartbeats 400000 in
theorem sized_calls (size : Int) (w : World) : Calls Try.prog 149 #[.int .i64 size] w fun e w' => e = .returned (.bool (sizedB size)) ∧ w = w' := by
  unfold sizedB
  have main : ∀ (c0 : Bool), decide (1 ≤ size) = c0 → Calls Try.prog 149 #[.int .i64 size] w fun e w' => e = .returned (.bool (c0 && decide (size ≤ 8))) ∧ w = w' := by
    intro c0 h0
    cases c0 <;>
    · go_enter Try.func149, Try.ntmps149
      go_wp2
      go_ret
      exact ⟨by first | (simp; done) | rfl, rfl⟩
  exact main _ rfl
theorem shr_zero (n : Int) (size : Int) (h0 : 0 ≤ n) (h1 : 1 ≤ size) (h8 : size ≤ 8) : (n / 2 ^ (8 * size).toNat == 0) = decide (n < 256 ^ size.toNat) := by
  have hm : (8 * size).toNat = 8 * size.toNat := by omega
  rw [hm, Int.pow_mul]
  have hp : (0 : Int) < 256 ^ size.toNat := Int.pow_pos (by omega)
  rw [show ((2 : Int) ^ 8) = 256 from rfl]
  by_cases h : n < 256 ^ size.toNat
  · rw [Int.ediv_eq_zero_of_lt h0 h]
    simp [h]
  · have : 1 ≤ n / 256 ^ size.toNat := (Int.le_ediv_iff_mul_le hp).2 (by omega)
    simp only [h, decide_false]
    exact beq_eq_false_iff_ne.2 (by omega)
set_option maxHeartbeats 800000 in
theorem fits_calls (n size : Int) (h1 : 1 ≤ size) (h8 : size ≤ 8) (w : World) : Calls Try.prog 150 #[.int .i64 n, .int .i64 size] w fun e w' => e = .returned (.bool (fitsB n size)) ∧ w = w' := by
  by_cases h0 : 0 ≤ n
  · have t0 : decide (0 ≤ n) = true := decide_eq_true h0
    by_cases he : size = 8
    · subst he
      have HF : Aside0 (fitsB n 8 = true) := ⟨by simp [fitsB, h0]⟩
      go_enter Try.func150, Try.ntmps150
      go_wp2
      go_ret
      exact ⟨by rw [HF.out]; rfl, rfl⟩
    · have t1 : (size == 8) = false := beq_eq_false_iff_ne.mpr he
      have HF : Aside0 (fitsB n size = (n / 2 ^ (8 * size).toNat == 0)) := ⟨by rw [shr_zero n size h0 h1 h8]; simp [fitsB, h0, he]⟩
      go_enter Try.func150, Try.ntmps150
      go_wp2
      go_ret
      exact ⟨by rw [HF.out]; first | rfl | (simp; done), rfl⟩
  · have t0 : decide (0 ≤ n) = false := decide_eq_false h0
    have HF : Aside0 (fitsB n size = false) := ⟨by simp [fitsB, h0]⟩
    clear h0
    go_enter Try.func150, Try.ntmps150
    go_wp2
    go_ret
    exact ⟨by rw [HF.out]; rfl, rfl⟩
/-- a number's digits: a list of the call's own -/
def DigPost (n : Int) (size : Nat) (w : World) (e : Ending) (w' : World) : Prop :=
  ∃ v, e = .returned v ∧ w'.ownsRow w.heap.size 5 1 v size (nums .u8 (be n.toNat size)) ∧ Below w.heap.size w w'
theorem shr_digit (n : Int) (k : Nat) (h0 : 0 ≤ n) : n / 2 ^ (8 * k) % 256 = (((n.toNat / 256 ^ k) % 256 : Nat) : Int) := by
  rw [Int.pow_mul, show ((2 : Int) ^ 8) = 256 from rfl]
  obtain ⟨m, rfl⟩ := Int.eq_ofNat_of_zero_le h0
  rw [Int.toNat_natCast]
  have : ((m : Int) / 256 ^ k) = ((m / 256 ^ k : Nat) : Int) := by
    rw [Int.natCast_ediv, Int.natCast_pow]; rfl
  rw [this]
  rfl
theorem set_digit (n kk size : Nat) (x : Int) (h : kk < size) (hx : x = (((n / 256 ^ kk) % 256 : Nat) : Int)) :
    (List.replicate (size - kk) 0 ++ be n kk).set (size - 1 - kk) x = List.replicate (size - (kk + 1)) 0 ++ be n (kk + 1) := by
  subst hx
  obtain ⟨m, rfl⟩ : ∃ m, size = kk + 1 + m := ⟨size - kk - 1, by omega⟩
  rw [show kk + 1 + m - kk = m + 1 by omega, show kk + 1 + m - 1 - kk = m by omega, show kk + 1 + m - (kk + 1) = m by omega, List.replicate_succ', List.append_assoc, List.set_append_right _ _ (by simp)]
  simp [be]
set_option maxHeartbeats 1600000 in
theorem digits_calls (n : Int) (size : Nat) (w : World) (h0 : 0 ≤ n) (h8 : size ≤ 8) :
    Calls Try.prog 151 #[.int .u64 n, .int .i64 size] w (DigPost n size w) := by
  have hmk := print_make (P := Try.prog) 24 5 .u8 1 Try.underlying24 info_u8 (by decide) size (by omega)
  have HO := Aside0.mk (own_made w w.heap.size 5 .u8 size (Nat.le_refl _) (by omega))
  have HB := Aside0.mk (below_alloc (Below.refl w.heap.size w) (.cells (madeCells #[.int .u8 0] size) 5))
  go_enter Try.func151, Try.ntmps151
  go_wp2
  go_loopg [6, 11] size (fun gg s6 s11 wr => ∃ kk : Nat, kk ≤ size ∧ size - kk ≤ gg ∧ s11 = .int .i64 kk ∧ Aside0 (wr.ownsRow w.heap.size 5 1 (.slice (some ⟨w.heap.size, 0, none⟩) size size) size (nums .u8 (List.replicate (size - kk) 0 ++ be n.toNat kk))) ∧ Aside0 (Below w.heap.size w wr))
  case atStart => exact ⟨0, Nat.zero_le _, by omega, rfl, ⟨by simpa [be] using HO.out⟩, HB⟩
  case round =>
    obtain ⟨kk, hkk, hg, rfl, HO1, HB1⟩ := hrel
    clear HO HB
    by_cases hlt : kk < size
    · have hltz : (kk : Int) < (size : Int) := by omega
      have HA := own_at HO1.out ((size : Int) - 1 - kk) (by omega) (by omega)
      have HS := own_store HO1.out ((size : Int) - 1 - kk) (n / 2 ^ (8 * kk) % 256)
      have ei : ((size : Int) - 1 - kk).toNat = size - 1 - kk := by omega
      rw [ei] at HA HS
      rw [set_digit n.toNat kk size _ hlt (shr_digit n kk h0)] at HS
      have HS1 := Aside0.mk HS.1
      have HB2 := Aside0.mk (HB1.out.grown HS.2 HB1.out.size (fun k hk => by injection hk with hk; omega))
      obtain ⟨cc, cf⟩ := HA
      have e1 : IntKind.i64.wrap ((size : Int) - 1) = (size : Int) - 1 := IntWalk.i64_in _ (by omega)
      clear ei HS
      go_wp2
      go_roundg (size - (kk + 1))
      case measure => omega
      case rel => exact ⟨kk + 1, by omega, by omega, by go_num, HS1, HB2⟩
    · have hltz : ¬ (kk : Int) < (size : Int) := by omega
      go_wp2
      go_ret
      obtain rfl : kk = size := by omega
      exact ⟨_, rfl, by simpa using HO1.out, HB1.out⟩
end Go.Proofs.Ytgmbfecfkdbfaaa.Wi
/- A region that draws its order, walked in one order: what the loads read ('S') is shown to stand behind each operation but the last ('L', a store); the way out by a panic is told of the world alone, and what of the frame the deferred calls look at ('keep') stands behind each operation. -/
set_option linter.unusedVariables false
namespace Go.Proofs.YtgmbfecfkdbfaaaG
open Go
section
variable {P : Program} {ops : Array Oper} {Q : Exit → Act → World → Prop} {md : Region.Mode} {S : World → Prop} {R : List PanicEntry → World → Prop} {keep : Act → Prop} {L : Nat}
/-- Q, but a panic is told of the world alone. -/
def doorQ (R : List PanicEntry → World → Prop) (Q : Exit → Act → World → Prop) : Exit → Act → World → Prop
  | .panic c, _, w => R c w
  | e, a, w => Q e a w
/-- Whatever order is picked; 'S' and 'keep' are shown anew behind each operation. -/
def wpAnyG (P : Program) (md : Region.Mode) (ops : Array Oper) (Q : Exit → Act → World → Prop) (S : World → Prop) (keep : Act → Prop) (L : Nat) : Nat → Array Bool → Act → World → Prop
  | 0, listed, a, w => Region.ready md ops listed = [] ∧ Q .normal a w
  | fuel + 1, listed, a, w =>
    (Region.ready md ops listed = [] → Q .normal a w) ∧
    ∀ i ∈ Region.ready md ops listed, wpOp P ops Q i (fun a' w' => (i = L ∧ Region.ready md ops (listed.setIfInBounds i true) = [] ∧ Q .normal a' w') ∨ (S w' ∧ keep a' ∧ wpAnyG P md ops Q S keep L fuel (listed.setIfInBounds i true) a' w')) a w
theorem letsOut_door (h : LetsOut (doorQ R Q)) : LetsOut Q := by
  obtain ⟨a, w, h⟩ := h
  exact ⟨a, w, h⟩
theorem wpOp_door {i : Nat} {a : Act} {w : World} {K K2 : Act → World → Prop} (hQ : ∀ c a w, keep a → R c w → Q (.panic c) a w) (hk : keep a) (hK : ∀ a w, K a w → K2 a w)
    (h : wpOp P ops (doorQ R Q) i K a w) : wpOp P ops Q i K2 a w := by
  unfold wpOp at *
  split
  · rename_i ho
    simp only [ho] at h
    exact hK _ _ h
  · rename_i o ho
    simp only [ho] at h
    split
    · rename_i hw
      simp only [hw, if_true] at h
      rcases h with h | ⟨h1, h2⟩
      · refine .inl ?_
        unfold Oper.wp at *
        generalize (execOp a.eval o).run P w = r at *
        cases r with
        | ok n w' =>
          cases n <;> simp only [Oper.upon] at h ⊢
          case value => exact hK _ _ h
          case skip => exact hK _ _ h
          case defer => exact hK _ _ h
          case enter => exact Calls.mono h (fun e w'' he => by cases e <;> first | exact hK _ _ he | exact hQ _ _ _ hk he | exact letsOut_door he)
          case row => exact Rows.mono h (fun v w'' he => hK _ _ he)
        | halt x w' =>
          cases x <;> simp only [Oper.upon] at h ⊢
          case panic => exact hQ _ _ _ hk h
      · exact .inr ⟨h1, letsOut_door h2⟩
    · rename_i hw
      simp only [hw] at h
      exact hK _ _ h
/-- The last operation waits for number i. -/
def lastOn (md : Region.Mode) (ops : Array Oper) (L i : Nat) : Bool := match ops[L]? with
  | some o => o.after.any fun e => Region.binds md e && e.on == i
  | none => true
theorem wpAny_done {fuel : Nat} {listed : Array Bool} {a : Act} {w : World} (hr : Region.ready md ops listed = []) (h : Q .normal a w) : wpAny P md ops Q fuel listed a w := by
  cases fuel with
  | zero => exact ⟨hr, h⟩
  | succ n => exact ⟨fun _ => h, by rw [hr]; simp⟩
theorem wpAny_of_G (hQ : ∀ c a w, keep a → R c w → Q (.panic c) a w) : ∀ (fuel : Nat) (listed : Array Bool) (a : Act) (w : World), keep a → wpAnyG P md ops (doorQ R Q) S keep L fuel listed a w → wpAny P md ops Q fuel listed a w
  | 0, _, _, _, _, h => h
  | fuel + 1, _, _, _, hk, h => ⟨h.1, fun i hi => wpOp_door hQ hk (fun a' w' h' => h'.elim (fun h' => wpAny_done h'.2.1 h'.2.2) (fun h' => wpAny_of_G hQ fuel _ a' w' h'.2.1 h'.2.2)) (h.2 i hi)⟩
theorem wpAnyG_first {i : Nat} {oi : Oper} {v : Value} (hi : ops[i]? = some oi) (hsel : ∀ (j : Nat) (o : Oper) cs b, ops[j]? = some o → o.op ≠ .select cs b) (hk : ∀ a u, keep (a.put oi.dst u) ↔ keep a) (hL : lastOn md ops L i = true) (hLi : i ≠ L) :
    ∀ (fuel : Nat) (listed : Array Bool) (a : Act) (w : World),
      (∀ j oj, ops[j]? = some oj → j ≠ i → listed.getD j true = false → (∀ e ∈ oj.after, Region.binds md e = true → e.on ≠ i) → oi.apart ops oj = true) →
      i ∈ Region.ready md ops listed → YieldsIf P ops S oi v a → S w → keep a →
      wpAnyG P md ops (doorQ R Q) S keep L fuel (listed.setIfInBounds i true) (a.put oi.dst v) w → wpAnyG P md ops (doorQ R Q) S keep L (fuel + 1) listed a w := by
  intro fuel
  induction fuel with
  | zero =>
    intro listed a w _ hr hy hS hka H
    refine ⟨fun h => (by rw [h] at hr; cases hr), fun j hj => ?_⟩
    by_cases hji : j = i
    · subst hji; exact hy.wpOp hi hS (.inr ⟨hS, (hk _ _).2 hka, H⟩)
    · have := ready_mono hj hji
      rw [H.1] at this
      cases this
  | succ fuel ih =>
    intro listed a w hfree hr hy hS hka H
    refine ⟨fun h => (by rw [h] at hr; cases hr), fun j hj => ?_⟩
    by_cases hji : j = i
    · subst hji; exact hy.wpOp hi hS (.inr ⟨hS, (hk _ _).2 hka, H⟩)
    · have h1 := H.2 j (ready_mono hj hji)
      obtain ⟨hjun, oj, hoj, hall⟩ := mem_ready.1 hj
      have hnot : ∀ e ∈ oj.after, Region.binds md e = true → e.on ≠ i := fun e he hb heq => by
        have h1 := hall e he hb
        have h0 := (mem_ready.1 hr).1
        rw [heq] at h1
        rcases Nat.lt_or_ge i listed.size with h' | h'
        · simp [h'] at h0 h1; rw [h0] at h1; cases h1
        · simp [Array.getElem?_eq_none h'] at h1
      have h2 := wpOp_putIf hoj (hfree j oj hoj hji hjun hnot) (fun cs b => hsel i oi cs b hi) (fun cs b => hsel j oj cs b hoj) (fun _ _ _ h => h) hy h1
      have hfree' : ∀ k ok, ops[k]? = some ok → k ≠ i → (listed.setIfInBounds j true).getD k true = false →
          (∀ e ∈ ok.after, Region.binds md e = true → e.on ≠ i) → oi.apart ops ok = true := fun k ok hk hki hun hno => by
        refine hfree k ok hk hki ?_ hno
        by_cases hjk : j = k
        · subst hjk; exact hjun
        · rw [getD_set_ne true hjk] at hun; exact hun
      have hjL : j ≠ L := by
        rintro rfl
        unfold lastOn at hL
        rw [hoj] at hL
        simp only [Array.any_eq_true] at hL
        obtain ⟨x, hx, he⟩ := hL
        simp only [Bool.and_eq_true, beq_iff_eq] at he
        exact hnot oj.after[x] (Array.getElem_mem hx) he.1 he.2
      refine wpOp_mono (fun a' w' h3' => .inr ?_) h2
      obtain ⟨hS', h3'⟩ := h3'
      have h3 := (h3'.resolve_left (fun h => hjL h.1))
      have h3 := And.intro hS' h3
      have hka' : keep a' := (hk _ _).1 h3.2.2.1
      refine ⟨h3.2.1, hka', ih (listed.setIfInBounds j true) a' w' hfree' (ready_mono hr (Ne.symm hji)) h3.1 h3.2.1 hka' ?_⟩
      rw [Array.setIfInBounds_comm _ _ hji]
      exact h3.2.2.2
/-- Take number i first. -/
theorem wpAnyG_take (i : Nat) {oi : Oper} {v : Value} {fuel : Nat} {listed : Array Bool} {a : Act} {w : World} (hi : ops[i]? = some oi)
    (hs : Region.noSelect ops = true) (hf : Region.free md ops listed i = true) (hr : (Region.ready md ops listed).contains i = true)
    (hL : lastOn md ops L i = true) (hLi : i ≠ L) (hk : ∀ a u, keep (a.put oi.dst u) ↔ keep a) (hS : S w) (hka : keep a) (hw : Region.wanted oi (yielded ops a.tmps) = true) (hy : ∀ W, S W → (execOp a.eval oi).run P W = .ok (.value v) W)
    (h : wpAnyG P md ops (doorQ R Q) S keep L fuel (listed.setIfInBounds i true) (a.put oi.dst v) w) : wpAnyG P md ops (doorQ R Q) S keep L (fuel + 1) listed a w :=
  wpAnyG_first hi (Region.noSelect_spec hs) hk hL hLi fuel listed a w (Region.free_spec hi hf) (by simpa using hr) (.inl ⟨hw, hy⟩) hS hka h
/-- One alone may come up. -/
theorem wpAnyG_one (i : Nat) {o : Oper} {fuel : Nat} {listed : Array Bool} {a : Act} {w : World} (ho : ops[i]? = some o) (hr : Region.ready md ops listed = [i]) (hw : Region.wanted o (yielded ops a.tmps) = true)
    (h : ∀ K : Act → World → Prop, (∀ a' w', S w' → keep a' → wpAnyG P md ops (doorQ R Q) S keep L fuel (listed.setIfInBounds i true) a' w' → K a' w') → Oper.wp P o a w K (doorQ R Q)) : wpAnyG P md ops (doorQ R Q) S keep L (fuel + 1) listed a w := by
  refine ⟨fun h0 => (by rw [hr] at h0; cases h0), fun j hj => ?_⟩
  rw [hr] at hj
  obtain rfl : j = i := by simpa using hj
  unfold wpOp
  rw [ho]
  show if Region.wanted o (yielded ops a.tmps) = true then _ else _
  rw [if_pos hw]
  exact .inl (h _ fun a' w' h1 h2 h3 => .inr ⟨h1, h2, h3⟩)
/-- Two may come up, in either order. -/
theorem wpAnyG_two (i j : Nat) {oi oj : Oper} {fuel : Nat} {listed : Array Bool} {a : Act} {w : World} (hoi : ops[i]? = some oi) (hoj : ops[j]? = some oj) (hr : Region.ready md ops listed = [i, j]) (hwi : Region.wanted oi (yielded ops a.tmps) = true) (hwj : Region.wanted oj (yielded ops a.tmps) = true)
    (hi : ∀ K : Act → World → Prop, (∀ a' w', S w' → keep a' → wpAnyG P md ops (doorQ R Q) S keep L fuel (listed.setIfInBounds i true) a' w' → K a' w') → Oper.wp P oi a w K (doorQ R Q))
    (hj : ∀ K : Act → World → Prop, (∀ a' w', S w' → keep a' → wpAnyG P md ops (doorQ R Q) S keep L fuel (listed.setIfInBounds j true) a' w' → K a' w') → Oper.wp P oj a w K (doorQ R Q)) : wpAnyG P md ops (doorQ R Q) S keep L (fuel + 1) listed a w := by
  refine ⟨fun h0 => (by rw [hr] at h0; cases h0), fun k hk => ?_⟩
  rw [hr] at hk
  rcases List.mem_cons.1 hk with rfl | hk
  · unfold wpOp
    rw [hoi]
    show if Region.wanted oi (yielded ops a.tmps) = true then _ else _
    rw [if_pos hwi]
    exact .inl (hi _ fun a' w' h1 h2 h3 => .inr ⟨h1, h2, h3⟩)
  · obtain rfl : k = j := by simpa using hk
    unfold wpOp
    rw [hoj]
    show if Region.wanted oj (yielded ops a.tmps) = true then _ else _
    rw [if_pos hwj]
    exact .inl (hj _ fun a' w' h1 h2 h3 => .inr ⟨h1, h2, h3⟩)
/-- The last one. -/
theorem wpAnyG_last {o : Oper} {fuel : Nat} {listed : Array Bool} {a : Act} {w : World} (ho : ops[L]? = some o) (hr : Region.ready md ops listed = [L]) (hr' : Region.ready md ops (listed.setIfInBounds L true) = []) (hw : Region.wanted o (yielded ops a.tmps) = true)
    (h : ∀ K : Act → World → Prop, (∀ a' w', Q .normal a' w' → K a' w') → Oper.wp P o a w K (doorQ R Q)) : wpAnyG P md ops (doorQ R Q) S keep L (fuel + 1) listed a w := by
  refine ⟨fun h0 => (by rw [hr] at h0; cases h0), fun j hj => ?_⟩
  rw [hr] at hj
  obtain rfl : j = L := by simpa using hj
  unfold wpOp
  rw [ho]
  show if Region.wanted o (yielded ops a.tmps) = true then _ else _
  rw [if_pos hw]
  exact .inl (h _ fun a' w' h1 => .inl ⟨rfl, hr', h1⟩)
theorem wpAnyG_done {listed : Array Bool} {a : Act} {w : World} (hr : Region.ready md ops listed = []) (h : Q .normal a w) : ∀ fuel, wpAnyG P md ops (doorQ R Q) S keep L fuel listed a w
  | 0 => ⟨hr, h⟩
  | _ + 1 => ⟨fun _ => h, by rw [hr]; simp⟩
/-- THE BEGINNING. -/
theorem wp_region_door (L : Nat) (keep : Act → Prop) (R : List PanicEntry → World → Prop) (S : World → Prop) {id : Nat} {a : Act} {w : World} (hm : P.follows .mixedOrders = true) (hk : keep a)
    (hQ : ∀ c a w, keep a → R c w → Q (.panic c) a w) (h : wpAnyG P .any ops (doorQ R Q) S keep L ops.size (Array.replicate ops.size false) a w.drew) : (Code.region id ops true).wp P Q a w :=
  wp_region_any hm (wpAny_of_G hQ _ _ _ _ hk h)
end
/-- what the deferred calls look at: the calls themselves, and one slot -/
def keepD (D : List Deferred) (d : Nat) (v : Value) (a : Act) : Prop := a.defers = D ∧ a.tmps[d]? = some v
theorem keepD_put {D : List Deferred} {d : Nat} {v : Value} {x : Option Tmp} (hx : x ≠ some d) (a : Act) (u : Value) : keepD D d v (a.put x u) ↔ keepD D d v a := by
  cases x with
  | none => rfl
  | some x =>
    have h : x ≠ d := fun e => hx (by rw [e])
    simp [keepD, Act.put, h]
/-- where the results lie nowhere in the frame: the calls alone -/
def keepC (D : List Deferred) (a : Act) : Prop := a.defers = D
theorem keepC_put {D : List Deferred} {x : Option Tmp} (a : Act) (u : Value) : keepC D (a.put x u) ↔ keepC D a := by cases x <;> exact Iff.rfl
/-- nothing of the frame is looked at -/
def keepT (a : Act) : Prop := True
theorem keepT_put {x : Option Tmp} (a : Act) (u : Value) : keepT (a.put x u) ↔ keepT a := Iff.rfl
end Go.Proofs.YtgmbfecfkdbfaaaG
/- The writer's put: a piece, as somebody makes it; what he gives up is caught. -/
set_option linter.unusedVariables false
set_option linter.unusedSimpArgs false
namespace Go.Proofs.Ytgmbfecfkdbfaaa.Wi
open Go Go.RowKit Go.Proofs.YtgmbfecfkdbfaaaW.PrintWords
set_option maxHeartbeats 800000 in
theorem wcatch_panicking (p : Addr) (g : Nat) (v : Value) (b : Bool) (e : Int) (older : List PanicEntry) (w : World) (hc : w.cell? p = some (.pointer (some ⟨g, 0, none⟩))) (hg : w.heap[g]? = some (.cells #[v, .bool b] 148 (0, 0))) :
    CallsD Try.prog 143 #[.pointer (some p)] (.panicking ({ v := .iface 26 (.int .i64 e), recovered := false } :: older)) w fun en u' w' =>
      en = .returned (.tuple #[]) ∧ u' = .panicking ({ v := .iface 26 (.int .i64 e), recovered := true } :: older) ∧ w' = w.setCell ⟨g, 1, none⟩ (.bool true) := by
  have c1 : w.cell? ⟨g, 1, none⟩ = some (.bool b) := (blk_cell hg 1).trans rfl
  have f1 : w.frozen? ⟨g, 1, none⟩ = false := blk_frozen hg 1
  refine callsD_of_wpS Try.func143 rfl fun c₀ cs hu => ?_
  apply wpS_seq
  apply wpS_region
  simp [wpOpsS, go_sem, recoverD, hu, Try.ntmps143, Exit.thenS]
  refine wpS_of_wp ?_
  go_wp2
  exact ⟨rfl, _, rfl, .tuple #[], by simp [results, Try.results143], rfl, rfl, rfl⟩
set_option maxHeartbeats 800000 in
theorem wcatch_idle (p : Addr) (w : World) :
    CallsD Try.prog 143 #[.pointer (some p)] .returning w fun en u' w' => en = .returned (.tuple #[]) ∧ u' = .returning ∧ w' = w := by
  refine callsD_of_wpS Try.func143 rfl fun c₀ cs hu => ?_
  apply wpS_seq
  apply wpS_region
  simp [wpOpsS, go_sem, recoverD, hu, Try.ntmps143, Exit.thenS]
  refine wpS_of_wp ?_
  go_wp2
  cases c₀
  simp_all [bodyPostS, results, Try.results143]
/-- what a piece comes to -/
def PieceP (o : Option (List Int)) (W : World) (e : Ending) (w' : World) : Prop :=
  (match o with
    | some ys => ∃ A c, e = .returned (.slice A ys.length c) ∧ ReadsInt w' .u8 A ys.length ys
    | none => e = .panicked (gave 1)) ∧ Below W.heap.size W w'
def putD (h : Nat) : List Deferred := [{ target := Target.fn (Fn.func 143) #[.pointer (some ⟨h, 0, none⟩)], args := #[] }]
/-- what stands while a piece is put: the old memory; the writer's block; the block that holds its address -/
structure PW (w W : World) (g : Nat) (v : Value) (b : Bool) : Prop where
  below : Below w.heap.size w W
  held : W.heap[w.heap.size]? = some (.cells #[.pointer (some ⟨g, 0, none⟩)] 93 (0, 0))
  wr : W.heap[g]? = some (.cells #[v, .bool b] 148 (0, 0))
theorem PW.start {w : World} {g : Nat} {v : Value} {b : Bool} (h : w.heap[g]? = some (.cells #[v, .bool b] 148 (0, 0))) : PW w (w.alloc (.cells #[.pointer (some ⟨g, 0, none⟩)] 93)) g v b :=
  ⟨below_alloc (Below.refl _ _) _, heap_alloc_new w _, (Below.heap_alloc w _ g (blk_lt h)).trans h⟩
theorem PW.drew {w W : World} {g : Nat} {v : Value} {b : Bool} (h : PW w W g v b) : PW w W.drew g v b := ⟨h.below.drew, h.held, h.wr⟩
theorem PW.then_ {w W W' : World} {g : Nat} {v : Value} {b : Bool} (h : PW w W g v b) (hb : Below W.heap.size W W') : PW w W' g v b :=
  ⟨below_then h.below h.below.size hb, (hb.block _ (blk_lt h.held)).trans h.held, (hb.block _ (blk_lt h.wr)).trans h.wr⟩
theorem PW.cells {w W : World} {g : Nat} {v : Value} {b : Bool} (h : PW w W g v b) : W.cell? ⟨w.heap.size, 0, none⟩ = some (.pointer (some ⟨g, 0, none⟩)) ∧ W.cell? ⟨g, 0, none⟩ = some v ∧ W.cell? ⟨g, 1, none⟩ = some (.bool b) :=
  ⟨(blk_cell h.held 0).trans rfl, (blk_cell h.wr 0).trans rfl, (blk_cell h.wr 1).trans rfl⟩
section
variable {w W : World} {B g : Nat} {ro : Option Nat} {s : WS} {v : Value}
/-- the way out where the piece was given up -/
theorem putdoor_panic {tmps : Array Value} (hP : PW w W g v false) (ho : w.ownsRow B 5 1 v s.xs.length (nums .u8 s.xs)) (hr : v.ownBlock = ro) (hB : B ≤ g) (hs : s.bad = false) :
    bodyPostD Try.prog Try.f107 (WPost B g ro (s.put none) w) (.panic (gave 1)) { tmps := tmps, defers := putD w.heap.size } W := by
  show Leaves _ _ _ _ _ _ _
  unfold gave putD
  refine leaves_cons (f := 143) (args := #[.pointer (some ⟨w.heap.size, 0, none⟩)]) (by simp) (by simp [go_sem]) ?_
  refine (wcatch_panicking ⟨w.heap.size, 0, none⟩ g v false 1 [] W hP.cells.1 hP.wr).mono ?_
  rintro e' u' w'' ⟨rfl, rfl, rfl⟩
  have hg := blk_set hP.wr 1 (.bool true)
  have hne : ∀ k, v.ownBlock = some k → ¬ (fun i => i = g) k := by
    rintro k hk rfl
    exact own_ne (pw_own_below ho hP.below) hP.wr (by decide) hk.symm
  have hf : Fr (WrS g ro) w (W.setCell ⟨g, 1, none⟩ (.bool true)) := (Fr.of_below hP.below).set_ (.inl (.inl rfl)) _
  have hf1 : Fr (fun i => i = g) w (W.setCell ⟨g, 1, none⟩ (.bool true)) := (Fr.of_below hP.below).set_ (S := fun i => i = g) (p := ⟨g, 1, none⟩) (.inl rfl) _
  have key : WPost B g ro (s.put none) w (.returned (.tuple #[])) (W.setCell ⟨g, 1, none⟩ (.bool true)) := by
    refine ⟨rfl, ro, ⟨⟨v, ?_, ?_, hr⟩, hB⟩, .inl rfl, hf⟩
    · simpa [WS.put, hs] using hg
    · have : (s.put none).xs = s.xs := by simp [WS.put, hs]
      rw [this]
      exact hf1.own ho hne
  generalize W.setCell ⟨g, 1, none⟩ (.bool true) = W2 at key
  simp [Leaves, settle, results, Try.results107, go_sem, key]
/-- the way out of a piece that was put -/
theorem putdoor_ret {tmps : Array Value} {R : Ending → World → Prop} (hR : R (.returned (.tuple #[])) W) :
    bodyPostD Try.prog Try.f107 R .normal { tmps := tmps, defers := putD w.heap.size } W := by
  show Leaves _ _ _ _ _ _ _
  unfold putD
  refine leaves_cons (f := 143) (args := #[.pointer (some ⟨w.heap.size, 0, none⟩)]) (by simp) (by simp [go_sem]) ?_
  refine (wcatch_idle ⟨w.heap.size, 0, none⟩ W).mono ?_
  rintro e' u' w'' ⟨rfl, rfl, rfl⟩
  simp [Leaves, settle, results, Try.results107, go_sem, hR]
end
set_option maxHeartbeats 4000000 in
set_option maxRecDepth 100000 in
theorem put_calls (f : Nat) (caps : Array Value) (eg : ∀ args w, (callFunc f args).run Try.prog w = .ok (.enter f args) w) (o : Option (List Int)) (B g : Nat) (ro : Option Nat) (s : WS) (w : World)
    (hw : Wr w B g ro s) (hB : B ≤ w.heap.size) (hlen : (s.put o).xs.length ≤ 140737488355328)
    (hp : ∀ W, Below w.heap.size w W → Calls Try.prog f caps W (PieceP o W)) :
    Calls Try.prog 107 #[.pointer (some ⟨g, 0, none⟩), .func (.func f) #[] caps] w (WPost B g ro (s.put o) w) := by
  have hmf : ∀ (fn : Fn) (first cap : Array Value) (w : World), (Instr.makeFunc fn first cap).run Try.prog w = .ok (.func fn first cap) w := fun _ _ _ _ => rfl
  have hbg := hw.base
  obtain ⟨⟨v, hv, ho, hr⟩, -⟩ := hw
  obtain ⟨xs, bad⟩ := s
  simp only at hv ho
  have HP := Aside0.mk (PW.start hv)
  have HO := Aside0.mk ho
  have HR := Aside0.mk hr
  have HPp := Aside0.mk hp
  have HL := Aside0.mk hlen
  have EG := eg
  clear hv ho hr hp hlen
  cases bad with
  | true =>
    obtain ⟨c0, c1, c2⟩ := HP.out.cells
    have key : WPost B g ro ((⟨xs, true⟩ : WS).put o) w (.returned (.tuple #[])) (w.alloc (.cells #[.pointer (some ⟨g, 0, none⟩)] 93)) :=
      ⟨rfl, ro, ⟨⟨v, HP.out.wr, pw_own_below HO.out HP.out.below, HR.out⟩, hbg⟩, .inl rfl, Fr.of_below HP.out.below⟩
    have KEY := Aside0.mk key
    clear key
    go_enter_defers Try.func107, Try.ntmps107
    go_wp2
    exact putdoor_ret KEY.out
  | false =>
    obtain ⟨c0, c1, c2⟩ := HP.out.cells
    go_enter_defers Try.func107, Try.ntmps107
    go_wp2_with fail
    have HS0 := Aside0.mk (And.intro HP.out.drew.cells.1 HP.out.drew.cells.2.1)
    refine YtgmbfecfkdbfaaaG.wp_region_door 10 (YtgmbfecfkdbfaaaG.keepC (putD w.heap.size)) (fun c W => c = gave 1 ∧ o = none ∧ PW w W g v false) (fun W => W.cell? ⟨w.heap.size, 0, none⟩ = some (.pointer (some ⟨g, 0, none⟩)) ∧ W.cell? ⟨g, 0, none⟩ = some v) (by kernel_rfl) rfl ?hQ ?_
    case hQ =>
      rintro c ⟨tm, df⟩ W hd ⟨rfl, rfl, hP⟩
      have hd' : df = putD w.heap.size := hd
      subst hd'
      exact putdoor_panic (s := ⟨xs, false⟩) hP HO.out HR.out hbg rfl
    refine YtgmbfecfkdbfaaaG.wpAnyG_take 0 (v := .pointer (some ⟨g, 0, none⟩)) rfl (by kernel_rfl) (by kernel_rfl) (by kernel_rfl) (by kernel_rfl) (by decide) (fun a u => YtgmbfecfkdbfaaaG.keepC_put a u) HS0.out rfl (by rfl) (by rintro W ⟨h0, h1⟩; go_simp; done) ?_
    try simp only [Act.put, List.setIfInBounds_toArray, List.set_cons_zero, List.set_cons_succ]
    refine YtgmbfecfkdbfaaaG.wpAnyG_take 1 (v := .pointer (some ⟨g, 0, none⟩)) rfl (by kernel_rfl) (by kernel_rfl) (by kernel_rfl) (by kernel_rfl) (by decide) (fun a u => YtgmbfecfkdbfaaaG.keepC_put a u) HS0.out rfl (by rfl) (by rintro W ⟨h0, h1⟩; go_simp; done) ?_
    try simp only [Act.put, List.setIfInBounds_toArray, List.set_cons_zero, List.set_cons_succ]
    refine YtgmbfecfkdbfaaaG.wpAnyG_take 2 (v := .pointer (some ⟨g, 0, none⟩)) rfl (by kernel_rfl) (by kernel_rfl) (by kernel_rfl) (by kernel_rfl) (by decide) (fun a u => YtgmbfecfkdbfaaaG.keepC_put a u) HS0.out rfl (by rfl) (by rintro W ⟨h0, h1⟩; go_simp; done) ?_
    try simp only [Act.put, List.setIfInBounds_toArray, List.set_cons_zero, List.set_cons_succ]
    refine YtgmbfecfkdbfaaaG.wpAnyG_take 3 (v := .pointer (some ⟨g, 0, none⟩)) rfl (by kernel_rfl) (by kernel_rfl) (by kernel_rfl) (by kernel_rfl) (by decide) (fun a u => YtgmbfecfkdbfaaaG.keepC_put a u) HS0.out rfl (by rfl) (by rintro W ⟨h0, h1⟩; go_simp; done) ?_
    try simp only [Act.put, List.setIfInBounds_toArray, List.set_cons_zero, List.set_cons_succ]
    refine YtgmbfecfkdbfaaaG.wpAnyG_take 4 (v := v) rfl (by kernel_rfl) (by kernel_rfl) (by kernel_rfl) (by kernel_rfl) (by decide) (fun a u => YtgmbfecfkdbfaaaG.keepC_put a u) HS0.out rfl (by rfl) (by rintro W ⟨h0, h1⟩; go_simp; done) ?_
    try simp only [Act.put, List.setIfInBounds_toArray, List.set_cons_zero, List.set_cons_succ]
    refine YtgmbfecfkdbfaaaG.wpAnyG_take 5 (v := .func (.func f) #[] caps) rfl (by kernel_rfl) (by kernel_rfl) (by kernel_rfl) (by kernel_rfl) (by decide) (fun a u => YtgmbfecfkdbfaaaG.keepC_put a u) HS0.out rfl (by rfl) (by rintro W ⟨h0, h1⟩; go_simp; done) ?_
    try simp only [Act.put, List.setIfInBounds_toArray, List.set_cons_zero, List.set_cons_succ]
    refine YtgmbfecfkdbfaaaG.wpAnyG_one 6 rfl (by kernel_rfl) (by rfl) (fun K hK => ?_)
    go_simp
    refine (HPp.out _ HP.out.drew.below).mono ?_
    rintro e W1 ⟨hm, hb⟩
    cases o with
    | none =>
      obtain rfl : e = .panicked (gave 1) := hm
      exact ⟨rfl, rfl, HP.out.drew.then_ hb⟩
    | some ys =>
      obtain ⟨A, c, rfl, hrd⟩ := hm
      have HP1 := Aside0.mk (HP.out.drew.then_ hb)
      have HRD := Aside0.mk hrd
      clear hb hrd c0 c1 c2
      refine hK _ _ ⟨HP1.out.cells.1, HP1.out.cells.2.1⟩ rfl ?_
      try simp only [Act.put, List.setIfInBounds_toArray, List.set_cons_zero, List.set_cons_succ]
      clear hK K HS0 HP
      refine YtgmbfecfkdbfaaaG.wpAnyG_one 7 rfl (by kernel_rfl) (by rfl) (fun K hK => ?_)
      refine wp_append_row B (.tmp 14) (.tmp 16) 24 5 .u8 1 rfl Try.underlying24 info_u8 (by decide) v xs.length xs ys A ys.length c (by rfl) (by rfl) (pw_own_below HO.out HP1.out.below) HRD.out (Nat.le_trans hB HP1.out.below.size) (by have := HL.out; simp only [WS.put, Bool.false_eq_true, if_false, List.length_append] at this; omega) ?_
      intro v1 W2 ho1 hg1 hat
      obtain ⟨A1, c1, rfl⟩ := own_slice ho1
      have HO1 := pw_own_below HO.out HP1.out.below
      have hge : ∀ t cs b, W1.heap[b]? = some (.cells cs t (0, 0)) → t ≠ 5 → some b ≠ v.ownBlock := fun t cs b hb ht => own_ne HO1 hb (fun e => ht e.symm)
      have hh2 := blk_grown HP1.out.held hg1 (hge _ _ _ HP1.out.held (by decide))
      have hw2 := blk_grown HP1.out.wr hg1 (hge _ _ _ HP1.out.wr (by decide))
      have HH := Aside0.mk hh2
      have HW := Aside0.mk hw2
      have HO2 := Aside0.mk ho1
      have HG := Aside0.mk hg1
      have HAT := Aside0.mk hat
      clear hge HO1 ho1 hg1 hat hh2 hw2
      refine hK _ _ ⟨(blk_cell HH.out 0).trans rfl, (blk_cell HW.out 0).trans rfl⟩ rfl ?_
      try simp only [Act.put, List.setIfInBounds_toArray, List.set_cons_zero, List.set_cons_succ]
      clear hK K
      refine YtgmbfecfkdbfaaaG.wpAnyG_one 8 rfl (by kernel_rfl) (by rfl) (fun K hK => ?_)
      go_simp
      refine hK _ _ ⟨(blk_cell HH.out 0).trans rfl, (blk_cell HW.out 0).trans rfl⟩ rfl ?_
      try simp only [Act.put, List.setIfInBounds_toArray, List.set_cons_zero, List.set_cons_succ]
      clear hK K
      refine YtgmbfecfkdbfaaaG.wpAnyG_one 9 rfl (by kernel_rfl) (by rfl) (fun K hK => ?_)
      go_simp
      refine hK _ _ ⟨(blk_cell HH.out 0).trans rfl, (blk_cell HW.out 0).trans rfl⟩ rfl ?_
      try simp only [Act.put, List.setIfInBounds_toArray, List.set_cons_zero, List.set_cons_succ]
      clear hK K
      have cg : W2.cell? ⟨g, 0, none⟩ = some v := (blk_cell HW.out 0).trans rfl
      have fg : W2.frozen? ⟨g, 0, none⟩ = false := blk_frozen HW.out 0
      refine YtgmbfecfkdbfaaaG.wpAnyG_last rfl (by kernel_rfl) (by kernel_rfl) (by rfl) (fun K hK => ?_)
      go_simp
      refine hK _ _ ?_
      refine putdoor_ret ?_
      have hne : (Value.slice A1 (xs.length + ys.length) c1).ownBlock ≠ some g := fun e => own_ne HO2.out HW.out (by decide) e.symm
      have hb1 := blk_set HW.out 0 (.slice A1 (xs.length + ys.length) c1)
      have hf : Fr (WrS g ro) w (W2.setCell ⟨g, 0, none⟩ (.slice A1 (xs.length + ys.length) c1)) := ((Fr.of_below HP1.out.below).grown HG.out (fun k hk => .inl (.inr (by rw [← HR.out]; exact hk)))).set_ (.inl (.inl rfl)) _
      refine ⟨rfl, _, ⟨⟨.slice A1 (xs.length + ys.length) c1, ?_, ?_, rfl⟩, hbg⟩, ?_, hf⟩
      · simpa [WS.put] using hb1
      · have : ((⟨xs, false⟩ : WS).put (some ys)).xs = xs ++ ys := by simp [WS.put]
        rw [this, List.length_append]
        exact own_setCell HO2.out (fun e => hne e.symm) _
      · rcases HAT.out with h | h
        · exact .inl (h.trans HR.out)
        · exact .inr ⟨_, h, HP1.out.below.size⟩
end Go.Proofs.Ytgmbfecfkdbfaaa.Wi
/- The writer's pieces, as they are made: numbers, ints, floats, texts. -/
set_option linter.unusedVariables false
set_option linter.unusedSimpArgs false
namespace Go.Proofs.Ytgmbfecfkdbfaaa.Wi
open Go Go.RowKit Go.Proofs.YtgmbfecfkdbfaaaW.PrintWords
theorem piece_some {ys : List Int} {w w' : World} {e : Ending} {v : Value} {n : Nat} (hn : ys.length = n) (he : e = .returned v) (ho : w'.ownsRow w.heap.size 5 1 v n (nums .u8 ys)) (hb : Below w.heap.size w w') : PieceP (some ys) w e w' := by
  subst hn
  obtain ⟨A, c, rfl, _, hr⟩ := own_reads' ho
  exact ⟨⟨A, c, he, hr⟩, hb⟩
theorem piece_none {w w' : World} {e : Ending} (he : e = .panicked (gave 1)) (hb : Below w.heap.size w w') : PieceP none w e w' := ⟨he, hb⟩
set_option maxHeartbeats 1600000 in
theorem number1_calls (n size : Int) (hn : n ≤ 9223372036854775807) (bs bn : Nat) (w : World) (hs : w.heap[bs]? = some (.cells #[.int .i64 size] 3 (0, 0))) (hv : w.heap[bn]? = some (.cells #[.int .i64 n] 3 (0, 0))) :
    Calls Try.prog 148 #[.pointer (some ⟨bs, 0, none⟩), .pointer (some ⟨bn, 0, none⟩)] w (PieceP (pNumber n size) w) := by
  have c1 : w.cell? ⟨bs, 0, none⟩ = some (.int .i64 size) := (blk_cell hs 0).trans rfl
  have c2 : w.cell? ⟨bn, 0, none⟩ = some (.int .i64 n) := (blk_cell hv 0).trans rfl
  clear hs hv
  cases hz : sizedB size with
  | false =>
    have HP : Aside0 (pNumber n size = none) := ⟨by simp [pNumber, hz]⟩
    have HS := Aside0.mk hz
    clear hz
    go_enter Try.func148, Try.ntmps148
    go_wp2_with (first | (go_at_call 149; refine (sized_calls _ _).mono ?_; rw [HS.out]; rintro e w' ⟨rfl, rfl⟩) | (go_at_call 109; refine (must_no _).mono ?_; rintro e w' ⟨rfl, rfl⟩))
    exact ⟨rfl, by rw [HP.out]; exact piece_none rfl (Below.refl _ _)⟩
  | true =>
    have hz' : 1 ≤ size ∧ size ≤ 8 := by simpa [sizedB] using hz
    obtain ⟨z1, z8⟩ := hz'
    cases hf : fitsB n size with
    | false =>
      have HP : Aside0 (pNumber n size = none) := ⟨by simp [pNumber, hf]⟩
      have HS := Aside0.mk hz
      have HF := Aside0.mk hf
      clear hz hf
      go_enter Try.func148, Try.ntmps148
      go_wp2_with (first | (go_at_call 149; refine (sized_calls _ _).mono ?_; rw [HS.out]; rintro e w' ⟨rfl, rfl⟩) | (go_at_call 150; refine (fits_calls _ _ z1 z8 _).mono ?_; rw [HF.out]; rintro e w' ⟨rfl, rfl⟩) | (go_at_call 109; refine (must_no _).mono ?_; rintro e w' ⟨rfl, rfl⟩))
      exact ⟨rfl, by rw [HP.out]; exact piece_none rfl (Below.refl _ _)⟩
    | true =>
      have h0 : 0 ≤ n := by
        have := hf
        simp [fitsB] at this
        exact this.1
      obtain ⟨k, rfl⟩ := Int.eq_ofNat_of_zero_le (show 0 ≤ size by omega)
      have HP : Aside0 (pNumber n (k : Int) = some (be n.toNat k)) := ⟨by simp [pNumber, hz, hf]⟩
      have HS := Aside0.mk hz
      have HF := Aside0.mk hf
      clear hz hf
      go_enter Try.func148, Try.ntmps148
      go_wp2_with (first | (go_at_call 149; refine (sized_calls _ _).mono ?_; rw [HS.out]; rintro e w' ⟨rfl, rfl⟩) | (go_at_call 150; refine (fits_calls _ _ z1 z8 _).mono ?_; rw [HF.out]; rintro e w' ⟨rfl, rfl⟩) | (go_at_call 109; refine (must_ok _).mono ?_; rintro e w' ⟨rfl, rfl⟩) | (go_at_call 151; refine (digits_calls n k _ h0 (by omega)).mono ?_; rintro e w' ⟨v, rfl, ho, hb⟩))
      go_ret
      rw [HP.out]
      exact piece_some (be_length _ _) rfl ho hb
theorem u64_wrap (n : Int) : IntKind.u64.wrap n = n % 18446744073709551616 := by
  simp [IntKind.wrap, IntKind.signed, IntKind.bits]
set_option maxHeartbeats 800000 in
theorem int1_calls (n : Int) (bn : Nat) (w : World) (hv : w.heap[bn]? = some (.cells #[.int .i64 n] 3 (0, 0))) :
    Calls Try.prog 168 #[.pointer (some ⟨bn, 0, none⟩)] w (PieceP (pInt n) w) := by
  have c2 : w.cell? ⟨bn, 0, none⟩ = some (.int .i64 n) := (blk_cell hv 0).trans rfl
  have hm : 0 ≤ n % 18446744073709551616 := Int.emod_nonneg _ (by omega)
  have HP : Aside0 (pInt n = some (be (n % 18446744073709551616).toNat 8)) := ⟨rfl⟩
  clear hv
  go_enter Try.func168, Try.ntmps168
  go_wp2_with (go_at_call 151; refine (digits_calls _ 8 _ hm (by omega)).mono ?_; rintro e w' ⟨v, rfl, ho, hb⟩)
  go_ret
  rw [HP.out]
  exact piece_some (be_length _ _) rfl ho hb
set_option maxHeartbeats 800000 in
theorem float1_calls (n : Nat) (bn : Nat) (w : World) (hv : w.heap[bn]? = some (.cells #[.int .u64 n] 142 (0, 0))) :
    Calls Try.prog 175 #[.pointer (some ⟨bn, 0, none⟩)] w (PieceP (some (be n 8)) w) := by
  have c2 : w.cell? ⟨bn, 0, none⟩ = some (.int .u64 n) := (blk_cell hv 0).trans rfl
  clear hv
  go_enter Try.func175, Try.ntmps175
  go_wp2_with (go_at_call 151; refine (digits_calls _ 8 _ (by omega) (by omega)).mono ?_; rintro e w' ⟨v, rfl, ho, hb⟩)
  go_ret
  exact piece_some (be_length _ _) rfl ho hb
set_option maxHeartbeats 1600000 in
theorem fixed1_calls (s : ByteArray) (size : Int) (hs : s.size ≤ 9223372036854775807) (bs bn : Nat) (w : World) (hz : w.heap[bs]? = some (.cells #[.int .i64 size] 3 (0, 0))) (hv : w.heap[bn]? = some (.cells #[.string s] 9 (0, 0))) :
    Calls Try.prog 108 #[.pointer (some ⟨bs, 0, none⟩), .pointer (some ⟨bn, 0, none⟩)] w (PieceP (pFixed s size) w) := by
  have c1 : w.cell? ⟨bs, 0, none⟩ = some (.int .i64 size) := (blk_cell hz 0).trans rfl
  have c2 : w.cell? ⟨bn, 0, none⟩ = some (.string s) := (blk_cell hv 0).trans rfl
  clear hz hv
  have kb := fun W => print_bytes (P := Try.prog) 9 24 5 Try.underlying9 Try.underlying24 Try.underlying5 s W
  have main : ∀ (c0 c1 c2 : Bool), decide (0 ≤ size) = c0 → decide (size ≤ 65535) = c1 → ((s.size : Int) == size) = c2 → Calls Try.prog 108 #[.pointer (some ⟨bs, 0, none⟩), .pointer (some ⟨bn, 0, none⟩)] w (PieceP (if ((c0 && c1) && c2) = true then some (strBytes s) else none) w) := by
    intro c0 c1 c2 h0 h1 h2
    cases c0 <;> cases c1 <;> cases c2
    case true.true.true =>
      have HR := Aside0.mk (bytes_reads w 5 s (by omega))
      have HB := Aside0.mk (bytes_below (Below.refl w.heap.size w) (Nat.le_refl _) 5 s)
      have HL := Aside0.mk (strBytes_length s)
      go_enter Try.func108, Try.ntmps108
      go_wp2_with (go_at_call 109; refine (must_ok _).mono ?_; rintro e w' ⟨rfl, rfl⟩)
      go_ret
      refine ⟨⟨some ⟨w.heap.size, 0, none⟩, grownCap w s.size 0 5, ?_, ?_⟩, HB.out⟩
      · rw [HL.out]; rfl
      · rw [HL.out]; exact HR.out
    all_goals
      go_enter Try.func108, Try.ntmps108
      go_wp2_with (go_at_call 109; refine (must_no _).mono ?_; rintro e w' ⟨rfl, rfl⟩)
      exact ⟨rfl, piece_none rfl (Below.refl _ _)⟩
  exact main _ _ _ rfl rfl rfl
end Go.Proofs.Ytgmbfecfkdbfaaa.Wi
/- The writer's methods: each puts its piece, or the writer is wrong from then on. -/
set_option linter.unusedVariables false
set_option linter.unusedSimpArgs false
namespace Go.Proofs.Ytgmbfecfkdbfaaa.Wi
open Go Go.RowKit Go.Proofs.YtgmbfecfkdbfaaaW.PrintWords
theorem pNumber_len {n size : Int} {ys : List Int} (h : pNumber n size = some ys) : ys.length ≤ 8 := by
  unfold pNumber at h
  split at h
  · rename_i hc
    simp only [sizedB, Bool.and_eq_true, decide_eq_true_eq] at hc
    obtain rfl := Option.some.inj h
    rw [be_length]
    omega
  · cases h
theorem pText_len {s : ByteArray} {ys : List Int} (h : pText s = some ys) : ys.length ≤ 65537 := by
  unfold pText at h
  split at h
  · obtain rfl := Option.some.inj h
    rw [List.length_append, be_length, strBytes_length]
    omega
  · cases h
theorem pFixed_len {s : ByteArray} {size : Int} {ys : List Int} (h : pFixed s size = some ys) : ys.length ≤ 65535 := by
  unfold pFixed at h
  split at h
  · rename_i hc
    simp only [fixedB, Bool.and_eq_true, decide_eq_true_eq, beq_iff_eq] at hc
    obtain rfl := Option.some.inj h
    rw [strBytes_length]
    omega
  · cases h
theorem WPost.from {B g : Nat} {ro : Option Nat} {s : WS} {w w1 w' : World} {e : Ending} (h : WPost B g ro s w1 e w') (hb : Below w.heap.size w w1) : WPost B g ro s w e w' := by
  obtain ⟨he, ro', hw, hr, hf⟩ := h
  refine ⟨he, ro', hw, ?_, (Fr.of_below hb).trans hf (fun _ _ h => h)⟩
  rcases hr with h | ⟨b, h, hb'⟩
  · exact .inl h
  · exact .inr ⟨b, h, Nat.le_trans hb.size hb'⟩
theorem below2 {w : World} (o o' : Obj) : Below w.heap.size w ((w.alloc o).alloc o') := below_alloc (below_alloc (Below.refl _ _) o) o'
theorem below1 {w : World} (o : Obj) : Below w.heap.size w (w.alloc o) := below_alloc (Below.refl _ _) o
theorem blk_b {w W : World} {g : Nat} {o : Obj} (h : w.heap[g]? = some o) (hb : Below w.heap.size w W) : W.heap[g]? = some o := (hb.block g (blk_lt h)).trans h
theorem two_0 (w : World) (o o' : Obj) : ((w.alloc o).alloc o').heap[w.heap.size]? = some o := blk_b (heap_alloc_new w o) (below1 o')
theorem two_1 (w : World) (o o' : Obj) : ((w.alloc o).alloc o').heap[w.heap.size + 1]? = some o' := by
  have h := heap_alloc_new (w.alloc o) o'
  have e : (w.alloc o).heap.size = w.heap.size + 1 := by simp
  rw [e] at h
  exact h
theorem ent_number : ∀ args w, (callFunc 148 args).run Try.prog w = .ok (.enter 148 args) w := enters_of Try.func148 (by kernel_rfl) rfl
theorem ent_int : ∀ args w, (callFunc 168 args).run Try.prog w = .ok (.enter 168 args) w := enters_of Try.func168 (by kernel_rfl) rfl
theorem ent_float : ∀ args w, (callFunc 175 args).run Try.prog w = .ok (.enter 175 args) w := enters_of Try.func175 (by kernel_rfl) rfl
theorem ent_fixed : ∀ args w, (callFunc 108 args).run Try.prog w = .ok (.enter 108 args) w := enters_of Try.func108 (by kernel_rfl) rfl
section
variable {w : World} {B g : Nat} {ro : Option Nat} {s : WS}
set_option maxHeartbeats 1600000 in
theorem wNumber_calls (n size : Int) (hn : n ≤ 9223372036854775807) (hw : Wr w B g ro s) (hB : B ≤ w.heap.size) (hl : (s.put (pNumber n size)).xs.length ≤ 140737488355328) :
    Calls Try.prog 111 #[.pointer (some ⟨g, 0, none⟩), .int .i64 n, .int .i64 size] w (WPost B g ro (s.put (pNumber n size)) w) := by
  have C := put_calls 148 #[.pointer (some ⟨w.heap.size + 1, 0, none⟩), .pointer (some ⟨w.heap.size, 0, none⟩)] ent_number (pNumber n size) B g ro s ((w.alloc (.cells #[.int .i64 n] 3)).alloc (.cells #[.int .i64 size] 3)) (hw.below (below2 _ _)) (Nat.le_trans hB (below2 _ _).size) hl
    (fun W hW => number1_calls n size hn _ _ W (blk_b (two_1 w _ _) hW) (blk_b (two_0 w _ _) hW))
  have C' := Aside0.mk C
  clear C hw
  have hmf : ∀ (fn : Fn) (first cap : Array Value) (w : World), (Instr.makeFunc fn first cap).run Try.prog w = .ok (.func fn first cap) w := fun _ _ _ _ => rfl
  go_enter Try.func111, Try.ntmps111
  go_wp2_with (go_at_call 107; refine C'.out.mono ?_; rintro e w' ⟨rfl, hP⟩)
  go_end0
  exact WPost.from ⟨rfl, hP⟩ (below2 _ _)
set_option maxHeartbeats 800000 in
theorem wCount_calls (n : Int) (hn : n ≤ 9223372036854775807) (hw : Wr w B g ro s) (hB : B ≤ w.heap.size) (hl : (s.put (pNumber n 2)).xs.length ≤ 140737488355328) :
    Calls Try.prog 158 #[.pointer (some ⟨g, 0, none⟩), .int .i64 n] w (WPost B g ro (s.put (pNumber n 2)) w) := by
  have C' := Aside0.mk (wNumber_calls n 2 hn hw hB hl)
  clear hw
  go_enter Try.func158, Try.ntmps158
  go_wp2_with (go_at_call 111; refine C'.out.mono ?_; rintro e w' ⟨rfl, hP⟩)
  go_end0
  exact ⟨rfl, hP⟩
set_option maxHeartbeats 800000 in
theorem wBool_calls (is : Bool) (hw : Wr w B g ro s) (hB : B ≤ w.heap.size) (hl : (s.put (pBool is)).xs.length ≤ 140737488355328) :
    Calls Try.prog 156 #[.pointer (some ⟨g, 0, none⟩), .bool is] w (WPost B g ro (s.put (pBool is)) w) := by
  cases is
  · have C' := Aside0.mk (wNumber_calls 0 1 (by omega) hw hB hl)
    clear hw
    go_enter Try.func156, Try.ntmps156
    go_wp2_with (go_at_call 111; refine C'.out.mono ?_; rintro e w' ⟨rfl, hP⟩)
    go_end0
    exact ⟨rfl, hP⟩
  · have C' := Aside0.mk (wNumber_calls 1 1 (by omega) hw hB hl)
    clear hw
    go_enter Try.func156, Try.ntmps156
    go_wp2_with (go_at_call 111; refine C'.out.mono ?_; rintro e w' ⟨rfl, hP⟩)
    go_end0
    exact ⟨rfl, hP⟩
set_option maxHeartbeats 800000 in
theorem wInt_calls (n : Int) (hw : Wr w B g ro s) (hB : B ≤ w.heap.size) (hl : (s.put (pInt n)).xs.length ≤ 140737488355328) :
    Calls Try.prog 154 #[.pointer (some ⟨g, 0, none⟩), .int .i64 n] w (WPost B g ro (s.put (pInt n)) w) := by
  have C := put_calls 168 #[.pointer (some ⟨w.heap.size, 0, none⟩)] ent_int (pInt n) B g ro s (w.alloc (.cells #[.int .i64 n] 3)) (hw.below (below1 _)) (Nat.le_trans hB (below1 _).size) hl
    (fun W hW => int1_calls n _ W (blk_b (heap_alloc_new w _) hW))
  have C' := Aside0.mk C
  clear C hw
  have hmf : ∀ (fn : Fn) (first cap : Array Value) (w : World), (Instr.makeFunc fn first cap).run Try.prog w = .ok (.func fn first cap) w := fun _ _ _ _ => rfl
  go_enter Try.func154, Try.ntmps154
  go_wp2_with (go_at_call 107; refine C'.out.mono ?_; rintro e w' ⟨rfl, hP⟩)
  go_end0
  exact WPost.from ⟨rfl, hP⟩ (below1 _)
set_option maxHeartbeats 1600000 in
theorem wFixed_calls (y : ByteArray) (size : Int) (hy : y.size ≤ 9223372036854775807) (hw : Wr w B g ro s) (hB : B ≤ w.heap.size) (hl : (s.put (pFixed y size)).xs.length ≤ 140737488355328) :
    Calls Try.prog 52 #[.pointer (some ⟨g, 0, none⟩), .string y, .int .i64 size] w (WPost B g ro (s.put (pFixed y size)) w) := by
  have C := put_calls 108 #[.pointer (some ⟨w.heap.size + 1, 0, none⟩), .pointer (some ⟨w.heap.size, 0, none⟩)] ent_fixed (pFixed y size) B g ro s ((w.alloc (.cells #[.string y] 9)).alloc (.cells #[.int .i64 size] 3)) (hw.below (below2 _ _)) (Nat.le_trans hB (below2 _ _).size) hl
    (fun W hW => fixed1_calls y size hy _ _ W (blk_b (two_1 w _ _) hW) (blk_b (two_0 w _ _) hW))
  have C' := Aside0.mk C
  clear C hw
  have hmf : ∀ (fn : Fn) (first cap : Array Value) (w : World), (Instr.makeFunc fn first cap).run Try.prog w = .ok (.func fn first cap) w := fun _ _ _ _ => rfl
  go_enter Try.func52, Try.ntmps52
  go_wp2_with (go_at_call 107; refine C'.out.mono ?_; rintro e w' ⟨rfl, hP⟩)
  go_end0
  exact WPost.from ⟨rfl, hP⟩ (below2 _ _)
set_option maxHeartbeats 400000 in
theorem isnan_calls (n : Nat) (w : World) : Calls Try.prog 174 #[.float .f64 n] w fun e w' => e = .returned (.bool (isNan n)) ∧ w = w' := by
  unfold isNan
  go_enter Try.func174, Try.ntmps174
  go_wp2
  go_ret
  exact ⟨rfl, rfl⟩
set_option maxHeartbeats 1600000 in
theorem wFloat_calls (n : Nat) (hw : Wr w B g ro s) (hB : B ≤ w.heap.size) (hl : (s.put (pFloat n)).xs.length ≤ 140737488355328) :
    Calls Try.prog 164 #[.pointer (some ⟨g, 0, none⟩), .float .f64 n] w (WPost B g ro (s.put (pFloat n)) w) := by
  have hfb : ∀ (a : Nat) (w : World), (callFunc 173 #[.float .f64 a]).run Try.prog w = .ok (.value (.int .u64 a)) w := fun a w => by kernel_rfl
  have hmf : ∀ (fn : Fn) (first cap : Array Value) (w : World), (Instr.makeFunc fn first cap).run Try.prog w = .ok (.func fn first cap) w := fun _ _ _ _ => rfl
  have HN := Aside0.mk (fun w => isnan_calls n w)
  cases hi : isNan n with
  | true =>
    have HI := Aside0.mk hi
    have HF : Aside0 (pFloat n = some (be 9221120237041090560 8)) := ⟨by simp [pFloat, fBits, hi, nanBits]⟩
    have C := put_calls 175 #[.pointer (some ⟨w.heap.size, 0, none⟩)] ent_float (some (be 9221120237041090560 8)) B g ro s (w.alloc (.cells #[.int .u64 9221120237041090560] 142)) (hw.below (below1 _)) (Nat.le_trans hB (below1 _).size) (by rw [← HF.out]; exact hl)
      (fun W hW => float1_calls 9221120237041090560 _ W (blk_b (heap_alloc_new w _) hW))
    have C' := Aside0.mk C
    clear C hw hi
    go_enter Try.func164, Try.ntmps164
    go_wp2_with (first | (go_at_call 174; refine (HN.out _).mono ?_; rw [HI.out]; rintro e w' ⟨rfl, rfl⟩) | (go_at_call 107; refine C'.out.mono ?_; rintro e w' ⟨rfl, hP⟩))
    go_end0
    rw [HF.out]
    exact WPost.from ⟨rfl, hP⟩ (below1 _)
  | false =>
    have HI := Aside0.mk hi
    have HF : Aside0 (pFloat n = some (be n 8)) := ⟨by simp [pFloat, fBits, hi]⟩
    have C := put_calls 175 #[.pointer (some ⟨w.heap.size, 0, none⟩)] ent_float (some (be n 8)) B g ro s (w.alloc (.cells #[.int .u64 n] 142)) (hw.below (below1 _)) (Nat.le_trans hB (below1 _).size) (by rw [← HF.out]; exact hl)
      (fun W hW => float1_calls n _ W (blk_b (heap_alloc_new w _) hW))
    have C' := Aside0.mk C
    clear C hw hi
    go_enter Try.func164, Try.ntmps164
    go_wp2_with (first | (go_at_call 174; refine (HN.out _).mono ?_; rw [HI.out]; rintro e w' ⟨rfl, rfl⟩) | (go_at_call 107; refine C'.out.mono ?_; rintro e w' ⟨rfl, hP⟩))
    go_end0
    rw [HF.out]
    exact WPost.from ⟨rfl, hP⟩ (below1 _)
/-- bytes that came out, in a list of their own -/
def BytesPost (xs : List Int) (e2 : Int) (w : World) (e : Ending) (w' : World) : Prop :=
  ∃ v, e = .returned (.tuple #[v, .int .i64 e2]) ∧ w'.ownsRow w.heap.size 5 1 v xs.length (nums .u8 xs) ∧ Below w.heap.size w w'
def WS.out (s : WS) : List Int := if s.bad = true then [] else s.xs
def WS.err (s : WS) : Int := if s.bad = true then 1 else 0
set_option maxHeartbeats 1600000 in
theorem wBytes_calls (hw : Wr w B g ro s) (hl : s.xs.length ≤ 140737488355328) :
    Calls Try.prog 55 #[.pointer (some ⟨g, 0, none⟩)] w (BytesPost s.out s.err w) := by
  obtain ⟨⟨v, hv, ho, hr⟩, -⟩ := hw
  obtain ⟨xs, bad⟩ := s
  simp only at hv ho hl
  have c1 : w.cell? ⟨g, 1, none⟩ = some (.bool bad) := (blk_cell hv 1).trans rfl
  obtain ⟨A, c, rfl, _, hrd⟩ := own_reads' ho
  have c0 : w.cell? ⟨g, 0, none⟩ = some (.slice A xs.length c) := (blk_cell hv 0).trans rfl
  have HR := Aside0.mk hrd
  clear hv ho hr hrd
  cases bad with
  | true =>
    go_enter Try.func55, Try.ntmps55
    go_wp2
    go_ret2
    exact ⟨_, rfl, own_nil _ _ _ _, Below.refl _ _⟩
  | false =>
    go_enter Try.func55, Try.ntmps55
    go_wp2_with (at_builtin; refine wpList_append_row w.heap.size rfl _ (.tmp 11) 24 5 .u8 1 rfl Try.underlying24 info_u8 (by decide) (.slice none 0 0) 0 [] xs A xs.length c (by rfl) (by rfl) (own_nil _ _ _ _) HR.out (Nat.le_refl _) (by omega) ?_; intro v1 w1 ho1 hg1 _)
    go_ret2
    refine ⟨_, rfl, ?_, (Below.refl _ _).grown hg1 (Nat.le_refl _) (fun k hk => by cases hk)⟩
    simpa [WS.out] using ho1
end
set_option maxHeartbeats 400000 in
theorem newWriter_calls (w : World) : Calls Try.prog 51 #[] w fun e w' => e = .returned (.pointer (some ⟨w.heap.size, 0, none⟩)) ∧ Wr w' w.heap.size w.heap.size none ⟨[], false⟩ ∧ Below w.heap.size w w' := by
  have HB := Aside0.mk (below1 (w := w) (.cells #[.slice none 0 0, .bool false] 148))
  have HW := Aside0.mk (show Wr (w.alloc (.cells #[.slice none 0 0, .bool false] 148)) w.heap.size w.heap.size none ⟨[], false⟩ from ⟨⟨_, heap_alloc_new w _, own_nil _ _ _ _, rfl⟩, Nat.le_refl _⟩)
  go_enter Try.func51, Try.ntmps51
  go_wp2
  go_ret
  exact ⟨rfl, HW.out, HB.out⟩
end Go.Proofs.Ytgmbfecfkdbfaaa.Wi
/- The reader's small functions: what is wrong is given up; bytes of a piece, bits of a number. -/
set_option linter.unusedVariables false
set_option linter.unusedSimpArgs false
namespace Go.Proofs.Ytgmbfecfkdbfaaa.Wi
open Go Go.RowKit Go.Proofs.YtgmbfecfkdbfaaaW.PrintWords
set_option maxHeartbeats 400000 in
theorem check_ok (e : Int) (w : World) : Calls Try.prog 146 #[.bool true, .int .i64 e] w fun en w' => en = .returned (.tuple #[]) ∧ w = w' := by
  go_enter Try.func146, Try.ntmps146
  go_wp2
  go_end0
  exact ⟨rfl, rfl⟩
set_option maxHeartbeats 400000 in
theorem check_no (e : Int) (w : World) : Calls Try.prog 146 #[.bool false, .int .i64 e] w fun en w' => en = .panicked (gave e) ∧ w = w' := by
  unfold gave
  go_enter Try.func146, Try.ntmps146
  go_wp2
  exact ⟨rfl, rfl, rfl⟩
theorem add_block (a : Addr) (n : Nat) : (a.add n).block = a.block := by unfold Addr.add; split <;> rfl
theorem info_u8_parts : ∃ i, Try.prog.info? 5 = some i ∧ i.size = 1 := by
  obtain ⟨i0, hi, hzz⟩ := Option.map_eq_some_iff.1 info_u8
  simp only [Prod.mk.injEq] at hzz
  exact ⟨i0, hi, hzz.2.1⟩
/-- a cursor's block -/
def Cur (w : World) (gc : Nat) (A : Option Addr) (n c : Nat) (at_ : Nat) : Prop := w.heap[gc]? = some (.cells #[.slice A n c, .int .i64 at_] 214 (0, 0))
/-- what a call on a cursor may turn -/
def CurS (gc : Nat) : Nat → Prop := fun i => i = gc
/-- bytes of a piece: what comes out -/
def CBytes (gc : Nat) (A : Option Addr) (bs : List Int) (c at_ n : Nat) (w : World) (e : Ending) (w' : World) : Prop :=
  (∃ A' c', e = .returned (.slice A' n c') ∧ ReadsInt w' .u8 A' n ((bs.drop at_).take n)) ∧ Cur w' gc A bs.length c (at_ + n) ∧ Fr (CurS gc) w w'
/-- given up -/
def CGave (gc : Nat) (k : Int) (w : World) (e : Ending) (w' : World) : Prop := e = .panicked (gave k) ∧ Fr (CurS gc) w w'
set_option maxHeartbeats 4000000 in
theorem cbytes_short (gc : Nat) (A : Option Addr) (bs : List Int) (c at_ n : Nat) (w : World) (hC : Cur w gc A bs.length c at_) (hat : at_ ≤ bs.length) (hb : bs.length ≤ 140737488355328) (hn : bs.length < at_ + n) (hn2 : n ≤ 140737488355328) :
    Calls Try.prog 147 #[.pointer (some ⟨gc, 0, none⟩), .int .i64 n] w (CGave gc 10 w) := by
  have c0 : w.cell? ⟨gc, 0, none⟩ = some (.slice A bs.length c) := (blk_cell hC 0).trans rfl
  have c1 : w.cell? ⟨gc, 1, none⟩ = some (.int .i64 at_) := (blk_cell hC 1).trans rfl
  have hg := blk_lt hC
  clear hC
  have t1 : decide ((n : Int) ≤ (bs.length : Int) - at_) = false := decide_eq_false (by omega)
  have e1 : IntKind.i64.wrap ((bs.length : Int) - at_) = (bs.length : Int) - at_ := IntWalk.i64_in _ (by omega)
  go_enter Try.func147, Try.ntmps147
  go_wp2
  have HS0 := Aside0.mk (show w.drew.cell? ⟨gc, 0, none⟩ = some (.slice A bs.length c) ∧ w.drew.cell? ⟨gc, 1, none⟩ = some (.int .i64 at_) from ⟨c0, c1⟩)
  refine YtgmbfecfkdbfaaaG.wp_region_door 99 (YtgmbfecfkdbfaaaG.keepC []) (fun ch W => ch = gave 10 ∧ Fr (CurS gc) w W) (fun W => W.cell? ⟨gc, 0, none⟩ = some (.slice A bs.length c) ∧ W.cell? ⟨gc, 1, none⟩ = some (.int .i64 at_)) (by kernel_rfl) rfl (fun ch a W hk h => ⟨hk, by rw [h.1], h.2⟩) ?_
  refine YtgmbfecfkdbfaaaG.wpAnyG_take 0 (v := .int .i64 n) rfl (by kernel_rfl) (by kernel_rfl) (by kernel_rfl) (by kernel_rfl) (by decide) (fun a u => YtgmbfecfkdbfaaaG.keepC_put a u) HS0.out rfl (by rfl) (by rintro W ⟨h0, h1⟩; go_simp; done) ?_
  try simp only [Act.put, List.getElem_toArray, List.getElem_cons_zero, List.getElem_cons_succ, List.setIfInBounds_toArray, List.set_cons_zero, List.set_cons_succ]
  refine YtgmbfecfkdbfaaaG.wpAnyG_take 1 (v := .pointer (some ⟨gc, 0, none⟩)) rfl (by kernel_rfl) (by kernel_rfl) (by kernel_rfl) (by kernel_rfl) (by decide) (fun a u => YtgmbfecfkdbfaaaG.keepC_put a u) HS0.out rfl (by rfl) (by rintro W ⟨h0, h1⟩; go_simp; done) ?_
  try simp only [Act.put, List.getElem_toArray, List.getElem_cons_zero, List.getElem_cons_succ, List.setIfInBounds_toArray, List.set_cons_zero, List.set_cons_succ]
  refine YtgmbfecfkdbfaaaG.wpAnyG_take 2 (v := .pointer (some ⟨gc, 0, none⟩)) rfl (by kernel_rfl) (by kernel_rfl) (by kernel_rfl) (by kernel_rfl) (by decide) (fun a u => YtgmbfecfkdbfaaaG.keepC_put a u) HS0.out rfl (by rfl) (by rintro W ⟨h0, h1⟩; go_simp; done) ?_
  try simp only [Act.put, List.getElem_toArray, List.getElem_cons_zero, List.getElem_cons_succ, List.setIfInBounds_toArray, List.set_cons_zero, List.set_cons_succ]
  refine YtgmbfecfkdbfaaaG.wpAnyG_take 3 (v := .pointer (some ⟨gc, 0, none⟩)) rfl (by kernel_rfl) (by kernel_rfl) (by kernel_rfl) (by kernel_rfl) (by decide) (fun a u => YtgmbfecfkdbfaaaG.keepC_put a u) HS0.out rfl (by rfl) (by rintro W ⟨h0, h1⟩; go_simp; done) ?_
  try simp only [Act.put, List.getElem_toArray, List.getElem_cons_zero, List.getElem_cons_succ, List.setIfInBounds_toArray, List.set_cons_zero, List.set_cons_succ]
  refine YtgmbfecfkdbfaaaG.wpAnyG_take 4 (v := .slice A bs.length c) rfl (by kernel_rfl) (by kernel_rfl) (by kernel_rfl) (by kernel_rfl) (by decide) (fun a u => YtgmbfecfkdbfaaaG.keepC_put a u) HS0.out rfl (by rfl) (by rintro W ⟨h0, h1⟩; go_simp; done) ?_
  try simp only [Act.put, List.getElem_toArray, List.getElem_cons_zero, List.getElem_cons_succ, List.setIfInBounds_toArray, List.set_cons_zero, List.set_cons_succ]
  refine YtgmbfecfkdbfaaaG.wpAnyG_take 5 (v := .int .i64 bs.length) rfl (by kernel_rfl) (by kernel_rfl) (by kernel_rfl) (by kernel_rfl) (by decide) (fun a u => YtgmbfecfkdbfaaaG.keepC_put a u) HS0.out rfl (by rfl) (by rintro W ⟨h0, h1⟩; go_simp; done) ?_
  try simp only [Act.put, List.getElem_toArray, List.getElem_cons_zero, List.getElem_cons_succ, List.setIfInBounds_toArray, List.set_cons_zero, List.set_cons_succ]
  refine YtgmbfecfkdbfaaaG.wpAnyG_take 6 (v := .pointer (some ⟨gc, 0, none⟩)) rfl (by kernel_rfl) (by kernel_rfl) (by kernel_rfl) (by kernel_rfl) (by decide) (fun a u => YtgmbfecfkdbfaaaG.keepC_put a u) HS0.out rfl (by rfl) (by rintro W ⟨h0, h1⟩; go_simp; done) ?_
  try simp only [Act.put, List.getElem_toArray, List.getElem_cons_zero, List.getElem_cons_succ, List.setIfInBounds_toArray, List.set_cons_zero, List.set_cons_succ]
  refine YtgmbfecfkdbfaaaG.wpAnyG_take 7 (v := .pointer (some ⟨gc, 0, none⟩)) rfl (by kernel_rfl) (by kernel_rfl) (by kernel_rfl) (by kernel_rfl) (by decide) (fun a u => YtgmbfecfkdbfaaaG.keepC_put a u) HS0.out rfl (by rfl) (by rintro W ⟨h0, h1⟩; go_simp; done) ?_
  try simp only [Act.put, List.getElem_toArray, List.getElem_cons_zero, List.getElem_cons_succ, List.setIfInBounds_toArray, List.set_cons_zero, List.set_cons_succ]
  refine YtgmbfecfkdbfaaaG.wpAnyG_take 8 (v := .pointer (some ⟨gc, 1, none⟩)) rfl (by kernel_rfl) (by kernel_rfl) (by kernel_rfl) (by kernel_rfl) (by decide) (fun a u => YtgmbfecfkdbfaaaG.keepC_put a u) HS0.out rfl (by rfl) (by rintro W ⟨h0, h1⟩; go_simp; done) ?_
  try simp only [Act.put, List.getElem_toArray, List.getElem_cons_zero, List.getElem_cons_succ, List.setIfInBounds_toArray, List.set_cons_zero, List.set_cons_succ]
  refine YtgmbfecfkdbfaaaG.wpAnyG_take 9 (v := .int .i64 at_) rfl (by kernel_rfl) (by kernel_rfl) (by kernel_rfl) (by kernel_rfl) (by decide) (fun a u => YtgmbfecfkdbfaaaG.keepC_put a u) HS0.out rfl (by rfl) (by rintro W ⟨h0, h1⟩; go_simp; done) ?_
  try simp only [Act.put, List.getElem_toArray, List.getElem_cons_zero, List.getElem_cons_succ, List.setIfInBounds_toArray, List.set_cons_zero, List.set_cons_succ]
  refine YtgmbfecfkdbfaaaG.wpAnyG_take 10 (v := .int .i64 ((bs.length : Int) - at_)) rfl (by kernel_rfl) (by kernel_rfl) (by kernel_rfl) (by kernel_rfl) (by decide) (fun a u => YtgmbfecfkdbfaaaG.keepC_put a u) HS0.out rfl (by rfl) (by rintro W ⟨h0, h1⟩; go_simp; done) ?_
  try simp only [Act.put, List.getElem_toArray, List.getElem_cons_zero, List.getElem_cons_succ, List.setIfInBounds_toArray, List.set_cons_zero, List.set_cons_succ]
  refine YtgmbfecfkdbfaaaG.wpAnyG_take 11 (v := .bool false) rfl (by kernel_rfl) (by kernel_rfl) (by kernel_rfl) (by kernel_rfl) (by decide) (fun a u => YtgmbfecfkdbfaaaG.keepC_put a u) HS0.out rfl (by rfl) (by rintro W ⟨h0, h1⟩; go_simp; done) ?_
  try simp only [Act.put, List.getElem_toArray, List.getElem_cons_zero, List.getElem_cons_succ, List.setIfInBounds_toArray, List.set_cons_zero, List.set_cons_succ]
  refine YtgmbfecfkdbfaaaG.wpAnyG_one 12 rfl (by kernel_rfl) (by rfl) (fun K hK => ?_)
  go_simp
  refine (check_no _ _).mono ?_
  rintro e w' ⟨rfl, rfl⟩
  exact ⟨rfl, (Fr.refl _ _).drew⟩
theorem Cur.set_ {w : World} {gc n c at_ : Nat} {A : Option Addr} (h : Cur w gc A n c at_) (m : Nat) : Cur (w.setCell ⟨gc, 1, none⟩ (.int .i64 m)) gc A n c m := by
  have := blk_set h 1 (.int .i64 m)
  unfold Cur
  simpa using this
set_option maxHeartbeats 4000000 in
theorem cbytes_ok (gc : Nat) (A : Option Addr) (bs : List Int) (c at_ n : Nat) (w : World) (hC : Cur w gc A bs.length c at_) (hR : ReadsInt w .u8 A bs.length bs) (hc : bs.length ≤ c) (hb : bs.length ≤ 140737488355328) (hn : at_ + n ≤ bs.length) (hA : ∀ ad, A = some ad → ad.block ≠ gc) :
    Calls Try.prog 147 #[.pointer (some ⟨gc, 0, none⟩), .int .i64 n] w (CBytes gc A bs c at_ n w) := by
  have c0 : w.cell? ⟨gc, 0, none⟩ = some (.slice A bs.length c) := (blk_cell hC 0).trans rfl
  have c1 : w.cell? ⟨gc, 1, none⟩ = some (.int .i64 at_) := (blk_cell hC 1).trans rfl
  have f1 : w.frozen? ⟨gc, 1, none⟩ = false := blk_frozen hC 1
  have hg := blk_lt hC
  have HC := Aside0.mk hC
  have HR := Aside0.mk hR
  have HA := Aside0.mk hA
  clear hC hR hA
  obtain ⟨u8info, u8info_at, u8info_size⟩ := info_u8_parts
  obtain ⟨A', hsl, hrd, _⟩ := print_mid_int (P := Try.prog) (k := .u8) 24 5 Try.underlying24 (i := u8info) u8info_at u8info_size A c bs (at_ : Int) ((at_ : Int) + n) (by omega) (by omega) (by omega) hc
  have eL : ((bs.take ((at_ : Int) + n).toNat).drop (at_ : Int).toNat) = (bs.drop at_).take n := by
    rw [show ((at_ : Int) + n).toNat = at_ + n by omega, Int.toNat_natCast, List.drop_take, show at_ + n - at_ = n by omega]
  have eN : ((bs.drop at_).take n).length = n := by rw [List.length_take, List.length_drop]; omega
  rw [eL, eN, Int.toNat_natCast] at hsl
  simp only [eL, eN] at hrd
  clear eL eN
  have e3 : IntKind.i64.wrap ((at_ : Int) + n - n) = (at_ : Int) := by rw [show (at_ : Int) + n - n = at_ by omega]; exact IntWalk.i64_in _ (by omega)
  have e5 : IntKind.i64.wrap (at_ : Int) = (at_ : Int) := IntWalk.i64_in _ (by omega)
  have t1 : decide ((n : Int) ≤ (bs.length : Int) - at_) = true := decide_eq_true (by omega)
  have e1 : IntKind.i64.wrap ((bs.length : Int) - at_) = (bs.length : Int) - at_ := IntWalk.i64_in _ (by omega)
  have e2 : IntKind.i64.wrap ((at_ : Int) + n) = (at_ : Int) + n := IntWalk.i64_in _ (by omega)
  go_enter Try.func147, Try.ntmps147
  go_wp2
  have HS0 := Aside0.mk (show w.drew.cell? ⟨gc, 0, none⟩ = some (.slice A bs.length c) ∧ w.drew.cell? ⟨gc, 1, none⟩ = some (.int .i64 at_) from ⟨c0, c1⟩)
  refine YtgmbfecfkdbfaaaG.wp_region_door 99 (YtgmbfecfkdbfaaaG.keepC []) (fun ch W => False) (fun W => W.cell? ⟨gc, 0, none⟩ = some (.slice A bs.length c) ∧ W.cell? ⟨gc, 1, none⟩ = some (.int .i64 at_)) (by kernel_rfl) rfl (fun ch a W hk h => h.elim) ?_
  refine YtgmbfecfkdbfaaaG.wpAnyG_take 0 (v := .int .i64 n) rfl (by kernel_rfl) (by kernel_rfl) (by kernel_rfl) (by kernel_rfl) (by decide) (fun a u => YtgmbfecfkdbfaaaG.keepC_put a u) HS0.out rfl (by rfl) (by rintro W ⟨h0, h1⟩; go_simp; done) ?_
  try simp only [Act.put, List.getElem_toArray, List.getElem_cons_zero, List.getElem_cons_succ, List.setIfInBounds_toArray, List.set_cons_zero, List.set_cons_succ]
  refine YtgmbfecfkdbfaaaG.wpAnyG_take 1 (v := .pointer (some ⟨gc, 0, none⟩)) rfl (by kernel_rfl) (by kernel_rfl) (by kernel_rfl) (by kernel_rfl) (by decide) (fun a u => YtgmbfecfkdbfaaaG.keepC_put a u) HS0.out rfl (by rfl) (by rintro W ⟨h0, h1⟩; go_simp; done) ?_
  try simp only [Act.put, List.getElem_toArray, List.getElem_cons_zero, List.getElem_cons_succ, List.setIfInBounds_toArray, List.set_cons_zero, List.set_cons_succ]
  refine YtgmbfecfkdbfaaaG.wpAnyG_take 2 (v := .pointer (some ⟨gc, 0, none⟩)) rfl (by kernel_rfl) (by kernel_rfl) (by kernel_rfl) (by kernel_rfl) (by decide) (fun a u => YtgmbfecfkdbfaaaG.keepC_put a u) HS0.out rfl (by rfl) (by rintro W ⟨h0, h1⟩; go_simp; done) ?_
  try simp only [Act.put, List.getElem_toArray, List.getElem_cons_zero, List.getElem_cons_succ, List.setIfInBounds_toArray, List.set_cons_zero, List.set_cons_succ]
  refine YtgmbfecfkdbfaaaG.wpAnyG_take 3 (v := .pointer (some ⟨gc, 0, none⟩)) rfl (by kernel_rfl) (by kernel_rfl) (by kernel_rfl) (by kernel_rfl) (by decide) (fun a u => YtgmbfecfkdbfaaaG.keepC_put a u) HS0.out rfl (by rfl) (by rintro W ⟨h0, h1⟩; go_simp; done) ?_
  try simp only [Act.put, List.getElem_toArray, List.getElem_cons_zero, List.getElem_cons_succ, List.setIfInBounds_toArray, List.set_cons_zero, List.set_cons_succ]
  refine YtgmbfecfkdbfaaaG.wpAnyG_take 4 (v := .slice A bs.length c) rfl (by kernel_rfl) (by kernel_rfl) (by kernel_rfl) (by kernel_rfl) (by decide) (fun a u => YtgmbfecfkdbfaaaG.keepC_put a u) HS0.out rfl (by rfl) (by rintro W ⟨h0, h1⟩; go_simp; done) ?_
  try simp only [Act.put, List.getElem_toArray, List.getElem_cons_zero, List.getElem_cons_succ, List.setIfInBounds_toArray, List.set_cons_zero, List.set_cons_succ]
  refine YtgmbfecfkdbfaaaG.wpAnyG_take 5 (v := .int .i64 bs.length) rfl (by kernel_rfl) (by kernel_rfl) (by kernel_rfl) (by kernel_rfl) (by decide) (fun a u => YtgmbfecfkdbfaaaG.keepC_put a u) HS0.out rfl (by rfl) (by rintro W ⟨h0, h1⟩; go_simp; done) ?_
  try simp only [Act.put, List.getElem_toArray, List.getElem_cons_zero, List.getElem_cons_succ, List.setIfInBounds_toArray, List.set_cons_zero, List.set_cons_succ]
  refine YtgmbfecfkdbfaaaG.wpAnyG_take 6 (v := .pointer (some ⟨gc, 0, none⟩)) rfl (by kernel_rfl) (by kernel_rfl) (by kernel_rfl) (by kernel_rfl) (by decide) (fun a u => YtgmbfecfkdbfaaaG.keepC_put a u) HS0.out rfl (by rfl) (by rintro W ⟨h0, h1⟩; go_simp; done) ?_
  try simp only [Act.put, List.getElem_toArray, List.getElem_cons_zero, List.getElem_cons_succ, List.setIfInBounds_toArray, List.set_cons_zero, List.set_cons_succ]
  refine YtgmbfecfkdbfaaaG.wpAnyG_take 7 (v := .pointer (some ⟨gc, 0, none⟩)) rfl (by kernel_rfl) (by kernel_rfl) (by kernel_rfl) (by kernel_rfl) (by decide) (fun a u => YtgmbfecfkdbfaaaG.keepC_put a u) HS0.out rfl (by rfl) (by rintro W ⟨h0, h1⟩; go_simp; done) ?_
  try simp only [Act.put, List.getElem_toArray, List.getElem_cons_zero, List.getElem_cons_succ, List.setIfInBounds_toArray, List.set_cons_zero, List.set_cons_succ]
  refine YtgmbfecfkdbfaaaG.wpAnyG_take 8 (v := .pointer (some ⟨gc, 1, none⟩)) rfl (by kernel_rfl) (by kernel_rfl) (by kernel_rfl) (by kernel_rfl) (by decide) (fun a u => YtgmbfecfkdbfaaaG.keepC_put a u) HS0.out rfl (by rfl) (by rintro W ⟨h0, h1⟩; go_simp; done) ?_
  try simp only [Act.put, List.getElem_toArray, List.getElem_cons_zero, List.getElem_cons_succ, List.setIfInBounds_toArray, List.set_cons_zero, List.set_cons_succ]
  refine YtgmbfecfkdbfaaaG.wpAnyG_take 9 (v := .int .i64 at_) rfl (by kernel_rfl) (by kernel_rfl) (by kernel_rfl) (by kernel_rfl) (by decide) (fun a u => YtgmbfecfkdbfaaaG.keepC_put a u) HS0.out rfl (by rfl) (by rintro W ⟨h0, h1⟩; go_simp; done) ?_
  try simp only [Act.put, List.getElem_toArray, List.getElem_cons_zero, List.getElem_cons_succ, List.setIfInBounds_toArray, List.set_cons_zero, List.set_cons_succ]
  refine YtgmbfecfkdbfaaaG.wpAnyG_take 10 (v := .int .i64 ((bs.length : Int) - at_)) rfl (by kernel_rfl) (by kernel_rfl) (by kernel_rfl) (by kernel_rfl) (by decide) (fun a u => YtgmbfecfkdbfaaaG.keepC_put a u) HS0.out rfl (by rfl) (by rintro W ⟨h0, h1⟩; go_simp; done) ?_
  try simp only [Act.put, List.getElem_toArray, List.getElem_cons_zero, List.getElem_cons_succ, List.setIfInBounds_toArray, List.set_cons_zero, List.set_cons_succ]
  refine YtgmbfecfkdbfaaaG.wpAnyG_take 11 (v := .bool true) rfl (by kernel_rfl) (by kernel_rfl) (by kernel_rfl) (by kernel_rfl) (by decide) (fun a u => YtgmbfecfkdbfaaaG.keepC_put a u) HS0.out rfl (by rfl) (by rintro W ⟨h0, h1⟩; go_simp; done) ?_
  try simp only [Act.put, List.getElem_toArray, List.getElem_cons_zero, List.getElem_cons_succ, List.setIfInBounds_toArray, List.set_cons_zero, List.set_cons_succ]
  refine YtgmbfecfkdbfaaaG.wpAnyG_one 12 rfl (by kernel_rfl) (by rfl) (fun K hK => ?_)
  go_simp
  refine (check_ok _ _).mono ?_
  rintro e w' ⟨rfl, rfl⟩
  refine hK _ _ HS0.out rfl ?_
  try simp only [Act.put, List.getElem_toArray, List.getElem_cons_zero, List.getElem_cons_succ, List.setIfInBounds_toArray, List.set_cons_zero, List.set_cons_succ]
  clear hK K
  refine YtgmbfecfkdbfaaaG.wpAnyG_done (by kernel_rfl) ?_ _
  go_wp2
  have hC2 := (HC.out.set_ (at_ + n))
  have e4 : ((at_ + n : Nat) : Int) = (at_ : Int) + n := by omega
  have HC2 := Aside0.mk hC2
  unfold Cur at hC2
  rw [e4] at hC2
  have HF := Aside0.mk ((Fr.refl (CurS gc) w).set_ (p := ⟨gc, 1, none⟩) (.inl rfl) (.int .i64 ((at_ : Int) + n)))
  have HRD := Aside0.mk (show ReadsInt (w.setCell ⟨gc, 1, none⟩ (.int .i64 ((at_ : Int) + n))) .u8 A' n ((bs.drop at_).take n) from by
    refine hrd _ ⟨HR.out.1, HR.out.2.1, fun hp => ?_⟩
    obtain ⟨ad, ha, hcell⟩ := HR.out.2.2 hp
    refine ⟨ad, ha, fun j hj => ?_⟩
    rw [World.cell?_setCell_other w _ (ad.add j) _ (fun e => HA.out ad ha (by have := congrArg Addr.block e; rw [add_block] at this; exact this.symm))]
    exact hcell j hj)
  rw [e4] at HC2
  clear HC HR HA hrd c0 c1 f1
  generalize w.setCell ⟨gc, 1, none⟩ (.int .i64 ((at_ : Int) + n)) = W2 at hC2 HC2 HF HRD
  have HS0 := Aside0.mk (show W2.drew.drew.cell? ⟨gc, 0, none⟩ = some (.slice A bs.length c) ∧ W2.drew.drew.cell? ⟨gc, 1, none⟩ = some (.int .i64 ((at_ : Int) + n)) from ⟨(blk_cell hC2 0).trans rfl, (blk_cell hC2 1).trans rfl⟩)
  clear hC2
  refine YtgmbfecfkdbfaaaG.wp_region_door 99 (YtgmbfecfkdbfaaaG.keepC []) (fun ch W => False) (fun W => W.cell? ⟨gc, 0, none⟩ = some (.slice A bs.length c) ∧ W.cell? ⟨gc, 1, none⟩ = some (.int .i64 ((at_ : Int) + n))) (by kernel_rfl) rfl (fun ch a W hk h => h.elim) ?_
  refine YtgmbfecfkdbfaaaG.wpAnyG_take 0 (v := .pointer (some ⟨gc, 0, none⟩)) rfl (by kernel_rfl) (by kernel_rfl) (by kernel_rfl) (by kernel_rfl) (by decide) (fun a u => YtgmbfecfkdbfaaaG.keepC_put a u) HS0.out rfl (by rfl) (by rintro W ⟨h0, h1⟩; go_simp; done) ?_
  try simp only [Act.put, List.getElem_toArray, List.getElem_cons_zero, List.getElem_cons_succ, List.setIfInBounds_toArray, List.set_cons_zero, List.set_cons_succ]
  refine YtgmbfecfkdbfaaaG.wpAnyG_take 1 (v := .pointer (some ⟨gc, 0, none⟩)) rfl (by kernel_rfl) (by kernel_rfl) (by kernel_rfl) (by kernel_rfl) (by decide) (fun a u => YtgmbfecfkdbfaaaG.keepC_put a u) HS0.out rfl (by rfl) (by rintro W ⟨h0, h1⟩; go_simp; done) ?_
  try simp only [Act.put, List.getElem_toArray, List.getElem_cons_zero, List.getElem_cons_succ, List.setIfInBounds_toArray, List.set_cons_zero, List.set_cons_succ]
  refine YtgmbfecfkdbfaaaG.wpAnyG_take 2 (v := .pointer (some ⟨gc, 0, none⟩)) rfl (by kernel_rfl) (by kernel_rfl) (by kernel_rfl) (by kernel_rfl) (by decide) (fun a u => YtgmbfecfkdbfaaaG.keepC_put a u) HS0.out rfl (by rfl) (by rintro W ⟨h0, h1⟩; go_simp; done) ?_
  try simp only [Act.put, List.getElem_toArray, List.getElem_cons_zero, List.getElem_cons_succ, List.setIfInBounds_toArray, List.set_cons_zero, List.set_cons_succ]
  refine YtgmbfecfkdbfaaaG.wpAnyG_take 3 (v := .slice A bs.length c) rfl (by kernel_rfl) (by kernel_rfl) (by kernel_rfl) (by kernel_rfl) (by decide) (fun a u => YtgmbfecfkdbfaaaG.keepC_put a u) HS0.out rfl (by rfl) (by rintro W ⟨h0, h1⟩; go_simp; done) ?_
  try simp only [Act.put, List.getElem_toArray, List.getElem_cons_zero, List.getElem_cons_succ, List.setIfInBounds_toArray, List.set_cons_zero, List.set_cons_succ]
  refine YtgmbfecfkdbfaaaG.wpAnyG_take 4 (v := .pointer (some ⟨gc, 0, none⟩)) rfl (by kernel_rfl) (by kernel_rfl) (by kernel_rfl) (by kernel_rfl) (by decide) (fun a u => YtgmbfecfkdbfaaaG.keepC_put a u) HS0.out rfl (by rfl) (by rintro W ⟨h0, h1⟩; go_simp; done) ?_
  try simp only [Act.put, List.getElem_toArray, List.getElem_cons_zero, List.getElem_cons_succ, List.setIfInBounds_toArray, List.set_cons_zero, List.set_cons_succ]
  refine YtgmbfecfkdbfaaaG.wpAnyG_take 5 (v := .pointer (some ⟨gc, 0, none⟩)) rfl (by kernel_rfl) (by kernel_rfl) (by kernel_rfl) (by kernel_rfl) (by decide) (fun a u => YtgmbfecfkdbfaaaG.keepC_put a u) HS0.out rfl (by rfl) (by rintro W ⟨h0, h1⟩; go_simp; done) ?_
  try simp only [Act.put, List.getElem_toArray, List.getElem_cons_zero, List.getElem_cons_succ, List.setIfInBounds_toArray, List.set_cons_zero, List.set_cons_succ]
  refine YtgmbfecfkdbfaaaG.wpAnyG_take 6 (v := .pointer (some ⟨gc, 1, none⟩)) rfl (by kernel_rfl) (by kernel_rfl) (by kernel_rfl) (by kernel_rfl) (by decide) (fun a u => YtgmbfecfkdbfaaaG.keepC_put a u) HS0.out rfl (by rfl) (by rintro W ⟨h0, h1⟩; go_simp; done) ?_
  try simp only [Act.put, List.getElem_toArray, List.getElem_cons_zero, List.getElem_cons_succ, List.setIfInBounds_toArray, List.set_cons_zero, List.set_cons_succ]
  refine YtgmbfecfkdbfaaaG.wpAnyG_take 7 (v := .int .i64 ((at_ : Int) + n)) rfl (by kernel_rfl) (by kernel_rfl) (by kernel_rfl) (by kernel_rfl) (by decide) (fun a u => YtgmbfecfkdbfaaaG.keepC_put a u) HS0.out rfl (by rfl) (by rintro W ⟨h0, h1⟩; go_simp; done) ?_
  try simp only [Act.put, List.getElem_toArray, List.getElem_cons_zero, List.getElem_cons_succ, List.setIfInBounds_toArray, List.set_cons_zero, List.set_cons_succ]
  refine YtgmbfecfkdbfaaaG.wpAnyG_take 8 (v := .int .i64 n) rfl (by kernel_rfl) (by kernel_rfl) (by kernel_rfl) (by kernel_rfl) (by decide) (fun a u => YtgmbfecfkdbfaaaG.keepC_put a u) HS0.out rfl (by rfl) (by rintro W ⟨h0, h1⟩; go_simp; done) ?_
  try simp only [Act.put, List.getElem_toArray, List.getElem_cons_zero, List.getElem_cons_succ, List.setIfInBounds_toArray, List.set_cons_zero, List.set_cons_succ]
  refine YtgmbfecfkdbfaaaG.wpAnyG_take 9 (v := .int .i64 at_) rfl (by kernel_rfl) (by kernel_rfl) (by kernel_rfl) (by kernel_rfl) (by decide) (fun a u => YtgmbfecfkdbfaaaG.keepC_put a u) HS0.out rfl (by rfl) (by rintro W ⟨h0, h1⟩; go_simp; done) ?_
  try simp only [Act.put, List.getElem_toArray, List.getElem_cons_zero, List.getElem_cons_succ, List.setIfInBounds_toArray, List.set_cons_zero, List.set_cons_succ]
  refine YtgmbfecfkdbfaaaG.wpAnyG_take 10 (v := .pointer (some ⟨gc, 0, none⟩)) rfl (by kernel_rfl) (by kernel_rfl) (by kernel_rfl) (by kernel_rfl) (by decide) (fun a u => YtgmbfecfkdbfaaaG.keepC_put a u) HS0.out rfl (by rfl) (by rintro W ⟨h0, h1⟩; go_simp; done) ?_
  try simp only [Act.put, List.getElem_toArray, List.getElem_cons_zero, List.getElem_cons_succ, List.setIfInBounds_toArray, List.set_cons_zero, List.set_cons_succ]
  refine YtgmbfecfkdbfaaaG.wpAnyG_take 11 (v := .pointer (some ⟨gc, 0, none⟩)) rfl (by kernel_rfl) (by kernel_rfl) (by kernel_rfl) (by kernel_rfl) (by decide) (fun a u => YtgmbfecfkdbfaaaG.keepC_put a u) HS0.out rfl (by rfl) (by rintro W ⟨h0, h1⟩; go_simp; done) ?_
  try simp only [Act.put, List.getElem_toArray, List.getElem_cons_zero, List.getElem_cons_succ, List.setIfInBounds_toArray, List.set_cons_zero, List.set_cons_succ]
  refine YtgmbfecfkdbfaaaG.wpAnyG_take 12 (v := .pointer (some ⟨gc, 1, none⟩)) rfl (by kernel_rfl) (by kernel_rfl) (by kernel_rfl) (by kernel_rfl) (by decide) (fun a u => YtgmbfecfkdbfaaaG.keepC_put a u) HS0.out rfl (by rfl) (by rintro W ⟨h0, h1⟩; go_simp; done) ?_
  try simp only [Act.put, List.getElem_toArray, List.getElem_cons_zero, List.getElem_cons_succ, List.setIfInBounds_toArray, List.set_cons_zero, List.set_cons_succ]
  refine YtgmbfecfkdbfaaaG.wpAnyG_take 13 (v := .int .i64 ((at_ : Int) + n)) rfl (by kernel_rfl) (by kernel_rfl) (by kernel_rfl) (by kernel_rfl) (by decide) (fun a u => YtgmbfecfkdbfaaaG.keepC_put a u) HS0.out rfl (by rfl) (by rintro W ⟨h0, h1⟩; go_simp; done) ?_
  try simp only [Act.put, List.getElem_toArray, List.getElem_cons_zero, List.getElem_cons_succ, List.setIfInBounds_toArray, List.set_cons_zero, List.set_cons_succ]
  refine YtgmbfecfkdbfaaaG.wpAnyG_take 14 (v := .slice A' n (c - at_)) rfl (by kernel_rfl) (by kernel_rfl) (by kernel_rfl) (by kernel_rfl) (by decide) (fun a u => YtgmbfecfkdbfaaaG.keepC_put a u) HS0.out rfl (by rfl) (by rintro W ⟨h0, h1⟩; go_simp; done) ?_
  try simp only [Act.put, List.getElem_toArray, List.getElem_cons_zero, List.getElem_cons_succ, List.setIfInBounds_toArray, List.set_cons_zero, List.set_cons_succ]
  refine YtgmbfecfkdbfaaaG.wpAnyG_take 15 (v := .slice A' n (c - at_)) rfl (by kernel_rfl) (by kernel_rfl) (by kernel_rfl) (by kernel_rfl) (by decide) (fun a u => YtgmbfecfkdbfaaaG.keepC_put a u) HS0.out rfl (by rfl) (by rintro W ⟨h0, h1⟩; go_simp; done) ?_
  try simp only [Act.put, List.getElem_toArray, List.getElem_cons_zero, List.getElem_cons_succ, List.setIfInBounds_toArray, List.set_cons_zero, List.set_cons_succ]
  refine YtgmbfecfkdbfaaaG.wpAnyG_done (by kernel_rfl) ?_ _
  go_wp2
  go_ret
  refine ⟨⟨A', c - at_, ?_, HRD.out⟩, HC2.out, HF.out.drewN 2⟩
  simp only [List.set_cons_zero, List.set_cons_succ]
  rfl
end Go.Proofs.Ytgmbfecfkdbfaaa.Wi
/- Bits of a number, out of a cursor. -/
set_option linter.unusedVariables false
set_option linter.unusedSimpArgs false
namespace Go.Proofs.Ytgmbfecfkdbfaaa.Wi
open Go Go.RowKit Go.Proofs.YtgmbfecfkdbfaaaW.PrintWords
/-- bits of a number: what comes out -/
def CBits (gc : Nat) (A : Option Addr) (bs : List Int) (c at_ n : Nat) (w : World) (e : Ending) (w' : World) : Prop :=
  e = .returned (.int .u64 (val ((bs.drop at_).take n))) ∧ Cur w' gc A bs.length c (at_ + n) ∧ Fr (CurS gc) w w'
set_option maxHeartbeats 800000 in
theorem cbits_short (gc : Nat) (A : Option Addr) (bs : List Int) (c at_ n : Nat) (w : World) (hC : Cur w gc A bs.length c at_) (hat : at_ ≤ bs.length) (hb : bs.length ≤ 140737488355328) (hn : bs.length < at_ + n) (hn2 : n ≤ 140737488355328) :
    Calls Try.prog 153 #[.pointer (some ⟨gc, 0, none⟩), .int .i64 n] w (CGave gc 10 w) := by
  have C := Aside0.mk (cbytes_short gc A bs c at_ n w hC hat hb hn hn2)
  clear hC
  go_enter Try.func153, Try.ntmps153
  go_wp2_with (go_at_call 147; refine C.out.mono ?_; rintro e w' ⟨rfl, hf⟩)
  exact ⟨rfl, rfl, hf⟩
theorem or_byte (v : Nat) (x : Int) (hv : v < 256 ^ 7) (h0 : 0 ≤ x) (h1 : x ≤ 255) : bits .or .u64 ((v : Int) * 256) x = ((v * 256 + x.toNat : Nat) : Int) := by
  obtain ⟨m, rfl⟩ := Int.eq_ofNat_of_zero_le h0
  have h2 := Nat.two_pow_add_eq_or_of_lt (i := 8) (b := m) (by omega) v
  have h3 := u64_or_nat (v * 256) m (by omega) (by omega)
  rw [show ((v : Int) * 256) = ((v * 256 : Nat) : Int) by omega, h3, Int.toNat_natCast, show v * 256 = 2 ^ 8 * v by omega, ← h2]
theorem val_step (xs : List Int) (k : Nat) (x : Int) (hk : k < xs.length) (hx : rd xs k = x) : val (xs.take (k + 1)) = val (xs.take k) * 256 + x.toNat := by
  rw [List.take_succ_eq_append_getElem hk, val_snoc]
  congr 2
  rw [← hx]
  simp [rd, List.getD_eq_getElem?_getD, List.getElem?_eq_getElem hk]
theorem rd_mem (xs : List Int) (k : Nat) (hk : k < xs.length) : rd xs k ∈ xs := by
  simp [rd, List.getD_eq_getElem?_getD, List.getElem?_eq_getElem hk]
theorem shl_or (xs : List Int) (k : Nat) (x : Int) (hB : Bytes xs) (hk : k < xs.length) (h8 : xs.length ≤ 8) (hx : rd xs k = x) :
    bits .or .u64 (IntKind.u64.wrap ((val (xs.take k) : Int) * 256)) x = (val (xs.take (k + 1)) : Int) := by
  have hm : x ∈ xs := by
    rw [← hx]
    simp [rd, List.getD_eq_getElem?_getD, List.getElem?_eq_getElem hk]
  have h1 := hB x hm
  have hv : val (xs.take k) < 256 ^ 7 := by
    have h := val_lt (xs.take k) (hB.take k)
    have h2 : (xs.take k).length ≤ 7 := by rw [List.length_take]; omega
    exact Nat.lt_of_lt_of_le h (pow_256_le h2)
  rw [val_step xs k x hk hx, u64_wrap, show ((val (xs.take k) : Int) * 256) % 18446744073709551616 = (val (xs.take k) : Int) * 256 by omega, or_byte _ _ hv h1.1 h1.2]
set_option maxHeartbeats 1600000 in
theorem cbits_ok (gc : Nat) (A : Option Addr) (bs : List Int) (c at_ n : Nat) (w : World) (hC : Cur w gc A bs.length c at_) (hR : ReadsInt w .u8 A bs.length bs) (hc : bs.length ≤ c) (hb : bs.length ≤ 140737488355328) (hB : Bytes bs) (hn : at_ + n ≤ bs.length) (hn8 : n ≤ 8) (hA : ∀ ad, A = some ad → ad.block ≠ gc) :
    Calls Try.prog 153 #[.pointer (some ⟨gc, 0, none⟩), .int .i64 n] w (CBits gc A bs c at_ n w) := by
  have C := Aside0.mk (cbytes_ok gc A bs c at_ n w hC hR hc hb hn hA)
  have HB := Aside0.mk ((hB.drop at_).take n)
  have HL := Aside0.mk (show ((bs.drop at_).take n).length = n by rw [List.length_take, List.length_drop]; omega)
  clear hC hR hA hB
  unfold CBytes at C
  unfold CBits
  generalize (bs.drop at_).take n = xs at C HB HL
  go_enter Try.func153, Try.ntmps153
  go_wp2_with (go_at_call 147; refine C.out.mono ?_; rintro e W1 ⟨⟨A', c', rfl, hrd⟩, hcur, hfr⟩)
  have HRD := Aside0.mk hrd
  have HC := Aside0.mk hcur
  have HF := Aside0.mk hfr
  clear hrd hcur hfr C
  go_loopg [5, 7, 12] n (fun gg s5 s7 s12 wr => ∃ kk : Nat, kk ≤ n ∧ n - kk ≤ gg ∧ s12 = .int .i64 kk ∧ s5 = .int .u64 (val (xs.take kk)) ∧ wr = W1)
  case atStart => exact ⟨0, Nat.zero_le _, by omega, rfl, by simp [val], rfl⟩
  case round =>
    obtain ⟨kk, hkk, hg, rfl, rfl, rfl⟩ := hrel
    by_cases hlt : kk < n
    · have hltz : (kk : Int) < (n : Int) := by omega
      obtain ⟨ad, rfl, hcell⟩ := HRD.out.at_ kk (by omega) hltz
      simp only [Int.toNat_natCast] at hcell
      have HX : Aside0 (∀ x, rd xs kk = x → bits .or .u64 (IntKind.u64.wrap ((val (xs.take kk) : Int) * 256)) x = (val (xs.take (kk + 1)) : Int)) := ⟨fun x h => shl_or xs kk x HB.out (by rw [HL.out]; omega) (by rw [HL.out]; omega) h⟩
      obtain ⟨x, hxx⟩ : ∃ x, rd xs kk = x := ⟨_, rfl⟩
      rw [hxx] at hcell
      have HE := Aside0.mk (HX.out x hxx)
      have hx := HB.out x (by rw [← hxx]; exact rd_mem xs kk (by rw [HL.out]; omega))
      clear hxx HX
      go_wp2
      go_roundg (n - (kk + 1))
      case measure => omega
      case rel =>
        refine ⟨kk + 1, by omega, by omega, by go_num, ?_, rfl⟩
        rw [HE.out]
    · have hltz : ¬ (kk : Int) < (n : Int) := by omega
      have HV : Aside0 (val (xs.take kk) = val xs) := ⟨by rw [List.take_of_length_le (by rw [HL.out]; omega)]⟩
      go_wp2
      go_ret
      exact ⟨by rw [HV.out]; rfl, HC.out, HF.out⟩
end Go.Proofs.Ytgmbfecfkdbfaaa.Wi
/- The reader's take: a piece, as somebody reads it; what he gives up is caught. -/
set_option linter.unusedVariables false
set_option linter.unusedSimpArgs false
namespace Go.Proofs.Ytgmbfecfkdbfaaa.Wi
open Go Go.RowKit Go.Proofs.YtgmbfecfkdbfaaaW.PrintWords
/-- a reader's block -/
def RBlk (w : World) (g : Nat) (v : Value) (at_ last code fat : Int) : Prop := w.heap[g]? = some (.cells #[v, .int .i64 at_, .int .i64 last, .int .i64 code, .int .i64 fat] 202 (0, 0))
set_option maxHeartbeats 400000 in
theorem rcatch_panicking (h0 hc g : Nat) (v : Value) (at_ last code fat e : Int) (older : List PanicEntry) (w : World) (hh : w.heap[h0]? = some (.cells #[.pointer (some ⟨g, 0, none⟩)] 95 (0, 0))) (hg : RBlk w g v at_ last code fat) :
    CallsD Try.prog 167 #[.pointer (some ⟨h0, 0, none⟩), .pointer (some ⟨hc, 0, none⟩)] (.panicking ({ v := .iface 26 (.int .i64 e), recovered := false } :: older)) w fun en u' w' =>
      en = .returned (.tuple #[]) ∧ u' = .panicking ({ v := .iface 26 (.int .i64 e), recovered := true } :: older) ∧ RBlk w' g v at_ last e at_ ∧ Fr (fun i => i = g) w w' := by
  have ch : w.cell? ⟨h0, 0, none⟩ = some (.pointer (some ⟨g, 0, none⟩)) := (blk_cell hh 0).trans rfl
  have c1 : w.cell? ⟨g, 1, none⟩ = some (.int .i64 at_) := (blk_cell hg 1).trans rfl
  have c3 : w.cell? ⟨g, 3, none⟩ = some (.int .i64 code) := (blk_cell hg 3).trans rfl
  have c4 : w.cell? ⟨g, 4, none⟩ = some (.int .i64 fat) := (blk_cell hg 4).trans rfl
  have f3 : w.frozen? ⟨g, 3, none⟩ = false := blk_frozen hg 3
  have f4 : w.frozen? ⟨g, 4, none⟩ = false := blk_frozen hg 4
  have HG := Aside0.mk hg
  clear hg
  have hta : ∀ (v : Value) (W : World), (Instr.typeAssert (.iface 26 v) 20 26 true).run Try.prog W = .ok (.tuple #[v, .bool true]) W := fun v W => by first | kernel_rfl | rfl
  refine callsD_of_wpS Try.func167 rfl fun c₀ cs hu => ?_
  apply wpS_seq
  apply wpS_seq
  apply wpS_region
  simp [wpOpsS, go_sem, recoverD, hu, Try.ntmps167, Exit.thenS, hta]
  simp only [← List.toArray_replicate, List.reduceReplicate, List.setIfInBounds_toArray, List.set_cons_zero, List.set_cons_succ, List.append_toArray, List.cons_append, List.nil_append]
  refine wpS_of_wp ?_
  go_wp2
  have HS0 := Aside0.mk (show w.drew.cell? ⟨h0, 0, none⟩ = some (.pointer (some ⟨g, 0, none⟩)) ∧ w.drew.cell? ⟨g, 1, none⟩ = some (.int .i64 at_) from ⟨ch, c1⟩)
  refine YtgmbfecfkdbfaaaG.wp_region_door 9 YtgmbfecfkdbfaaaG.keepT (fun _ _ => False) (fun W => W.cell? ⟨h0, 0, none⟩ = some (.pointer (some ⟨g, 0, none⟩)) ∧ W.cell? ⟨g, 1, none⟩ = some (.int .i64 at_)) (by kernel_rfl) trivial (fun _ _ _ _ h => h.elim) ?_
  refine YtgmbfecfkdbfaaaG.wpAnyG_take 0 (v := .pointer (some ⟨g, 0, none⟩)) rfl (by kernel_rfl) (by kernel_rfl) (by kernel_rfl) (by kernel_rfl) (by decide) (fun a u => YtgmbfecfkdbfaaaG.keepT_put a u) HS0.out trivial (by rfl) (by rintro W ⟨h0, h1⟩; go_simp; done) ?_
  try simp only [Act.put, List.getElem_toArray, List.getElem_cons_zero, List.getElem_cons_succ, List.setIfInBounds_toArray, List.set_cons_zero, List.set_cons_succ]
  refine YtgmbfecfkdbfaaaG.wpAnyG_take 1 (v := .int .i64 e) rfl (by kernel_rfl) (by kernel_rfl) (by kernel_rfl) (by kernel_rfl) (by decide) (fun a u => YtgmbfecfkdbfaaaG.keepT_put a u) HS0.out trivial (by rfl) (by rintro W ⟨h0, h1⟩; go_simp; done) ?_
  try simp only [Act.put, List.getElem_toArray, List.getElem_cons_zero, List.getElem_cons_succ, List.setIfInBounds_toArray, List.set_cons_zero, List.set_cons_succ]
  refine YtgmbfecfkdbfaaaG.wpAnyG_take 2 (v := .pointer (some ⟨g, 0, none⟩)) rfl (by kernel_rfl) (by kernel_rfl) (by kernel_rfl) (by kernel_rfl) (by decide) (fun a u => YtgmbfecfkdbfaaaG.keepT_put a u) HS0.out trivial (by rfl) (by rintro W ⟨h0, h1⟩; go_simp; done) ?_
  try simp only [Act.put, List.getElem_toArray, List.getElem_cons_zero, List.getElem_cons_succ, List.setIfInBounds_toArray, List.set_cons_zero, List.set_cons_succ]
  refine YtgmbfecfkdbfaaaG.wpAnyG_take 3 (v := .pointer (some ⟨g, 0, none⟩)) rfl (by kernel_rfl) (by kernel_rfl) (by kernel_rfl) (by kernel_rfl) (by decide) (fun a u => YtgmbfecfkdbfaaaG.keepT_put a u) HS0.out trivial (by rfl) (by rintro W ⟨h0, h1⟩; go_simp; done) ?_
  try simp only [Act.put, List.getElem_toArray, List.getElem_cons_zero, List.getElem_cons_succ, List.setIfInBounds_toArray, List.set_cons_zero, List.set_cons_succ]
  refine YtgmbfecfkdbfaaaG.wpAnyG_take 4 (v := .pointer (some ⟨g, 1, none⟩)) rfl (by kernel_rfl) (by kernel_rfl) (by kernel_rfl) (by kernel_rfl) (by decide) (fun a u => YtgmbfecfkdbfaaaG.keepT_put a u) HS0.out trivial (by rfl) (by rintro W ⟨h0, h1⟩; go_simp; done) ?_
  try simp only [Act.put, List.getElem_toArray, List.getElem_cons_zero, List.getElem_cons_succ, List.setIfInBounds_toArray, List.set_cons_zero, List.set_cons_succ]
  refine YtgmbfecfkdbfaaaG.wpAnyG_take 5 (v := .int .i64 at_) rfl (by kernel_rfl) (by kernel_rfl) (by kernel_rfl) (by kernel_rfl) (by decide) (fun a u => YtgmbfecfkdbfaaaG.keepT_put a u) HS0.out trivial (by rfl) (by rintro W ⟨h0, h1⟩; go_simp; done) ?_
  try simp only [Act.put, List.getElem_toArray, List.getElem_cons_zero, List.getElem_cons_succ, List.setIfInBounds_toArray, List.set_cons_zero, List.set_cons_succ]
  refine YtgmbfecfkdbfaaaG.wpAnyG_take 6 (v := .agg #[.int .i64 e, .int .i64 at_]) rfl (by kernel_rfl) (by kernel_rfl) (by kernel_rfl) (by kernel_rfl) (by decide) (fun a u => YtgmbfecfkdbfaaaG.keepT_put a u) HS0.out trivial (by rfl) (by rintro W ⟨h0, h1⟩; go_simp; done) ?_
  try simp only [Act.put, List.getElem_toArray, List.getElem_cons_zero, List.getElem_cons_succ, List.setIfInBounds_toArray, List.set_cons_zero, List.set_cons_succ]
  refine YtgmbfecfkdbfaaaG.wpAnyG_one 7 rfl (by kernel_rfl) (by rfl) (fun K hK => ?_)
  go_simp
  refine hK _ _ HS0.out trivial ?_
  try simp only [Act.put, List.getElem_toArray, List.getElem_cons_zero, List.getElem_cons_succ, List.setIfInBounds_toArray, List.set_cons_zero, List.set_cons_succ]
  clear hK K
  refine YtgmbfecfkdbfaaaG.wpAnyG_one 8 rfl (by kernel_rfl) (by rfl) (fun K hK => ?_)
  go_simp
  refine hK _ _ HS0.out trivial ?_
  try simp only [Act.put, List.getElem_toArray, List.getElem_cons_zero, List.getElem_cons_succ, List.setIfInBounds_toArray, List.set_cons_zero, List.set_cons_succ]
  clear hK K
  refine YtgmbfecfkdbfaaaG.wpAnyG_last rfl (by kernel_rfl) (by kernel_rfl) (by rfl) (fun K hK => ?_)
  go_simp
  refine hK _ _ ?_
  go_wp2
  refine ⟨rfl, _, rfl, .tuple #[], by simp [results, Try.results167], rfl, rfl, ?_, ?_⟩
  · have h := blk_set (blk_set HG.out 3 (.int .i64 e)) 4 (.int .i64 at_)
    simp at h
    exact h
  · exact (((Fr.refl (fun i => i = g) w).set_ (p := ⟨g, 3, none⟩) (.inl rfl) _).set_ (p := ⟨g, 4, none⟩) (.inl rfl) _).drew
set_option maxHeartbeats 1600000 in
theorem rcatch_idle (h0 hc g gc : Nat) (v x : Value) (at_ last code fat m : Int) (w : World) (hh : w.heap[h0]? = some (.cells #[.pointer (some ⟨g, 0, none⟩)] 95 (0, 0))) (hk : w.heap[hc]? = some (.cells #[.pointer (some ⟨gc, 0, none⟩)] 204 (0, 0)))
    (hcur : w.heap[gc]? = some (.cells #[x, .int .i64 m] 214 (0, 0))) (hg : RBlk w g v at_ last code fat) :
    CallsD Try.prog 167 #[.pointer (some ⟨h0, 0, none⟩), .pointer (some ⟨hc, 0, none⟩)] .returning w fun en u' w' =>
      en = .returned (.tuple #[]) ∧ u' = .returning ∧ RBlk w' g v m at_ code fat ∧ Fr (fun i => i = g) w w' := by
  have ch : w.cell? ⟨h0, 0, none⟩ = some (.pointer (some ⟨g, 0, none⟩)) := (blk_cell hh 0).trans rfl
  have ck : w.cell? ⟨hc, 0, none⟩ = some (.pointer (some ⟨gc, 0, none⟩)) := (blk_cell hk 0).trans rfl
  have cm : w.cell? ⟨gc, 1, none⟩ = some (.int .i64 m) := (blk_cell hcur 1).trans rfl
  have c1 : w.cell? ⟨g, 1, none⟩ = some (.int .i64 at_) := (blk_cell hg 1).trans rfl
  have c2 : w.cell? ⟨g, 2, none⟩ = some (.int .i64 last) := (blk_cell hg 2).trans rfl
  have f1 : w.frozen? ⟨g, 1, none⟩ = false := blk_frozen hg 1
  have f2 : w.frozen? ⟨g, 2, none⟩ = false := blk_frozen hg 2
  have HG := Aside0.mk hg
  clear hg
  have hta : ∀ (W : World), (Instr.typeAssert .nilIface 20 26 true).run Try.prog W = .ok (.tuple #[.int .i64 0, .bool false]) W := fun W => by first | kernel_rfl | rfl
  refine callsD_of_wpS Try.func167 rfl fun c₀ cs hu => ?_
  apply wpS_seq
  apply wpS_seq
  apply wpS_region
  simp [wpOpsS, go_sem, recoverD, hu, Try.ntmps167, Exit.thenS, hta]
  simp only [← List.toArray_replicate, List.reduceReplicate, List.setIfInBounds_toArray, List.set_cons_zero, List.set_cons_succ, List.append_toArray, List.cons_append, List.nil_append]
  refine wpS_of_wp ?_
  go_wp2
  show Code.wpS _ _ _ _ _ _
  refine wpS_of_wp ?_
  have n0 : h0 ≠ g := blk_ne hh HG.out (by decide)
  have n1 : hc ≠ g := blk_ne hk HG.out (by decide)
  have n2 : gc ≠ g := blk_ne hcur HG.out (by decide)
  have HS0 := Aside0.mk (show w.drew.cell? ⟨h0, 0, none⟩ = some (.pointer (some ⟨g, 0, none⟩)) ∧ w.drew.cell? ⟨g, 1, none⟩ = some (.int .i64 at_) ∧ w.drew.cell? ⟨hc, 0, none⟩ = some (.pointer (some ⟨gc, 0, none⟩)) ∧ w.drew.cell? ⟨gc, 1, none⟩ = some (.int .i64 m) from ⟨ch, c1, ck, cm⟩)
  have HS1 := Aside0.mk (show (w.setCell ⟨g, 2, none⟩ (.int .i64 at_)).cell? ⟨h0, 0, none⟩ = some (.pointer (some ⟨g, 0, none⟩)) ∧ (w.setCell ⟨g, 2, none⟩ (.int .i64 at_)).cell? ⟨g, 1, none⟩ = some (.int .i64 at_) ∧ (w.setCell ⟨g, 2, none⟩ (.int .i64 at_)).cell? ⟨hc, 0, none⟩ = some (.pointer (some ⟨gc, 0, none⟩)) ∧ (w.setCell ⟨g, 2, none⟩ (.int .i64 at_)).cell? ⟨gc, 1, none⟩ = some (.int .i64 m) from
    ⟨(blk_cell (blk_far hh n0 _) 0).trans rfl, (blk_cell (blk_set HG.out 2 (.int .i64 at_)) 1).trans rfl, (blk_cell (blk_far hk n1 _) 0).trans rfl, (blk_cell (blk_far hcur n2 _) 1).trans rfl⟩)
  have g1 : (w.setCell ⟨g, 2, none⟩ (.int .i64 at_)).cell? ⟨g, 1, none⟩ = some (.int .i64 at_) := HS1.out.2.1
  have g2 : (w.setCell ⟨g, 2, none⟩ (.int .i64 at_)).frozen? ⟨g, 1, none⟩ = false := blk_frozen (blk_set HG.out 2 (.int .i64 at_)) 1
  refine YtgmbfecfkdbfaaaG.wp_region_door 15 YtgmbfecfkdbfaaaG.keepT (fun _ _ => False) (fun W => W.cell? ⟨h0, 0, none⟩ = some (.pointer (some ⟨g, 0, none⟩)) ∧ W.cell? ⟨g, 1, none⟩ = some (.int .i64 at_) ∧ W.cell? ⟨hc, 0, none⟩ = some (.pointer (some ⟨gc, 0, none⟩)) ∧ W.cell? ⟨gc, 1, none⟩ = some (.int .i64 m)) (by kernel_rfl) trivial (fun _ _ _ _ h => h.elim) ?_
  refine YtgmbfecfkdbfaaaG.wpAnyG_take 0 (v := .pointer (some ⟨g, 0, none⟩)) rfl (by kernel_rfl) (by kernel_rfl) (by kernel_rfl) (by kernel_rfl) (by decide) (fun a u => YtgmbfecfkdbfaaaG.keepT_put a u) HS0.out trivial (by rfl) (by rintro W ⟨q0, q1, q2, q3⟩; go_simp; done) ?_
  try simp only [Act.put, List.getElem_toArray, List.getElem_cons_zero, List.getElem_cons_succ, List.setIfInBounds_toArray, List.set_cons_zero, List.set_cons_succ]
  refine YtgmbfecfkdbfaaaG.wpAnyG_take 1 (v := .pointer (some ⟨g, 0, none⟩)) rfl (by kernel_rfl) (by kernel_rfl) (by kernel_rfl) (by kernel_rfl) (by decide) (fun a u => YtgmbfecfkdbfaaaG.keepT_put a u) HS0.out trivial (by rfl) (by rintro W ⟨q0, q1, q2, q3⟩; go_simp; done) ?_
  try simp only [Act.put, List.getElem_toArray, List.getElem_cons_zero, List.getElem_cons_succ, List.setIfInBounds_toArray, List.set_cons_zero, List.set_cons_succ]
  refine YtgmbfecfkdbfaaaG.wpAnyG_take 2 (v := .pointer (some ⟨g, 0, none⟩)) rfl (by kernel_rfl) (by kernel_rfl) (by kernel_rfl) (by kernel_rfl) (by decide) (fun a u => YtgmbfecfkdbfaaaG.keepT_put a u) HS0.out trivial (by rfl) (by rintro W ⟨q0, q1, q2, q3⟩; go_simp; done) ?_
  try simp only [Act.put, List.getElem_toArray, List.getElem_cons_zero, List.getElem_cons_succ, List.setIfInBounds_toArray, List.set_cons_zero, List.set_cons_succ]
  refine YtgmbfecfkdbfaaaG.wpAnyG_take 3 (v := .pointer (some ⟨g, 0, none⟩)) rfl (by kernel_rfl) (by kernel_rfl) (by kernel_rfl) (by kernel_rfl) (by decide) (fun a u => YtgmbfecfkdbfaaaG.keepT_put a u) HS0.out trivial (by rfl) (by rintro W ⟨q0, q1, q2, q3⟩; go_simp; done) ?_
  try simp only [Act.put, List.getElem_toArray, List.getElem_cons_zero, List.getElem_cons_succ, List.setIfInBounds_toArray, List.set_cons_zero, List.set_cons_succ]
  refine YtgmbfecfkdbfaaaG.wpAnyG_take 4 (v := .pointer (some ⟨g, 1, none⟩)) rfl (by kernel_rfl) (by kernel_rfl) (by kernel_rfl) (by kernel_rfl) (by decide) (fun a u => YtgmbfecfkdbfaaaG.keepT_put a u) HS0.out trivial (by rfl) (by rintro W ⟨q0, q1, q2, q3⟩; go_simp; done) ?_
  try simp only [Act.put, List.getElem_toArray, List.getElem_cons_zero, List.getElem_cons_succ, List.setIfInBounds_toArray, List.set_cons_zero, List.set_cons_succ]
  refine YtgmbfecfkdbfaaaG.wpAnyG_take 5 (v := .int .i64 at_) rfl (by kernel_rfl) (by kernel_rfl) (by kernel_rfl) (by kernel_rfl) (by decide) (fun a u => YtgmbfecfkdbfaaaG.keepT_put a u) HS0.out trivial (by rfl) (by rintro W ⟨q0, q1, q2, q3⟩; go_simp; done) ?_
  try simp only [Act.put, List.getElem_toArray, List.getElem_cons_zero, List.getElem_cons_succ, List.setIfInBounds_toArray, List.set_cons_zero, List.set_cons_succ]
  refine YtgmbfecfkdbfaaaG.wpAnyG_take 6 (v := .pointer (some ⟨gc, 0, none⟩)) rfl (by kernel_rfl) (by kernel_rfl) (by kernel_rfl) (by kernel_rfl) (by decide) (fun a u => YtgmbfecfkdbfaaaG.keepT_put a u) HS0.out trivial (by rfl) (by rintro W ⟨q0, q1, q2, q3⟩; go_simp; done) ?_
  try simp only [Act.put, List.getElem_toArray, List.getElem_cons_zero, List.getElem_cons_succ, List.setIfInBounds_toArray, List.set_cons_zero, List.set_cons_succ]
  refine YtgmbfecfkdbfaaaG.wpAnyG_take 7 (v := .pointer (some ⟨gc, 0, none⟩)) rfl (by kernel_rfl) (by kernel_rfl) (by kernel_rfl) (by kernel_rfl) (by decide) (fun a u => YtgmbfecfkdbfaaaG.keepT_put a u) HS0.out trivial (by rfl) (by rintro W ⟨q0, q1, q2, q3⟩; go_simp; done) ?_
  try simp only [Act.put, List.getElem_toArray, List.getElem_cons_zero, List.getElem_cons_succ, List.setIfInBounds_toArray, List.set_cons_zero, List.set_cons_succ]
  refine YtgmbfecfkdbfaaaG.wpAnyG_take 8 (v := .pointer (some ⟨gc, 1, none⟩)) rfl (by kernel_rfl) (by kernel_rfl) (by kernel_rfl) (by kernel_rfl) (by decide) (fun a u => YtgmbfecfkdbfaaaG.keepT_put a u) HS0.out trivial (by rfl) (by rintro W ⟨q0, q1, q2, q3⟩; go_simp; done) ?_
  try simp only [Act.put, List.getElem_toArray, List.getElem_cons_zero, List.getElem_cons_succ, List.setIfInBounds_toArray, List.set_cons_zero, List.set_cons_succ]
  refine YtgmbfecfkdbfaaaG.wpAnyG_take 9 (v := .int .i64 m) rfl (by kernel_rfl) (by kernel_rfl) (by kernel_rfl) (by kernel_rfl) (by decide) (fun a u => YtgmbfecfkdbfaaaG.keepT_put a u) HS0.out trivial (by rfl) (by rintro W ⟨q0, q1, q2, q3⟩; go_simp; done) ?_
  try simp only [Act.put, List.getElem_toArray, List.getElem_cons_zero, List.getElem_cons_succ, List.setIfInBounds_toArray, List.set_cons_zero, List.set_cons_succ]
  refine YtgmbfecfkdbfaaaG.wpAnyG_one 10 rfl (by kernel_rfl) (by rfl) (fun K hK => ?_)
  go_simp
  refine hK _ _ HS0.out trivial ?_
  try simp only [Act.put, List.getElem_toArray, List.getElem_cons_zero, List.getElem_cons_succ, List.setIfInBounds_toArray, List.set_cons_zero, List.set_cons_succ]
  clear hK K
  refine YtgmbfecfkdbfaaaG.wpAnyG_one 11 rfl (by kernel_rfl) (by rfl) (fun K hK => ?_)
  go_simp
  refine hK _ _ HS0.out trivial ?_
  try simp only [Act.put, List.getElem_toArray, List.getElem_cons_zero, List.getElem_cons_succ, List.setIfInBounds_toArray, List.set_cons_zero, List.set_cons_succ]
  clear hK K
  refine YtgmbfecfkdbfaaaG.wpAnyG_one 12 rfl (by kernel_rfl) (by rfl) (fun K hK => ?_)
  go_simp
  refine hK _ _ HS1.out trivial ?_
  try simp only [Act.put, List.getElem_toArray, List.getElem_cons_zero, List.getElem_cons_succ, List.setIfInBounds_toArray, List.set_cons_zero, List.set_cons_succ]
  clear hK K
  refine YtgmbfecfkdbfaaaG.wpAnyG_one 13 rfl (by kernel_rfl) (by rfl) (fun K hK => ?_)
  go_simp
  refine hK _ _ HS1.out trivial ?_
  try simp only [Act.put, List.getElem_toArray, List.getElem_cons_zero, List.getElem_cons_succ, List.setIfInBounds_toArray, List.set_cons_zero, List.set_cons_succ]
  clear hK K
  refine YtgmbfecfkdbfaaaG.wpAnyG_one 14 rfl (by kernel_rfl) (by rfl) (fun K hK => ?_)
  go_simp
  refine hK _ _ HS1.out trivial ?_
  try simp only [Act.put, List.getElem_toArray, List.getElem_cons_zero, List.getElem_cons_succ, List.setIfInBounds_toArray, List.set_cons_zero, List.set_cons_succ]
  clear hK K
  refine YtgmbfecfkdbfaaaG.wpAnyG_last rfl (by kernel_rfl) (by kernel_rfl) (by rfl) (fun K hK => ?_)
  go_simp
  refine hK _ _ ?_
  cases c₀
  simp only at hu
  subst hu
  refine ⟨rfl, _, rfl, .tuple #[], by simp [results, Try.results167], rfl, rfl, ?_, ?_⟩
  · have h := blk_set (blk_set HG.out 2 (.int .i64 at_)) 1 (.int .i64 m)
    simp at h
    exact h
  · exact (((Fr.refl (fun i => i = g) w).set_ (p := ⟨g, 2, none⟩) (.inl rfl) _).set_ (p := ⟨g, 1, none⟩) (.inl rfl) _).drew
end Go.Proofs.Ytgmbfecfkdbfaaa.Wi
/- The reader's take, walked. -/
set_option linter.unusedVariables false
set_option linter.unusedSimpArgs false
namespace Go.Proofs.Ytgmbfecfkdbfaaa.Wi
open Go Go.RowKit Go.Proofs.YtgmbfecfkdbfaaaW.PrintWords
/-- a reader at block g: its bytes lie in row ro, from block B on -/
structure Rd (w : World) (B g : Nat) (ro : Option Nat) (bs : List Int) (r : RS) : Prop where
  at_ : ∃ v, RBlk w g v r.at_ r.last r.code r.fat ∧ w.ownsRow B 5 1 v bs.length (nums .u8 bs) ∧ v.ownBlock = ro
  base : B ≤ g
  le : r.at_ ≤ bs.length
  byt : Bytes bs
  len : bs.length ≤ 140737488355328
section
variable {w w' : World} {B g : Nat} {ro : Option Nat} {bs : List Int} {r : RS}
theorem Rd.lt (h : Rd w B g ro bs r) : g < w.heap.size := by
  obtain ⟨v, hb, _⟩ := h.at_
  exact blk_lt hb
theorem Rd.keep {S : Nat → Prop} (h : Rd w B g ro bs r) (hf : Fr S w w') (hg : ¬ S g) (hr : ∀ k, ro = some k → ¬ S k) : Rd w' B g ro bs r := by
  obtain ⟨v, hb, ho, rfl⟩ := h.at_
  exact ⟨⟨v, hf.blk hb hg, hf.own ho hr, rfl⟩, h.base, h.le, h.byt, h.len⟩
theorem Rd.below (h : Rd w B g ro bs r) (hb : Below w.heap.size w w') : Rd w' B g ro bs r :=
  h.keep (S := fun _ => False) (Fr.of_below hb) (fun h => h) (fun _ _ h => h)
end
/-- what a piece's reader comes to -/
def ReadP (gc gx : Nat) (T : TypeId) (A : Option Addr) (bs : List Int) (c at_ : Nat) (o : Except Int (Value × Nat)) (W : World) (e : Ending) (W' : World) : Prop :=
  (match o with
    | .ok (u, k) => e = .returned (.tuple #[]) ∧ Cur W' gc A bs.length c (at_ + k) ∧ W'.heap[gx]? = some (.cells #[u] T (0, 0))
    | .error k => e = .panicked (gave k) ∧ W'.heap[gx]? = W.heap[gx]?) ∧ Fr (fun i => i = gc ∨ i = gx) W W'
/-- what a call of take leaves -/
def TPost (B g : Nat) (ro : Option Nat) (bs : List Int) (gx : Nat) (T : TypeId) (u : Value) (r : RS) (w : World) (e : Ending) (w' : World) : Prop :=
  e = .returned (.tuple #[]) ∧ Rd w' B g ro bs r ∧ w'.heap[gx]? = some (.cells #[u] T (0, 0)) ∧ Fr (fun i => i = g ∨ i = gx) w w'
def takeD (h0 hc : Nat) : List Deferred := [{ target := Target.fn (Fn.func 167) #[.pointer (some ⟨h0, 0, none⟩), .pointer (some ⟨hc, 0, none⟩)], args := #[] }]
set_option maxHeartbeats 800000 in
theorem take_faulty (fv : Value) (B g : Nat) (ro : Option Nat) (bs : List Int) (r : RS) (gx : Nat) (T : TypeId) (u0 : Value) (w : World) (hr : Rd w B g ro bs r) (hx : w.heap[gx]? = some (.cells #[u0] T (0, 0))) (hc : r.code ≠ 0) :
    Calls Try.prog 144 #[.pointer (some ⟨g, 0, none⟩), fv] w (TPost B g ro bs gx T u0 r w) := by
  have HK := Aside0.mk (show TPost B g ro bs gx T u0 r w (.returned (.tuple #[])) (w.alloc (.cells #[.pointer (some ⟨g, 0, none⟩)] 95)) from
    ⟨rfl, hr.below (below1 _), blk_b hx (below1 _), Fr.of_below (below1 _)⟩)
  obtain ⟨v, hb, _⟩ := hr.at_
  have hg := blk_lt hb
  have c3 : w.cell? ⟨g, 3, none⟩ = some (.int .i64 r.code) := (blk_cell hb 3).trans rfl
  have c3' : (w.alloc (.cells #[.pointer (some ⟨g, 0, none⟩)] 95)).cell? ⟨g, 3, none⟩ = some (.int .i64 r.code) := (World.cell?_alloc_lt w _ _ hg).trans c3
  have t1 : (r.code == 0) = false := beq_eq_false_iff_ne.2 hc
  have t2 : (r.code != 0) = true := bne_iff_ne.2 hc
  clear hr hx hb hc
  go_enter_defers Try.func144, Try.ntmps144
  go_wp2
  show Leaves _ _ _ _ _ _ _
  refine ⟨.tuple #[], by simp [results, Try.results144], HK.out⟩
/-- what stands while a piece is taken: the old memory; the block that holds the reader's address; the cursor's block; the block that holds its address -/
structure TK (w W : World) (g gc hc : Nat) (x : Value) (m : Nat) : Prop where
  below : Below w.heap.size w W
  hh : W.heap[w.heap.size]? = some (.cells #[.pointer (some ⟨g, 0, none⟩)] 95 (0, 0))
  hk : W.heap[hc]? = some (.cells #[.pointer (some ⟨gc, 0, none⟩)] 204 (0, 0))
  cur : W.heap[gc]? = some (.cells #[x, .int .i64 m] 214 (0, 0))
  lo : w.heap.size < gc
theorem three_0 (w : World) (o o' o'' : Obj) : (((w.alloc o).alloc o').alloc o'').heap[w.heap.size]? = some o := blk_b (two_0 w o o') (below1 o'')
theorem three_1 (w : World) (o o' o'' : Obj) : (((w.alloc o).alloc o').alloc o'').heap[w.heap.size + 1]? = some o' := blk_b (two_1 w o o') (below1 o'')
theorem three_2 (w : World) (o o' o'' : Obj) : (((w.alloc o).alloc o').alloc o'').heap[w.heap.size + 2]? = some o'' := by
  have h := two_1 (w.alloc o) o' o''
  have e : (w.alloc o).heap.size = w.heap.size + 1 := by simp
  rw [e] at h
  exact h
/-- the way out of a piece that was taken -/
theorem takedoor_ret {tmps : Array Value} {R : Ending → World → Prop} (h0 hc g gc : Nat) (v x : Value) (at_ last code fat m : Int) (W : World) (hh : W.heap[h0]? = some (.cells #[.pointer (some ⟨g, 0, none⟩)] 95 (0, 0))) (hk : W.heap[hc]? = some (.cells #[.pointer (some ⟨gc, 0, none⟩)] 204 (0, 0)))
    (hcur : W.heap[gc]? = some (.cells #[x, .int .i64 m] 214 (0, 0))) (hg : RBlk W g v at_ last code fat) (hR : ∀ W2, RBlk W2 g v m at_ code fat → Fr (fun i => i = g) W W2 → R (.returned (.tuple #[])) W2) :
    bodyPostD Try.prog Try.f144 R .normal { tmps := tmps, defers := takeD h0 hc } W := by
  show Leaves _ _ _ _ _ _ _
  unfold takeD
  refine leaves_cons (f := 167) (args := #[.pointer (some ⟨h0, 0, none⟩), .pointer (some ⟨hc, 0, none⟩)]) (by simp) (by simp [go_sem]) ?_
  refine (rcatch_idle h0 hc g gc v x at_ last code fat m W hh hk hcur hg).mono ?_
  rintro e' u' w'' ⟨rfl, rfl, h1, h2⟩
  have key := hR _ h1 h2
  simp [Leaves, settle, results, Try.results144, go_sem, key]
/-- the way out of a piece that was given up -/
theorem takedoor_panic {tmps : Array Value} {R : Ending → World → Prop} (h0 hc g : Nat) (v : Value) (at_ last code fat k : Int) (W : World) (hh : W.heap[h0]? = some (.cells #[.pointer (some ⟨g, 0, none⟩)] 95 (0, 0)))
    (hg : RBlk W g v at_ last code fat) (hR : ∀ W2, RBlk W2 g v at_ last k at_ → Fr (fun i => i = g) W W2 → R (.returned (.tuple #[])) W2) :
    bodyPostD Try.prog Try.f144 R (.panic (gave k)) { tmps := tmps, defers := takeD h0 hc } W := by
  show Leaves _ _ _ _ _ _ _
  unfold gave takeD
  refine leaves_cons (f := 167) (args := #[.pointer (some ⟨h0, 0, none⟩), .pointer (some ⟨hc, 0, none⟩)]) (by simp) (by simp [go_sem]) ?_
  refine (rcatch_panicking h0 hc g v at_ last code fat k [] W hh hg).mono ?_
  rintro e' u' w'' ⟨rfl, rfl, h1, h2⟩
  have key := hR _ h1 h2
  simp [Leaves, settle, results, Try.results144, go_sem, key]
set_option maxHeartbeats 8000000 in
set_option maxRecDepth 100000 in
theorem take_calls (f : Nat) (caps : Array Value) (eg : ∀ args w, (callFunc f args).run Try.prog w = .ok (.enter f args) w) (o : Except Int (Value × Nat)) (B g : Nat) (ro : Option Nat) (bs : List Int) (r : RS) (gx : Nat) (T : TypeId) (u0 : Value) (w : World) (hB : B ≤ w.heap.size)
    (hr : Rd w B g ro bs r) (hx : w.heap[gx]? = some (.cells #[u0] T (0, 0))) (hT : T ≠ 202) (hTu : 5 ≠ T) (hc : r.code = 0) (hk : ∀ u k, o = .ok (u, k) → r.at_ + k ≤ bs.length)
    (hp : ∀ (W : World) (gc : Nat) (A : Option Addr) (c : Nat), Below w.heap.size w W → Cur W gc A bs.length c r.at_ → ReadsInt W .u8 A bs.length bs → bs.length ≤ c → (∀ ad, A = some ad → ad.block ≠ gc) → w.heap.size ≤ gc → Calls Try.prog f (#[.pointer (some ⟨gc, 0, none⟩)] ++ caps) W (ReadP gc gx T A bs c r.at_ o W)) :
    Calls Try.prog 144 #[.pointer (some ⟨g, 0, none⟩), .func (.func f) #[] caps] w
      (TPost B g ro bs gx T (match o with | .ok (u, _) => u | .error _ => u0) (match o with | .ok (_, k) => ⟨r.at_ + k, r.at_, 0, r.fat⟩ | .error k => ⟨r.at_, r.last, k, r.at_⟩) w) := by
  have hmf : ∀ (fn : Fn) (first cap : Array Value) (w : World), (Instr.makeFunc fn first cap).run Try.prog w = .ok (.func fn first cap) w := fun _ _ _ _ => rfl
  obtain ⟨v, hb, ho, hro⟩ := hr.at_
  obtain ⟨A, c, rfl, hAc, hrd⟩ := own_reads' ho
  have hg := blk_lt hb
  have c0 : (w.alloc (.cells #[.pointer (some ⟨g, 0, none⟩)] 95)).cell? ⟨g, 0, none⟩ = some (.slice A bs.length c) := (World.cell?_alloc_lt w _ _ hg).trans ((blk_cell hb 0).trans rfl)
  have c1 : (w.alloc (.cells #[.pointer (some ⟨g, 0, none⟩)] 95)).cell? ⟨g, 1, none⟩ = some (.int .i64 r.at_) := (World.cell?_alloc_lt w _ _ hg).trans ((blk_cell hb 1).trans rfl)
  have c3 : (w.alloc (.cells #[.pointer (some ⟨g, 0, none⟩)] 95)).cell? ⟨g, 3, none⟩ = some (.int .i64 0) := (World.cell?_alloc_lt w _ _ hg).trans ((blk_cell hb 3).trans (by rw [hc]; rfl))
  have ch : (w.alloc (.cells #[.pointer (some ⟨g, 0, none⟩)] 95)).cell? ⟨w.heap.size, 0, none⟩ = some (.pointer (some ⟨g, 0, none⟩)) := (blk_cell (heap_alloc_new w _) 0).trans rfl
  have S2 : ∀ o', ((w.alloc (.cells #[.pointer (some ⟨g, 0, none⟩)] 95)).alloc o').cell? ⟨w.heap.size, 0, none⟩ = some (.pointer (some ⟨g, 0, none⟩)) ∧ ((w.alloc (.cells #[.pointer (some ⟨g, 0, none⟩)] 95)).alloc o').cell? ⟨g, 0, none⟩ = some (.slice A bs.length c) ∧ ((w.alloc (.cells #[.pointer (some ⟨g, 0, none⟩)] 95)).alloc o').cell? ⟨g, 1, none⟩ = some (.int .i64 r.at_) := fun o' => ⟨(blk_cell (two_0 w _ o') 0).trans rfl, (blk_cell (blk_b hb (below2 _ o')) 0).trans rfl, (blk_cell (blk_b hb (below2 _ o')) 1).trans rfl⟩
  have S3 : ∀ o' o'', (((w.alloc (.cells #[.pointer (some ⟨g, 0, none⟩)] 95)).alloc o').alloc o'').cell? ⟨w.heap.size, 0, none⟩ = some (.pointer (some ⟨g, 0, none⟩)) ∧ (((w.alloc (.cells #[.pointer (some ⟨g, 0, none⟩)] 95)).alloc o').alloc o'').cell? ⟨g, 0, none⟩ = some (.slice A bs.length c) ∧ (((w.alloc (.cells #[.pointer (some ⟨g, 0, none⟩)] 95)).alloc o').alloc o'').cell? ⟨g, 1, none⟩ = some (.int .i64 r.at_) := fun o' o'' => ⟨(blk_cell (three_0 w _ o' o'') 0).trans rfl, (blk_cell (blk_b hb (below_alloc (below2 _ o') o'')) 0).trans rfl, (blk_cell (blk_b hb (below_alloc (below2 _ o') o'')) 1).trans rfl⟩
  have HB := Aside0.mk hb
  have HO := Aside0.mk ho
  have HRO := Aside0.mk hro
  have HR := Aside0.mk hr
  have HX := Aside0.mk hx
  have HRD := Aside0.mk hrd
  have HP := Aside0.mk hp
  have HC := Aside0.mk hc
  have HK := Aside0.mk hk
  have hEG := eg
  clear hb ho hro hr hx hrd hp hc hk
  go_enter_defers Try.func144, Try.ntmps144
  go_wp2_with fail
  have HS0 := Aside0.mk (show (w.alloc (.cells #[.pointer (some ⟨g, 0, none⟩)] 95)).drew.cell? ⟨w.heap.size, 0, none⟩ = some (.pointer (some ⟨g, 0, none⟩)) ∧ (w.alloc (.cells #[.pointer (some ⟨g, 0, none⟩)] 95)).drew.cell? ⟨g, 0, none⟩ = some (.slice A bs.length c) ∧ (w.alloc (.cells #[.pointer (some ⟨g, 0, none⟩)] 95)).drew.cell? ⟨g, 1, none⟩ = some (.int .i64 r.at_) from ⟨ch, c0, c1⟩)
  refine YtgmbfecfkdbfaaaG.wp_region_door 11 YtgmbfecfkdbfaaaG.keepT (fun _ _ => False) (fun W => W.cell? ⟨w.heap.size, 0, none⟩ = some (.pointer (some ⟨g, 0, none⟩)) ∧ W.cell? ⟨g, 0, none⟩ = some (.slice A bs.length c) ∧ W.cell? ⟨g, 1, none⟩ = some (.int .i64 r.at_)) (by kernel_rfl) trivial (fun _ _ _ _ h => h.elim) ?_
  refine YtgmbfecfkdbfaaaG.wpAnyG_take 0 (v := .pointer (some ⟨g, 0, none⟩)) rfl (by kernel_rfl) (by kernel_rfl) (by kernel_rfl) (by kernel_rfl) (by decide) (fun a u => YtgmbfecfkdbfaaaG.keepT_put a u) HS0.out trivial (by rfl) (by rintro W ⟨q0, q1, q2⟩; go_simp; done) ?_
  try simp only [Act.put, List.getElem_toArray, List.getElem_cons_zero, List.getElem_cons_succ, List.setIfInBounds_toArray, List.set_cons_zero, List.set_cons_succ]
  refine YtgmbfecfkdbfaaaG.wpAnyG_take 1 (v := .pointer (some ⟨g, 0, none⟩)) rfl (by kernel_rfl) (by kernel_rfl) (by kernel_rfl) (by kernel_rfl) (by decide) (fun a u => YtgmbfecfkdbfaaaG.keepT_put a u) HS0.out trivial (by rfl) (by rintro W ⟨q0, q1, q2⟩; go_simp; done) ?_
  try simp only [Act.put, List.getElem_toArray, List.getElem_cons_zero, List.getElem_cons_succ, List.setIfInBounds_toArray, List.set_cons_zero, List.set_cons_succ]
  refine YtgmbfecfkdbfaaaG.wpAnyG_take 2 (v := .pointer (some ⟨g, 0, none⟩)) rfl (by kernel_rfl) (by kernel_rfl) (by kernel_rfl) (by kernel_rfl) (by decide) (fun a u => YtgmbfecfkdbfaaaG.keepT_put a u) HS0.out trivial (by rfl) (by rintro W ⟨q0, q1, q2⟩; go_simp; done) ?_
  try simp only [Act.put, List.getElem_toArray, List.getElem_cons_zero, List.getElem_cons_succ, List.setIfInBounds_toArray, List.set_cons_zero, List.set_cons_succ]
  refine YtgmbfecfkdbfaaaG.wpAnyG_take 3 (v := .slice A bs.length c) rfl (by kernel_rfl) (by kernel_rfl) (by kernel_rfl) (by kernel_rfl) (by decide) (fun a u => YtgmbfecfkdbfaaaG.keepT_put a u) HS0.out trivial (by rfl) (by rintro W ⟨q0, q1, q2⟩; go_simp; done) ?_
  try simp only [Act.put, List.getElem_toArray, List.getElem_cons_zero, List.getElem_cons_succ, List.setIfInBounds_toArray, List.set_cons_zero, List.set_cons_succ]
  refine YtgmbfecfkdbfaaaG.wpAnyG_take 4 (v := .pointer (some ⟨g, 0, none⟩)) rfl (by kernel_rfl) (by kernel_rfl) (by kernel_rfl) (by kernel_rfl) (by decide) (fun a u => YtgmbfecfkdbfaaaG.keepT_put a u) HS0.out trivial (by rfl) (by rintro W ⟨q0, q1, q2⟩; go_simp; done) ?_
  try simp only [Act.put, List.getElem_toArray, List.getElem_cons_zero, List.getElem_cons_succ, List.setIfInBounds_toArray, List.set_cons_zero, List.set_cons_succ]
  refine YtgmbfecfkdbfaaaG.wpAnyG_take 5 (v := .pointer (some ⟨g, 0, none⟩)) rfl (by kernel_rfl) (by kernel_rfl) (by kernel_rfl) (by kernel_rfl) (by decide) (fun a u => YtgmbfecfkdbfaaaG.keepT_put a u) HS0.out trivial (by rfl) (by rintro W ⟨q0, q1, q2⟩; go_simp; done) ?_
  try simp only [Act.put, List.getElem_toArray, List.getElem_cons_zero, List.getElem_cons_succ, List.setIfInBounds_toArray, List.set_cons_zero, List.set_cons_succ]
  refine YtgmbfecfkdbfaaaG.wpAnyG_take 6 (v := .pointer (some ⟨g, 1, none⟩)) rfl (by kernel_rfl) (by kernel_rfl) (by kernel_rfl) (by kernel_rfl) (by decide) (fun a u => YtgmbfecfkdbfaaaG.keepT_put a u) HS0.out trivial (by rfl) (by rintro W ⟨q0, q1, q2⟩; go_simp; done) ?_
  try simp only [Act.put, List.getElem_toArray, List.getElem_cons_zero, List.getElem_cons_succ, List.setIfInBounds_toArray, List.set_cons_zero, List.set_cons_succ]
  refine YtgmbfecfkdbfaaaG.wpAnyG_take 7 (v := .int .i64 r.at_) rfl (by kernel_rfl) (by kernel_rfl) (by kernel_rfl) (by kernel_rfl) (by decide) (fun a u => YtgmbfecfkdbfaaaG.keepT_put a u) HS0.out trivial (by rfl) (by rintro W ⟨q0, q1, q2⟩; go_simp; done) ?_
  try simp only [Act.put, List.getElem_toArray, List.getElem_cons_zero, List.getElem_cons_succ, List.setIfInBounds_toArray, List.set_cons_zero, List.set_cons_succ]
  refine YtgmbfecfkdbfaaaG.wpAnyG_take 8 (v := .agg #[.slice A bs.length c, .int .i64 r.at_]) rfl (by kernel_rfl) (by kernel_rfl) (by kernel_rfl) (by kernel_rfl) (by decide) (fun a u => YtgmbfecfkdbfaaaG.keepT_put a u) HS0.out trivial (by rfl) (by rintro W ⟨q0, q1, q2⟩; go_simp; done) ?_
  try simp only [Act.put, List.getElem_toArray, List.getElem_cons_zero, List.getElem_cons_succ, List.setIfInBounds_toArray, List.set_cons_zero, List.set_cons_succ]
  refine YtgmbfecfkdbfaaaG.wpAnyG_two 9 10 rfl rfl (by kernel_rfl) (by rfl) (by rfl) (fun K hK => ?_) (fun K hK => ?_)
  · go_simp
    refine hK _ _ (S2 _) trivial ?_
    try simp only [Act.put, List.getElem_toArray, List.getElem_cons_zero, List.getElem_cons_succ, List.setIfInBounds_toArray, List.set_cons_zero, List.set_cons_succ]
    clear hK K
    refine YtgmbfecfkdbfaaaG.wpAnyG_one 10 rfl (by kernel_rfl) (by rfl) (fun K hK => ?_)
    go_simp
    refine hK _ _ (S3 _ _) trivial ?_
    try simp only [Act.put, List.getElem_toArray, List.getElem_cons_zero, List.getElem_cons_succ, List.setIfInBounds_toArray, List.set_cons_zero, List.set_cons_succ]
    clear hK K
    refine YtgmbfecfkdbfaaaG.wpAnyG_last rfl (by kernel_rfl) (by kernel_rfl) (by rfl) (fun K hK => ?_)
    go_simp
    refine hK _ _ ?_
    have HTK := Aside0.mk (show TK w (((w.alloc (.cells #[.pointer (some ⟨g, 0, none⟩)] 95)).alloc (.cells #[.slice A bs.length c, .int .i64 r.at_] 214)).alloc (.cells #[.pointer (some ⟨w.heap.size + 1, 0, none⟩)] 204)).drew g (w.heap.size + 1) (w.heap.size + 2) (.slice A bs.length c) r.at_ from ⟨(below_alloc (below2 _ _) _).drew, three_0 w _ _ _, three_2 w _ _ _, three_1 w _ _ _, by omega⟩)
    clear hK K HS0 S2 S3 c0 c1 c3 ch
    go_wp2_with fail
    have HNE : Aside0 (∀ ad, A = some ad → ad.block ≠ w.heap.size + 1) := ⟨fun ad ha => by
      subst ha
      have := own_lt HO.out ad.block rfl
      omega⟩
    have HRD2 := Aside0.mk (HRD.out.below HTK.out.below)
    have CC := Aside0.mk (HP.out _ (w.heap.size + 1) A c HTK.out.below HTK.out.cur HRD2.out hAc HNE.out (by omega))
    have HX2 := Aside0.mk (blk_b HX.out HTK.out.below)
    have HB2 := Aside0.mk (blk_b HB.out HTK.out.below)
    have nxg : gx ≠ g := blk_ne HX.out HB.out hT
    have lx := blk_lt HX.out
    cases o with
    | error k =>
      go_wp2_with ((with_reducible show Calls _ _ _ _ _); refine CC.out.mono ?_; rintro e W1 ⟨⟨rfl, hx1⟩, hf⟩)
      have hh1 := hf.blk HTK.out.hh (by omega)
      have hb1 := hf.blk HB2.out (by omega)
      refine takedoor_panic w.heap.size (w.heap.size + 2) g _ _ _ _ _ k W1 hh1 hb1 ?_
      intro W2 h1 h2
      refine ⟨rfl, ⟨⟨_, h1, ?_, HRO.out⟩, HR.out.base, HR.out.le, HR.out.byt, HR.out.len⟩, ?_, ?_⟩
      · refine h2.own (hf.own (pw_own_below HO.out HTK.out.below) ?_) ?_
        · intro j hj hs
          have := own_lt HO.out j hj
          rcases hs with rfl | rfl
          · omega
          · exact own_ne HO.out HX.out hTu hj.symm
        · rintro j hj rfl
          exact own_ne HO.out HB.out (by decide) hj.symm
      · exact (h2.blk (g := gx) (o := .cells #[u0] T (0, 0)) (hx1.trans HX2.out) nxg)
      · exact ((Fr.of_below HTK.out.below).trans hf (fun i hi h => h.elim (fun e => by omega) (fun e => .inr e))).trans h2 (fun i _ h => .inl h)
    | ok p =>
      obtain ⟨u, k⟩ := p
      go_wp2_with ((with_reducible show Calls _ _ _ _ _); refine CC.out.mono ?_; rintro e W1 ⟨⟨rfl, hcu, hx1⟩, hf⟩)
      have hh1 := hf.blk HTK.out.hh (by omega)
      have hb1 := hf.blk HB2.out (by omega)
      have hk1 := hf.blk HTK.out.hk (by omega)
      refine takedoor_ret w.heap.size (w.heap.size + 2) g (w.heap.size + 1) _ _ _ _ _ _ _ W1 hh1 hk1 hcu hb1 ?_
      intro W2 h1 h2
      rw [HC.out] at h1
      refine ⟨rfl, ⟨⟨_, h1, ?_, HRO.out⟩, HR.out.base, HK.out u k rfl, HR.out.byt, HR.out.len⟩, ?_, ?_⟩
      · refine h2.own (hf.own (pw_own_below HO.out HTK.out.below) ?_) ?_
        · intro j hj hs
          have := own_lt HO.out j hj
          rcases hs with rfl | rfl
          · omega
          · exact own_ne HO.out HX.out hTu hj.symm
        · rintro j hj rfl
          exact own_ne HO.out HB.out (by decide) hj.symm
      · exact h2.blk hx1 nxg
      · exact ((Fr.of_below HTK.out.below).trans hf (fun i hi h => h.elim (fun e => by omega) (fun e => .inr e))).trans h2 (fun i _ h => .inl h)
  · go_simp
    refine hK _ _ (S2 _) trivial ?_
    try simp only [Act.put, List.getElem_toArray, List.getElem_cons_zero, List.getElem_cons_succ, List.setIfInBounds_toArray, List.set_cons_zero, List.set_cons_succ]
    clear hK K
    refine YtgmbfecfkdbfaaaG.wpAnyG_one 9 rfl (by kernel_rfl) (by rfl) (fun K hK => ?_)
    go_simp
    refine hK _ _ (S3 _ _) trivial ?_
    try simp only [Act.put, List.getElem_toArray, List.getElem_cons_zero, List.getElem_cons_succ, List.setIfInBounds_toArray, List.set_cons_zero, List.set_cons_succ]
    clear hK K
    refine YtgmbfecfkdbfaaaG.wpAnyG_last rfl (by kernel_rfl) (by kernel_rfl) (by rfl) (fun K hK => ?_)
    go_simp
    refine hK _ _ ?_
    have HTK := Aside0.mk (show TK w (((w.alloc (.cells #[.pointer (some ⟨g, 0, none⟩)] 95)).alloc (.cells #[.pointer (some ⟨w.heap.size + 2, 0, none⟩)] 204)).alloc (.cells #[.slice A bs.length c, .int .i64 r.at_] 214)).drew g (w.heap.size + 2) (w.heap.size + 1) (.slice A bs.length c) r.at_ from ⟨(below_alloc (below2 _ _) _).drew, three_0 w _ _ _, three_1 w _ _ _, three_2 w _ _ _, by omega⟩)
    clear hK K HS0 S2 S3 c0 c1 c3 ch
    go_wp2_with fail
    have HNE : Aside0 (∀ ad, A = some ad → ad.block ≠ w.heap.size + 2) := ⟨fun ad ha => by
      subst ha
      have := own_lt HO.out ad.block rfl
      omega⟩
    have HRD2 := Aside0.mk (HRD.out.below HTK.out.below)
    have CC := Aside0.mk (HP.out _ (w.heap.size + 2) A c HTK.out.below HTK.out.cur HRD2.out hAc HNE.out (by omega))
    have HX2 := Aside0.mk (blk_b HX.out HTK.out.below)
    have HB2 := Aside0.mk (blk_b HB.out HTK.out.below)
    have nxg : gx ≠ g := blk_ne HX.out HB.out hT
    have lx := blk_lt HX.out
    cases o with
    | error k =>
      go_wp2_with ((with_reducible show Calls _ _ _ _ _); refine CC.out.mono ?_; rintro e W1 ⟨⟨rfl, hx1⟩, hf⟩)
      have hh1 := hf.blk HTK.out.hh (by omega)
      have hb1 := hf.blk HB2.out (by omega)
      refine takedoor_panic w.heap.size (w.heap.size + 1) g _ _ _ _ _ k W1 hh1 hb1 ?_
      intro W2 h1 h2
      refine ⟨rfl, ⟨⟨_, h1, ?_, HRO.out⟩, HR.out.base, HR.out.le, HR.out.byt, HR.out.len⟩, ?_, ?_⟩
      · refine h2.own (hf.own (pw_own_below HO.out HTK.out.below) ?_) ?_
        · intro j hj hs
          have := own_lt HO.out j hj
          rcases hs with rfl | rfl
          · omega
          · exact own_ne HO.out HX.out hTu hj.symm
        · rintro j hj rfl
          exact own_ne HO.out HB.out (by decide) hj.symm
      · exact (h2.blk (g := gx) (o := .cells #[u0] T (0, 0)) (hx1.trans HX2.out) nxg)
      · exact ((Fr.of_below HTK.out.below).trans hf (fun i hi h => h.elim (fun e => by omega) (fun e => .inr e))).trans h2 (fun i _ h => .inl h)
    | ok p =>
      obtain ⟨u, k⟩ := p
      go_wp2_with ((with_reducible show Calls _ _ _ _ _); refine CC.out.mono ?_; rintro e W1 ⟨⟨rfl, hcu, hx1⟩, hf⟩)
      have hh1 := hf.blk HTK.out.hh (by omega)
      have hb1 := hf.blk HB2.out (by omega)
      have hk1 := hf.blk HTK.out.hk (by omega)
      refine takedoor_ret w.heap.size (w.heap.size + 1) g (w.heap.size + 2) _ _ _ _ _ _ _ W1 hh1 hk1 hcu hb1 ?_
      intro W2 h1 h2
      rw [HC.out] at h1
      refine ⟨rfl, ⟨⟨_, h1, ?_, HRO.out⟩, HR.out.base, HK.out u k rfl, HR.out.byt, HR.out.len⟩, ?_, ?_⟩
      · refine h2.own (hf.own (pw_own_below HO.out HTK.out.below) ?_) ?_
        · intro j hj hs
          have := own_lt HO.out j hj
          rcases hs with rfl | rfl
          · omega
          · exact own_ne HO.out HX.out hTu hj.symm
        · rintro j hj rfl
          exact own_ne HO.out HB.out (by decide) hj.symm
      · exact h2.blk hx1 nxg
      · exact ((Fr.of_below HTK.out.below).trans hf (fun i hi h => h.elim (fun e => by omega) (fun e => .inr e))).trans h2 (fun i _ h => .inl h)
end Go.Proofs.Ytgmbfecfkdbfaaa.Wi
/- The reader's pieces, as they are read out of a cursor. -/
set_option linter.unusedVariables false
set_option linter.unusedSimpArgs false
namespace Go.Proofs.Ytgmbfecfkdbfaaa.Wi
open Go Go.RowKit Go.Proofs.YtgmbfecfkdbfaaaW.PrintWords
/-- a piece's value as the program has it -/
def lift {α : Type} (enc : α → Value) : Except Int (α × Nat) → Except Int (Value × Nat)
  | .ok (x, k) => .ok (enc x, k)
  | .error e => .error e
theorem read_err {gc gx c at_ : Nat} {T : TypeId} {A : Option Addr} {bs : List Int} {k : Int} {W W' : World} (h : CGave gc k W (.panicked (gave k)) W') (hne : gx ≠ gc) (hx : gx < W.heap.size) : ReadP gc gx T A bs c at_ (.error k) W (.panicked (gave k)) W' :=
  ⟨⟨rfl, h.2.block gx hx hne⟩, h.2.mono (fun _ _ h => .inl h)⟩
theorem read_ok {gc gx c at_ k : Nat} {T : TypeId} {A : Option Addr} {bs : List Int} {u u0 : Value} {W W' : World} (hcu : Cur W' gc A bs.length c (at_ + k)) (hx : W'.heap[gx]? = some (.cells #[u0] T (0, 0))) (hf : Fr (CurS gc) W W') (hne : gx ≠ gc) :
    ReadP gc gx T A bs c at_ (.ok (u, k)) W (.returned (.tuple #[])) (W'.setCell ⟨gx, 0, none⟩ u) := by
  refine ⟨⟨rfl, ?_, ?_⟩, (hf.mono (fun _ _ h => .inl h)).set_ (.inl (.inr rfl)) _⟩
  · exact blk_far hcu (fun e => hne e.symm) _
  · have := blk_set hx 0 u
    simpa using this
/-- what a cursor over a reader's bytes is -/
structure CR (W : World) (gc : Nat) (A : Option Addr) (bs : List Int) (c at_ : Nat) : Prop where
  cur : Cur W gc A bs.length c at_
  rd : ReadsInt W .u8 A bs.length bs
  cap : bs.length ≤ c
  le : at_ ≤ bs.length
  byt : Bytes bs
  len : bs.length ≤ 140737488355328
  ne_ : ∀ ad, A = some ad → ad.block ≠ gc
section
variable {W : World} {gc gx c at_ : Nat} {A : Option Addr} {bs : List Int}
theorem CR.short (h : CR W gc A bs c at_) (n : Nat) (hn : bs.length < at_ + n) (hn2 : n ≤ 140737488355328) : Calls Try.prog 153 #[.pointer (some ⟨gc, 0, none⟩), .int .i64 n] W (CGave gc 10 W) := cbits_short gc A bs c at_ n W h.cur h.le h.len hn hn2
theorem CR.bits (h : CR W gc A bs c at_) (n : Nat) (hn : at_ + n ≤ bs.length) (hn8 : n ≤ 8) : Calls Try.prog 153 #[.pointer (some ⟨gc, 0, none⟩), .int .i64 n] W (CBits gc A bs c at_ n W) := cbits_ok gc A bs c at_ n W h.cur h.rd h.cap h.len h.byt hn hn8 h.ne_
theorem asInt_wrap (n : Nat) (h : n < 18446744073709551616) : wrap64 (n : Int) = asInt n := by
  unfold asInt wrap64
  split <;> omega
set_option maxHeartbeats 1600000 in
set_option maxRecDepth 100000 in
theorem rint1_calls (h : CR W gc A bs c at_) (x0 : Int) (hx : W.heap[gx]? = some (.cells #[.int .i64 x0] 3 (0, 0))) :
    Calls Try.prog 169 #[.pointer (some ⟨gc, 0, none⟩), .pointer (some ⟨gx, 0, none⟩)] W (ReadP gc gx 3 A bs c at_ (lift (Value.int .i64) (gInt (bs.drop at_))) W) := by
  have hne : gx ≠ gc := blk_ne hx h.cur (by decide)
  have hlt := blk_lt hx
  by_cases hn : bs.length < at_ + 8
  · have HF : Aside0 (lift (Value.int .i64) (gInt (bs.drop at_)) = .error 10) := ⟨by simp [gInt, lift, show bs.length - at_ < 8 by omega]⟩
    have C := Aside0.mk (h.short 8 hn (by omega))
    clear h hx
    go_enter Try.func169, Try.ntmps169
    go_wp2_with (go_at_call 153; refine C.out.mono ?_; rintro e w' ⟨rfl, hf⟩)
    exact ⟨rfl, by rw [HF.out]; exact read_err ⟨rfl, hf⟩ hne hlt⟩
  · have HF : Aside0 (lift (Value.int .i64) (gInt (bs.drop at_)) = .ok (.int .i64 (asInt (val ((bs.drop at_).take 8))), 8)) := ⟨by simp [gInt, lift, show ¬ bs.length - at_ < 8 by omega]⟩
    have HV := Aside0.mk (val_lt ((bs.drop at_).take 8) ((h.byt.drop at_).take 8))
    have HVL : Aside0 (((bs.drop at_).take 8).length = 8) := ⟨by rw [List.length_take, List.length_drop]; omega⟩
    have C := Aside0.mk (h.bits 8 (by omega) (by omega))
    have HX := Aside0.mk hx
    clear h hx
    unfold CBits at C
    generalize val ((bs.drop at_).take 8) = n at C HF HV
    have HW : Aside0 (wrap64 (n : Int) = asInt n) := ⟨asInt_wrap n (by have := HV.out; rw [HVL.out] at this; exact this)⟩
    go_enter Try.func169, Try.ntmps169
    go_wp2_with (go_at_call 153; refine C.out.mono ?_; rintro e w' ⟨rfl, hcu, hf⟩; have hx1 := hf.blk HX.out hne; have cx : w'.cell? ⟨gx, 0, none⟩ = some (.int .i64 x0) := (blk_cell hx1 0).trans rfl; have fx : w'.frozen? ⟨gx, 0, none⟩ = false := blk_frozen hx1 0)
    go_end0
    rw [HF.out, HW.out]
    exact read_ok hcu hx1 hf hne
set_option maxHeartbeats 1600000 in
set_option maxRecDepth 100000 in
theorem rnumber1_calls (h : CR W gc A bs c at_) (x0 : Int) (size : Int) (bz : Nat) (hz : W.heap[bz]? = some (.cells #[.int .i64 size] 3 (0, 0))) (hx : W.heap[gx]? = some (.cells #[.int .u64 x0] 142 (0, 0))) :
    Calls Try.prog 152 #[.pointer (some ⟨gc, 0, none⟩), .pointer (some ⟨bz, 0, none⟩), .pointer (some ⟨gx, 0, none⟩)] W (ReadP gc gx 142 A bs c at_ (lift (Value.int .u64) (gNumber (bs.drop at_) size)) W) := by
  have hne : gx ≠ gc := blk_ne hx h.cur (by decide)
  have hlt := blk_lt hx
  have cz : W.cell? ⟨bz, 0, none⟩ = some (.int .i64 size) := (blk_cell hz 0).trans rfl
  clear hz
  cases hs : sizedB size with
  | false =>
    have HF : Aside0 (lift (Value.int .u64) (gNumber (bs.drop at_) size) = .error 1) := ⟨by simp [gNumber, lift, hs]⟩
    have HS := Aside0.mk hs
    clear h hx hs
    go_enter Try.func152, Try.ntmps152
    go_wp2_with (first | (go_at_call 149; refine (sized_calls _ _).mono ?_; rw [HS.out]; rintro e w2 ⟨rfl, rfl⟩) | (go_at_call 146; refine (check_no _ _).mono ?_; rintro e w1 ⟨rfl, rfl⟩))
    exact ⟨rfl, by rw [HF.out]; exact read_err ⟨rfl, Fr.refl _ _⟩ hne hlt⟩
  | true =>
    have hz' : 1 ≤ size ∧ size ≤ 8 := by simpa [sizedB] using hs
    obtain ⟨n, rfl⟩ := Int.eq_ofNat_of_zero_le (show 0 ≤ size by omega)
    have HS := Aside0.mk hs
    by_cases hn : bs.length < at_ + n
    · have HF : Aside0 (lift (Value.int .u64) (gNumber (bs.drop at_) n) = .error 10) := ⟨by
        have h1 : (((bs.drop at_).length : Nat) : Int) < (n : Int) := by rw [List.length_drop]; omega
        simp only [gNumber, hs, if_neg (show ¬ (true = false) by decide), if_pos h1, lift]⟩
      have C := Aside0.mk (h.short n hn (by omega))
      clear h hx hs
      go_enter Try.func152, Try.ntmps152
      go_wp2_with (first | (go_at_call 149; refine (sized_calls _ _).mono ?_; rw [HS.out]; rintro e w2 ⟨rfl, rfl⟩) | (go_at_call 146; refine (check_ok _ _).mono ?_; rintro e w1 ⟨rfl, rfl⟩) | (go_at_call 153; refine C.out.mono ?_; rintro e w' ⟨rfl, hf⟩))
      exact ⟨rfl, by rw [HF.out]; exact read_err ⟨rfl, hf⟩ hne hlt⟩
    · have h1 : ¬ (((bs.drop at_).length : Nat) : Int) < (n : Int) := by rw [List.length_drop]; have := h.le; omega
      have HG : Aside0 (gNumber (bs.drop at_) n = if 9223372036854775808 ≤ val ((bs.drop at_).take n) then .error 11 else .ok (val ((bs.drop at_).take n), n)) := ⟨by
        simp only [gNumber, hs, if_neg (show ¬ (true = false) by decide), if_neg h1, Int.toNat_natCast]⟩
      have C := Aside0.mk (h.bits n (by omega) (by omega))
      have HX := Aside0.mk hx
      clear h hx hs h1
      unfold CBits at C
      generalize val ((bs.drop at_).take n) = m at C HG
      by_cases hm : 9223372036854775808 ≤ m
      · have HF : Aside0 (lift (Value.int .u64) (gNumber (bs.drop at_) n) = .error 11) := ⟨by rw [HG.out, if_pos hm]; rfl⟩
        have t1 : decide (m ≤ 9223372036854775807) = false := decide_eq_false (by omega)
        have t2 : decide ((m : Int) ≤ 9223372036854775807) = false := decide_eq_false (by omega)
        go_enter Try.func152, Try.ntmps152
        go_wp2_with (first | (go_at_call 149; refine (sized_calls _ _).mono ?_; rw [HS.out]; rintro e w2 ⟨rfl, rfl⟩) | (go_at_call 153; refine C.out.mono ?_; rintro e w' ⟨rfl, hcu, hf⟩; have hx1 := hf.blk HX.out hne; have cx : w'.cell? ⟨gx, 0, none⟩ = some (.int .u64 x0) := (blk_cell hx1 0).trans rfl; have fx : w'.frozen? ⟨gx, 0, none⟩ = false := blk_frozen hx1 0) | (go_at_call 146; first | ((with_reducible refine (check_ok _ _).mono ?_); rintro e w1 ⟨rfl, rfl⟩) | ((with_reducible refine (check_no _ _).mono ?_); rintro e w1 ⟨rfl, rfl⟩)))
        exact ⟨rfl, by rw [HF.out]; exact read_err ⟨rfl, hf⟩ hne hlt⟩
      · have HF : Aside0 (lift (Value.int .u64) (gNumber (bs.drop at_) n) = .ok (.int .u64 m, n)) := ⟨by rw [HG.out, if_neg hm]; rfl⟩
        have t1 : decide (m ≤ 9223372036854775807) = true := decide_eq_true (by omega)
        have t2 : decide ((m : Int) ≤ 9223372036854775807) = true := decide_eq_true (by omega)
        go_enter Try.func152, Try.ntmps152
        go_wp2_with (first | (go_at_call 149; refine (sized_calls _ _).mono ?_; rw [HS.out]; rintro e w2 ⟨rfl, rfl⟩) | (go_at_call 153; refine C.out.mono ?_; rintro e w' ⟨rfl, hcu, hf⟩; have hx1 := hf.blk HX.out hne; have cx : w'.cell? ⟨gx, 0, none⟩ = some (.int .u64 x0) := (blk_cell hx1 0).trans rfl; have fx : w'.frozen? ⟨gx, 0, none⟩ = false := blk_frozen hx1 0) | (go_at_call 146; refine (check_ok _ _).mono ?_; rintro e w1 ⟨rfl, rfl⟩))
        go_end0
        rw [HF.out]
        exact read_ok hcu hx1 hf hne
end
end Go.Proofs.Ytgmbfecfkdbfaaa.Wi
