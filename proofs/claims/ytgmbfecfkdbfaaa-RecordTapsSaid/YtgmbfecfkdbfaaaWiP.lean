/- Plain words for pieces as bytes: digits of numbers, what a piece stands as, what is taken out of bytes; no program in sight. -/
import Derived.RowKit
set_option linter.unusedVariables false
namespace Go.Proofs.Ytgmbfecfkdbfaaa.Wi
open Go
/-- the lowest digits of a number, the highest first -/
def be (n : Nat) : Nat → List Int
  | 0 => []
  | s + 1 => (((n / 256 ^ s) % 256 : Nat) : Int) :: be n s
theorem be_length (n s : Nat) : (be n s).length = s := by
  induction s with
  | zero => rfl
  | succ s ih => simp [be, ih]
def Byte (x : Int) : Prop := 0 ≤ x ∧ x ≤ 255
def Bytes (l : List Int) : Prop := ∀ x, x ∈ l → 0 ≤ x ∧ x ≤ 255
theorem Bytes.nil : Bytes [] := fun _ h => by cases h
theorem Bytes.append {l r : List Int} (h : Bytes l) (k : Bytes r) : Bytes (l ++ r) := fun x hx => by
  rcases List.mem_append.1 hx with h' | h'
  · exact h x h'
  · exact k x h'
theorem Bytes.left {l r : List Int} (h : Bytes (l ++ r)) : Bytes l := fun x hx => h x (List.mem_append.2 (.inl hx))
theorem Bytes.take {l : List Int} (h : Bytes l) (n : Nat) : Bytes (l.take n) := fun x hx => h x (List.mem_of_mem_take hx)
theorem Bytes.drop {l : List Int} (h : Bytes l) (n : Nat) : Bytes (l.drop n) := fun x hx => h x (List.mem_of_mem_drop hx)
theorem be_bytes (n s : Nat) : Bytes (be n s) := by
  induction s with
  | zero => exact Bytes.nil
  | succ s ih =>
    intro x hx
    rcases List.mem_cons.1 hx with rfl | h
    · have := Nat.mod_lt (n / 256 ^ s) (show 0 < 256 by omega)
      omega
    · exact ih x h
theorem be_snoc (n s : Nat) : be n (s + 1) = be (n / 256) s ++ [((n % 256 : Nat) : Int)] := by
  induction s with
  | zero => simp [be]
  | succ s ih =>
    rw [be, ih]
    show _ = (_ :: be (n / 256) s) ++ _
    rw [Nat.div_div_eq_div_mul, ← Nat.pow_succ']
    rfl
theorem snoc_ind {α : Type} {P : List α → Prop} (h0 : P []) (h1 : ∀ l x, P l → P (l ++ [x])) (l : List α) : P l := by
  rw [← List.reverse_reverse l]
  induction l.reverse with
  | nil => exact h0
  | cons x r ih =>
    rw [List.reverse_cons]
    exact h1 _ _ ih
/-- what bytes say as a number -/
def val (l : List Int) : Nat := l.foldl (fun n x => n * 256 + x.toNat) 0
theorem val_nil : val [] = 0 := rfl
theorem val_snoc (l : List Int) (x : Int) : val (l ++ [x]) = val l * 256 + x.toNat := by simp [val]
theorem val_lt (l : List Int) (h : Bytes l) : val l < 256 ^ l.length := by
  revert h
  refine snoc_ind (P := fun l => Bytes l → val l < 256 ^ l.length) ?_ ?_ l
  · intro _; simp [val]
  · intro l x ih h
    have h1 := ih h.left
    have h2 := h x (by simp)
    rw [val_snoc, List.length_append, List.length_singleton, Nat.pow_succ]
    omega
theorem val_be (s : Nat) : ∀ n, n < 256 ^ s → val (be n s) = n := by
  induction s with
  | zero => intro n h; simp at h; subst h; rfl
  | succ s ih =>
    intro n h
    rw [be_snoc, val_snoc, ih (n / 256) (by rw [Nat.pow_succ] at h; exact Nat.div_lt_of_lt_mul (by omega))]
    simp
    omega
theorem be_val (l : List Int) (h : Bytes l) : be (val l) l.length = l := by
  revert h
  refine snoc_ind (P := fun l => Bytes l → be (val l) l.length = l) ?_ ?_ l
  · intro _; rfl
  · intro l x ih h
    have h2 := h x (by simp)
    rw [List.length_append, List.length_singleton, be_snoc, val_snoc]
    rw [show (val l * 256 + x.toNat) / 256 = val l by omega, ih h.left]
    have : (val l * 256 + x.toNat) % 256 = x.toNat := by omega
    rw [this]
    congr 2
    omega
theorem pow_256_le {a b : Nat} (h : a ≤ b) : 256 ^ a ≤ 256 ^ b := Nat.pow_le_pow_right (by omega) h
/-- a writer: its bytes; was something wrong? -/
structure WS where
  xs : List Int
  bad : Bool
def WS.put (s : WS) (o : Option (List Int)) : WS :=
  if s.bad = true then s else match o with
    | some ys => ⟨s.xs ++ ys, false⟩
    | none => ⟨s.xs, true⟩
def sizedB (size : Int) : Bool := decide (1 ≤ size) && decide (size ≤ 8)
def fitsB (n size : Int) : Bool := decide (0 ≤ n) && (decide (size = 8) || decide (n < 256 ^ size.toNat))
/-- what a number of so many bytes is put as -/
def pNumber (n size : Int) : Option (List Int) :=
  if (sizedB size && fitsB n size) = true then some (be n.toNat size.toNat) else none
def pInt (n : Int) : Option (List Int) := some (be (n % 18446744073709551616).toNat 8)
/-- the bits of the one NaN that is put -/
def nanBits : Nat := 9221120237041090560
/-- any NaN's bits: no float is equal to itself? -/
def isNan (n : Nat) : Bool := FloatKind.f64.format.order n n != some .eq
def fBits (n : Nat) : Nat := if isNan n = true then nanBits else n
def pFloat (n : Nat) : Option (List Int) := some (be (fBits n) 8)
def pBool (is : Bool) : Option (List Int) := pNumber (if is = true then 1 else 0) 1
def strBytes (s : ByteArray) : List Int := s.data.toList.map fun b => (b.toNat : Int)
theorem strBytes_length (s : ByteArray) : (strBytes s).length = s.size := by
  rw [strBytes, List.length_map, Array.length_toList]; rfl
theorem strBytes_bytes (s : ByteArray) : Bytes (strBytes s) := fun x hx => by
  simp only [strBytes, List.mem_map] at hx
  obtain ⟨b, _, rfl⟩ := hx
  have := b.toNat_lt
  omega
def pText (s : ByteArray) : Option (List Int) := if s.size ≤ 65535 then some (be s.size 2 ++ strBytes s) else none
def fixedB (s : ByteArray) (size : Int) : Bool := (decide (0 ≤ size) && decide (size ≤ 65535)) && ((s.size : Int) == size)
def pFixed (s : ByteArray) (size : Int) : Option (List Int) := if fixedB s size = true then some (strBytes s) else none
/-- a reader: where the next piece begins, where the last one began; what is wrong, where -/
structure RS where
  at_ : Nat
  last : Int
  code : Int
  fat : Int
/-- a piece out of what is left: what it is, how many bytes it took; or what is wrong -/
def gNumber (l : List Int) (size : Int) : Except Int (Int × Nat) :=
  if sizedB size = false then .error 1
  else if (l.length : Int) < size then .error 10
  else if 9223372036854775808 ≤ val (l.take size.toNat) then .error 11
  else .ok (val (l.take size.toNat), size.toNat)
/-- a number as an int -/
def asInt (n : Nat) : Int := if n < 9223372036854775808 then n else (n : Int) - 18446744073709551616
def gInt (l : List Int) : Except Int (Int × Nat) :=
  if l.length < 8 then .error 10 else .ok (asInt (val (l.take 8)), 8)
def gFloat (l : List Int) : Except Int (Nat × Nat) :=
  if l.length < 8 then .error 10
  else if isNan (val (l.take 8)) = true ∧ val (l.take 8) ≠ nanBits then .error 11
  else .ok (val (l.take 8), 8)
def gBool (l : List Int) : Except Int (Bool × Nat) :=
  if l.length < 1 then .error 10
  else if 1 < val (l.take 1) then .error 11
  else .ok (decide (val (l.take 1) = 1), 1)
def gText (l : List Int) (most : Int) : Except Int (List Int × Nat) :=
  if most < 0 then .error 1
  else if l.length < 2 then .error 10
  else if most < (val (l.take 2) : Int) then .error 12
  else if l.length - 2 < val (l.take 2) then .error 10
  else .ok ((l.drop 2).take (val (l.take 2)), 2 + val (l.take 2))
def gFixed (l : List Int) (size : Int) : Except Int (List Int × Nat) :=
  if ¬ (0 ≤ size ∧ size ≤ 65535) then .error 1
  else if (l.length : Int) < size then .error 10
  else .ok (l.take size.toNat, size.toNat)
def gCount (l : List Int) (most : Int) : Except Int (Int × Nat) :=
  if most < 0 then .error 1
  else if l.length < 2 then .error 10
  else if most < (val (l.take 2) : Int) then .error 12
  else .ok (val (l.take 2), 2)
/-- what is taken, and where the reader is then -/
def RS.take {α : Type} (b : List Int) (r : RS) (d : α) (g : List Int → Except Int (α × Nat)) : α × RS :=
  if r.code ≠ 0 then (d, r) else match g (b.drop r.at_) with
    | .ok (x, n) => (x, ⟨r.at_ + n, r.at_, 0, r.fat⟩)
    | .error e => (d, ⟨r.at_, r.last, e, r.at_⟩)
end Go.Proofs.Ytgmbfecfkdbfaaa.Wi
