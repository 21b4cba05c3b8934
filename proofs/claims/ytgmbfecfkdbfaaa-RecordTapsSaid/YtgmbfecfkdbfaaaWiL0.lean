/- Arguments of the laws on pieces: bytes, and lists of pieces, as they are read. -/
import Derived.Test.YtgmbfecfkdbfaaaWiR8
import Derived.Test.YtgmbfecfkdbfaaaXOpen
set_option linter.unusedVariables false
set_option linter.unusedSimpArgs false
namespace Go.Proofs.YtgmbfecfkdbfaaaW.PrintWords.Kd
/-- a kind whose values are known to be so -/
def sub {α : Type} (d : Kd α) (φ : α → Prop) : Kd α where
  sz := d.sz
  E := d.E
  K w x cs := d.K w x cs ∧ φ x
  M w base ok x cs := d.M w base ok x cs ∧ φ x
  K_len h := d.K_len h.1
  K_one h := d.K_one h.1
  K_below hb h := ⟨d.K_below hb h.1, h.2⟩
  K_of_M h := ⟨d.K_of_M h.1, h.2⟩
  M_mono hk h := ⟨d.M_mono hk h.1, h.2⟩
  M_bound h := ⟨d.M_bound h.1, h.2⟩
  M_move hm h := ⟨d.M_move hm h.1, h.2⟩
  M_lower hb h := ⟨d.M_lower hb h.1, h.2⟩
end Go.Proofs.YtgmbfecfkdbfaaaW.PrintWords.Kd
namespace Go.Proofs.Ytgmbfecfkdbfaaa.Wi
open Go Go.RowKit Go.Proofs.YtgmbfecfkdbfaaaW.PrintWords Go.Proofs.YtgmbfecfkdbfaaaX Go.ChangeShapes Go.WideShapes
def I64 (n : Int) : Prop := -9223372036854775808 ≤ n ∧ n ≤ 9223372036854775807
def kI : Kd Int := Kd.sub (Kd.int .i64) I64
def kB : Kd Int := Kd.sub (Kd.int .u8) (fun n => 0 ≤ n ∧ n ≤ 255)
def kF : Kd Nat := Kd.sub Kd.f64 (fun n => n < 18446744073709551616)
def kS : Kd ByteArray := Kd.sub Kd.string (fun s => s.size ≤ 9223372036854775807)
theorem kB_reads {w : World} {A : Option Addr} {n : Nat} {xs : List Int} (h : kB.C w A n xs) : ReadsInt w .u8 A n xs ∧ Bytes xs := by
  refine ⟨Kd.reads_of_C (enc := Value.int .u8) (d := (0 : Int)) (h1 := fun _ => rfl) (Kd.C_imp (d := kB) (d' := Kd.int .u8) rfl (fun _ _ _ hp => hp.1) h), ?_⟩
  intro x hx
  obtain ⟨j, hj, rfl⟩ := List.getElem_of_mem hx
  have hl : xs.length = n := h.1
  obtain ⟨ad, c, e, _, hK, _⟩ := Kd.C_get h (0 : Int) (j : Int) (by omega) (by omega)
  have h2 := hK.2
  simp only [Int.toNat_natCast, List.getD_eq_getElem?_getD, List.getElem?_eq_getElem hj, Option.getD_some] at h2
  exact h2
section
variable {P : Program} {t : TypeId}
theorem opI (h : P.underlying t = some (.int .i64)) (hc : P.cellsOf t = 1) : Opn P kI t := ⟨hc, fun H enc w base spare held fuel cs x hx => by
  obtain ⟨n, rfl, _, hw⟩ := DataW.trod_int h hx
  exact ⟨n, rfl, by unfold I64; simpa [Lit.wf, IntKind.min, IntKind.max, IntKind.signed, IntKind.bits] using hw⟩⟩
theorem opB (h : P.underlying t = some (.int .u8)) (hc : P.cellsOf t = 1) : Opn P kB t := ⟨hc, fun H enc w base spare held fuel cs x hx => by
  obtain ⟨n, rfl, _, hw⟩ := DataW.trod_int h hx
  exact ⟨n, rfl, by simpa [Lit.wf, IntKind.min, IntKind.max, IntKind.signed, IntKind.bits] using hw⟩⟩
theorem opS (h : P.underlying t = some .string) (hc : P.cellsOf t = 1) : Opn P kS t := ⟨hc, fun H enc w base spare held fuel cs x hx => by
  obtain ⟨n, rfl, _, hw⟩ := DataW.trod_string h hx
  exact ⟨n, rfl, by simpa [maxLen] using hw⟩⟩
theorem opF (h : P.underlying t = some (.float .f64)) (hc : P.cellsOf t = 1) : Opn P kF t := ⟨hc, fun H enc w base spare held fuel cs x hx => by
  cases fuel with
  | zero => simp [DataW.trod] at hx
  | succ n =>
    unfold DataW.trod at hx
    rw [h] at hx
    split at hx <;> simp_all
    rename_i he
    subst he
    obtain ⟨⟨_, hw⟩, _⟩ := hx
    exact ⟨_, rfl, by simpa [Lit.wf] using hw⟩⟩
end
theorem opByte : Opn Try.prog kB 5 := opB Try.underlying5 (by kernel_rfl)
end Go.Proofs.Ytgmbfecfkdbfaaa.Wi
