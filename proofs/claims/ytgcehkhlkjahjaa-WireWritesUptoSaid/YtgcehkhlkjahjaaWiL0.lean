/- Arguments of the laws on pieces: bytes, and lists of pieces, as they are read. -/
import Derived.Test.YtgcehkhlkjahjaaWiR8
import Derived.Test.YtgcehkhlkjahjaaXOpen
set_option linter.unusedVariables false
set_option linter.unusedSimpArgs false
namespace Go.Proofs.YtgcehkhlkjahjaaW.PrintWords.Kd
/-- a kind whose values are known to be so -/
def sub {α : Type} (d : Kd α) (φ : α → Prop) : Kd α where
  sz := d.sz
  E := d.E
  K w x cs := d.K w x cs ∧ φ x
  M w base ok x cs := d.M w base ok x cs ∧ φ x
  K_len h := d.K_len h.1
  K_one h := d.K_one h.1
  K_below hb h := ⟨d.K_below hb h.1, h.2⟩
  K_of_M h := ⟨d.K_of_M h.1, h.2⟩
  M_mono hk h := ⟨d.M_mono hk h.1, h.2⟩
  M_bound h := ⟨d.M_bound h.1, h.2⟩
  M_move hm h := ⟨d.M_move hm h.1, h.2⟩
  M_lower hb h := ⟨d.M_lower hb h.1, h.2⟩
end Go.Proofs.YtgcehkhlkjahjaaW.PrintWords.Kd
namespace Go.Proofs.Ytgcehkhlkjahjaa.Wi
open Go Go.RowKit Go.Proofs.YtgcehkhlkjahjaaW.PrintWords Go.Proofs.YtgcehkhlkjahjaaX Go.ChangeShapes Go.WideShapes
def I64 (n : Int) : Prop := -9223372036854775808 ≤ n ∧ n ≤ 9223372036854775807
def kI : Kd Int := Kd.sub (Kd.int .i64) I64
def kB : Kd Int := Kd.sub (Kd.int .u8) (fun n => 0 ≤ n ∧ n ≤ 255)
def kF : Kd Nat := Kd.sub Kd.f64 (fun n => n < 18446744073709551616)
def kS : Kd ByteArray := Kd.sub Kd.string (fun s => s.size ≤ 9223372036854775807)
/-- a piece -/
structure Pc where
  kind : Int
  n : Int
  size : Int
  x : Nat
  is : Bool
  s : ByteArray
def kPc : Kd Pc := Kd.iso (Kd.pair kI (Kd.pair kI (Kd.pair kI (Kd.pair kF (Kd.pair Kd.bool kS))))) (fun p : Pc => (p.kind, p.n, p.size, p.x, p.is, p.s))
structure Pc.Ok (p : Pc) : Prop where
  kind : I64 p.kind
  n : I64 p.n
  size : I64 p.size
  x : p.x < 18446744073709551616
  s : p.s.size ≤ 9223372036854775807
theorem kPc_open {w : World} {p : Pc} {cs : List Value} (h : kPc.K w p cs) : cs = [.int .i64 p.kind, .int .i64 p.n, .int .i64 p.size, .float .f64 p.x, .bool p.is, .string p.s] ∧ p.Ok := by
  obtain ⟨_, _, rfl, ⟨rfl, h1⟩, ⟨_, _, rfl, ⟨rfl, h2⟩, ⟨_, _, rfl, ⟨rfl, h3⟩, ⟨_, _, rfl, ⟨rfl, h4⟩, ⟨_, _, rfl, rfl, ⟨rfl, h5⟩⟩⟩⟩⟩⟩ := h
  exact ⟨rfl, ⟨h1, h2, h3, h4, h5⟩⟩
def Pc.zero : Pc := ⟨0, 0, 0, 0, false, ⟨#[]⟩⟩
/-- the cells of a piece of a list that is read -/
theorem at_pc {w : World} {A : Option Addr} {l : List Pc} (h : kPc.C w A l.length l) (k : Nat) (hk : k < l.length) : ∃ ad, A = some ad ∧ (l[k]'hk).Ok ∧ w.cell? (ad.add (k * 6)) = some (.int .i64 (l[k]'hk).kind) ∧ w.cell? ⟨(ad.add (k * 6)).block, (ad.add (k * 6)).off + 1, none⟩ = some (.int .i64 (l[k]'hk).n) ∧
    w.cell? ⟨(ad.add (k * 6)).block, (ad.add (k * 6)).off + 2, none⟩ = some (.int .i64 (l[k]'hk).size) ∧ w.cell? ⟨(ad.add (k * 6)).block, (ad.add (k * 6)).off + 3, none⟩ = some (.float .f64 (l[k]'hk).x) ∧ w.cell? ⟨(ad.add (k * 6)).block, (ad.add (k * 6)).off + 4, none⟩ = some (.bool (l[k]'hk).is) ∧ w.cell? ⟨(ad.add (k * 6)).block, (ad.add (k * 6)).off + 5, none⟩ = some (.string (l[k]'hk).s) := by
  obtain ⟨ad, c, e, _, hK, hc0⟩ := Kd.C_get h Pc.zero (k : Int) (by omega) (by omega)
  simp only [Int.toNat_natCast] at hK hc0
  have hg : l.getD k Pc.zero = l[k]'hk := by simp [List.getD_eq_getElem?_getD, List.getElem?_eq_getElem hk]
  rw [hg] at hK
  have hc : ∀ j u, c[j]? = some u → w.cell? (ad.add (k * 6 + j)) = some u := hc0
  obtain ⟨rfl, hok⟩ := kPc_open hK
  exact ⟨ad, e, hok, hc 0 _ rfl, by rw [← add_field _ _ 1 (by omega)]; exact hc 1 _ rfl, by rw [← add_field _ _ 2 (by omega)]; exact hc 2 _ rfl, by rw [← add_field _ _ 3 (by omega)]; exact hc 3 _ rfl, by rw [← add_field _ _ 4 (by omega)]; exact hc 4 _ rfl, by rw [← add_field _ _ 5 (by omega)]; exact hc 5 _ rfl⟩
theorem kB_reads {w : World} {A : Option Addr} {n : Nat} {xs : List Int} (h : kB.C w A n xs) : ReadsInt w .u8 A n xs ∧ Bytes xs := by
  refine ⟨Kd.reads_of_C (enc := Value.int .u8) (d := (0 : Int)) (h1 := fun _ => rfl) (Kd.C_imp (d := kB) (d' := Kd.int .u8) rfl (fun _ _ _ hp => hp.1) h), ?_⟩
  intro x hx
  obtain ⟨j, hj, rfl⟩ := List.getElem_of_mem hx
  have hl : xs.length = n := h.1
  obtain ⟨ad, c, e, _, hK, _⟩ := Kd.C_get h (0 : Int) (j : Int) (by omega) (by omega)
  have h2 := hK.2
  simp only [Int.toNat_natCast, List.getD_eq_getElem?_getD, List.getElem?_eq_getElem hj, Option.getD_some] at h2
  exact h2
section
variable {P : Program} {t : TypeId}
theorem opI (h : P.underlying t = some (.int .i64)) (hc : P.cellsOf t = 1) : Opn P kI t := ⟨hc, fun H enc w base spare held fuel cs x hx => by
  obtain ⟨n, rfl, _, hw⟩ := DataW.trod_int h hx
  exact ⟨n, rfl, by unfold I64; simpa [Lit.wf, IntKind.min, IntKind.max, IntKind.signed, IntKind.bits] using hw⟩⟩
theorem opB (h : P.underlying t = some (.int .u8)) (hc : P.cellsOf t = 1) : Opn P kB t := ⟨hc, fun H enc w base spare held fuel cs x hx => by
  obtain ⟨n, rfl, _, hw⟩ := DataW.trod_int h hx
  exact ⟨n, rfl, by simpa [Lit.wf, IntKind.min, IntKind.max, IntKind.signed, IntKind.bits] using hw⟩⟩
theorem opS (h : P.underlying t = some .string) (hc : P.cellsOf t = 1) : Opn P kS t := ⟨hc, fun H enc w base spare held fuel cs x hx => by
  obtain ⟨n, rfl, _, hw⟩ := DataW.trod_string h hx
  exact ⟨n, rfl, by simpa [maxLen] using hw⟩⟩
theorem opF (h : P.underlying t = some (.float .f64)) (hc : P.cellsOf t = 1) : Opn P kF t := ⟨hc, fun H enc w base spare held fuel cs x hx => by
  cases fuel with
  | zero => simp [DataW.trod] at hx
  | succ n =>
    unfold DataW.trod at hx
    rw [h] at hx
    split at hx <;> simp_all
    rename_i he
    subst he
    obtain ⟨⟨_, hw⟩, _⟩ := hx
    exact ⟨_, rfl, by simpa [Lit.wf] using hw⟩⟩
end
theorem opPc : Opn Try.prog kPc 34 :=
  Opn.struct Try.underlying34 (by kernel_rfl) (OpnF.iso (fun t => ⟨t.1, t.2.1, t.2.2.1, t.2.2.2.1, t.2.2.2.2.1, t.2.2.2.2.2⟩) (fun _ => rfl)
    (OpnF.cons rfl (opI Try.underlying3 (by kernel_rfl)) (OpnF.cons rfl (opI Try.underlying3 (by kernel_rfl)) (OpnF.cons rfl (opI Try.underlying3 (by kernel_rfl)) (OpnF.cons rfl (opF Try.underlying32 (by kernel_rfl)) (OpnF.cons rfl (Opn.bool Try.underlying4 (by kernel_rfl)) (OpnF.last rfl (opS Try.underlying9 (by kernel_rfl)))))))))
theorem opByte : Opn Try.prog kB 5 := opB Try.underlying5 (by kernel_rfl)
end Go.Proofs.Ytgcehkhlkjahjaa.Wi
