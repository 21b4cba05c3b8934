/- The record laws' small functions: same, lent. -/
import Derived.Test.YtgmbfecfkdbfaaaRcM
set_option linter.unusedVariables false
set_option linter.unusedSimpArgs false
namespace Go.Proofs.Ytgmbfecfkdbfaaa.Wi
open Go Go.RowKit Go.Proofs.YtgmbfecfkdbfaaaW.PrintWords
set_option maxHeartbeats 1600000 in
set_option maxRecDepth 100000 in
theorem same_eq (A A' : Option Addr) (c c' : Nat) (xs : List Int) (w : World) (h : ReadsInt w .u8 A xs.length xs) (h' : ReadsInt w .u8 A' xs.length xs) : Calls Try.prog 16 #[.slice A xs.length c, .slice A' xs.length c'] w fun e w' => e = .returned (.bool true) ∧ w = w' := by
  have k1 := string_of_reads (P := Try.prog) (c := c) Try.underlying24 Try.underlying5 Try.underlying9 h
  have k2 := string_of_reads (P := Try.prog) (c := c') Try.underlying24 Try.underlying5 Try.underlying9 h'
  clear h h'
  go_enter Try.func16, Try.ntmps16
  go_wp2
  go_ret
  exact ⟨by first | rfl | (simp; done), rfl⟩
theorem own_shape8 {W : World} {n : Nat} {B : Nat} {e : TypeId} {A : Option Addr} {c : Nat} {xs : List Value} (h : W.ownsRow B e 1 (.slice A n c) n xs) : A = none ∧ n = 0 ∨ ∃ b, A = some ⟨b, 0, none⟩ := by
  rcases h.2 with ⟨h1, h2⟩ | ⟨gb, cap, cur, h1, _⟩
  · injection h1 with h1 _ _
    exact .inl ⟨h1, h2⟩
  · injection h1 with h1 _ _
    exact .inr ⟨gb, h1⟩
/-- what lent hands back: a row of its own with two marks behind -/
def Lent8Post (bs : List Int) (w : World) (e : Ending) (w' : World) : Prop :=
  ∃ gl c, e = .returned (.slice (some ⟨gl, 0, none⟩) bs.length c) ∧ bs.length + 2 ≤ c ∧ w'.ownsRow w.heap.size 5 1 (.slice (some ⟨gl, 0, none⟩) (bs.length + 2) c) (bs.length + 2) (nums .u8 (bs ++ [171, 172])) ∧ w.heap.size ≤ gl ∧ Below w.heap.size w w'
theorem reads_two (W : World) (x y : Int) : ReadsInt (W.alloc (.cells #[.int .u8 x, .int .u8 y] 5)) .u8 (some ⟨W.heap.size, 0, none⟩) 2 [x, y] := by
  have ho := own_lit W W.heap.size 5 .u8 [x, y] (Nat.le_refl _) (by simp)
  obtain ⟨A, c, h1, _, h2⟩ := own_reads' ho
  injection h1 with h1 _ _
  subst h1
  exact h2
set_option maxHeartbeats 3200000 in
set_option maxRecDepth 100000 in
theorem lent8_calls (A : Option Addr) (c : Nat) (bs : List Int) (w : World) (hr : ReadsInt w .u8 A bs.length bs) (hc : bs.length ≤ c) (hl : bs.length ≤ 140737488351232) :
    Calls Try.prog 12 #[.slice A bs.length c] w (Lent8Post bs w) := by
  obtain ⟨ti, hti, hte⟩ := Option.map_eq_some_iff.1 info_u8
  simp only [Prod.mk.injEq] at hte
  obtain ⟨z1, z2, z3⟩ := hte
  have hmk : ∀ W : World, (Instr.makeSlice 24 (.int .i64 0) (.int .i64 ((bs.length : Int) + 2))).run Try.prog W = .ok (.slice (some ⟨W.heap.size, 0, none⟩) 0 (bs.length + 2)) (W.alloc (.cells (madeCells (Value.int .u8 0).cells ((bs.length + 2) * ti.size)) 5)) := fun W => by
    have h := run_make (P := Try.prog) W 24 5 ti (.int .u8 0) Try.underlying24 hti z1 .i64 .i64 0 ((bs.length : Int) + 2) (by omega) (by omega) (by rw [z3]; omega) (by omega)
    have e1 : ((bs.length : Int) + 2).toNat = bs.length + 2 := by omega
    rw [e1] at h
    exact h
  have HO := Aside0.mk (World.ownsRow_made (base := w.heap.size) (e := 5) (size := 1) w (madeCells (Value.int .u8 0).cells ((bs.length + 2) * ti.size)) (bs.length + 2) (Nat.le_refl _) (by simp only [maxLen]; omega) (by rw [size_madeCells, z2]))
  have HB := Aside0.mk (below1 (w := w) (.cells (madeCells (Value.int .u8 0).cells ((bs.length + 2) * ti.size)) 5))
  have HR := Aside0.mk (hr.below HB.out)
  have HTI := Aside0.mk (And.intro hti z2)
  clear hr hti z1 z2 z3
  generalize madeCells (Value.int .u8 0).cells ((bs.length + 2) * ti.size) = mc at *
  go_enter Try.func12, Try.ntmps12
  go_upto_region 2 with (at_builtin; refine wpList_append_row w.heap.size rfl (.tmp 7) (.tmp 8) 24 5 .u8 1 rfl Try.underlying24 info_u8 (by decide) (.slice (some ⟨w.heap.size, 0, none⟩) 0 (bs.length + 2)) 0 [] bs A bs.length c (by rfl) (by rfl) HO.out HR.out HB.out.size (by omega) ?_; intro v1 w1 ho1 hg1 _; simp only [Nat.zero_add, List.nil_append] at ho1; have HO1 := Aside0.mk ho1; have HB1 := Aside0.mk (HB.out.grown hg1 HB.out.size (own_base HO.out)); obtain ⟨A1, c1, rfl⟩ := own_slice ho1; clear ho1 hg1)
  have HOA := Aside0.mk ((Fr.of_below (S := fun _ => False) (below1 (w := w1) (.cells #[.int .u8 171, .int .u8 172] 5))).own HO1.out (fun _ _ h => h))
  have HBA := Aside0.mk (below_alloc HB1.out (.cells #[.int .u8 171, .int .u8 172] 5))
  go_wp2_with (at_builtin; refine wpList_append_row w.heap.size rfl (.tmp 10) (.tmp 11) 24 5 .u8 1 rfl Try.underlying24 info_u8 (by decide) (.slice A1 bs.length c1) bs.length bs [171, 172] (some ⟨w1.heap.size, 0, none⟩) 2 2 (by rfl) (by rfl) HOA.out (reads_two w1 171 172) HBA.out.size (by omega) ?_; intro v2 w2 ho2 hg2 _; have HO2 := Aside0.mk ho2; have HB2 := Aside0.mk (HBA.out.grown hg2 HBA.out.size (own_base HOA.out)); obtain ⟨A2, c2, m2, hv2, hc2, _⟩ := own_reads'' ho2; subst hv2; obtain ⟨hsl, _, _⟩ := print_take_int (P := Try.prog) (k := .u8) 24 5 Try.underlying24 HTI.out.1 HTI.out.2 A2 c2 (bs ++ [171, 172]) (bs.length : Int) (by omega) (by rw [List.length_append]; omega) (by rw [List.length_append]; exact hc2); have hxl : ((bs ++ [(171 : Int), 172]).take bs.length).length = bs.length := (by rw [List.length_take, List.length_append]; omega); have hll : (bs ++ [(171 : Int), 172]).length = bs.length + 2 := (by rw [List.length_append]; rfl); simp only [Int.toNat_natCast, hxl, hll] at hsl; have HC2 := Aside0.mk hc2; clear ho2 hg2 hxl hll hc2)
  go_ret
  rcases own_shape8 HO2.out with ⟨_, h⟩ | ⟨gl, rfl⟩
  · omega
  · exact ⟨gl, c2, rfl, HC2.out, HO2.out, own_base HO2.out gl rfl, HB2.out⟩
end Go.Proofs.Ytgmbfecfkdbfaaa.Wi
