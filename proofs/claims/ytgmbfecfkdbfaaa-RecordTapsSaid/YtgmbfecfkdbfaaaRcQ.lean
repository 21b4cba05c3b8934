/- The record laws' owned. -/
import Derived.Test.YtgmbfecfkdbfaaaRcO
set_option linter.unusedVariables false
set_option linter.unusedSimpArgs false
namespace Go.Proofs.Ytgmbfecfkdbfaaa.Wi
open Go Go.RowKit Go.Proofs.YtgmbfecfkdbfaaaW.PrintWords
theorem own_keepk {W W' : World} {B : Nat} {e : TypeId} {v : Value} {n : Nat} {xs : List Value} (h : W.ownsRow B e 1 v n xs) (hk : ∀ k, v.ownBlock = some k → W'.heap[k]? = W.heap[k]?) : W'.ownsRow B e 1 v n xs := by
  refine ⟨h.1, ?_⟩
  rcases h.2 with h2 | ⟨gb, cap, cur, rfl, h1, h2, h3⟩
  · exact .inl h2
  · exact .inr ⟨gb, cap, cur, rfl, h1, (hk gb rfl).trans h2, h3⟩
set_option maxHeartbeats 3200000 in
set_option maxRecDepth 100000 in
theorem owned8_calls (A A' : Option Addr) (c c' n n' : Nat) (xs ys : List Int) (B : Nat) (w : World) (hB : B ≤ w.heap.size) (hn : n ≤ 1000000) (h1 : w.ownsRow B 5 1 (.slice A n c) n (nums .u8 xs)) (h2 : w.ownsRow B 5 1 (.slice A' n' c') n' (nums .u8 ys)) (hd : ∀ k, (Value.slice A n c).ownBlock = some k → (Value.slice A' n' c').ownBlock ≠ some k) :
    Calls Try.prog 17 #[.slice A n c, .slice A' n' c'] w fun e w' => e = .returned (.bool true) ∧ Fr (fun i => (Value.slice A n c).ownBlock = some i) w w' := by
  have H1 := Aside0.mk h1
  have H2 := Aside0.mk h2
  have HD := Aside0.mk hd
  have HBS := Aside0.mk hB
  have rd2 : ∀ W : World, W.ownsRow B 5 1 (.slice A' n' c') n' (nums .u8 ys) → ReadsInt W .u8 A' n' ys := fun W h => by
    obtain ⟨A2, c2, e, _, hr⟩ := own_reads' h
    injection e with e1 _ _
    subst e1
    exact hr
  have HRD := Aside0.mk rd2
  have k0 := string_of_reads (P := Try.prog) (c := c') Try.underlying24 Try.underlying5 Try.underlying9 (rd2 w h2)
  clear h1 h2 hd rd2 hB
  go_enter Try.func17, Try.ntmps17
  go_wp2
  clear k0
  go_loopg [6] n (fun gg s6 wr => ∃ (i : Nat) (zs : List Int), i ≤ n ∧ n - i ≤ gg ∧ s6 = .int .i64 i ∧ Aside0 (wr.ownsRow B 5 1 (.slice A n c) n (nums .u8 zs)) ∧ Aside0 (Fr (fun i => (Value.slice A n c).ownBlock = some i) w wr))
  case atStart => exact ⟨0, _, by omega, by omega, rfl, H1, ⟨Fr.refl _ _⟩⟩
  case round =>
    obtain ⟨i, zs, hi, hg, rfl, HO1, HF⟩ := hrel
    clear H1
    by_cases hlt : i < n
    · have hltz : (i : Int) < (n : Int) := by omega
      obtain ⟨b, rfl⟩ : ∃ b, A = some ⟨b, 0, none⟩ := by
        rcases own_shape8 HO1.out with ⟨_, h⟩ | h
        · omega
        · exact h
      have HA := own_at HO1.out (i : Int) (by omega) hltz
      simp only [Int.toNat_natCast] at HA
      obtain ⟨cc, cf⟩ := HA
      have HST := Aside0.mk (fun x : Int => own_store HO1.out (i : Int) x)
      simp only [Int.toNat_natCast] at HST
      have HFR := Aside0.mk (fun x : Int => HF.out.set_ (p := ⟨b, i, none⟩) (.inl rfl) (.int .u8 x))
      go_wp2
      go_roundg (n - (i + 1))
      case measure => omega
      case rel => exact ⟨i + 1, _, by omega, by omega, by go_num, ⟨(HST.out _).1⟩, ⟨HFR.out _⟩⟩
    · have hltz : ¬ (i : Int) < (n : Int) := by omega
      have HB1 := Aside0.mk (show B ≤ wr.heap.size from Nat.le_trans HBS.out HF.out.size)
      have HOA := Aside0.mk ((Fr.of_below (S := fun _ => False) (below1 (w := wr) (.cells #[.int .u8 1, .int .u8 2] 5))).own HO1.out (fun _ _ h => h))
      go_wp2_with (at_builtin; refine wpList_append_row B rfl (.tmp 23) (.tmp 24) 24 5 .u8 1 rfl Try.underlying24 info_u8 (by decide) (.slice A n c) n zs [1, 2] (some ⟨wr.heap.size, 0, none⟩) 2 2 (by rfl) (by rfl) HOA.out (reads_two wr 1 2) (Nat.le_trans HB1.out (below1 _).size) (by omega) ?_; intro v2 w2 ho2 hg2 _; have HF2 := Aside0.mk ((HF.out.then_below (below1 (.cells #[.int .u8 1, .int .u8 2] 5))).grown hg2 (fun k hk => .inl hk)); obtain ⟨A2, c2, hv2⟩ := own_slice ho2; subst hv2; have h22 := HRD.out w2 (own_keepk H2.out (fun k hk => HF2.out.block k (own_lt H2.out k hk) (fun e => HD.out k e hk))); have k2 := string_of_reads (P := Try.prog) (c := c') Try.underlying24 Try.underlying5 Try.underlying9 h22; clear ho2 hg2 h22)
      go_ret
      exact ⟨by first | rfl | (simp; done) | (simp; omega), HF2.out⟩
end Go.Proofs.Ytgmbfecfkdbfaaa.Wi
