/- The document's entries and accounts as bytes. -/
import Derived.Test.YtgmbfecfkdbfaaaMRecordMoney5
set_option linter.unusedVariables false
set_option linter.unusedSimpArgs false
namespace Go.Proofs.Ytgmbfecfkdbfaaa.Wi
open Go Go.RowKit Go.Proofs.YtgmbfecfkdbfaaaW.PrintWords
def Entry.FPost (t : Entry) (w : World) (e : Ending) (w' : World) : Prop := ∃ A c, e = .returned (.tuple #[.slice A t.out.length c, .int .i64 t.err]) ∧ ReadsInt w' .u8 A t.out.length t.out ∧ Below w.heap.size w w'
set_option maxHeartbeats 8000000 in
set_option maxRecDepth 100000 in
theorem refEntry_calls (t : Entry) (ht : t.Ok) (w : World) : Calls Try.prog 22 #[t.val] w (Entry.FPost t w) := by
  have HTR := Aside0.mk (fun W => rEntryRight_calls t W)
  have HPT : Aside0 (t.put = Entry.putS ⟨[], false⟩ t) := ⟨rfl⟩
  obtain ⟨⟨_, k_n0⟩, k_n1, ⟨_, k_n2⟩⟩ := ht
  obtain ⟨r, hr⟩ : ∃ r, t.right = r := ⟨_, rfl⟩
  have HO : Aside0 (Entry.FPost t w = fun e w' => ∃ A c, e = .returned (.tuple #[.slice A (if r = true then t.put.out else []).length c, .int .i64 (if r = true then t.put.err else 80)]) ∧ ReadsInt w' .u8 A (if r = true then t.put.out else []).length (if r = true then t.put.out else []) ∧ Below w.heap.size w w') := ⟨by unfold Entry.FPost Entry.out Entry.err; rw [hr]⟩
  rw [HO.out]
  rw [hr] at HTR
  clear HO hr
  obtain ⟨n0, n1, n2, n3⟩ := t
  simp only at k_n0 k_n1 k_n2 HPT
  generalize Entry.put ⟨n0, n1, n2, n3⟩ = sp at *
  unfold Entry.putS at HPT
  unfold Entry.val at HTR ⊢
  simp only at HTR HPT ⊢
  have L0 := putNum_len (⟨[], false⟩ : WS) n0 4
  have L1 := putFix_len ((⟨[], false⟩ : WS).put (pNumber n0 4)) n1
  have L2 := putInt_len (((⟨[], false⟩ : WS).put (pNumber n0 4)).put (pFixed n1 8)) n2
  have L3 := putBool_len ((((⟨[], false⟩ : WS).put (pNumber n0 4)).put (pFixed n1 8)).put (pInt n2)) n3
  have LZ : (⟨[], false⟩ : WS).xs.length = 0 := rfl
  have HL := Aside0.mk (And.intro LZ (And.intro L0 (And.intro L1 (And.intro L2 L3))))
  clear LZ L0 L1 L2 L3
  have qt := two_0 w (.cells #[.int .i64 n0, .string n1, .int .i64 n2, .bool n3] 40) (.cells #[.slice none 0 0, .bool false] 81)
  have qw := two_1 w (.cells #[.int .i64 n0, .string n1, .int .i64 n2, .bool n3] 40) (.cells #[.slice none 0 0, .bool false] 81)
  have HB2 := Aside0.mk (below2 (w := w) (.cells #[.int .i64 n0, .string n1, .int .i64 n2, .bool n3] 40) (.cells #[.slice none 0 0, .bool false] 81))
  have H0 := Aside0.mk (show OV ((w.alloc (.cells #[.int .i64 n0, .string n1, .int .i64 n2, .bool n3] 40)).alloc (.cells #[.slice none 0 0, .bool false] 81)) ((w.alloc (.cells #[.int .i64 n0, .string n1, .int .i64 n2, .bool n3] 40)).alloc (.cells #[.slice none 0 0, .bool false] 81)) w.heap.size (w.heap.size + 1) none ⟨[], false⟩ from ⟨HB2.out.size, none, ⟨⟨_, qw, own_nil _ _ _ _, rfl⟩, by omega⟩, .inl rfl, Fr.refl _ _⟩)
  have HK : Aside0 (∀ W, Fr (WrS (w.heap.size + 1) none) ((w.alloc (.cells #[.int .i64 n0, .string n1, .int .i64 n2, .bool n3] 40)).alloc (.cells #[.slice none 0 0, .bool false] 81)) W → W.heap[w.heap.size]? = some (.cells #[.int .i64 n0, .string n1, .int .i64 n2, .bool n3] 40 (0, 0))) := ⟨fun W hf => hf.blk qt (fun h => h.elim (fun e => by omega) (fun e => nomatch e))⟩
  clear qt qw
  go_enter Try.func22, Try.ntmps22
  cases r with
  | false =>
    go_wp2_with (first | (go_at_call 43; (with_reducible refine (OV.call H0.out (fun ro hw hB => vNumber_calls n0 4 k_n0 hw hB (by have := HL.out; omega))).mono ?_); rintro e w1 ⟨rfl, H1'⟩; have H1 := Aside0.mk H1'; have q1 := HK.out _ H1'.fr; have e0 : _ = some (Value.int .i64 n0) := blk_cell q1 0; have e1 : _ = some (Value.string n1) := blk_cell q1 1; have e2 : _ = some (Value.int .i64 n2) := blk_cell q1 2; have e3 : _ = some (Value.bool n3) := blk_cell q1 3; clear H1') | (go_at_call 44; (with_reducible refine (OV.call H1.out (fun ro hw hB => vFixed_calls n1 8 k_n1 hw hB (by have := HL.out; omega))).mono ?_); rintro e w2 ⟨rfl, H2'⟩; have H2 := Aside0.mk H2'; have q2 := HK.out _ H2'.fr; have e0 : _ = some (Value.int .i64 n0) := blk_cell q2 0; have e1 : _ = some (Value.string n1) := blk_cell q2 1; have e2 : _ = some (Value.int .i64 n2) := blk_cell q2 2; have e3 : _ = some (Value.bool n3) := blk_cell q2 3; clear H2') | (go_at_call 63; (with_reducible refine (OV.call H2.out (fun ro hw hB => vInt_calls n2 hw hB (by have := HL.out; omega))).mono ?_); rintro e w3 ⟨rfl, H3'⟩; have H3 := Aside0.mk H3'; have q3 := HK.out _ H3'.fr; have e0 : _ = some (Value.int .i64 n0) := blk_cell q3 0; have e1 : _ = some (Value.string n1) := blk_cell q3 1; have e2 : _ = some (Value.int .i64 n2) := blk_cell q3 2; have e3 : _ = some (Value.bool n3) := blk_cell q3 3; clear H3') | (go_at_call 64; (with_reducible refine (OV.call H3.out (fun ro hw hB => vBool_calls n3 hw hB (by have := HL.out; omega))).mono ?_); rintro e w4 ⟨rfl, H4'⟩; have H4 := Aside0.mk H4'; have q4 := HK.out _ H4'.fr; have e0 : _ = some (Value.int .i64 n0) := blk_cell q4 0; have e1 : _ = some (Value.string n1) := blk_cell q4 1; have e2 : _ = some (Value.int .i64 n2) := blk_cell q4 2; have e3 : _ = some (Value.bool n3) := blk_cell q4 3; clear H4') | (go_at_call 65; refine (HTR.out _).mono ?_; rintro e wr ⟨rfl, hbr⟩; have HR := Aside0.mk (H4.out.then_ hbr); clear hbr) | (go_at_call 45; refine (told_no _ _).mono ?_; rintro e wt ⟨rfl, rfl⟩))
    go_ret2
    refine ⟨none, ⟨0, by simp⟩, ?_, ?_⟩
    · exact ⟨rfl, by simp, fun h => absurd h (by simp)⟩
    · exact HB2.out.trans (HR.out.fr.below HB2.out.size (fun i hi => hi.elim (fun e => by omega) (fun e => nomatch e)))
  | true =>
    go_wp2_with (first | (go_at_call 43; (with_reducible refine (OV.call H0.out (fun ro hw hB => vNumber_calls n0 4 k_n0 hw hB (by have := HL.out; omega))).mono ?_); rintro e w1 ⟨rfl, H1'⟩; have H1 := Aside0.mk H1'; have q1 := HK.out _ H1'.fr; have e0 : _ = some (Value.int .i64 n0) := blk_cell q1 0; have e1 : _ = some (Value.string n1) := blk_cell q1 1; have e2 : _ = some (Value.int .i64 n2) := blk_cell q1 2; have e3 : _ = some (Value.bool n3) := blk_cell q1 3; clear H1') | (go_at_call 44; (with_reducible refine (OV.call H1.out (fun ro hw hB => vFixed_calls n1 8 k_n1 hw hB (by have := HL.out; omega))).mono ?_); rintro e w2 ⟨rfl, H2'⟩; have H2 := Aside0.mk H2'; have q2 := HK.out _ H2'.fr; have e0 : _ = some (Value.int .i64 n0) := blk_cell q2 0; have e1 : _ = some (Value.string n1) := blk_cell q2 1; have e2 : _ = some (Value.int .i64 n2) := blk_cell q2 2; have e3 : _ = some (Value.bool n3) := blk_cell q2 3; clear H2') | (go_at_call 63; (with_reducible refine (OV.call H2.out (fun ro hw hB => vInt_calls n2 hw hB (by have := HL.out; omega))).mono ?_); rintro e w3 ⟨rfl, H3'⟩; have H3 := Aside0.mk H3'; have q3 := HK.out _ H3'.fr; have e0 : _ = some (Value.int .i64 n0) := blk_cell q3 0; have e1 : _ = some (Value.string n1) := blk_cell q3 1; have e2 : _ = some (Value.int .i64 n2) := blk_cell q3 2; have e3 : _ = some (Value.bool n3) := blk_cell q3 3; clear H3') | (go_at_call 64; (with_reducible refine (OV.call H3.out (fun ro hw hB => vBool_calls n3 hw hB (by have := HL.out; omega))).mono ?_); rintro e w4 ⟨rfl, H4'⟩; have H4 := Aside0.mk H4'; have q4 := HK.out _ H4'.fr; have e0 : _ = some (Value.int .i64 n0) := blk_cell q4 0; have e1 : _ = some (Value.string n1) := blk_cell q4 1; have e2 : _ = some (Value.int .i64 n2) := blk_cell q4 2; have e3 : _ = some (Value.bool n3) := blk_cell q4 3; clear H4') | (go_at_call 65; refine (HTR.out _).mono ?_; rintro e wr ⟨rfl, hbr⟩; have HR := Aside0.mk (H4.out.then_ hbr); clear hbr) | (go_at_call 45; refine (told_yes HR.out.2.choose_spec.1 (by have := HL.out; omega)).mono ?_; rintro e wt ⟨A, c, rfl, hrt, hbt⟩))
    go_ret2
    have hbw := HB2.out.trans (HR.out.fr.below HB2.out.size (fun i hi => hi.elim (fun e => by omega) (fun e => nomatch e)))
    simp only [↓reduceIte]
    rw [HPT.out]
    exact ⟨A, ⟨c, rfl⟩, hrt, below_then hbw hbw.size hbt⟩
def Account.FPost (t : Account) (w : World) (e : Ending) (w' : World) : Prop := ∃ A c, e = .returned (.tuple #[.slice A t.out.length c, .int .i64 t.err]) ∧ ReadsInt w' .u8 A t.out.length t.out ∧ Below w.heap.size w w'
set_option maxHeartbeats 8000000 in
set_option maxRecDepth 100000 in
theorem refAccount_calls (t : Account) (ht : t.Ok) (w : World) : Calls Try.prog 23 #[t.val] w (Account.FPost t w) := by
  have HTR := Aside0.mk (fun W => rAccountRight_calls t W)
  have HPT : Aside0 (t.put = Account.putS ⟨[], false⟩ t) := ⟨rfl⟩
  obtain ⟨k_n0, ⟨_, k_n1⟩, ⟨_, k_n2⟩⟩ := ht
  obtain ⟨r, hr⟩ : ∃ r, t.right = r := ⟨_, rfl⟩
  have HO : Aside0 (Account.FPost t w = fun e w' => ∃ A c, e = .returned (.tuple #[.slice A (if r = true then t.put.out else []).length c, .int .i64 (if r = true then t.put.err else 80)]) ∧ ReadsInt w' .u8 A (if r = true then t.put.out else []).length (if r = true then t.put.out else []) ∧ Below w.heap.size w w') := ⟨by unfold Account.FPost Account.out Account.err; rw [hr]⟩
  rw [HO.out]
  rw [hr] at HTR
  clear HO hr
  obtain ⟨n0, n1, n2⟩ := t
  simp only at k_n0 k_n1 k_n2 HPT
  generalize Account.put ⟨n0, n1, n2⟩ = sp at *
  unfold Account.putS at HPT
  unfold Account.val at HTR ⊢
  simp only at HTR HPT ⊢
  have L0 := putFix_len (⟨[], false⟩ : WS) n0
  have L1 := putNum_len ((⟨[], false⟩ : WS).put (pFixed n0 8)) n1 8
  have L2 := putNum_len (((⟨[], false⟩ : WS).put (pFixed n0 8)).put (pNumber n1 8)) n2 8
  have LZ : (⟨[], false⟩ : WS).xs.length = 0 := rfl
  have HL := Aside0.mk (And.intro LZ (And.intro L0 (And.intro L1 L2)))
  clear LZ L0 L1 L2
  have qt := two_0 w (.cells #[.string n0, .int .i64 n1, .int .i64 n2] 42) (.cells #[.slice none 0 0, .bool false] 81)
  have qw := two_1 w (.cells #[.string n0, .int .i64 n1, .int .i64 n2] 42) (.cells #[.slice none 0 0, .bool false] 81)
  have HB2 := Aside0.mk (below2 (w := w) (.cells #[.string n0, .int .i64 n1, .int .i64 n2] 42) (.cells #[.slice none 0 0, .bool false] 81))
  have H0 := Aside0.mk (show OV ((w.alloc (.cells #[.string n0, .int .i64 n1, .int .i64 n2] 42)).alloc (.cells #[.slice none 0 0, .bool false] 81)) ((w.alloc (.cells #[.string n0, .int .i64 n1, .int .i64 n2] 42)).alloc (.cells #[.slice none 0 0, .bool false] 81)) w.heap.size (w.heap.size + 1) none ⟨[], false⟩ from ⟨HB2.out.size, none, ⟨⟨_, qw, own_nil _ _ _ _, rfl⟩, by omega⟩, .inl rfl, Fr.refl _ _⟩)
  have HK : Aside0 (∀ W, Fr (WrS (w.heap.size + 1) none) ((w.alloc (.cells #[.string n0, .int .i64 n1, .int .i64 n2] 42)).alloc (.cells #[.slice none 0 0, .bool false] 81)) W → W.heap[w.heap.size]? = some (.cells #[.string n0, .int .i64 n1, .int .i64 n2] 42 (0, 0))) := ⟨fun W hf => hf.blk qt (fun h => h.elim (fun e => by omega) (fun e => nomatch e))⟩
  clear qt qw
  go_enter Try.func23, Try.ntmps23
  cases r with
  | false =>
    go_wp2_with (first | (go_at_call 44; (with_reducible refine (OV.call H0.out (fun ro hw hB => vFixed_calls n0 8 k_n0 hw hB (by have := HL.out; omega))).mono ?_); rintro e w1 ⟨rfl, H1'⟩; have H1 := Aside0.mk H1'; have q1 := HK.out _ H1'.fr; have e0 : _ = some (Value.string n0) := blk_cell q1 0; have e1 : _ = some (Value.int .i64 n1) := blk_cell q1 1; have e2 : _ = some (Value.int .i64 n2) := blk_cell q1 2; clear H1') | (go_at_call 43; (with_reducible refine (OV.call H1.out (fun ro hw hB => vNumber_calls n1 8 k_n1 hw hB (by have := HL.out; omega))).mono ?_); rintro e w2 ⟨rfl, H2'⟩; have H2 := Aside0.mk H2'; have q2 := HK.out _ H2'.fr; have e0 : _ = some (Value.string n0) := blk_cell q2 0; have e1 : _ = some (Value.int .i64 n1) := blk_cell q2 1; have e2 : _ = some (Value.int .i64 n2) := blk_cell q2 2; clear H2') | (go_at_call 43; (with_reducible refine (OV.call H2.out (fun ro hw hB => vNumber_calls n2 8 k_n2 hw hB (by have := HL.out; omega))).mono ?_); rintro e w3 ⟨rfl, H3'⟩; have H3 := Aside0.mk H3'; have q3 := HK.out _ H3'.fr; have e0 : _ = some (Value.string n0) := blk_cell q3 0; have e1 : _ = some (Value.int .i64 n1) := blk_cell q3 1; have e2 : _ = some (Value.int .i64 n2) := blk_cell q3 2; clear H3') | (go_at_call 66; refine (HTR.out _).mono ?_; rintro e wr ⟨rfl, hbr⟩; have HR := Aside0.mk (H3.out.then_ hbr); clear hbr) | (go_at_call 45; refine (told_no _ _).mono ?_; rintro e wt ⟨rfl, rfl⟩))
    go_ret2
    refine ⟨none, ⟨0, by simp⟩, ?_, ?_⟩
    · exact ⟨rfl, by simp, fun h => absurd h (by simp)⟩
    · exact HB2.out.trans (HR.out.fr.below HB2.out.size (fun i hi => hi.elim (fun e => by omega) (fun e => nomatch e)))
  | true =>
    go_wp2_with (first | (go_at_call 44; (with_reducible refine (OV.call H0.out (fun ro hw hB => vFixed_calls n0 8 k_n0 hw hB (by have := HL.out; omega))).mono ?_); rintro e w1 ⟨rfl, H1'⟩; have H1 := Aside0.mk H1'; have q1 := HK.out _ H1'.fr; have e0 : _ = some (Value.string n0) := blk_cell q1 0; have e1 : _ = some (Value.int .i64 n1) := blk_cell q1 1; have e2 : _ = some (Value.int .i64 n2) := blk_cell q1 2; clear H1') | (go_at_call 43; (with_reducible refine (OV.call H1.out (fun ro hw hB => vNumber_calls n1 8 k_n1 hw hB (by have := HL.out; omega))).mono ?_); rintro e w2 ⟨rfl, H2'⟩; have H2 := Aside0.mk H2'; have q2 := HK.out _ H2'.fr; have e0 : _ = some (Value.string n0) := blk_cell q2 0; have e1 : _ = some (Value.int .i64 n1) := blk_cell q2 1; have e2 : _ = some (Value.int .i64 n2) := blk_cell q2 2; clear H2') | (go_at_call 43; (with_reducible refine (OV.call H2.out (fun ro hw hB => vNumber_calls n2 8 k_n2 hw hB (by have := HL.out; omega))).mono ?_); rintro e w3 ⟨rfl, H3'⟩; have H3 := Aside0.mk H3'; have q3 := HK.out _ H3'.fr; have e0 : _ = some (Value.string n0) := blk_cell q3 0; have e1 : _ = some (Value.int .i64 n1) := blk_cell q3 1; have e2 : _ = some (Value.int .i64 n2) := blk_cell q3 2; clear H3') | (go_at_call 66; refine (HTR.out _).mono ?_; rintro e wr ⟨rfl, hbr⟩; have HR := Aside0.mk (H3.out.then_ hbr); clear hbr) | (go_at_call 45; refine (told_yes HR.out.2.choose_spec.1 (by have := HL.out; omega)).mono ?_; rintro e wt ⟨A, c, rfl, hrt, hbt⟩))
    go_ret2
    have hbw := HB2.out.trans (HR.out.fr.below HB2.out.size (fun i hi => hi.elim (fun e => by omega) (fun e => nomatch e)))
    simp only [↓reduceIte]
    rw [HPT.out]
    exact ⟨A, ⟨c, rfl⟩, hrt, below_then hbw hbw.size hbt⟩
end Go.Proofs.Ytgmbfecfkdbfaaa.Wi
/- The document's entries and accounts out of bytes. -/
set_option linter.unusedVariables false
set_option linter.unusedSimpArgs false
namespace Go.Proofs.Ytgmbfecfkdbfaaa.Wi
open Go Go.RowKit Go.Proofs.YtgmbfecfkdbfaaaW.PrintWords
/-- the document's reader and what it has laid down -/
structure OXT (W1 W : World) (gx bt : Nat) (T : TypeId) (A : Option Addr) (c : Nat) (bs : List Int) (cs : Array Value) (r : RS) : Prop where
  xr : XR W gx A c bs r
  blk : W.heap[bt]? = some (.cells cs T (0, 0))
  fr : Fr (fun i => i = gx ∨ i = bt) W1 W
theorem OXT.step {W1 W W' : World} {gx bt : Nat} {T : TypeId} {A : Option Addr} {c : Nat} {bs : List Int} {cs cs' : Array Value} {r r' : RS} (h : OXT W1 W gx bt T A c bs cs r) (hx : XR W' gx A c bs r') (hf : Fr (fun i => i = gx) W W') (k : Nat) (u : Value) (hfb : bt ≠ gx ∧ ∀ ad, A = some ad → 0 < bs.length → ad.block ≠ bt) (e : cs.setIfInBounds k u = cs') : OXT W1 (W'.setCell ⟨bt, k, none⟩ u) gx bt T A c bs cs' r' := by
  have hq := hf.blk h.blk hfb.1
  exact ⟨hx.far_ hfb.1 hfb.2 k u, blk_put hq k u e, ((h.fr.trans (hf.mono (S' := fun i => i = gx ∨ i = bt) (fun i _ h => .inl h)) (fun _ _ h => h))).set_ (p := ⟨bt, k, none⟩) (.inl (.inr rfl)) u⟩
set_option maxHeartbeats 8000000 in
set_option maxRecDepth 100000 in
theorem refReadEntry_calls (A : Option Addr) (c : Nat) (bs : List Int) (w : World) (hr : ReadsInt w .u8 A bs.length bs) (hc : bs.length ≤ c) (hby : Bytes bs) (hl : bs.length ≤ 140737488355328) :
    Calls Try.prog 26 #[.slice A bs.length c] w (Entry.RPost bs w) := by
  have hb4 : Below w.heap.size w ((((w.alloc (.cells #[.int .i64 0, .string ⟨#[]⟩, .int .i64 0, .bool false] 40)).alloc (.cells #[.int .i64 0, .int .i64 0] 31)).alloc (.cells #[.slice A bs.length c, .int .i64 0, .int .i64 0, .int .i64 0, .int .i64 0] 89)).alloc (.cells #[.int .i64 0, .string ⟨#[]⟩, .int .i64 0, .bool false] 40)) := below_alloc (below_alloc (below_alloc (below_alloc (Below.refl _ _) _) _) _) _
  have s1 : (w.alloc (.cells #[.int .i64 0, .string ⟨#[]⟩, .int .i64 0, .bool false] 40)).heap.size = w.heap.size + 1 := by simp
  have s2 : ((w.alloc (.cells #[.int .i64 0, .string ⟨#[]⟩, .int .i64 0, .bool false] 40)).alloc (.cells #[.int .i64 0, .int .i64 0] 31)).heap.size = w.heap.size + 1 + 1 := by simp
  have s3 : (((w.alloc (.cells #[.int .i64 0, .string ⟨#[]⟩, .int .i64 0, .bool false] 40)).alloc (.cells #[.int .i64 0, .int .i64 0] 31)).alloc (.cells #[.slice A bs.length c, .int .i64 0, .int .i64 0, .int .i64 0, .int .i64 0] 89)).heap.size = w.heap.size + 1 + 1 + 1 := by simp
  have q6 : ((((w.alloc (.cells #[.int .i64 0, .string ⟨#[]⟩, .int .i64 0, .bool false] 40)).alloc (.cells #[.int .i64 0, .int .i64 0] 31)).alloc (.cells #[.slice A bs.length c, .int .i64 0, .int .i64 0, .int .i64 0, .int .i64 0] 89)).alloc (.cells #[.int .i64 0, .string ⟨#[]⟩, .int .i64 0, .bool false] 40)).heap[w.heap.size]? = some _ := blk_b (blk_b (blk_b (heap_alloc_new w (.cells #[.int .i64 0, .string ⟨#[]⟩, .int .i64 0, .bool false] 40)) (below1 (.cells #[.int .i64 0, .int .i64 0] 31))) (below1 (.cells #[.slice A bs.length c, .int .i64 0, .int .i64 0, .int .i64 0, .int .i64 0] 89))) (below1 (.cells #[.int .i64 0, .string ⟨#[]⟩, .int .i64 0, .bool false] 40))
  have q7 : ((((w.alloc (.cells #[.int .i64 0, .string ⟨#[]⟩, .int .i64 0, .bool false] 40)).alloc (.cells #[.int .i64 0, .int .i64 0] 31)).alloc (.cells #[.slice A bs.length c, .int .i64 0, .int .i64 0, .int .i64 0, .int .i64 0] 89)).alloc (.cells #[.int .i64 0, .string ⟨#[]⟩, .int .i64 0, .bool false] 40)).heap[w.heap.size + 1]? = some _ := s1 ▸ blk_b (blk_b (heap_alloc_new (w.alloc (.cells #[.int .i64 0, .string ⟨#[]⟩, .int .i64 0, .bool false] 40)) (.cells #[.int .i64 0, .int .i64 0] 31)) (below1 (.cells #[.slice A bs.length c, .int .i64 0, .int .i64 0, .int .i64 0, .int .i64 0] 89))) (below1 (.cells #[.int .i64 0, .string ⟨#[]⟩, .int .i64 0, .bool false] 40))
  have q8 : ((((w.alloc (.cells #[.int .i64 0, .string ⟨#[]⟩, .int .i64 0, .bool false] 40)).alloc (.cells #[.int .i64 0, .int .i64 0] 31)).alloc (.cells #[.slice A bs.length c, .int .i64 0, .int .i64 0, .int .i64 0, .int .i64 0] 89)).alloc (.cells #[.int .i64 0, .string ⟨#[]⟩, .int .i64 0, .bool false] 40)).heap[w.heap.size + 1 + 1]? = some _ := s2 ▸ blk_b (heap_alloc_new ((w.alloc (.cells #[.int .i64 0, .string ⟨#[]⟩, .int .i64 0, .bool false] 40)).alloc (.cells #[.int .i64 0, .int .i64 0] 31)) (.cells #[.slice A bs.length c, .int .i64 0, .int .i64 0, .int .i64 0, .int .i64 0] 89)) (below1 (.cells #[.int .i64 0, .string ⟨#[]⟩, .int .i64 0, .bool false] 40))
  have q9 : ((((w.alloc (.cells #[.int .i64 0, .string ⟨#[]⟩, .int .i64 0, .bool false] 40)).alloc (.cells #[.int .i64 0, .int .i64 0] 31)).alloc (.cells #[.slice A bs.length c, .int .i64 0, .int .i64 0, .int .i64 0, .int .i64 0] 89)).alloc (.cells #[.int .i64 0, .string ⟨#[]⟩, .int .i64 0, .bool false] 40)).heap[w.heap.size + 1 + 1 + 1]? = some _ := s3 ▸ heap_alloc_new (((w.alloc (.cells #[.int .i64 0, .string ⟨#[]⟩, .int .i64 0, .bool false] 40)).alloc (.cells #[.int .i64 0, .int .i64 0] 31)).alloc (.cells #[.slice A bs.length c, .int .i64 0, .int .i64 0, .int .i64 0, .int .i64 0] 89)) (.cells #[.int .i64 0, .string ⟨#[]⟩, .int .i64 0, .bool false] 40)
  have hfar : ∀ ad, A = some ad → 0 < bs.length → ad.block < w.heap.size := fun ad ea hn => by
    obtain ⟨ad', e', hcell⟩ := hr.2.2 hn
    rw [ea] at e'
    obtain rfl := Option.some.inj e'
    have := World.block_lt_of_cell? w _ (hcell 0 hn)
    rwa [add_block] at this
  obtain ⟨⟨m0, r1⟩, e0⟩ : ∃ p, rNum bs ⟨0, 0, 0, 0⟩ 4 = p := ⟨_, rfl⟩
  obtain ⟨⟨my1, r2⟩, e1⟩ : ∃ p, rFix bs r1 8 = p := ⟨_, rfl⟩
  obtain ⟨⟨m2, r3⟩, e2⟩ : ∃ p, rInt bs r2 = p := ⟨_, rfl⟩
  obtain ⟨⟨m3, r4⟩, e3⟩ : ∃ p, rBoo bs r3 = p := ⟨_, rfl⟩
  have HTP : Aside0 (Entry.readS bs ⟨0, 0, 0, 0⟩ = (⟨m0, (strOfNums my1), m2, m3⟩, r4)) := ⟨by simp [Entry.readS, e0, e1, e2, e3]⟩
  have C0 := Aside0.mk (fun (W : World) (h : XR W (w.heap.size + 1 + 1) A c bs ⟨0, 0, 0, 0⟩) => xNum_calls 4 h)
  have C1 := Aside0.mk (fun (W : World) (h : XR W (w.heap.size + 1 + 1) A c bs r1) => xFix_calls 8 h)
  have C2 := Aside0.mk (fun (W : World) (h : XR W (w.heap.size + 1 + 1) A c bs r2) => xInt_calls h)
  have C3 := Aside0.mk (fun (W : World) (h : XR W (w.heap.size + 1 + 1) A c bs r3) => xBoo_calls h)
  rw [e0] at C0
  rw [e1] at C1
  rw [e2] at C2
  rw [e3] at C3
  simp only at C0 C1 C2 C3
  have H0 := Aside0.mk (show OXT ((((w.alloc (.cells #[.int .i64 0, .string ⟨#[]⟩, .int .i64 0, .bool false] 40)).alloc (.cells #[.int .i64 0, .int .i64 0] 31)).alloc (.cells #[.slice A bs.length c, .int .i64 0, .int .i64 0, .int .i64 0, .int .i64 0] 89)).alloc (.cells #[.int .i64 0, .string ⟨#[]⟩, .int .i64 0, .bool false] 40)) ((((w.alloc (.cells #[.int .i64 0, .string ⟨#[]⟩, .int .i64 0, .bool false] 40)).alloc (.cells #[.int .i64 0, .int .i64 0] 31)).alloc (.cells #[.slice A bs.length c, .int .i64 0, .int .i64 0, .int .i64 0, .int .i64 0] 89)).alloc (.cells #[.int .i64 0, .string ⟨#[]⟩, .int .i64 0, .bool false] 40)) (w.heap.size + 1 + 1) (w.heap.size + 1 + 1 + 1) 40 A c bs #[.int .i64 0, .string ⟨#[]⟩, .int .i64 0, .bool false] ⟨0, 0, 0, 0⟩ from ⟨⟨q8, hr.below hb4, fun ad ea hn => by have := hfar ad ea hn; omega, Nat.zero_le _, hl, hby, hc⟩, q9, Fr.refl _ _⟩)
  have HFB : Aside0 (w.heap.size + 1 + 1 + 1 ≠ w.heap.size + 1 + 1 ∧ ∀ ad, A = some ad → 0 < bs.length → ad.block ≠ w.heap.size + 1 + 1 + 1) := ⟨⟨by omega, fun ad ea hn => by have := hfar ad ea hn; omega⟩⟩
  have HNE : Aside0 (w.heap.size + 1 + 1 + 1 ≠ w.heap.size + 1 + 1) := ⟨by omega⟩
  have HQ6 := Aside0.mk q6
  have HQ7 := Aside0.mk q7
  have HB4 := Aside0.mk hb4
  clear hb4 s1 s2 s3 q6 q7 q8 q9 hfar e0 e1 e2 e3 hr hby
  go_enter Try.func26, Try.ntmps26
  go_upto_region 3 with (fail)
  generalize ((((w.alloc (.cells #[.int .i64 0, .string ⟨#[]⟩, .int .i64 0, .bool false] 40)).alloc (.cells #[.int .i64 0, .int .i64 0] 31)).alloc (.cells #[.slice A bs.length c, .int .i64 0, .int .i64 0, .int .i64 0, .int .i64 0] 89)).alloc (.cells #[.int .i64 0, .string ⟨#[]⟩, .int .i64 0, .bool false] 40)) = W4 at *
  go_upto_region 7 with (first | (go_at_call 48; (with_reducible refine (C0.out _ H0.out.xr).mono ?_); rintro e w1 ⟨rfl, x1, f1⟩; have H1 := Aside0.mk (show OXT W4 (w1.setCell ⟨w.heap.size + 1 + 1 + 1, 0, none⟩ (.int .i64 m0)) (w.heap.size + 1 + 1) (w.heap.size + 1 + 1 + 1) 40 A c bs #[.int .i64 m0, .string ⟨#[]⟩, .int .i64 0, .bool false] r1 from OXT.step H0.out x1 f1 0 (.int .i64 m0) HFB.out rfl); have q1 := f1.blk H0.out.blk HNE.out; have cc1 := (blk_cell q1 0).trans rfl; have zz1 := blk_frozen q1 0; clear x1 f1 q1) | (go_at_call 49; (with_reducible refine (C1.out _ H1.out.xr).mono ?_); rintro e w2 ⟨rfl, x2, f2⟩; have H2 := Aside0.mk (show OXT W4 (w2.setCell ⟨w.heap.size + 1 + 1 + 1, 1, none⟩ (.string (strOfNums my1))) (w.heap.size + 1 + 1) (w.heap.size + 1 + 1 + 1) 40 A c bs #[.int .i64 m0, .string (strOfNums my1), .int .i64 0, .bool false] r2 from OXT.step H1.out x2 f2 1 (.string (strOfNums my1)) HFB.out rfl); have q2 := f2.blk H1.out.blk HNE.out; have cc2 := (blk_cell q2 1).trans rfl; have zz2 := blk_frozen q2 1; clear x2 f2 q2) | (go_at_call 69; (with_reducible refine (C2.out _ H2.out.xr).mono ?_); rintro e w3 ⟨rfl, x3, f3⟩; have H3 := Aside0.mk (show OXT W4 (w3.setCell ⟨w.heap.size + 1 + 1 + 1, 2, none⟩ (.int .i64 m2)) (w.heap.size + 1 + 1) (w.heap.size + 1 + 1 + 1) 40 A c bs #[.int .i64 m0, .string (strOfNums my1), .int .i64 m2, .bool false] r3 from OXT.step H2.out x3 f3 2 (.int .i64 m2) HFB.out rfl); have q3 := f3.blk H2.out.blk HNE.out; have cc3 := (blk_cell q3 2).trans rfl; have zz3 := blk_frozen q3 2; clear x3 f3 q3) | (go_at_call 70; (with_reducible refine (C3.out _ H3.out.xr).mono ?_); rintro e w4 ⟨rfl, x4, f4⟩; have H4 := Aside0.mk (show OXT W4 (w4.setCell ⟨w.heap.size + 1 + 1 + 1, 3, none⟩ (.bool m3)) (w.heap.size + 1 + 1) (w.heap.size + 1 + 1 + 1) 40 A c bs #[.int .i64 m0, .string (strOfNums my1), .int .i64 m2, .bool m3] r4 from OXT.step H3.out x4 f4 3 (.bool m3) HFB.out rfl); have q4 := f4.blk H3.out.blk HNE.out; have cc4 := (blk_cell q4 3).trans rfl; have zz4 := blk_frozen q4 3; clear x4 f4 q4))
  generalize w4.setCell ⟨w.heap.size + 1 + 1 + 1, 3, none⟩ (.bool m3) = W6 at H4 ⊢
  have v0 : _ = some (Value.int .i64 m0) := blk_cell H4.out.blk 0
  have v1 : _ = some (Value.string (strOfNums my1)) := blk_cell H4.out.blk 1
  have v2 : _ = some (Value.int .i64 m2) := blk_cell H4.out.blk 2
  have v3 : _ = some (Value.bool m3) := blk_cell H4.out.blk 3
  have HT := Aside0.mk (fun W => rEntryRight_calls ⟨m0, (strOfNums my1), m2, m3⟩ W)
  have hrt : Entry.ofBytes bs = (if (r4.end_ bs.length).code = 0 then (if (Entry.right ⟨m0, (strOfNums my1), m2, m3⟩) = true then (⟨m0, (strOfNums my1), m2, m3⟩, 0, (r4.end_ bs.length).fat) else (Entry.zero, 80, -1)) else (Entry.zero, (r4.end_ bs.length).code, (r4.end_ bs.length).fat)) := by
    unfold Entry.ofBytes
    rw [HTP.out]
  obtain ⟨rr, hrr⟩ : ∃ rr, (Entry.right ⟨m0, (strOfNums my1), m2, m3⟩) = rr := ⟨_, rfl⟩
  obtain ⟨⟨code, fat⟩, hec⟩ : ∃ p, endC r4 bs.length rr = p := ⟨_, rfl⟩
  have HRT0 : Aside0 (Entry.ofBytes bs = if code = 0 then (⟨m0, (strOfNums my1), m2, m3⟩, code, fat) else (Entry.zero, code, fat)) := ⟨by
    rw [hrt, hrr]
    unfold endC at hec
    cases rr with
    | true =>
      rw [if_neg (by simp)] at hec
      injection hec with e1 e2
      by_cases h0 : code = 0
      · rw [if_pos h0, if_pos (by rw [e1, h0]), if_pos rfl, e2, h0]
      · rw [if_neg h0, if_neg (by rw [e1]; exact h0), e1, e2]
    | false =>
      by_cases h1 : (r4.end_ bs.length).code = 0
      · rw [if_pos ⟨h1, rfl⟩] at hec
        injection hec with e1 e2
        subst e1 e2
        rw [if_pos h1]
        simp
      · rw [if_neg (fun h => h1 h.1)] at hec
        injection hec with e1 e2
        rw [if_neg h1, if_neg (by rw [← e1]; exact h1), e1, e2]⟩
  have HEC := Aside0.mk (fun (W : World) (h : XR W (w.heap.size + 1 + 1) A c bs r4) => ended_calls rr h)
  rw [hec] at HEC
  rw [hrr] at HT
  unfold Entry.val at HT
  simp only at HT HEC
  clear hrt hrr hec HTP C0 C1 C2 C3
  go_upto_region 8 with (first
    | (go_at_call 65; refine (HT.out _).mono ?_; rintro e w7 ⟨rfl, hb7⟩; have HB7 := Aside0.mk hb7; clear hb7)
    | (go_at_call 50; refine (HEC.out _ (H4.out.xr.below HB7.out)).mono ?_; rintro e w8 ⟨rfl, x8, f8⟩; have HF8 := Aside0.mk f8; clear x8 f8))
  have hz : w.heap.size + 1 < W4.heap.size := blk_lt HQ7.out
  have hb9 := below1 (w := w8) (.cells #[.int .i64 code, .int .i64 fat] 31)
  have old : ∀ k (cs : Array Value) (T : TypeId), k ≠ w.heap.size + 1 + 1 → k ≠ w.heap.size + 1 + 1 + 1 → W4.heap[k]? = some (.cells cs T (0, 0)) → (w8.alloc (.cells #[.int .i64 code, .int .i64 fat] 31)).heap[k]? = some (.cells cs T (0, 0)) := fun k cs T h1 h2 h3 => blk_b (HF8.out.blk (blk_b (H4.out.fr.blk h3 (fun h => h.elim h1 h2)) HB7.out) h1) hb9
  have HG := Aside0.mk (And.intro (old _ _ _ (by omega) (by omega) HQ6.out) (And.intro (old _ _ _ (by omega) (by omega) HQ7.out) (And.intro (blk_b (HF8.out.blk (blk_b H4.out.blk HB7.out) HNE.out) hb9) (heap_alloc_new w8 (.cells #[.int .i64 code, .int .i64 fat] 31)))))
  have HW9 := Aside0.mk (show Below w.heap.size w (w8.alloc (.cells #[.int .i64 code, .int .i64 fat] 31)) from by
    have h1 := HB4.out.size
    have h2 := H4.out.fr.size
    have h3 := HB7.out.size
    have h4 := HF8.out.size
    exact below_alloc (((HB4.out.trans (H4.out.fr.below h1 (fun i hi => by rcases hi with e | e <;> omega))).trans ⟨HB7.out.os, HB7.out.tape, HB7.out.output, HB7.out.size, fun i hi => HB7.out.block i (by omega)⟩).trans (HF8.out.below (by omega) (fun i hi => by omega))) _)
  have hgf : w.heap.size + 1 + 1 + 1 < w8.heap.size := by
    have h1 := blk_lt H0.out.blk
    have h2 := H4.out.fr.size
    have h3 := HB7.out.size
    have h4 := HF8.out.size
    omega
  clear old hb9 hz v0 v1 v2 v3 H0 H1 H2 H3 H4 HF8 HB7 HQ6 HQ7 HB4
  generalize w8.alloc (.cells #[.int .i64 code, .int .i64 fat] 31) = w9 at *
  generalize w8.heap.size = gf at *
  have f0 : _ = some (Value.int .i64 code) := blk_cell HG.out.2.2.2 0
  have f1 : _ = some (Value.int .i64 fat) := blk_cell HG.out.2.2.2 1
  by_cases hc0 : code = 0
  case neg =>
    have hcn : (code != 0) = true := bne_iff_ne.2 hc0
    have HRT : Aside0 (Entry.ofBytes bs = (Entry.zero, code, fat)) := ⟨by rw [HRT0.out, if_neg hc0]⟩
    clear HRT0 hc0
    go_wp2
    have p0 : _ = some (Value.int .i64 0) := blk_cell HG.out.1 0
    have z0 := blk_frozen HG.out.1 0
    have p1 : _ = some (Value.string ⟨#[]⟩) := blk_cell HG.out.1 1
    have z1 := blk_frozen HG.out.1 1
    have p2 : _ = some (Value.int .i64 0) := blk_cell HG.out.1 2
    have z2 := blk_frozen HG.out.1 2
    have p3 : _ = some (Value.bool false) := blk_cell HG.out.1 3
    have z3 := blk_frozen HG.out.1 3
    have t0 : _ = some (Value.int .i64 0) := blk_cell HG.out.2.1 0
    have y0 := blk_frozen HG.out.2.1 0
    have t1 : _ = some (Value.int .i64 0) := blk_cell HG.out.2.1 1
    have y1 := blk_frozen HG.out.2.1 1
    go_region
    generalize hWE : World.drew _ = WE
    obtain ⟨k0, k1, k2, k3, l0, l1, hbl⟩ := Entry.fin HG.out.1 HG.out.2.1 HW9.out (Nat.le_refl _) 0 ⟨#[]⟩ 0 false code fat hWE.symm
    clear hWE
    go_wp2
    refine bodyPost_ret (v := .tuple #[.agg #[.int .i64 0, .string ⟨#[]⟩, .int .i64 0, .bool false], .agg #[.int .i64 code, .int .i64 fat]]) (by simp [results, Try.results26, go_sem, k0, k1, k2, k3, l0, l1]) rfl ?_
    unfold Entry.RPost
    rw [HRT.out]
    exact ⟨rfl, hbl⟩
  case pos =>
    subst hc0
    have HRT : Aside0 (Entry.ofBytes bs = (⟨m0, (strOfNums my1), m2, m3⟩, 0, fat)) := ⟨by rw [HRT0.out, if_pos rfl]⟩
    clear HRT0
    have v0 : _ = some (Value.int .i64 m0) := blk_cell HG.out.2.2.1 0
    have v1 : _ = some (Value.string (strOfNums my1)) := blk_cell HG.out.2.2.1 1
    have v2 : _ = some (Value.int .i64 m2) := blk_cell HG.out.2.2.1 2
    have v3 : _ = some (Value.bool m3) := blk_cell HG.out.2.2.1 3
    go_wp2
    have p0 : _ = some (Value.int .i64 0) := blk_cell HG.out.1 0
    have z0 := blk_frozen HG.out.1 0
    have p1 : _ = some (Value.string ⟨#[]⟩) := blk_cell HG.out.1 1
    have z1 := blk_frozen HG.out.1 1
    have p2 : _ = some (Value.int .i64 0) := blk_cell HG.out.1 2
    have z2 := blk_frozen HG.out.1 2
    have p3 : _ = some (Value.bool false) := blk_cell HG.out.1 3
    have z3 := blk_frozen HG.out.1 3
    have t0 : _ = some (Value.int .i64 0) := blk_cell HG.out.2.1 0
    have y0 := blk_frozen HG.out.2.1 0
    have t1 : _ = some (Value.int .i64 0) := blk_cell HG.out.2.1 1
    have y1 := blk_frozen HG.out.2.1 1
    go_region
    generalize hWE : World.drew _ = WE
    obtain ⟨k0, k1, k2, k3, l0, l1, hbl⟩ := Entry.fin HG.out.1 HG.out.2.1 HW9.out (Nat.le_refl _) m0 (strOfNums my1) m2 m3 0 fat hWE.symm
    clear hWE
    go_wp2
    refine bodyPost_ret (v := .tuple #[.agg #[.int .i64 m0, .string (strOfNums my1), .int .i64 m2, .bool m3], .agg #[.int .i64 0, .int .i64 fat]]) (by simp [results, Try.results26, go_sem, k0, k1, k2, k3, l0, l1]) rfl ?_
    unfold Entry.RPost
    rw [HRT.out]
    exact ⟨rfl, hbl⟩
set_option maxHeartbeats 8000000 in
set_option maxRecDepth 100000 in
theorem refReadAccount_calls (A : Option Addr) (c : Nat) (bs : List Int) (w : World) (hr : ReadsInt w .u8 A bs.length bs) (hc : bs.length ≤ c) (hby : Bytes bs) (hl : bs.length ≤ 140737488355328) :
    Calls Try.prog 27 #[.slice A bs.length c] w (Account.RPost bs w) := by
  have hb4 : Below w.heap.size w ((((w.alloc (.cells #[.string ⟨#[]⟩, .int .i64 0, .int .i64 0] 42)).alloc (.cells #[.int .i64 0, .int .i64 0] 31)).alloc (.cells #[.slice A bs.length c, .int .i64 0, .int .i64 0, .int .i64 0, .int .i64 0] 89)).alloc (.cells #[.string ⟨#[]⟩, .int .i64 0, .int .i64 0] 42)) := below_alloc (below_alloc (below_alloc (below_alloc (Below.refl _ _) _) _) _) _
  have s1 : (w.alloc (.cells #[.string ⟨#[]⟩, .int .i64 0, .int .i64 0] 42)).heap.size = w.heap.size + 1 := by simp
  have s2 : ((w.alloc (.cells #[.string ⟨#[]⟩, .int .i64 0, .int .i64 0] 42)).alloc (.cells #[.int .i64 0, .int .i64 0] 31)).heap.size = w.heap.size + 1 + 1 := by simp
  have s3 : (((w.alloc (.cells #[.string ⟨#[]⟩, .int .i64 0, .int .i64 0] 42)).alloc (.cells #[.int .i64 0, .int .i64 0] 31)).alloc (.cells #[.slice A bs.length c, .int .i64 0, .int .i64 0, .int .i64 0, .int .i64 0] 89)).heap.size = w.heap.size + 1 + 1 + 1 := by simp
  have q6 : ((((w.alloc (.cells #[.string ⟨#[]⟩, .int .i64 0, .int .i64 0] 42)).alloc (.cells #[.int .i64 0, .int .i64 0] 31)).alloc (.cells #[.slice A bs.length c, .int .i64 0, .int .i64 0, .int .i64 0, .int .i64 0] 89)).alloc (.cells #[.string ⟨#[]⟩, .int .i64 0, .int .i64 0] 42)).heap[w.heap.size]? = some _ := blk_b (blk_b (blk_b (heap_alloc_new w (.cells #[.string ⟨#[]⟩, .int .i64 0, .int .i64 0] 42)) (below1 (.cells #[.int .i64 0, .int .i64 0] 31))) (below1 (.cells #[.slice A bs.length c, .int .i64 0, .int .i64 0, .int .i64 0, .int .i64 0] 89))) (below1 (.cells #[.string ⟨#[]⟩, .int .i64 0, .int .i64 0] 42))
  have q7 : ((((w.alloc (.cells #[.string ⟨#[]⟩, .int .i64 0, .int .i64 0] 42)).alloc (.cells #[.int .i64 0, .int .i64 0] 31)).alloc (.cells #[.slice A bs.length c, .int .i64 0, .int .i64 0, .int .i64 0, .int .i64 0] 89)).alloc (.cells #[.string ⟨#[]⟩, .int .i64 0, .int .i64 0] 42)).heap[w.heap.size + 1]? = some _ := s1 ▸ blk_b (blk_b (heap_alloc_new (w.alloc (.cells #[.string ⟨#[]⟩, .int .i64 0, .int .i64 0] 42)) (.cells #[.int .i64 0, .int .i64 0] 31)) (below1 (.cells #[.slice A bs.length c, .int .i64 0, .int .i64 0, .int .i64 0, .int .i64 0] 89))) (below1 (.cells #[.string ⟨#[]⟩, .int .i64 0, .int .i64 0] 42))
  have q8 : ((((w.alloc (.cells #[.string ⟨#[]⟩, .int .i64 0, .int .i64 0] 42)).alloc (.cells #[.int .i64 0, .int .i64 0] 31)).alloc (.cells #[.slice A bs.length c, .int .i64 0, .int .i64 0, .int .i64 0, .int .i64 0] 89)).alloc (.cells #[.string ⟨#[]⟩, .int .i64 0, .int .i64 0] 42)).heap[w.heap.size + 1 + 1]? = some _ := s2 ▸ blk_b (heap_alloc_new ((w.alloc (.cells #[.string ⟨#[]⟩, .int .i64 0, .int .i64 0] 42)).alloc (.cells #[.int .i64 0, .int .i64 0] 31)) (.cells #[.slice A bs.length c, .int .i64 0, .int .i64 0, .int .i64 0, .int .i64 0] 89)) (below1 (.cells #[.string ⟨#[]⟩, .int .i64 0, .int .i64 0] 42))
  have q9 : ((((w.alloc (.cells #[.string ⟨#[]⟩, .int .i64 0, .int .i64 0] 42)).alloc (.cells #[.int .i64 0, .int .i64 0] 31)).alloc (.cells #[.slice A bs.length c, .int .i64 0, .int .i64 0, .int .i64 0, .int .i64 0] 89)).alloc (.cells #[.string ⟨#[]⟩, .int .i64 0, .int .i64 0] 42)).heap[w.heap.size + 1 + 1 + 1]? = some _ := s3 ▸ heap_alloc_new (((w.alloc (.cells #[.string ⟨#[]⟩, .int .i64 0, .int .i64 0] 42)).alloc (.cells #[.int .i64 0, .int .i64 0] 31)).alloc (.cells #[.slice A bs.length c, .int .i64 0, .int .i64 0, .int .i64 0, .int .i64 0] 89)) (.cells #[.string ⟨#[]⟩, .int .i64 0, .int .i64 0] 42)
  have hfar : ∀ ad, A = some ad → 0 < bs.length → ad.block < w.heap.size := fun ad ea hn => by
    obtain ⟨ad', e', hcell⟩ := hr.2.2 hn
    rw [ea] at e'
    obtain rfl := Option.some.inj e'
    have := World.block_lt_of_cell? w _ (hcell 0 hn)
    rwa [add_block] at this
  obtain ⟨⟨my0, r1⟩, e0⟩ : ∃ p, rFix bs ⟨0, 0, 0, 0⟩ 8 = p := ⟨_, rfl⟩
  obtain ⟨⟨m1, r2⟩, e1⟩ : ∃ p, rNum bs r1 8 = p := ⟨_, rfl⟩
  obtain ⟨⟨m2, r3⟩, e2⟩ : ∃ p, rNum bs r2 8 = p := ⟨_, rfl⟩
  have HTP : Aside0 (Account.readS bs ⟨0, 0, 0, 0⟩ = (⟨(strOfNums my0), m1, m2⟩, r3)) := ⟨by simp [Account.readS, e0, e1, e2]⟩
  have C0 := Aside0.mk (fun (W : World) (h : XR W (w.heap.size + 1 + 1) A c bs ⟨0, 0, 0, 0⟩) => xFix_calls 8 h)
  have C1 := Aside0.mk (fun (W : World) (h : XR W (w.heap.size + 1 + 1) A c bs r1) => xNum_calls 8 h)
  have C2 := Aside0.mk (fun (W : World) (h : XR W (w.heap.size + 1 + 1) A c bs r2) => xNum_calls 8 h)
  rw [e0] at C0
  rw [e1] at C1
  rw [e2] at C2
  simp only at C0 C1 C2
  have H0 := Aside0.mk (show OXT ((((w.alloc (.cells #[.string ⟨#[]⟩, .int .i64 0, .int .i64 0] 42)).alloc (.cells #[.int .i64 0, .int .i64 0] 31)).alloc (.cells #[.slice A bs.length c, .int .i64 0, .int .i64 0, .int .i64 0, .int .i64 0] 89)).alloc (.cells #[.string ⟨#[]⟩, .int .i64 0, .int .i64 0] 42)) ((((w.alloc (.cells #[.string ⟨#[]⟩, .int .i64 0, .int .i64 0] 42)).alloc (.cells #[.int .i64 0, .int .i64 0] 31)).alloc (.cells #[.slice A bs.length c, .int .i64 0, .int .i64 0, .int .i64 0, .int .i64 0] 89)).alloc (.cells #[.string ⟨#[]⟩, .int .i64 0, .int .i64 0] 42)) (w.heap.size + 1 + 1) (w.heap.size + 1 + 1 + 1) 42 A c bs #[.string ⟨#[]⟩, .int .i64 0, .int .i64 0] ⟨0, 0, 0, 0⟩ from ⟨⟨q8, hr.below hb4, fun ad ea hn => by have := hfar ad ea hn; omega, Nat.zero_le _, hl, hby, hc⟩, q9, Fr.refl _ _⟩)
  have HFB : Aside0 (w.heap.size + 1 + 1 + 1 ≠ w.heap.size + 1 + 1 ∧ ∀ ad, A = some ad → 0 < bs.length → ad.block ≠ w.heap.size + 1 + 1 + 1) := ⟨⟨by omega, fun ad ea hn => by have := hfar ad ea hn; omega⟩⟩
  have HNE : Aside0 (w.heap.size + 1 + 1 + 1 ≠ w.heap.size + 1 + 1) := ⟨by omega⟩
  have HQ6 := Aside0.mk q6
  have HQ7 := Aside0.mk q7
  have HB4 := Aside0.mk hb4
  clear hb4 s1 s2 s3 q6 q7 q8 q9 hfar e0 e1 e2 hr hby
  go_enter Try.func27, Try.ntmps27
  go_upto_region 3 with (fail)
  generalize ((((w.alloc (.cells #[.string ⟨#[]⟩, .int .i64 0, .int .i64 0] 42)).alloc (.cells #[.int .i64 0, .int .i64 0] 31)).alloc (.cells #[.slice A bs.length c, .int .i64 0, .int .i64 0, .int .i64 0, .int .i64 0] 89)).alloc (.cells #[.string ⟨#[]⟩, .int .i64 0, .int .i64 0] 42)) = W4 at *
  go_upto_region 6 with (first | (go_at_call 49; (with_reducible refine (C0.out _ H0.out.xr).mono ?_); rintro e w1 ⟨rfl, x1, f1⟩; have H1 := Aside0.mk (show OXT W4 (w1.setCell ⟨w.heap.size + 1 + 1 + 1, 0, none⟩ (.string (strOfNums my0))) (w.heap.size + 1 + 1) (w.heap.size + 1 + 1 + 1) 42 A c bs #[.string (strOfNums my0), .int .i64 0, .int .i64 0] r1 from OXT.step H0.out x1 f1 0 (.string (strOfNums my0)) HFB.out rfl); have q1 := f1.blk H0.out.blk HNE.out; have cc1 := (blk_cell q1 0).trans rfl; have zz1 := blk_frozen q1 0; clear x1 f1 q1) | (go_at_call 48; (with_reducible refine (C1.out _ H1.out.xr).mono ?_); rintro e w2 ⟨rfl, x2, f2⟩; have H2 := Aside0.mk (show OXT W4 (w2.setCell ⟨w.heap.size + 1 + 1 + 1, 1, none⟩ (.int .i64 m1)) (w.heap.size + 1 + 1) (w.heap.size + 1 + 1 + 1) 42 A c bs #[.string (strOfNums my0), .int .i64 m1, .int .i64 0] r2 from OXT.step H1.out x2 f2 1 (.int .i64 m1) HFB.out rfl); have q2 := f2.blk H1.out.blk HNE.out; have cc2 := (blk_cell q2 1).trans rfl; have zz2 := blk_frozen q2 1; clear x2 f2 q2) | (go_at_call 48; (with_reducible refine (C2.out _ H2.out.xr).mono ?_); rintro e w3 ⟨rfl, x3, f3⟩; have H3 := Aside0.mk (show OXT W4 (w3.setCell ⟨w.heap.size + 1 + 1 + 1, 2, none⟩ (.int .i64 m2)) (w.heap.size + 1 + 1) (w.heap.size + 1 + 1 + 1) 42 A c bs #[.string (strOfNums my0), .int .i64 m1, .int .i64 m2] r3 from OXT.step H2.out x3 f3 2 (.int .i64 m2) HFB.out rfl); have q3 := f3.blk H2.out.blk HNE.out; have cc3 := (blk_cell q3 2).trans rfl; have zz3 := blk_frozen q3 2; clear x3 f3 q3))
  generalize w3.setCell ⟨w.heap.size + 1 + 1 + 1, 2, none⟩ (.int .i64 m2) = W6 at H3 ⊢
  have v0 : _ = some (Value.string (strOfNums my0)) := blk_cell H3.out.blk 0
  have v1 : _ = some (Value.int .i64 m1) := blk_cell H3.out.blk 1
  have v2 : _ = some (Value.int .i64 m2) := blk_cell H3.out.blk 2
  have HT := Aside0.mk (fun W => rAccountRight_calls ⟨(strOfNums my0), m1, m2⟩ W)
  have hrt : Account.ofBytes bs = (if (r3.end_ bs.length).code = 0 then (if (Account.right ⟨(strOfNums my0), m1, m2⟩) = true then (⟨(strOfNums my0), m1, m2⟩, 0, (r3.end_ bs.length).fat) else (Account.zero, 80, -1)) else (Account.zero, (r3.end_ bs.length).code, (r3.end_ bs.length).fat)) := by
    unfold Account.ofBytes
    rw [HTP.out]
  obtain ⟨rr, hrr⟩ : ∃ rr, (Account.right ⟨(strOfNums my0), m1, m2⟩) = rr := ⟨_, rfl⟩
  obtain ⟨⟨code, fat⟩, hec⟩ : ∃ p, endC r3 bs.length rr = p := ⟨_, rfl⟩
  have HRT0 : Aside0 (Account.ofBytes bs = if code = 0 then (⟨(strOfNums my0), m1, m2⟩, code, fat) else (Account.zero, code, fat)) := ⟨by
    rw [hrt, hrr]
    unfold endC at hec
    cases rr with
    | true =>
      rw [if_neg (by simp)] at hec
      injection hec with e1 e2
      by_cases h0 : code = 0
      · rw [if_pos h0, if_pos (by rw [e1, h0]), if_pos rfl, e2, h0]
      · rw [if_neg h0, if_neg (by rw [e1]; exact h0), e1, e2]
    | false =>
      by_cases h1 : (r3.end_ bs.length).code = 0
      · rw [if_pos ⟨h1, rfl⟩] at hec
        injection hec with e1 e2
        subst e1 e2
        rw [if_pos h1]
        simp
      · rw [if_neg (fun h => h1 h.1)] at hec
        injection hec with e1 e2
        rw [if_neg h1, if_neg (by rw [← e1]; exact h1), e1, e2]⟩
  have HEC := Aside0.mk (fun (W : World) (h : XR W (w.heap.size + 1 + 1) A c bs r3) => ended_calls rr h)
  rw [hec] at HEC
  rw [hrr] at HT
  unfold Account.val at HT
  simp only at HT HEC
  clear hrt hrr hec HTP C0 C1 C2
  go_upto_region 7 with (first
    | (go_at_call 66; refine (HT.out _).mono ?_; rintro e w7 ⟨rfl, hb7⟩; have HB7 := Aside0.mk hb7; clear hb7)
    | (go_at_call 50; refine (HEC.out _ (H3.out.xr.below HB7.out)).mono ?_; rintro e w8 ⟨rfl, x8, f8⟩; have HF8 := Aside0.mk f8; clear x8 f8))
  have hz : w.heap.size + 1 < W4.heap.size := blk_lt HQ7.out
  have hb9 := below1 (w := w8) (.cells #[.int .i64 code, .int .i64 fat] 31)
  have old : ∀ k (cs : Array Value) (T : TypeId), k ≠ w.heap.size + 1 + 1 → k ≠ w.heap.size + 1 + 1 + 1 → W4.heap[k]? = some (.cells cs T (0, 0)) → (w8.alloc (.cells #[.int .i64 code, .int .i64 fat] 31)).heap[k]? = some (.cells cs T (0, 0)) := fun k cs T h1 h2 h3 => blk_b (HF8.out.blk (blk_b (H3.out.fr.blk h3 (fun h => h.elim h1 h2)) HB7.out) h1) hb9
  have HG := Aside0.mk (And.intro (old _ _ _ (by omega) (by omega) HQ6.out) (And.intro (old _ _ _ (by omega) (by omega) HQ7.out) (And.intro (blk_b (HF8.out.blk (blk_b H3.out.blk HB7.out) HNE.out) hb9) (heap_alloc_new w8 (.cells #[.int .i64 code, .int .i64 fat] 31)))))
  have HW9 := Aside0.mk (show Below w.heap.size w (w8.alloc (.cells #[.int .i64 code, .int .i64 fat] 31)) from by
    have h1 := HB4.out.size
    have h2 := H3.out.fr.size
    have h3 := HB7.out.size
    have h4 := HF8.out.size
    exact below_alloc (((HB4.out.trans (H3.out.fr.below h1 (fun i hi => by rcases hi with e | e <;> omega))).trans ⟨HB7.out.os, HB7.out.tape, HB7.out.output, HB7.out.size, fun i hi => HB7.out.block i (by omega)⟩).trans (HF8.out.below (by omega) (fun i hi => by omega))) _)
  have hgf : w.heap.size + 1 + 1 + 1 < w8.heap.size := by
    have h1 := blk_lt H0.out.blk
    have h2 := H3.out.fr.size
    have h3 := HB7.out.size
    have h4 := HF8.out.size
    omega
  clear old hb9 hz v0 v1 v2 H0 H1 H2 H3 HF8 HB7 HQ6 HQ7 HB4
  generalize w8.alloc (.cells #[.int .i64 code, .int .i64 fat] 31) = w9 at *
  generalize w8.heap.size = gf at *
  have f0 : _ = some (Value.int .i64 code) := blk_cell HG.out.2.2.2 0
  have f1 : _ = some (Value.int .i64 fat) := blk_cell HG.out.2.2.2 1
  by_cases hc0 : code = 0
  case neg =>
    have hcn : (code != 0) = true := bne_iff_ne.2 hc0
    have HRT : Aside0 (Account.ofBytes bs = (Account.zero, code, fat)) := ⟨by rw [HRT0.out, if_neg hc0]⟩
    clear HRT0 hc0
    go_wp2
    have p0 : _ = some (Value.string ⟨#[]⟩) := blk_cell HG.out.1 0
    have z0 := blk_frozen HG.out.1 0
    have p1 : _ = some (Value.int .i64 0) := blk_cell HG.out.1 1
    have z1 := blk_frozen HG.out.1 1
    have p2 : _ = some (Value.int .i64 0) := blk_cell HG.out.1 2
    have z2 := blk_frozen HG.out.1 2
    have t0 : _ = some (Value.int .i64 0) := blk_cell HG.out.2.1 0
    have y0 := blk_frozen HG.out.2.1 0
    have t1 : _ = some (Value.int .i64 0) := blk_cell HG.out.2.1 1
    have y1 := blk_frozen HG.out.2.1 1
    go_region
    generalize hWE : World.drew _ = WE
    obtain ⟨k0, k1, k2, l0, l1, hbl⟩ := Account.fin HG.out.1 HG.out.2.1 HW9.out (Nat.le_refl _) ⟨#[]⟩ 0 0 code fat hWE.symm
    clear hWE
    go_wp2
    refine bodyPost_ret (v := .tuple #[.agg #[.string ⟨#[]⟩, .int .i64 0, .int .i64 0], .agg #[.int .i64 code, .int .i64 fat]]) (by simp [results, Try.results27, go_sem, k0, k1, k2, l0, l1]) rfl ?_
    unfold Account.RPost
    rw [HRT.out]
    exact ⟨rfl, hbl⟩
  case pos =>
    subst hc0
    have HRT : Aside0 (Account.ofBytes bs = (⟨(strOfNums my0), m1, m2⟩, 0, fat)) := ⟨by rw [HRT0.out, if_pos rfl]⟩
    clear HRT0
    have v0 : _ = some (Value.string (strOfNums my0)) := blk_cell HG.out.2.2.1 0
    have v1 : _ = some (Value.int .i64 m1) := blk_cell HG.out.2.2.1 1
    have v2 : _ = some (Value.int .i64 m2) := blk_cell HG.out.2.2.1 2
    go_wp2
    have p0 : _ = some (Value.string ⟨#[]⟩) := blk_cell HG.out.1 0
    have z0 := blk_frozen HG.out.1 0
    have p1 : _ = some (Value.int .i64 0) := blk_cell HG.out.1 1
    have z1 := blk_frozen HG.out.1 1
    have p2 : _ = some (Value.int .i64 0) := blk_cell HG.out.1 2
    have z2 := blk_frozen HG.out.1 2
    have t0 : _ = some (Value.int .i64 0) := blk_cell HG.out.2.1 0
    have y0 := blk_frozen HG.out.2.1 0
    have t1 : _ = some (Value.int .i64 0) := blk_cell HG.out.2.1 1
    have y1 := blk_frozen HG.out.2.1 1
    go_region
    generalize hWE : World.drew _ = WE
    obtain ⟨k0, k1, k2, l0, l1, hbl⟩ := Account.fin HG.out.1 HG.out.2.1 HW9.out (Nat.le_refl _) (strOfNums my0) m1 m2 0 fat hWE.symm
    clear hWE
    go_wp2
    refine bodyPost_ret (v := .tuple #[.agg #[.string (strOfNums my0), .int .i64 m1, .int .i64 m2], .agg #[.int .i64 0, .int .i64 fat]]) (by simp [results, Try.results27, go_sem, k0, k1, k2, l0, l1]) rfl ?_
    unfold Account.RPost
    rw [HRT.out]
    exact ⟨rfl, hbl⟩
end Go.Proofs.Ytgmbfecfkdbfaaa.Wi
/- RecordMoney: the walk. -/
set_option linter.unusedVariables false
set_option linter.unusedSimpArgs false
namespace Go.Proofs.Ytgmbfecfkdbfaaa.Wi
open Go Go.RowKit Go.Proofs.YtgmbfecfkdbfaaaW.PrintWords
theorem Entry.out_len (t : Entry) : t.out.length ≤ 1000000 := by
  unfold Entry.out
  split
  · unfold WS.out
    split
    · simp
    · exact t.put_len
  · simp
theorem Account.out_len (t : Account) : t.out.length ≤ 1000000 := by
  unfold Account.out
  split
  · unfold WS.out
    split
    · simp
    · exact t.put_len
  · simp
set_option maxHeartbeats 32000000 in
set_option maxRecDepth 100000 in
theorem recordMoney_calls (x : Entry) (hx : x.Ok) (a : Account) (ha : a.Ok) (A : Option Addr) (c : Nat) (bs : List Int) (w : World) (hb : kB.C w A bs.length bs) (hc : bs.length ≤ c) (hbl : bs.length ≤ 140737488351232) :
    Calls Try.prog 5 #[x.val, a.val, .slice A bs.length c] w fun e w' => e = .returned (.bool true) ∧ Below w.heap.size w w' := by
  obtain ⟨hrd, hby⟩ := kB_reads hb
  have HRD := Aside0.mk hrd
  have CX := Aside0.mk (fun W => recEntry_calls x hx W)
  have CA := Aside0.mk (fun W => recAccount_calls a ha W)
  have FX := Aside0.mk (fun W => refEntry_calls x hx W)
  have FA := Aside0.mk (fun W => refAccount_calls a ha W)
  have RX := Aside0.mk (fun (W : World) (h : ReadsInt W .u8 A bs.length bs) => recReadEntry_calls A c bs W h hby (by omega))
  have RA := Aside0.mk (fun (W : World) (h : ReadsInt W .u8 A bs.length bs) => recReadAccount_calls A c bs W h hby (by omega))
  have GX := Aside0.mk (fun (W : World) (h : ReadsInt W .u8 A bs.length bs) => refReadEntry_calls A c bs W h hc hby (by omega))
  have GA := Aside0.mk (fun (W : World) (h : ReadsInt W .u8 A bs.length bs) => refReadAccount_calls A c bs W h hc hby (by omega))
  unfold BytesPost at CX CA
  unfold Entry.FPost at FX
  unfold Account.FPost at FA
  unfold Entry.RPost at RX GX
  unfold Account.RPost at RA GA
  obtain ⟨⟨⟨m0, m1, m2, m3⟩, c0, c1⟩, hp⟩ : ∃ p, Entry.ofBytes bs = p := ⟨_, rfl⟩
  obtain ⟨⟨⟨k0, k1, k2⟩, d0, d1⟩, hq⟩ : ∃ p, Account.ofBytes bs = p := ⟨_, rfl⟩
  rw [hp] at RX GX
  rw [hq] at RA GA
  simp only [Entry.val, Account.val] at RX GX RA GA
  obtain ⟨xn0, xn1, xn2, xn3⟩ := x
  obtain ⟨an0, an1, an2⟩ := a
  unfold Entry.val at CX FX ⊢
  unfold Account.val at CA FA ⊢
  simp only at CX FX CA FA ⊢
  generalize Entry.out ⟨xn0, xn1, xn2, xn3⟩ = ox at *
  generalize Entry.err ⟨xn0, xn1, xn2, xn3⟩ = ex at *
  generalize Account.out ⟨an0, an1, an2⟩ = oa at *
  generalize Account.err ⟨an0, an1, an2⟩ = ea at *
  have HB0 := Aside0.mk (below2 (w := w) (.cells #[.int .i64 xn0, .string xn1, .int .i64 xn2, .bool xn3] 40) (.cells #[.string an0, .int .i64 an1, .int .i64 an2] 42))
  have HQX0 := Aside0.mk (two_0 w (.cells #[.int .i64 xn0, .string xn1, .int .i64 xn2, .bool xn3] 40) (.cells #[.string an0, .int .i64 an1, .int .i64 an2] 42))
  have HQA0 := Aside0.mk (two_1 w (.cells #[.int .i64 xn0, .string xn1, .int .i64 xn2, .bool xn3] 40) (.cells #[.string an0, .int .i64 an1, .int .i64 an2] 42))
  clear hb hrd hby hp hq hx ha
  go_enter Try.func5, Try.ntmps5
  go_upto_region 6 with (first
    | (go_at_call 9; refine (awake8_calls _).mono ?_; rintro e w1 ⟨rfl, hb1⟩; have hx1 := blk_b HQX0.out hb1; have ha1 := blk_b HQA0.out hb1; have ex10 : _ = some (Value.int .i64 xn0) := blk_cell hx1 0; have ex11 : _ = some (Value.string xn1) := blk_cell hx1 1; have ex12 : _ = some (Value.int .i64 xn2) := blk_cell hx1 2; have ex13 : _ = some (Value.bool xn3) := blk_cell hx1 3; have ea10 : _ = some (Value.string an0) := blk_cell ha1 0; have ea11 : _ = some (Value.int .i64 an1) := blk_cell ha1 1; have ea12 : _ = some (Value.int .i64 an2) := blk_cell ha1 2; have HQX1 := Aside0.mk hx1; have HQA1 := Aside0.mk ha1; have HB1 := Aside0.mk hb1; clear hx1 ha1 hb1)
    | (go_at_call 20; refine (CX.out _).mono ?_; rintro e w2 ⟨v2, rfl, ho2, hb2⟩; obtain ⟨A2, c2, _, hv2, _, hr2⟩ := own_reads'' ho2; subst hv2; have HR2 := Aside0.mk hr2; clear ho2 hr2; have hx2 := blk_b HQX1.out hb2; have ha2 := blk_b HQA1.out hb2; have ex20 : _ = some (Value.int .i64 xn0) := blk_cell hx2 0; have ex21 : _ = some (Value.string xn1) := blk_cell hx2 1; have ex22 : _ = some (Value.int .i64 xn2) := blk_cell hx2 2; have ex23 : _ = some (Value.bool xn3) := blk_cell hx2 3; have ea20 : _ = some (Value.string an0) := blk_cell ha2 0; have ea21 : _ = some (Value.int .i64 an1) := blk_cell ha2 1; have ea22 : _ = some (Value.int .i64 an2) := blk_cell ha2 2; have HQX2 := Aside0.mk hx2; have HQA2 := Aside0.mk ha2; have HB2 := Aside0.mk hb2; clear hx2 ha2 hb2)
    | (go_at_call 21; refine (CA.out _).mono ?_; rintro e w3 ⟨v3, rfl, ho3, hb3⟩; obtain ⟨A3, c3, _, hv3, _, hr3⟩ := own_reads'' ho3; subst hv3; have HR3 := Aside0.mk hr3; clear ho3 hr3; have hx3 := blk_b HQX2.out hb3; have ha3 := blk_b HQA2.out hb3; have ex30 : _ = some (Value.int .i64 xn0) := blk_cell hx3 0; have ex31 : _ = some (Value.string xn1) := blk_cell hx3 1; have ex32 : _ = some (Value.int .i64 xn2) := blk_cell hx3 2; have ex33 : _ = some (Value.bool xn3) := blk_cell hx3 3; have ea30 : _ = some (Value.string an0) := blk_cell ha3 0; have ea31 : _ = some (Value.int .i64 an1) := blk_cell ha3 1; have ea32 : _ = some (Value.int .i64 an2) := blk_cell ha3 2; have HQX3 := Aside0.mk hx3; have HQA3 := Aside0.mk ha3; have HB3 := Aside0.mk hb3; clear hx3 ha3 hb3)
    | (go_at_call 22; refine (FX.out _).mono ?_; rintro e w4 ⟨A4, c4, rfl, hr4, hb4⟩; have HR4 := Aside0.mk hr4; clear hr4; have hx4 := blk_b HQX3.out hb4; have ha4 := blk_b HQA3.out hb4; have ex40 : _ = some (Value.int .i64 xn0) := blk_cell hx4 0; have ex41 : _ = some (Value.string xn1) := blk_cell hx4 1; have ex42 : _ = some (Value.int .i64 xn2) := blk_cell hx4 2; have ex43 : _ = some (Value.bool xn3) := blk_cell hx4 3; have ea40 : _ = some (Value.string an0) := blk_cell ha4 0; have ea41 : _ = some (Value.int .i64 an1) := blk_cell ha4 1; have ea42 : _ = some (Value.int .i64 an2) := blk_cell ha4 2; have HQX4 := Aside0.mk hx4; have HQA4 := Aside0.mk ha4; have HB4 := Aside0.mk hb4; clear hx4 ha4 hb4)
    | (go_at_call 23; refine (FA.out _).mono ?_; rintro e w5 ⟨A5, c5, rfl, hr5, hb5⟩; have HR5 := Aside0.mk hr5; have HB5 := Aside0.mk hb5; clear hr5 hb5))
  have L0 := HB0.out.size
  have L1 := HB1.out.size
  have L2 := HB2.out.size
  have L3 := HB3.out.size
  have hbd : Below w.heap.size w w4 := below_then (below_then (below_then (below_then HB0.out L0 HB1.out) (by omega) HB2.out) (by omega) HB3.out) (by omega) HB4.out
  have HW0 := Aside0.mk (below_then hbd hbd.size HB5.out)
  have P2 := Aside0.mk (((HR2.out.below HB3.out).below HB4.out).below HB5.out)
  have P3 := Aside0.mk ((HR3.out.below HB4.out).below HB5.out)
  have P4 := Aside0.mk (HR4.out.below HB5.out)
  have PB0 := Aside0.mk (HRD.out.below HW0.out)
  clear L0 L1 L2 L3 hbd HB0 HB1 HB2 HB3 HB4 HB5 HR2 HR3 HR4 CX CA FX FA HQX0 HQA0 HQX1 HQA1 HQX2 HQA2 HQX3 HQA3 HQX4 HQA4 HRD
  go_upto_region 7 with (go_at_call 24; refine (RX.out _ PB0.out).mono ?_; rintro e w6 ⟨rfl, hb6⟩; have HC6 := Aside0.mk hb6; clear hb6)
  have hn6 := below2 (w := w6) (.cells #[.int .i64 m0, .string m1, .int .i64 m2, .bool m3] 40) (.cells #[.int .i64 c0, .int .i64 c1] 31)
  have HS6 := Aside0.mk (two_0 w6 (.cells #[.int .i64 m0, .string m1, .int .i64 m2, .bool m3] 40) (.cells #[.int .i64 c0, .int .i64 c1] 31))
  have HT6 := Aside0.mk (two_1 w6 (.cells #[.int .i64 m0, .string m1, .int .i64 m2, .bool m3] 40) (.cells #[.int .i64 c0, .int .i64 c1] 31))
  have hd6 := below_then HC6.out HC6.out.size hn6
  have HD6 := Aside0.mk hd6
  have HW1 := Aside0.mk (below_then HW0.out HW0.out.size hd6)
  have PB1 := Aside0.mk (PB0.out.below hd6)
  have P2' := Aside0.mk (P2.out.below hd6)
  have P3' := Aside0.mk (P3.out.below hd6)
  have P4' := Aside0.mk (P4.out.below hd6)
  have HR5' := Aside0.mk (HR5.out.below hd6)
  clear hn6 hd6 HC6 HD6 HW0 PB0 P2 P3 P4 HR5
  generalize (w6.alloc (.cells #[.int .i64 m0, .string m1, .int .i64 m2, .bool m3] 40)).alloc (.cells #[.int .i64 c0, .int .i64 c1] 31) = v6 at *
  generalize w6.heap.size = g6 at *
  go_upto_region 8 with (go_at_call 25; refine (RA.out _ PB1.out).mono ?_; rintro e w7 ⟨rfl, hb7⟩; have HC7 := Aside0.mk hb7; clear hb7)
  have hn7 := below2 (w := w7) (.cells #[.string k0, .int .i64 k1, .int .i64 k2] 42) (.cells #[.int .i64 d0, .int .i64 d1] 31)
  have HS7 := Aside0.mk (two_0 w7 (.cells #[.string k0, .int .i64 k1, .int .i64 k2] 42) (.cells #[.int .i64 d0, .int .i64 d1] 31))
  have HT7 := Aside0.mk (two_1 w7 (.cells #[.string k0, .int .i64 k1, .int .i64 k2] 42) (.cells #[.int .i64 d0, .int .i64 d1] 31))
  have hd7 := below_then HC7.out HC7.out.size hn7
  have HD7 := Aside0.mk hd7
  have HW2 := Aside0.mk (below_then HW1.out HW1.out.size hd7)
  have PB2 := Aside0.mk (PB1.out.below hd7)
  have P2'' := Aside0.mk (P2'.out.below hd7)
  have P3'' := Aside0.mk (P3'.out.below hd7)
  have P4'' := Aside0.mk (P4'.out.below hd7)
  have HR5'' := Aside0.mk (HR5'.out.below hd7)
  have HS6' := Aside0.mk (blk_b HS6.out hd7)
  have HT6' := Aside0.mk (blk_b HT6.out hd7)
  clear hn7 hd7 HC7 HD7 HW1 PB1 P2' P3' P4' HR5' HS6 HT6
  generalize (w7.alloc (.cells #[.string k0, .int .i64 k1, .int .i64 k2] 42)).alloc (.cells #[.int .i64 d0, .int .i64 d1] 31) = v7 at *
  generalize w7.heap.size = g7 at *
  go_upto_region 9 with (go_at_call 26; refine (GX.out _ PB2.out).mono ?_; rintro e w8 ⟨rfl, hb8⟩; have HC8 := Aside0.mk hb8; clear hb8)
  have hn8 := below2 (w := w8) (.cells #[.int .i64 m0, .string m1, .int .i64 m2, .bool m3] 40) (.cells #[.int .i64 c0, .int .i64 c1] 31)
  have HS8 := Aside0.mk (two_0 w8 (.cells #[.int .i64 m0, .string m1, .int .i64 m2, .bool m3] 40) (.cells #[.int .i64 c0, .int .i64 c1] 31))
  have HT8 := Aside0.mk (two_1 w8 (.cells #[.int .i64 m0, .string m1, .int .i64 m2, .bool m3] 40) (.cells #[.int .i64 c0, .int .i64 c1] 31))
  have hd8 := below_then HC8.out HC8.out.size hn8
  have HD8 := Aside0.mk hd8
  have HW3 := Aside0.mk (below_then HW2.out HW2.out.size hd8)
  have PB3 := Aside0.mk (PB2.out.below hd8)
  have P2''' := Aside0.mk (P2''.out.below hd8)
  have P3''' := Aside0.mk (P3''.out.below hd8)
  have P4''' := Aside0.mk (P4''.out.below hd8)
  have HR5''' := Aside0.mk (HR5''.out.below hd8)
  have HS6'' := Aside0.mk (blk_b HS6'.out hd8)
  have HT6'' := Aside0.mk (blk_b HT6'.out hd8)
  have HS7' := Aside0.mk (blk_b HS7.out hd8)
  have HT7' := Aside0.mk (blk_b HT7.out hd8)
  clear hn8 hd8 HC8 HD8 HW2 PB2 P2'' P3'' P4'' HR5'' HS6' HT6' HS7 HT7
  generalize (w8.alloc (.cells #[.int .i64 m0, .string m1, .int .i64 m2, .bool m3] 40)).alloc (.cells #[.int .i64 c0, .int .i64 c1] 31) = v8 at *
  generalize w8.heap.size = g8 at *
  go_upto_region 10 with (go_at_call 27; refine (GA.out _ PB3.out).mono ?_; rintro e w9 ⟨rfl, hb9⟩; have HC9 := Aside0.mk hb9; clear hb9)
  have hn9 := below2 (w := w9) (.cells #[.string k0, .int .i64 k1, .int .i64 k2] 42) (.cells #[.int .i64 d0, .int .i64 d1] 31)
  have HS9 := Aside0.mk (two_0 w9 (.cells #[.string k0, .int .i64 k1, .int .i64 k2] 42) (.cells #[.int .i64 d0, .int .i64 d1] 31))
  have HT9 := Aside0.mk (two_1 w9 (.cells #[.string k0, .int .i64 k1, .int .i64 k2] 42) (.cells #[.int .i64 d0, .int .i64 d1] 31))
  have hd9 := below_then HC9.out HC9.out.size hn9
  have HD9 := Aside0.mk hd9
  have HW4 := Aside0.mk (below_then HW3.out HW3.out.size hd9)
  have PB4 := Aside0.mk (PB3.out.below hd9)
  have P2'''' := Aside0.mk (P2'''.out.below hd9)
  have P3'''' := Aside0.mk (P3'''.out.below hd9)
  have P4'''' := Aside0.mk (P4'''.out.below hd9)
  have HR5'''' := Aside0.mk (HR5'''.out.below hd9)
  have HS6''' := Aside0.mk (blk_b HS6''.out hd9)
  have HT6''' := Aside0.mk (blk_b HT6''.out hd9)
  have HS7'' := Aside0.mk (blk_b HS7'.out hd9)
  have HT7'' := Aside0.mk (blk_b HT7'.out hd9)
  have HS8' := Aside0.mk (blk_b HS8.out hd9)
  have HT8' := Aside0.mk (blk_b HT8.out hd9)
  clear hn9 hd9 HC9 HD9 HW3 PB3 P2''' P3''' P4''' HR5''' HS6'' HT6'' HS7' HT7' HS8 HT8
  generalize (w9.alloc (.cells #[.string k0, .int .i64 k1, .int .i64 k2] 42)).alloc (.cells #[.int .i64 d0, .int .i64 d1] 31) = v9 at *
  generalize w9.heap.size = g9 at *
  have SX := Aside0.mk (same_eq A2 A4 c2 c4 ox v9 P2''''.out P4''''.out)
  have SY := Aside0.mk (same_eq A3 A5 c3 c5 oa v9 P3''''.out HR5''''.out)
  have u00 : _ = some (Value.int .i64 m0) := blk_cell HS6'''.out 0
  have u01 : _ = some (Value.string m1) := blk_cell HS6'''.out 1
  have u02 : _ = some (Value.int .i64 m2) := blk_cell HS6'''.out 2
  have u03 : _ = some (Value.bool m3) := blk_cell HS6'''.out 3
  have u10 : _ = some (Value.int .i64 c0) := blk_cell HT6'''.out 0
  have u11 : _ = some (Value.int .i64 c1) := blk_cell HT6'''.out 1
  have u20 : _ = some (Value.string k0) := blk_cell HS7''.out 0
  have u21 : _ = some (Value.int .i64 k1) := blk_cell HS7''.out 1
  have u22 : _ = some (Value.int .i64 k2) := blk_cell HS7''.out 2
  have u30 : _ = some (Value.int .i64 d0) := blk_cell HT7''.out 0
  have u31 : _ = some (Value.int .i64 d1) := blk_cell HT7''.out 1
  have u40 : _ = some (Value.int .i64 m0) := blk_cell HS8'.out 0
  have u41 : _ = some (Value.string m1) := blk_cell HS8'.out 1
  have u42 : _ = some (Value.int .i64 m2) := blk_cell HS8'.out 2
  have u43 : _ = some (Value.bool m3) := blk_cell HS8'.out 3
  have u50 : _ = some (Value.int .i64 c0) := blk_cell HT8'.out 0
  have u51 : _ = some (Value.int .i64 c1) := blk_cell HT8'.out 1
  have u60 : _ = some (Value.string k0) := blk_cell HS9.out 0
  have u61 : _ = some (Value.int .i64 k1) := blk_cell HS9.out 1
  have u62 : _ = some (Value.int .i64 k2) := blk_cell HS9.out 2
  have u70 : _ = some (Value.int .i64 d0) := blk_cell HT9.out 0
  have u71 : _ = some (Value.int .i64 d1) := blk_cell HT9.out 1
  clear P2'''' P3'''' P4'''' HR5'''' HS6''' HT6''' HS7'' HT7'' HS8' HT8' HS9 HT9 PB4 RX RA GX GA
  go_wp2_with (go_at_call 16; first | ((with_reducible refine SX.out.mono ?_); rintro e wb ⟨rfl, rfl⟩) | ((with_reducible refine SY.out.mono ?_); rintro e wb ⟨rfl, rfl⟩))
  go_ret
  exact ⟨by first | rfl | (simp; done), HW4.out⟩
end Go.Proofs.Ytgmbfecfkdbfaaa.Wi
