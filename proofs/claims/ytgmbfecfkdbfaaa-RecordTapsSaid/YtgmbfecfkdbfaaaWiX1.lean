/- The document's reader: its inner functions. -/
import Derived.Test.YtgmbfecfkdbfaaaWiQ2
import Derived.IntWalk
set_option linter.unusedVariables false
set_option linter.unusedSimpArgs false
namespace Go.Proofs.Ytgmbfecfkdbfaaa.Wi
open Go Go.RowKit Go.Proofs.YtgmbfecfkdbfaaaW.PrintWords
/-- the document's reader, in memory -/
structure XR (W : World) (gx : Nat) (A : Option Addr) (c : Nat) (bs : List Int) (r : RS) : Prop where
  blk : W.heap[gx]? = some (.cells #[.slice A bs.length c, .int .i64 r.at_, .int .i64 r.last, .int .i64 r.code, .int .i64 r.fat] 89 (0, 0))
  rd_ : ReadsInt W .u8 A bs.length bs
  far : ∀ ad, A = some ad → 0 < bs.length → ad.block ≠ gx
  le : r.at_ ≤ bs.length
  len : bs.length ≤ 140737488355328
  byt : Bytes bs
  cap : bs.length ≤ c
def RS.badX (r : RS) (e : Int) : RS := if r.code = 0 then ⟨r.at_, r.last, e, r.at_⟩ else r
/-- what a method of the document's reader leaves -/
def XPost (gx : Nat) (A : Option Addr) (c : Nat) (bs : List Int) (v : Value) (r : RS) (w : World) (e : Ending) (w' : World) : Prop :=
  e = .returned v ∧ XR w' gx A c bs r ∧ Fr (fun i => i = gx) w w'
section
variable {w W W' : World} {gx : Nat} {A : Option Addr} {c : Nat} {bs : List Int} {r : RS}
theorem XR.lt (h : XR W gx A c bs r) : gx < W.heap.size := blk_lt h.blk
theorem XR.below (h : XR W gx A c bs r) (hb : Below W.heap.size W W') : XR W' gx A c bs r :=
  ⟨(Fr.of_below (S := fun _ => False) hb).blk h.blk (fun h => h), h.rd_.below hb, h.far, h.le, h.len, h.byt, h.cap⟩
theorem XR.drew (h : XR W gx A c bs r) (n : Nat) : XR (W.drewN n) gx A c bs r := h.below (below_drewN (Below.refl _ _) n)
theorem XR.set_ (h : XR W gx A c bs r) (j : Nat) (u : Value) {cs' : Array Value} (e : (#[.slice A bs.length c, .int .i64 r.at_, .int .i64 r.last, .int .i64 r.code, .int .i64 r.fat] : Array Value).setIfInBounds j u = cs') : (W.setCell ⟨gx, j, none⟩ u).heap[gx]? = some (.cells cs' 89 (0, 0)) := blk_put h.blk j u e
theorem XR.of_keep {r' : RS} (h : XR W gx A c bs r) (hk : KeepBut W W' gx none) (hq : W'.heap[gx]? = some (.cells #[.slice A bs.length c, .int .i64 r'.at_, .int .i64 r'.last, .int .i64 r'.code, .int .i64 r'.fat] 89 (0, 0))) (hle : r'.at_ ≤ bs.length) : XR W' gx A c bs r' :=
  ⟨hq, h.rd_.keep hk h.far, h.far, hle, h.len, h.byt, h.cap⟩
theorem XPost.from {v : Value} {w1 : World} {e : Ending} (h : XPost gx A c bs v r w1 e W') (hf : Fr (fun i => i = gx) w w1) : XPost gx A c bs v r w e W' :=
  ⟨h.1, h.2.1, hf.trans h.2.2 (fun _ _ h => h)⟩
theorem xBad_calls (e : Int) (h : XR w gx A c bs r) : Calls Try.prog 102 #[.pointer (some ⟨gx, 0, none⟩), .int .i64 e] w (XPost gx A c bs (.tuple #[]) (r.badX e) w) := by
  have H := Aside0.mk h
  have d1 : _ = some (Value.int .i64 (r.at_ : Int)) := blk_cell h.blk 1
  have d3 : _ = some (Value.int .i64 r.code) := blk_cell h.blk 3
  have d4 : _ = some (Value.int .i64 r.fat) := blk_cell h.blk 4
  have f3 := blk_frozen h.blk 3
  have f4 := blk_frozen h.blk 4
  by_cases hc : r.code = 0
  · have HB : Aside0 (r.badX e = ⟨r.at_, r.last, e, r.at_⟩) := ⟨by simp [RS.badX, hc]⟩
    have u : (r.code == 0) = true := by simp [hc]
    clear h hc
    go_enter Try.func102, Try.ntmps102
    go_wp2
    go_end0
    rw [HB.out]
    exact ⟨rfl, H.out.of_keep (((KeepBut.refl w gx none).set_ 3 _).set_ 4 _) (blk_put (H.out.set_ 3 _ rfl) 4 _ rfl) H.out.le, ((Fr.refl (fun i => i = gx) w).set_ (.inl rfl) _).set_ (.inl rfl) _⟩
  · have HB : Aside0 (r.badX e = r) := ⟨by simp [RS.badX, hc]⟩
    have u : (r.code == 0) = false := by simp [hc]
    clear h hc
    go_enter Try.func102, Try.ntmps102
    go_wp2
    go_end0
    rw [HB.out]
    exact ⟨rfl, H.out, Fr.refl _ _⟩
theorem xHas_calls (at_ : Nat) (n : Int) (ha : at_ ≤ 2) (h : XR w gx A c bs r) : Calls Try.prog 142 #[.pointer (some ⟨gx, 0, none⟩), .int .i64 at_, .int .i64 n] w (XPost gx A c bs (.bool (decide (n ≤ (bs.length : Int) - r.at_ - at_))) r w) := by
  have H := Aside0.mk h
  have d0 : _ = some (Value.slice A bs.length c) := blk_cell h.blk 0
  have d1 : _ = some (Value.int .i64 (r.at_ : Int)) := blk_cell h.blk 1
  have h1 := h.le
  have h2 := h.len
  clear h
  go_enter Try.func142, Try.ntmps142
  go_wp2
  go_quiet (fail)
  go_wp2
  go_ret
  exact ⟨by go_num, H.out.drew _, Fr.of_below (below_drewN (Below.refl _ _) _)⟩
theorem xSome_yes (n : Int) (hc : r.code = 0) (hn : n ≤ (bs.length : Int) - r.at_) (h : XR w gx A c bs r) : Calls Try.prog 103 #[.pointer (some ⟨gx, 0, none⟩), .int .i64 n] w (XPost gx A c bs (.bool true) r w) := by
  have d3 : _ = some (Value.int .i64 r.code) := blk_cell h.blk 3
  have CH := xHas_calls 0 n (by omega) h
  have u : (r.code != 0) = false := by simp [hc]
  rw [show decide (n ≤ (bs.length : Int) - r.at_ - (0 : Nat)) = true from decide_eq_true (by omega)] at CH
  have C := Aside0.mk CH
  clear hc hn CH h
  go_enter Try.func103, Try.ntmps103
  go_wp2_with (go_at_call 142; refine C.out.mono ?_; rintro e w1 ⟨rfl, X1, f1⟩)
  go_ret
  exact ⟨rfl, X1, f1⟩
theorem xSome_no (n : Int) (hc : r.code = 0) (hn : ¬ n ≤ (bs.length : Int) - r.at_) (h : XR w gx A c bs r) : Calls Try.prog 103 #[.pointer (some ⟨gx, 0, none⟩), .int .i64 n] w (XPost gx A c bs (.bool false) (r.badX 10) w) := by
  have d3 : _ = some (Value.int .i64 r.code) := blk_cell h.blk 3
  have CH := xHas_calls 0 n (by omega) h
  have u : (r.code != 0) = false := by simp [hc]
  rw [show decide (n ≤ (bs.length : Int) - r.at_ - (0 : Nat)) = false from decide_eq_false (by omega)] at CH
  have C := Aside0.mk CH
  clear hc hn CH h
  go_enter Try.func103, Try.ntmps103
  go_wp2_with (first | (go_at_call 142; refine C.out.mono ?_; rintro e w1 ⟨rfl, X1, f1⟩) | (go_at_call 102; refine (xBad_calls 10 X1).mono ?_; rintro e w2 ⟨rfl, X2, f2⟩))
  go_ret
  exact ⟨rfl, X2, f1.trans f2 (fun _ _ h => h)⟩
theorem xSome_off (n : Int) (hc : r.code ≠ 0) (h : XR w gx A c bs r) : Calls Try.prog 103 #[.pointer (some ⟨gx, 0, none⟩), .int .i64 n] w (XPost gx A c bs (.bool false) r w) := by
  have H := Aside0.mk h
  have d3 : _ = some (Value.int .i64 r.code) := blk_cell h.blk 3
  have u : (r.code != 0) = true := bne_iff_ne.2 hc
  clear hc h
  go_enter Try.func103, Try.ntmps103
  go_wp2
  go_ret
  exact ⟨rfl, H.out, Fr.refl _ _⟩
theorem val_step' (xs : List Int) (k : Nat) (h : k < xs.length) (x : Int) (hx : rd xs k = x) (h0 : 0 ≤ x) : ((val (xs.take k) : Int) * 256 + x) = (val (xs.take (k + 1)) : Int) := by
  rw [List.take_succ_eq_append_getElem h, val_snoc]
  have : xs[k] = x := by
    rw [← hx]
    simp [rd, List.getD, h]
  rw [this]
  omega
theorem xNumber0_calls (at_ size : Nat) (ha : at_ ≤ 2) (hs : size ≤ 8) (hle : r.at_ + at_ + size ≤ bs.length) (h : XR w gx A c bs r) : Calls Try.prog 104 #[.pointer (some ⟨gx, 0, none⟩), .int .i64 at_, .int .i64 size] w (XPost gx A c bs (.int .u64 (val ((bs.drop (r.at_ + at_)).take size) : Nat)) r w) := by
  have H := Aside0.mk h
  have HLE := Aside0.mk hle
  have hl2 := h.len
  have hl1 := h.le
  clear h hle
  go_enter Try.func104, Try.ntmps104
  go_wp2
  go_loopg [7, 8] size (fun gg s7 s8 wr => ∃ kk : Nat, kk ≤ size ∧ size - kk ≤ gg ∧ s8 = .int .i64 kk ∧ s7 = .int .u64 (val ((bs.drop (r.at_ + at_)).take kk) : Nat) ∧ Aside0 (XR wr gx A c bs r) ∧ Aside0 (Fr (fun i => i = gx) w wr))
  case atStart => exact ⟨0, Nat.zero_le _, by omega, rfl, by simp [val], H, ⟨Fr.refl _ _⟩⟩
  case round =>
    obtain ⟨kk, hkk, hg, rfl, rfl, HX, HF⟩ := hrel
    by_cases hlt : kk < size
    · have hltz : (kk : Int) < (size : Int) := by omega
      have d0 : _ = some (Value.slice A bs.length c) := blk_cell HX.out.blk 0
      have d1 : _ = some (Value.int .i64 (r.at_ : Int)) := blk_cell HX.out.blk 1
      have hix : ((r.at_ : Int) + at_ + kk) < (bs.length : Int) := by have := HLE.out; omega
      obtain ⟨ad, rfl, hcell⟩ := HX.out.rd_.at_ ((r.at_ : Int) + at_ + kk) (by omega) hix
      have hto : ((r.at_ : Int) + at_ + kk).toNat = r.at_ + at_ + kk := by omega
      rw [hto] at hcell
      obtain ⟨x, hx⟩ : ∃ x, rd bs ((r.at_ : Int) + at_ + kk) = x := ⟨_, rfl⟩
      rw [hx] at hcell
      have hxr : 0 ≤ x ∧ x ≤ 255 := HX.out.byt x (by rw [← hx]; have := rd_mem bs (r.at_ + at_ + kk) (by have := HLE.out; omega); simpa using this)
      have hrx : rd (bs.drop (r.at_ + at_)) kk = x := by
        rw [← hx]
        simp only [rd, Int.toNat_natCast, hto, List.getD, List.getElem?_drop]
      have hst := val_step' (bs.drop (r.at_ + at_)) kk (by rw [List.length_drop]; have := HLE.out; omega) x hrx hxr.1
      have hvl := val_take_lt (bs.drop (r.at_ + at_)) (kk + 1) (HX.out.byt.drop _) (by rw [List.length_drop]; have := HLE.out; omega)
      have hp : (256 : Nat) ^ (kk + 1) ≤ 256 ^ 8 := Nat.pow_le_pow_right (by omega) (by omega)
      have e8 : (256 : Nat) ^ 8 = 18446744073709551616 := by decide
      rw [e8] at hp
      have HST := Aside0.mk hst
      have HW : Aside0 (IntKind.u64.wrap (IntKind.u64.wrap ((val ((bs.drop (r.at_ + at_)).take kk) : Int) * 256) + x) = (val ((bs.drop (r.at_ + at_)).take (kk + 1)) : Int)) := ⟨by
        rw [u64_wrap, u64_wrap]
        omega⟩
      clear hst hvl hp e8 hrx hx
      have hi0 : (0 : Int) ≤ (r.at_ : Int) + at_ + kk := by omega
      have hs1 : IntKind.i64.wrap ((r.at_ : Int) + at_) = (r.at_ : Int) + at_ := IntWalk.i64_in _ (by omega)
      have hs2 : IntKind.i64.wrap ((r.at_ : Int) + at_ + kk) = (r.at_ : Int) + at_ + kk := IntWalk.i64_in _ (by omega)
      go_wp2
      go_quiet (fail)
      clear hs1 hs2 hto
      go_wp2
      go_roundg (size - (kk + 1))
      case measure => omega
      case rel => exact ⟨kk + 1, by omega, by omega, by go_num, by rw [HW.out], ⟨HX.out.drew _⟩, ⟨HF.out.trans (Fr.of_below (below_drewN (Below.refl _ _) _)) (fun _ _ h => h)⟩⟩
    · have hltz : ¬ (kk : Int) < (size : Int) := by omega
      have hke : kk = size := by omega
      subst hke
      go_wp2
      go_ret
      exact ⟨rfl, HX.out, HF.out⟩
theorem xTook_calls (n : Nat) (hn : r.at_ + n ≤ bs.length) (h : XR w gx A c bs r) : Calls Try.prog 105 #[.pointer (some ⟨gx, 0, none⟩), .int .i64 n] w (XPost gx A c bs (.tuple #[]) ⟨r.at_ + n, r.at_, r.code, r.fat⟩ w) := by
  have H := Aside0.mk h
  have HN := Aside0.mk hn
  have d1 : _ = some (Value.int .i64 (r.at_ : Int)) := blk_cell h.blk 1
  have f1 := blk_frozen h.blk 1
  have f2 := blk_frozen h.blk 2
  have h2 := h.len
  have d2 : _ = some (Value.int .i64 (r.last : Int)) := blk_cell h.blk 2
  have hn2 : (r.at_ : Int) + n ≤ 140737488355328 := by omega
  clear h hn
  go_enter Try.func105, Try.ntmps105
  go_wp2
  go_end0
  exact ⟨rfl, H.out.of_keep (((KeepBut.refl w gx none).set_ 2 _).set_ 1 _) (blk_put (H.out.set_ 2 _ rfl) 1 _ (by go_num)) HN.out, ((Fr.refl (fun i => i = gx) w).set_ (.inl rfl) _).set_ (.inl rfl) _⟩
end
end Go.Proofs.Ytgmbfecfkdbfaaa.Wi
