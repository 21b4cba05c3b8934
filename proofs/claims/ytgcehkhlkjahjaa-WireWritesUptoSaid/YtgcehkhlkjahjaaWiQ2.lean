/- Plain laws of pieces: what is taken is put as it stood; the bytes of parts. No program in sight. -/
import Derived.Test.YtgcehkhlkjahjaaWiQ
set_option linter.unusedVariables false
set_option linter.unusedSimpArgs false
namespace Go.Proofs.Ytgcehkhlkjahjaa.Wi
open Go Go.RowKit Go.Proofs.YtgcehkhlkjahjaaW.PrintWords
/-- a piece with what was taken laid into it -/
def Pc.fill (p : Pc) (bs : List Int) (r : RS) : Pc :=
  if p.kind = 0 then { p with n := (rNum bs r p.size).1 } else if p.kind = 1 then { p with n := (rInt bs r).1 } else if p.kind = 2 then { p with x := (rFlo bs r).1 } else if p.kind = 3 then { p with is := (rBoo bs r).1 }
  else if p.kind = 4 then { p with s := strOfNums (rTex bs r p.size).1 } else if p.kind = 5 then { p with s := strOfNums (rFix bs r p.size).1 } else if p.kind = 6 then { p with n := (rCou bs r p.size).1 } else p
theorem be_take (l : List Int) (n : Nat) (h : Bytes l) (hn : n ≤ l.length) : be (Wi.val (l.take n)) n = l.take n := by
  have h1 := be_val (l.take n) (h.take n)
  rwa [List.length_take, Nat.min_eq_left hn] at h1
theorem strBytes_strOf (l : List Int) (h : Bytes l) : strBytes (strOfNums l) = l := by
  simp only [strBytes, strOfNums, List.map_map]
  conv => rhs; rw [← List.map_id l]
  apply List.map_congr_left
  intro x hx
  have := h x hx
  simp only [Function.comp, UInt8.toNat_ofNat', id]
  omega
theorem gNumber_form {l : List Int} {size x : Int} {k : Nat} (hb : Bytes l) (h : gNumber l size = .ok (x, k)) : pNumber x size = some (l.take k) ∧ k ≤ l.length := by
  have hk := gNumber_le h
  unfold gNumber at h
  split at h
  · cases h
  · rename_i hz
    split at h
    · cases h
    · split at h
      · cases h
      · rename_i hl hv
        injection h with h
        injection h with h1 h2
        subst h1 h2
        have hz2 : sizedB size = true := by simpa using hz
        have hz' : 1 ≤ size ∧ size ≤ 8 := by simpa [sizedB] using hz2
        have hlt := val_take_lt l size.toNat hb hk.1
        have hf : fitsB (Wi.val (l.take size.toNat) : Int) size = true := by
          simp only [fitsB, Bool.and_eq_true, Bool.or_eq_true, decide_eq_true_eq]
          refine ⟨by omega, ?_⟩
          right
          have : ((Wi.val (l.take size.toNat) : Nat) : Int) < ((256 ^ size.toNat : Nat) : Int) := by omega
          rw [Int.natCast_pow] at this
          exact this
        refine ⟨?_, hk.1⟩
        unfold pNumber
        rw [if_pos (by rw [hz2, hf]; rfl), Int.toNat_natCast, be_take l _ hb hk.1]
theorem gInt_form {l : List Int} {x : Int} {k : Nat} (hb : Bytes l) (h : gInt l = .ok (x, k)) : pInt x = some (l.take k) ∧ k ≤ l.length := by
  have hk := gInt_le h
  unfold gInt at h
  split at h
  · cases h
  · injection h with h
    injection h with h1 h2
    subst h1 h2
    have hlt := val_take_lt l 8 hb hk
    have e : (256 : Nat) ^ 8 = 18446744073709551616 := by decide
    rw [e] at hlt
    refine ⟨?_, hk⟩
    unfold pInt
    have : (asInt (Wi.val (l.take 8)) % 18446744073709551616).toNat = Wi.val (l.take 8) := by
      unfold asInt
      split <;> omega
    rw [this, be_take l 8 hb hk]
theorem gFloat_form {l : List Int} {x : Nat} {k : Nat} (hb : Bytes l) (h : gFloat l = .ok (x, k)) : pFloat x = some (l.take k) ∧ k ≤ l.length := by
  have hk := gFloat_le h
  unfold gFloat at h
  split at h
  · cases h
  · split at h
    · cases h
    · rename_i hc
      injection h with h
      injection h with h1 h2
      subst h1 h2
      refine ⟨?_, hk⟩
      have e : fBits (Wi.val (l.take 8)) = Wi.val (l.take 8) := by
        unfold fBits
        split
        · rename_i hn
          rcases Nat.decEq (Wi.val (l.take 8)) nanBits with he | he
          · exact absurd ⟨hn, he⟩ hc
          · exact he.symm
        · rfl
      unfold pFloat
      rw [e, be_take l 8 hb hk]
theorem gBool_form {l : List Int} {x : Bool} {k : Nat} (hb : Bytes l) (h : gBool l = .ok (x, k)) : pBool x = some (l.take k) ∧ k ≤ l.length := by
  have hk := gBool_le h
  unfold gBool at h
  split at h
  · cases h
  · split at h
    · cases h
    · rename_i hv
      injection h with h
      injection h with h1 h2
      subst h1 h2
      refine ⟨?_, hk⟩
      have h3 := be_take l 1 hb hk
      by_cases hv1 : Wi.val (l.take 1) = 1
      · rw [hv1] at h3
        rw [hv1, ← h3]
        rfl
      · have hv0 : Wi.val (l.take 1) = 0 := by omega
        rw [hv0] at h3
        rw [hv0, ← h3]
        rfl
theorem gText_form {l : List Int} {most : Int} {x : List Int} {k : Nat} (hb : Bytes l) (h : gText l most = .ok (x, k)) : pText (strOfNums x) = some (l.take k) ∧ k ≤ l.length := by
  have hk := gText_le h
  unfold gText at h
  split at h
  · cases h
  · split at h
    · cases h
    · split at h
      · cases h
      · split at h
        · cases h
        · rename_i h2 h3 h4
          injection h with h
          injection h with h1 hk2
          subst h1 hk2
          have hlt := val_take_lt l 2 hb (by omega)
          have e : (256 : Nat) ^ 2 = 65536 := by decide
          rw [e] at hlt
          refine ⟨?_, hk⟩
          have hx : Bytes ((l.drop 2).take (Wi.val (l.take 2))) := (hb.drop 2).take _
          have hs : (strOfNums ((l.drop 2).take (Wi.val (l.take 2)))).size = Wi.val (l.take 2) := by
            rw [strOfNums_size, List.length_take, List.length_drop]
            omega
          unfold pText
          rw [if_pos (by omega), hs, strBytes_strOf _ hx, be_take l 2 hb (by omega), ← List.take_add]
theorem gFixed_form {l : List Int} {size : Int} {x : List Int} {k : Nat} (hb : Bytes l) (h : gFixed l size = .ok (x, k)) : pFixed (strOfNums x) size = some (l.take k) ∧ k ≤ l.length := by
  have hk := gFixed_le h
  unfold gFixed at h
  split at h
  · cases h
  · split at h
    · cases h
    · injection h with h
      injection h with h1 h2
      subst h1 h2
      refine ⟨?_, hk⟩
      have hs : (strOfNums (l.take size.toNat)).size = size.toNat := by
        rw [strOfNums_size, List.length_take]
        omega
      unfold pFixed
      rw [if_pos, strBytes_strOf _ (hb.take _)]
      simp only [fixedB, Bool.and_eq_true, decide_eq_true_eq, beq_iff_eq]
      omega
theorem gCount_form {l : List Int} {most x : Int} {k : Nat} (hb : Bytes l) (h : gCount l most = .ok (x, k)) : pNumber x 2 = some (l.take k) ∧ k ≤ l.length := by
  have hk := gCount_le h
  unfold gCount at h
  split at h
  · cases h
  · split at h
    · cases h
    · split at h
      · cases h
      · injection h with h
        injection h with h1 h2
        subst h1 h2
        have hlt := val_take_lt l 2 hb (by omega)
        have e : (256 : Nat) ^ 2 = 65536 := by decide
        rw [e] at hlt
        refine ⟨?_, hk⟩
        have hf : fitsB (Wi.val (l.take 2) : Int) 2 = true := by
          simp only [fitsB, Bool.and_eq_true, Bool.or_eq_true, decide_eq_true_eq]
          refine ⟨by omega, ?_⟩
          right
          show ((Wi.val (l.take 2) : Nat) : Int) < 65536
          omega
        unfold pNumber
        rw [if_pos (by rw [hf]; rfl), Int.toNat_natCast]
        exact congrArg some (be_take l 2 hb (by omega))
/-- a reader behind a piece: it took it, or is at fault where it stood -/
theorem take_cases {α : Type} {bs : List Int} {r : RS} {d : α} {G : List Int → Except Int (α × Nat)} (hc : r.code = 0) (hG : ∀ l e, G l = .error e → e ≠ 0) :
    (∃ x k, G (bs.drop r.at_) = .ok (x, k) ∧ r.take bs d G = (x, ⟨r.at_ + k, r.at_, 0, r.fat⟩)) ∨ (∃ e, e ≠ 0 ∧ r.take bs d G = (d, ⟨r.at_, r.last, e, r.at_⟩)) := by
  cases h : G (bs.drop r.at_) with
  | ok p => exact .inl ⟨p.1, p.2, rfl, take_ok hc h⟩
  | error e =>
    refine .inr ⟨e, hG _ _ h, ?_⟩
    unfold RS.take
    rw [if_neg (by simp [hc]), h]
/-- what a piece that is filled is put as -/
def FormOf (bs : List Int) (r r' : RS) (p' : Pc) : Prop :=
  (r'.code ≠ 0 ∧ r'.at_ = r.at_ ∧ r'.fat = r.at_) ∨ (r'.code = 0 ∧ r'.fat = r.fat ∧ r.at_ ≤ r'.at_ ∧ r'.at_ ≤ bs.length ∧ p'.enc = some ((bs.drop r.at_).take (r'.at_ - r.at_)))
theorem form_of {α : Type} {bs : List Int} {r : RS} {d : α} {G : List Int → Except Int (α × Nat)} (p : α → Pc) (hc : r.code = 0) (hle : r.at_ ≤ bs.length) (hG : ∀ l e, G l = .error e → e ≠ 0) (hb : Bytes bs) (hf : ∀ l x k, Bytes l → G l = .ok (x, k) → (p x).enc = some (l.take k) ∧ k ≤ l.length) :
    FormOf bs r (r.take bs d G).2 (p (r.take bs d G).1) := by
  rcases take_cases (bs := bs) (d := d) hc hG with ⟨x, k, h1, h2⟩ | ⟨e, h1, h2⟩
  · rw [h2]
    obtain ⟨h3, h4⟩ := hf _ x k (hb.drop _) h1
    rw [List.length_drop] at h4
    refine .inr ⟨rfl, rfl, Nat.le_add_right _ _, ?_, ?_⟩
    · show r.at_ + k ≤ bs.length
      omega
    · show _ = some ((bs.drop r.at_).take (r.at_ + k - r.at_))
      rw [show r.at_ + k - r.at_ = k by omega]
      exact h3
  · rw [h2]
    exact .inl ⟨h1, rfl, rfl⟩
theorem fill_form {bs : List Int} {r : RS} (p : Pc) (hc : r.code = 0) (hle : r.at_ ≤ bs.length) (hb : Bytes bs) : FormOf bs r (nothingS bs r p) (p.fill bs r) := by
  unfold nothingS Pc.fill rNum rInt rFlo rBoo rTex rFix rCou
  by_cases k0 : p.kind = 0
  · simp only [if_pos k0]
    exact form_of (fun x => { p with n := x }) hc hle (fun l e h => gNumber_err h) hb (fun l x k hl h => by simp only [Pc.enc, if_pos k0]; exact gNumber_form hl h)
  simp only [if_neg k0]
  by_cases k1 : p.kind = 1
  · simp only [if_pos k1]
    exact form_of (fun x => { p with n := x }) hc hle (fun l e h => gInt_err h) hb (fun l x k hl h => by simp only [Pc.enc, if_neg k0, if_pos k1]; exact gInt_form hl h)
  simp only [if_neg k1]
  by_cases k2 : p.kind = 2
  · simp only [if_pos k2]
    exact form_of (fun x => { p with x := x }) hc hle (fun l e h => gFloat_err h) hb (fun l x k hl h => by simp only [Pc.enc, if_neg k0, if_neg k1, if_pos k2]; exact gFloat_form hl h)
  simp only [if_neg k2]
  by_cases k3 : p.kind = 3
  · simp only [if_pos k3]
    exact form_of (fun x => { p with is := x }) hc hle (fun l e h => gBool_err h) hb (fun l x k hl h => by simp only [Pc.enc, if_neg k0, if_neg k1, if_neg k2, if_pos k3]; exact gBool_form hl h)
  simp only [if_neg k3]
  by_cases k4 : p.kind = 4
  · simp only [if_pos k4]
    exact form_of (fun x => { p with s := strOfNums x }) hc hle (fun l e h => gText_err h) hb (fun l x k hl h => by simp only [Pc.enc, if_neg k0, if_neg k1, if_neg k2, if_neg k3, if_pos k4]; exact gText_form hl h)
  simp only [if_neg k4]
  by_cases k5 : p.kind = 5
  · simp only [if_pos k5]
    exact form_of (fun x => { p with s := strOfNums x }) hc hle (fun l e h => gFixed_err h) hb (fun l x k hl h => by simp only [Pc.enc, if_neg k0, if_neg k1, if_neg k2, if_neg k3, if_neg k4, if_pos k5]; exact gFixed_form hl h)
  simp only [if_neg k5]
  by_cases k6 : p.kind = 6
  · simp only [if_pos k6]
    exact form_of (fun x => { p with n := x }) hc hle (fun l e h => gCount_err h) hb (fun l x k hl h => by simp only [Pc.enc, if_neg k0, if_neg k1, if_neg k2, if_neg k3, if_neg k4, if_neg k5, if_pos k6]; exact gCount_form hl h)
  simp only [if_neg k6]
  refine .inr ⟨hc, rfl, Nat.le_refl _, hle, ?_⟩
  simp only [Pc.enc, if_neg k0, if_neg k1, if_neg k2, if_neg k3, if_neg k4, if_neg k5, if_neg k6]
  simp
/-- the bytes of lists of pieces, one behind the other -/
theorem runW_bad (l : List Pc) (s : WS) (h : s.bad = true) : l.foldl WS.step s = s := by
  induction l with
  | nil => rfl
  | cons p r ih =>
    simp only [List.foldl_cons]
    have : s.step p = s := by rw [step_enc]; unfold WS.put; rw [if_pos h]
    rw [this]
    exact ih
def encAll : List Pc → Option (List Int)
  | [] => some []
  | p :: r => match p.enc, encAll r with
    | some ys, some zs => some (ys ++ zs)
    | _, _ => none
theorem foldW (l : List Pc) : ∀ xs : List Int, (l.foldl WS.step ⟨xs, false⟩).bad = (encAll l).isNone ∧ ∀ zs, encAll l = some zs → l.foldl WS.step ⟨xs, false⟩ = ⟨xs ++ zs, false⟩ := by
  induction l with
  | nil => intro xs; exact ⟨rfl, fun zs h => by obtain rfl := Option.some.inj h; simp⟩
  | cons p r ih =>
    intro xs
    simp only [List.foldl_cons, step_enc]
    cases he : p.enc with
    | none =>
      have h1 : (⟨xs, false⟩ : WS).put none = ⟨xs, true⟩ := rfl
      rw [h1, runW_bad r _ rfl]
      refine ⟨by simp [encAll, he], fun zs h => by simp [encAll, he] at h⟩
    | some ys =>
      have h1 : (⟨xs, false⟩ : WS).put (some ys) = ⟨xs ++ ys, false⟩ := rfl
      rw [h1]
      obtain ⟨i1, i2⟩ := ih (xs ++ ys)
      cases hr : encAll r with
      | none =>
        rw [hr] at i1
        exact ⟨by rw [i1]; simp [encAll, he, hr], fun zs h => by simp [encAll, he, hr] at h⟩
      | some qs =>
        rw [hr] at i1
        refine ⟨by rw [i1]; simp [encAll, he, hr], fun zs h => ?_⟩
        simp only [encAll, he, hr, Option.some.injEq] at h
        subst h
        rw [i2 qs hr, List.append_assoc]
theorem encAll_append (a b : List Pc) : encAll (a ++ b) = match encAll a, encAll b with
    | some x, some y => some (x ++ y)
    | _, _ => none := by
  induction a with
  | nil => simp only [List.nil_append, encAll]; cases encAll b <;> simp
  | cons p r ih =>
    simp only [List.cons_append, encAll, ih]
    cases p.enc <;> cases encAll r <;> cases encAll b <;> simp
theorem runW_enc (l : List Pc) : (runW l).bad = (encAll l).isNone ∧ (runW l).out = (encAll l).getD [] := by
  obtain ⟨h1, h2⟩ := foldW l []
  refine ⟨h1, ?_⟩
  unfold WS.out
  cases he : encAll l with
  | none =>
    rw [he] at h1
    have h1' : (runW l).bad = true := h1
    rw [if_pos h1']
    rfl
  | some zs =>
    rw [he] at h1
    rw [if_neg (by rw [show (runW l).bad = _ from h1]; simp)]
    have := h2 zs he
    unfold runW
    rw [this]
    simp
end Go.Proofs.Ytgcehkhlkjahjaa.Wi
