/- The reader's methods: each takes its piece, or the reader is at fault from then on. -/
import Derived.Test.YtgmbfecfkdbfaaaWiR6
set_option linter.unusedVariables false
set_option linter.unusedSimpArgs false
namespace Go.Proofs.Ytgmbfecfkdbfaaa.Wi
open Go Go.RowKit Go.Proofs.YtgmbfecfkdbfaaaW.PrintWords
section
variable {w : World} {B g : Nat} {ro : Option Nat} {bs : List Int} {r : RS}
theorem take_any {α : Type} (f : Nat) (caps : Array Value) (eg : ∀ args w, (callFunc f args).run Try.prog w = .ok (.enter f args) w) (d : α) (enc : α → Value) (G : List Int → Except Int (α × Nat)) (gx : Nat) (T : TypeId) (hB : B ≤ w.heap.size)
    (hr : Rd w B g ro bs r) (hx : w.heap[gx]? = some (.cells #[enc d] T (0, 0))) (hT : T ≠ 202) (hTu : 5 ≠ T) (hG : ∀ x k, G (bs.drop r.at_) = .ok (x, k) → k ≤ (bs.drop r.at_).length)
    (hp : ∀ (W : World) (gc : Nat) (A : Option Addr) (c : Nat), Below w.heap.size w W → CR W gc A bs c r.at_ → Calls Try.prog f (#[.pointer (some ⟨gc, 0, none⟩)] ++ caps) W (ReadP gc gx T A bs c r.at_ (lift enc (G (bs.drop r.at_))) W)) :
    Calls Try.prog 144 #[.pointer (some ⟨g, 0, none⟩), .func (.func f) #[] caps] w (TPost B g ro bs gx T (enc (r.take bs d G).1) (r.take bs d G).2 w) := by
  by_cases hc : r.code = 0
  · have h := take_calls f caps eg (lift enc (G (bs.drop r.at_))) B g ro bs r gx T (enc d) w hB hr hx hT hTu hc (fun u k h => by
        cases hg : G (bs.drop r.at_) with
        | error e => rw [hg] at h; cases h
        | ok p =>
          obtain ⟨x, m⟩ := p
          rw [hg] at h
          simp only [lift, Except.ok.injEq, Prod.mk.injEq] at h
          obtain ⟨_, rfl⟩ := h
          have := hG x m hg
          rw [List.length_drop] at this
          have := hr.le
          omega)
      (fun W gc A c h1 h2 h3 h4 h5 _ => hp W gc A c h1 ⟨h2, h3, h4, hr.le, hr.byt, hr.len, h5⟩)
    unfold RS.take
    rw [if_neg (by simp [hc])]
    cases hg : G (bs.drop r.at_) with
    | error e => rw [hg] at h; exact h
    | ok p => rw [hg] at h; exact h
  · unfold RS.take
    rw [if_pos hc]
    exact take_faulty (.func (.func f) #[] caps) B g ro bs r gx T (enc d) w hr hx hc
/-- what a reader's method leaves -/
def RPost (B g : Nat) (ro : Option Nat) (bs : List Int) (u : Value) (r : RS) (w : World) (e : Ending) (w' : World) : Prop :=
  e = .returned u ∧ Rd w' B g ro bs r ∧ Fr (fun i => i = g) w w'
theorem fr_fresh {w w1 w2 : World} {g gx : Nat} (hb : Below w.heap.size w w1) (hf : Fr (fun i => i = g ∨ i = gx) w1 w2) (hx : w.heap.size ≤ gx) : Fr (fun i => i = g) w w2 :=
  (Fr.of_below hb).trans hf (fun i hi h => h.elim (fun e => e) (fun e => by omega))
theorem val_take_lt (l : List Int) (n : Nat) (h : Bytes l) (hn : n ≤ l.length) : val (l.take n) < 256 ^ n := by
  have h1 := val_lt (l.take n) (h.take n)
  rwa [List.length_take, Nat.min_eq_left hn] at h1
theorem gNumber_le {l : List Int} {size x : Int} {k : Nat} (h : gNumber l size = .ok (x, k)) : k ≤ l.length ∧ 0 ≤ x ∧ x < 9223372036854775808 := by
  unfold gNumber at h
  split at h
  · cases h
  · split at h
    · cases h
    · split at h
      · cases h
      · injection h with h
        injection h with h1 h2
        subst h1 h2
        omega
theorem gInt_le {l : List Int} {x : Int} {k : Nat} (h : gInt l = .ok (x, k)) : k ≤ l.length := by
  unfold gInt at h
  split at h
  · cases h
  · injection h with h
    injection h with h1 h2
    omega
theorem gFloat_le {l : List Int} {x : Nat} {k : Nat} (h : gFloat l = .ok (x, k)) : k ≤ l.length := by
  unfold gFloat at h
  split at h
  · cases h
  · split at h
    · cases h
    · injection h with h
      injection h with h1 h2
      omega
theorem gBool_le {l : List Int} {x : Bool} {k : Nat} (h : gBool l = .ok (x, k)) : k ≤ l.length := by
  unfold gBool at h
  split at h
  · cases h
  · split at h
    · cases h
    · injection h with h
      injection h with h1 h2
      omega
theorem gText_le {l : List Int} {most : Int} {x : List Int} {k : Nat} (h : gText l most = .ok (x, k)) : k ≤ l.length := by
  unfold gText at h
  split at h
  · cases h
  · split at h
    · cases h
    · split at h
      · cases h
      · split at h
        · cases h
        · injection h with h
          injection h with h1 h2
          omega
theorem gFixed_le {l : List Int} {size : Int} {x : List Int} {k : Nat} (h : gFixed l size = .ok (x, k)) : k ≤ l.length := by
  unfold gFixed at h
  split at h
  · cases h
  · split at h
    · cases h
    · injection h with h
      injection h with h1 h2
      omega
theorem gCount_le {l : List Int} {most x : Int} {k : Nat} (h : gCount l most = .ok (x, k)) : k ≤ l.length := by
  unfold gCount at h
  split at h
  · cases h
  · split at h
    · cases h
    · split at h
      · cases h
      · injection h with h
        injection h with h1 h2
        omega
theorem number_range (r : RS) (bs : List Int) (size : Int) : 0 ≤ (r.take bs 0 (fun l => gNumber l size)).1 ∧ (r.take bs 0 (fun l => gNumber l size)).1 < 9223372036854775808 := by
  unfold RS.take
  split
  · exact ⟨by simp, by simp⟩
  · split
    · rename_i x n h
      exact (gNumber_le h).2
    · exact ⟨by simp, by simp⟩
theorem ent_rNumber : ∀ args w, (callFunc 152 args).run Try.prog w = .ok (.enter 152 args) w := enters_of Try.func152 (by kernel_rfl) rfl
set_option maxHeartbeats 1600000 in
set_option maxRecDepth 100000 in
theorem rNumber_calls (size : Int) (hr : Rd w B g ro bs r) (hB : B ≤ w.heap.size) :
    Calls Try.prog 112 #[.pointer (some ⟨g, 0, none⟩), .int .i64 size] w (RPost B g ro bs (.int .i64 (r.take bs (0 : Int) (fun l => gNumber l size)).1) (r.take bs (0 : Int) (fun l => gNumber l size)).2 w) := by
  have C := take_any 152 #[.pointer (some ⟨w.heap.size, 0, none⟩), .pointer (some ⟨w.heap.size + 1, 0, none⟩)] ent_rNumber (0 : Int) (Value.int .u64) (fun l => gNumber l size) (w.heap.size + 1) 142 (Nat.le_trans hB (below2 _ _).size) (w := ((w.alloc (.cells #[.int .i64 size] 3)).alloc (.cells #[.int .u64 0] 142))) (hr.below (below2 _ _)) (two_1 w _ _) (by decide) (by decide) (fun x k h => (gNumber_le h).1)
    (fun W gc A c hW h => rnumber1_calls h _ size _ (blk_b (two_0 w _ _) hW) (blk_b (two_1 w _ _) hW))
  have hx0 := number_range r bs size
  obtain ⟨hx1, hx2⟩ := hx0
  have C' := Aside0.mk C
  clear C hr
  generalize (r.take bs (0 : Int) (fun l => gNumber l size)) = p at *
  obtain ⟨x, r'⟩ := p
  simp only at *
  have hmf : ∀ (fn : Fn) (first cap : Array Value) (w : World), (Instr.makeFunc fn first cap).run Try.prog w = .ok (.func fn first cap) w := fun _ _ _ _ => rfl
  go_enter Try.func112, Try.ntmps112
  go_wp2_with (go_at_call 144; refine C'.out.mono ?_; rintro e w' ⟨rfl, hrd, hgx, hf⟩; have cx : w'.cell? ⟨w.heap.size + 1, 0, none⟩ = some (.int .u64 x) := (blk_cell hgx 0).trans rfl)
  go_ret
  exact ⟨rfl, hrd, fr_fresh (below2 _ _) hf (by omega)⟩
theorem ent_rInt : ∀ args w, (callFunc 169 args).run Try.prog w = .ok (.enter 169 args) w := enters_of Try.func169 (by kernel_rfl) rfl
set_option maxHeartbeats 1600000 in
set_option maxRecDepth 100000 in
theorem rInt_calls (hr : Rd w B g ro bs r) (hB : B ≤ w.heap.size) :
    Calls Try.prog 155 #[.pointer (some ⟨g, 0, none⟩)] w (RPost B g ro bs (.int .i64 (r.take bs (0 : Int) gInt).1) (r.take bs (0 : Int) gInt).2 w) := by
  have C := take_any 169 #[.pointer (some ⟨w.heap.size, 0, none⟩)] ent_rInt (0 : Int) (Value.int .i64) gInt (w.heap.size) 3 (Nat.le_trans hB (below1 _).size) (w := (w.alloc (.cells #[.int .i64 0] 3))) (hr.below (below1 _)) (heap_alloc_new w _) (by decide) (by decide) (fun x k h => gInt_le h)
    (fun W gc A c hW h => rint1_calls h _ (blk_b (heap_alloc_new w _) hW))
  have C' := Aside0.mk C
  clear C hr
  generalize (r.take bs (0 : Int) gInt) = p at *
  obtain ⟨x, r'⟩ := p
  simp only at *
  have hmf : ∀ (fn : Fn) (first cap : Array Value) (w : World), (Instr.makeFunc fn first cap).run Try.prog w = .ok (.func fn first cap) w := fun _ _ _ _ => rfl
  go_enter Try.func155, Try.ntmps155
  go_wp2_with (go_at_call 144; refine C'.out.mono ?_; rintro e w' ⟨rfl, hrd, hgx, hf⟩; have cx : w'.cell? ⟨w.heap.size, 0, none⟩ = some (.int .i64 x) := (blk_cell hgx 0).trans rfl)
  go_ret
  exact ⟨rfl, hrd, fr_fresh (below1 _) hf (by omega)⟩
theorem ent_rFloat : ∀ args w, (callFunc 176 args).run Try.prog w = .ok (.enter 176 args) w := enters_of Try.func176 (by kernel_rfl) rfl
set_option maxHeartbeats 1600000 in
set_option maxRecDepth 100000 in
theorem rFloat_calls (hr : Rd w B g ro bs r) (hB : B ≤ w.heap.size) :
    Calls Try.prog 165 #[.pointer (some ⟨g, 0, none⟩)] w (RPost B g ro bs (.float .f64 (r.take bs (0 : Nat) gFloat).1) (r.take bs (0 : Nat) gFloat).2 w) := by
  have C := take_any 176 #[.pointer (some ⟨w.heap.size, 0, none⟩)] ent_rFloat (0 : Nat) (Value.float .f64) gFloat (w.heap.size) 69 (Nat.le_trans hB (below1 _).size) (w := (w.alloc (.cells #[.float .f64 0] 69))) (hr.below (below1 _)) (heap_alloc_new w _) (by decide) (by decide) (fun x k h => gFloat_le h)
    (fun W gc A c hW h => rfloat1_calls h _ (blk_b (heap_alloc_new w _) hW))
  have C' := Aside0.mk C
  clear C hr
  generalize (r.take bs (0 : Nat) gFloat) = p at *
  obtain ⟨x, r'⟩ := p
  simp only at *
  have hmf : ∀ (fn : Fn) (first cap : Array Value) (w : World), (Instr.makeFunc fn first cap).run Try.prog w = .ok (.func fn first cap) w := fun _ _ _ _ => rfl
  go_enter Try.func165, Try.ntmps165
  go_wp2_with (go_at_call 144; refine C'.out.mono ?_; rintro e w' ⟨rfl, hrd, hgx, hf⟩; have cx : w'.cell? ⟨w.heap.size, 0, none⟩ = some (.float .f64 x) := (blk_cell hgx 0).trans rfl)
  go_ret
  exact ⟨rfl, hrd, fr_fresh (below1 _) hf (by omega)⟩
theorem ent_rBool : ∀ args w, (callFunc 170 args).run Try.prog w = .ok (.enter 170 args) w := enters_of Try.func170 (by kernel_rfl) rfl
set_option maxHeartbeats 1600000 in
set_option maxRecDepth 100000 in
theorem rBool_calls (hr : Rd w B g ro bs r) (hB : B ≤ w.heap.size) :
    Calls Try.prog 157 #[.pointer (some ⟨g, 0, none⟩)] w (RPost B g ro bs (.bool (r.take bs false gBool).1) (r.take bs false gBool).2 w) := by
  have C := take_any 170 #[.pointer (some ⟨w.heap.size, 0, none⟩)] ent_rBool false Value.bool gBool (w.heap.size) 4 (Nat.le_trans hB (below1 _).size) (w := (w.alloc (.cells #[.bool false] 4))) (hr.below (below1 _)) (heap_alloc_new w _) (by decide) (by decide) (fun x k h => gBool_le h)
    (fun W gc A c hW h => rbool1_calls h _ (blk_b (heap_alloc_new w _) hW))
  have C' := Aside0.mk C
  clear C hr
  generalize (r.take bs false gBool) = p at *
  obtain ⟨x, r'⟩ := p
  simp only at *
  have hmf : ∀ (fn : Fn) (first cap : Array Value) (w : World), (Instr.makeFunc fn first cap).run Try.prog w = .ok (.func fn first cap) w := fun _ _ _ _ => rfl
  go_enter Try.func157, Try.ntmps157
  go_wp2_with (go_at_call 144; refine C'.out.mono ?_; rintro e w' ⟨rfl, hrd, hgx, hf⟩; have cx : w'.cell? ⟨w.heap.size, 0, none⟩ = some (.bool x) := (blk_cell hgx 0).trans rfl)
  go_ret
  exact ⟨rfl, hrd, fr_fresh (below1 _) hf (by omega)⟩
theorem ent_rFixed : ∀ args w, (callFunc 145 args).run Try.prog w = .ok (.enter 145 args) w := enters_of Try.func145 (by kernel_rfl) rfl
set_option maxHeartbeats 1600000 in
set_option maxRecDepth 100000 in
theorem rFixed_calls (size : Int) (hr : Rd w B g ro bs r) (hB : B ≤ w.heap.size) :
    Calls Try.prog 110 #[.pointer (some ⟨g, 0, none⟩), .int .i64 size] w (RPost B g ro bs (encS (r.take bs ([] : List Int) (fun l => gFixed l size)).1) (r.take bs ([] : List Int) (fun l => gFixed l size)).2 w) := by
  have C := take_any 145 #[.pointer (some ⟨w.heap.size, 0, none⟩), .pointer (some ⟨w.heap.size + 1, 0, none⟩)] ent_rFixed ([] : List Int) encS (fun l => gFixed l size) (w.heap.size + 1) 9 (Nat.le_trans hB (below2 _ _).size) (w := ((w.alloc (.cells #[.int .i64 size] 3)).alloc (.cells #[.string ⟨#[]⟩] 9))) (hr.below (below2 _ _)) (two_1 w _ _) (by decide) (by decide) (fun x k h => gFixed_le h)
    (fun W gc A c hW h => rfixed1_calls h _ size _ (blk_b (two_0 w _ _) hW) (blk_b (two_1 w _ _) hW))
  have C' := Aside0.mk C
  clear C hr
  generalize (r.take bs ([] : List Int) (fun l => gFixed l size)) = p at *
  obtain ⟨x, r'⟩ := p
  simp only at *
  have hmf : ∀ (fn : Fn) (first cap : Array Value) (w : World), (Instr.makeFunc fn first cap).run Try.prog w = .ok (.func fn first cap) w := fun _ _ _ _ => rfl
  go_enter Try.func110, Try.ntmps110
  go_wp2_with (go_at_call 144; refine C'.out.mono ?_; rintro e w' ⟨rfl, hrd, hgx, hf⟩; have cx : w'.cell? ⟨w.heap.size + 1, 0, none⟩ = some (encS x) := (blk_cell hgx 0).trans rfl)
  go_ret
  exact ⟨rfl, hrd, fr_fresh (below2 _ _) hf (by omega)⟩
theorem ent_rCount : ∀ args w, (callFunc 171 args).run Try.prog w = .ok (.enter 171 args) w := enters_of Try.func171 (by kernel_rfl) rfl
set_option maxHeartbeats 1600000 in
set_option maxRecDepth 100000 in
theorem rCount_calls (most : Int) (hr : Rd w B g ro bs r) (hB : B ≤ w.heap.size) :
    Calls Try.prog 159 #[.pointer (some ⟨g, 0, none⟩), .int .i64 most] w (RPost B g ro bs (.int .i64 (r.take bs (0 : Int) (fun l => gCount l most)).1) (r.take bs (0 : Int) (fun l => gCount l most)).2 w) := by
  have C := take_any 171 #[.pointer (some ⟨w.heap.size, 0, none⟩), .pointer (some ⟨w.heap.size + 1, 0, none⟩)] ent_rCount (0 : Int) (Value.int .i64) (fun l => gCount l most) (w.heap.size + 1) 3 (Nat.le_trans hB (below2 _ _).size) (w := ((w.alloc (.cells #[.int .i64 most] 3)).alloc (.cells #[.int .i64 0] 3))) (hr.below (below2 _ _)) (two_1 w _ _) (by decide) (by decide) (fun x k h => gCount_le h)
    (fun W gc A c hW h => rcount1_calls h _ most _ (blk_b (two_0 w _ _) hW) (blk_b (two_1 w _ _) hW))
  have C' := Aside0.mk C
  clear C hr
  generalize (r.take bs (0 : Int) (fun l => gCount l most)) = p at *
  obtain ⟨x, r'⟩ := p
  simp only at *
  have hmf : ∀ (fn : Fn) (first cap : Array Value) (w : World), (Instr.makeFunc fn first cap).run Try.prog w = .ok (.func fn first cap) w := fun _ _ _ _ => rfl
  go_enter Try.func159, Try.ntmps159
  go_wp2_with (go_at_call 144; refine C'.out.mono ?_; rintro e w' ⟨rfl, hrd, hgx, hf⟩; have cx : w'.cell? ⟨w.heap.size + 1, 0, none⟩ = some (.int .i64 x) := (blk_cell hgx 0).trans rfl)
  go_ret
  exact ⟨rfl, hrd, fr_fresh (below2 _ _) hf (by omega)⟩
end
end Go.Proofs.Ytgmbfecfkdbfaaa.Wi
