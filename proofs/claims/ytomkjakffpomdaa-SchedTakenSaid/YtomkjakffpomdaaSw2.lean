/- A plan's functions, walked: All, Out, Late. No condition but those typed. -/
import Derived.Test.YtomkjakffpomdaaSw1
import Derived.Test.YtomkjakffpomdaaShelf
import Derived.Test.YtomkjakffpomdaaLaid
namespace Go.Proofs.Ytomkjakffpomdaa.Q
open Go.RowKit Go.Maps Go.Sort Go.Shelf Go.Proofs.YtomkjakffpomdaaW.PrintWords Go.Proofs.YtomkjakffpomdaaW.PrintLast Go.Proofs.YtomkjakffpomdaaW.PrintMore
attribute [local go_sem] max2_int min2_int max_two min_two max_three min_three max_four min_four   -- for this text's walks alone
set_option linter.unusedVariables false
set_option linter.unusedSimpArgs false
set_option maxRecDepth 100000
theorem Np.drewN (w : World) (n : Nat) : Np w (w.drewN n) := ⟨Nat.le_refl _, fun _ _ h _ => h⟩
/-- What a closure is asked: by a feed's place it tells q of the feed, in whatever world. -/
def AskAt (w : World) (g : Nat) (lb : Array Value) (b : ByteArray → Nat) (f : PF) (q : Fd → Bool) : Prop :=
  ∀ W, Below w.heap.size w W → ∀ k x, f k = some x → Calls Try.prog g (#[.pointer (some ⟨b k, 0, none⟩)] ++ lb) W fun e w' => e = .returned (.bool (q x)) ∧ ∃ n, w' = W.drewN n
def everF (x : Fd) : Bool := true
def outF (x : Fd) : Bool := decide (0 ≤ x.out)
theorem ask_all {B N p m : Nat} {b : ByteArray → Nat} {D : DataW Value} {t : Int} {f : PF} {w : World} (h : Pl B N p m b D t f w) : AskAt w 32 #[] b f everF := fun W hW k x hx => by
  show Calls Try.prog 32 #[.pointer (some ⟨b k, 0, none⟩)] W _
  go_enter Try.func32, Try.ntmps32
  go_wp2_with fail
  go_ret
  exact ⟨rfl, 0, rfl⟩
theorem ask_out {B N p m : Nat} {b : ByteArray → Nat} {D : DataW Value} {t : Int} {f : PF} {w : World} (h : Pl B N p m b D t f w) : AskAt w 31 #[] b f outF := fun W hW k x hx => by
  have c2 : W.cell? ⟨b k, 2, none⟩ = some (.int .i64 x.out) := ((h.np (Np.of_below hW)).blk k x hx).cell 2
  show Calls Try.prog 31 #[.pointer (some ⟨b k, 0, none⟩)] W _
  clear h hW hx
  generalize b k = g at c2 ⊢
  go_enter Try.func31, Try.ntmps31
  go_wp2_with fail
  go_ret
  exact ⟨by simp [outF], 0, rfl⟩
/-- The lost ones. -/
def lostF (t : Int) (x : Fd) : Bool := decide (0 ≤ x.out) && decide (120 < t - x.out)
theorem ask_lost {B N p m : Nat} {b : ByteArray → Nat} {D : DataW Value} {t : Int} {f : PF} {w : World} (h : Pl B N p m b D t f w) {c : Nat} (hc : Blk.At c #[.pointer (some ⟨p, 0, none⟩)] 22 w) (ht : 0 ≤ t ∧ t ≤ 1099511627776) (hO : ∀ k x, f k = some x → x.out ≤ t) :
    AskAt w 33 #[.pointer (some ⟨c, 0, none⟩)] b f (lostF t) := fun W hW k x hx => by
  have hP := h.np (Np.of_below hW)
  have c2 : W.cell? ⟨b k, 2, none⟩ = some (.int .i64 x.out) := (hP.blk k x hx).cell 2
  have c0 : W.cell? ⟨p, 0, none⟩ = some (.int .i64 t) := hP.pl.cell 0
  have cc : W.cell? ⟨c, 0, none⟩ = some (.pointer (some ⟨p, 0, none⟩)) := (hc.below hW hc.lt).cell 0
  show Calls Try.prog 33 #[.pointer (some ⟨b k, 0, none⟩), .pointer (some ⟨c, 0, none⟩)] W _
  have hOx := hO k x hx
  clear h hP hW hx hc hO
  generalize b k = g at c2 ⊢
  by_cases ho : 0 ≤ x.out
  · have hd : decide (x.out ≥ 0) = true := decide_eq_true ho
    have hsm : x.out < 9223372036854775808 := by omega
    have hw : wrap64 (t - x.out) = t - x.out := by unfold wrap64; omega
    have HQ : Aside0 (lostF t x = decide (120 < t - x.out)) := ⟨by unfold lostF; rw [decide_eq_true ho]; rfl⟩
    clear ho
    go_enter Try.func33, Try.ntmps33
    go_wp2_with fail
    refine start_ (n := 18) (S := fun w' => w'.cell? ⟨g, 2, none⟩ = some (.int .i64 x.out) ∧ w'.cell? ⟨p, 0, none⟩ = some (.int .i64 t) ∧ w'.cell? ⟨c, 0, none⟩ = some (.pointer (some ⟨p, 0, none⟩))) (ds := []) #[false, false, false, false, false, false, false, false, false, false, false, false, false, false, false, false, false, false] (by kernel_rfl) rfl rfl ⟨c2, c0, cc⟩ (fun hHeld => ?_)
    refine pure_ (i := 0) (N := some 4) (v := ?_) (a' := ?_) #[true, false, false, false, false, false, false, false, false, false, false, false, false, false, false, false, false, false] rfl rfl (by kernel_rfl) (fun _ _ _ h => h) (Or.inl ⟨by rfl, ?_⟩) ?_ ?_
    rotate_left
    · intro w'
      go_simp
      with_reducible rfl
    rotate_left
    · simp only [Act.put, List.setIfInBounds_toArray, List.set_cons_zero, List.set_cons_succ, i64_w, i32_w]
      rfl
    refine pure_ (i := 1) (N := some 5) (v := ?_) (a' := ?_) #[true, true, false, false, false, false, false, false, false, false, false, false, false, false, false, false, false, false] rfl rfl (by kernel_rfl) (fun _ _ _ h => h) (Or.inl ⟨by rfl, ?_⟩) ?_ ?_
    rotate_left
    · intro w'
      go_simp
      with_reducible rfl
    rotate_left
    · simp only [Act.put, List.setIfInBounds_toArray, List.set_cons_zero, List.set_cons_succ, i64_w, i32_w]
      rfl
    refine pure_ (i := 2) (N := some 6) (v := ?_) (a' := ?_) #[true, true, true, false, false, false, false, false, false, false, false, false, false, false, false, false, false, false] rfl rfl (by kernel_rfl) (fun _ _ _ h => h) (Or.inl ⟨by rfl, ?_⟩) ?_ ?_
    rotate_left
    · intro w'
      go_simp
      with_reducible rfl
    rotate_left
    · simp only [Act.put, List.setIfInBounds_toArray, List.set_cons_zero, List.set_cons_succ, i64_w, i32_w]
      rfl
    refine take_ (i := 3) (N := some 7) (v := ?_) (a' := ?_) #[true, true, true, true, false, false, false, false, false, false, false, false, false, false, false, false, false, false] rfl rfl (by kernel_rfl) (fun _ _ _ h => h) (Or.inl ⟨by rfl, ?_⟩) hHeld ?_ ?_
    rotate_left
    · rintro w' ⟨s0, s1, s2⟩
      go_simp
      with_reducible rfl
    rotate_left
    · simp only [Act.put, List.setIfInBounds_toArray, List.set_cons_zero, List.set_cons_succ, i64_w, i32_w]
      rfl
    refine pure_ (i := 4) (N := some 8) (v := ?_) (a' := ?_) #[true, true, true, true, true, false, false, false, false, false, false, false, false, false, false, false, false, false] rfl rfl (by kernel_rfl) (fun _ _ _ h => h) (Or.inl ⟨by rfl, ?_⟩) ?_ ?_
    rotate_left
    · intro w'
      go_simp
      with_reducible rfl
    rotate_left
    · simp only [Act.put, List.setIfInBounds_toArray, List.set_cons_zero, List.set_cons_succ, i64_w, i32_w]
      rfl
    refine pure_ (i := 5) (N := some 9) (v := ?_) (a' := ?_) #[true, true, true, true, true, true, false, false, false, false, false, false, false, false, false, false, false, false] rfl rfl (by kernel_rfl) (fun _ _ _ h => h) (Or.inl ⟨by rfl, ?_⟩) ?_ ?_
    rotate_left
    · intro w'
      go_simp
      with_reducible rfl
    rotate_left
    · simp only [Act.put, List.setIfInBounds_toArray, List.set_cons_zero, List.set_cons_succ, i64_w, i32_w]
      rfl
    refine pure_ (i := 10) (N := some 14) (v := ?_) (a' := ?_) #[true, true, true, true, true, true, false, false, false, false, true, false, false, false, false, false, false, false] rfl rfl (by kernel_rfl) (fun _ _ _ h => h) (Or.inl ⟨by rfl, ?_⟩) ?_ ?_
    rotate_left
    · intro w'
      go_simp
      with_reducible rfl
    rotate_left
    · simp only [Act.put, List.setIfInBounds_toArray, List.set_cons_zero, List.set_cons_succ, i64_w, i32_w]
      rfl
    refine pure_ (i := 11) (N := some 15) (v := ?_) (a' := ?_) #[true, true, true, true, true, true, false, false, false, false, true, true, false, false, false, false, false, false] rfl rfl (by kernel_rfl) (fun _ _ _ h => h) (Or.inl ⟨by rfl, ?_⟩) ?_ ?_
    rotate_left
    · intro w'
      go_simp
      with_reducible rfl
    rotate_left
    · simp only [Act.put, List.setIfInBounds_toArray, List.set_cons_zero, List.set_cons_succ, i64_w, i32_w]
      rfl
    refine pure_ (i := 12) (N := some 16) (v := ?_) (a' := ?_) #[true, true, true, true, true, true, false, false, false, false, true, true, true, false, false, false, false, false] rfl rfl (by kernel_rfl) (fun _ _ _ h => h) (Or.inl ⟨by rfl, ?_⟩) ?_ ?_
    rotate_left
    · intro w'
      go_simp
      with_reducible rfl
    rotate_left
    · simp only [Act.put, List.setIfInBounds_toArray, List.set_cons_zero, List.set_cons_succ, i64_w, i32_w]
      rfl
    refine take_ (i := 6) (N := some 10) (v := ?_) (a' := ?_) #[true, true, true, true, true, true, true, false, false, false, true, true, true, false, false, false, false, false] rfl rfl (by kernel_rfl) (fun _ _ _ h => h) (Or.inl ⟨by rfl, ?_⟩) hHeld ?_ ?_
    rotate_left
    · rintro w' ⟨s0, s1, s2⟩
      go_simp
      with_reducible rfl
    rotate_left
    · simp only [Act.put, List.setIfInBounds_toArray, List.set_cons_zero, List.set_cons_succ, i64_w, i32_w]
      rfl
    refine pure_ (i := 7) (N := some 11) (v := ?_) (a' := ?_) #[true, true, true, true, true, true, true, true, false, false, true, true, true, false, false, false, false, false] rfl rfl (by kernel_rfl) (fun _ _ _ h => h) (Or.inl ⟨by rfl, ?_⟩) ?_ ?_
    rotate_left
    · intro w'
      go_simp
      with_reducible rfl
    rotate_left
    · simp only [Act.put, List.setIfInBounds_toArray, List.set_cons_zero, List.set_cons_succ, i64_w, i32_w]
      rfl
    refine pure_ (i := 8) (N := some 12) (v := ?_) (a' := ?_) #[true, true, true, true, true, true, true, true, true, false, true, true, true, false, false, false, false, false] rfl rfl (by kernel_rfl) (fun _ _ _ h => h) (Or.inl ⟨by rfl, ?_⟩) ?_ ?_
    rotate_left
    · intro w'
      go_simp
      with_reducible rfl
    rotate_left
    · simp only [Act.put, List.setIfInBounds_toArray, List.set_cons_zero, List.set_cons_succ, i64_w, i32_w]
      rfl
    refine take_ (i := 9) (N := some 13) (v := ?_) (a' := ?_) #[true, true, true, true, true, true, true, true, true, true, true, true, true, false, false, false, false, false] rfl rfl (by kernel_rfl) (fun _ _ _ h => h) (Or.inl ⟨by rfl, ?_⟩) hHeld ?_ ?_
    rotate_left
    · rintro w' ⟨s0, s1, s2⟩
      go_simp
      with_reducible rfl
    rotate_left
    · simp only [Act.put, List.setIfInBounds_toArray, List.set_cons_zero, List.set_cons_succ, i64_w, i32_w]
      rfl
    refine take_ (i := 13) (N := some 17) (v := ?_) (a' := ?_) #[true, true, true, true, true, true, true, true, true, true, true, true, true, true, false, false, false, false] rfl rfl (by kernel_rfl) (fun _ _ _ h => h) (Or.inl ⟨by rfl, ?_⟩) hHeld ?_ ?_
    rotate_left
    · rintro w' ⟨s0, s1, s2⟩
      go_simp
      with_reducible rfl
    rotate_left
    · simp only [Act.put, List.setIfInBounds_toArray, List.set_cons_zero, List.set_cons_succ, i64_w, i32_w]
      rfl
    refine pure_ (i := 14) (N := some 18) (v := ?_) (a' := ?_) #[true, true, true, true, true, true, true, true, true, true, true, true, true, true, true, false, false, false] rfl rfl (by kernel_rfl) (fun _ _ _ h => h) (Or.inl ⟨by rfl, ?_⟩) ?_ ?_
    rotate_left
    · intro w'
      go_simp
      with_reducible rfl
    rotate_left
    · simp only [Act.put, List.setIfInBounds_toArray, List.set_cons_zero, List.set_cons_succ, i64_w, i32_w]
      rfl
    refine pure_ (i := 15) (N := some 19) (v := ?_) (a' := ?_) #[true, true, true, true, true, true, true, true, true, true, true, true, true, true, true, true, false, false] rfl rfl (by kernel_rfl) (fun _ _ _ h => h) (Or.inl ⟨by rfl, ?_⟩) ?_ ?_
    rotate_left
    · intro w'
      go_simp
      with_reducible rfl
    rotate_left
    · simp only [Act.put, List.setIfInBounds_toArray, List.set_cons_zero, List.set_cons_succ, i64_w, i32_w]
      rfl
    refine pure_ (i := 16) (N := some 20) (v := ?_) (a' := ?_) #[true, true, true, true, true, true, true, true, true, true, true, true, true, true, true, true, true, false] rfl rfl (by kernel_rfl) (fun _ _ _ h => h) (Or.inl ⟨by rfl, ?_⟩) ?_ ?_
    rotate_left
    · intro w'
      go_simp
      with_reducible rfl
    rotate_left
    · simp only [Act.put, List.setIfInBounds_toArray, List.set_cons_zero, List.set_cons_succ, i64_w, i32_w]
      rfl
    refine pure_ (i := 17) (N := some 3) (v := ?_) (a' := ?_) #[true, true, true, true, true, true, true, true, true, true, true, true, true, true, true, true, true, true] rfl rfl (by kernel_rfl) (fun _ _ _ h => h) (Or.inl ⟨by rfl, ?_⟩) ?_ ?_
    rotate_left
    · intro w'
      go_simp
      with_reducible rfl
    rotate_left
    · simp only [Act.put, List.setIfInBounds_toArray, List.set_cons_zero, List.set_cons_succ, i64_w, i32_w]
      rfl
    refine done_ (by kernel_rfl) ?_
    go_wp2_with fail
    go_ret
    exact ⟨by rw [HQ.out]; rfl, 1, rfl⟩
  · have hd : decide (x.out ≥ 0) = false := decide_eq_false ho
    have HQ : Aside0 (lostF t x = false) := ⟨by unfold lostF; rw [decide_eq_false ho]; rfl⟩
    clear ho
    go_enter Try.func33, Try.ntmps33
    go_wp2_with fail
    refine start_ (n := 18) (S := fun w' => w'.cell? ⟨g, 2, none⟩ = some (.int .i64 x.out) ∧ w'.cell? ⟨p, 0, none⟩ = some (.int .i64 t) ∧ w'.cell? ⟨c, 0, none⟩ = some (.pointer (some ⟨p, 0, none⟩))) (ds := []) #[false, false, false, false, false, false, false, false, false, false, false, false, false, false, false, false, false, false] (by kernel_rfl) rfl rfl ⟨c2, c0, cc⟩ (fun hHeld => ?_)
    refine pure_ (i := 0) (N := some 4) (v := ?_) (a' := ?_) #[true, false, false, false, false, false, false, false, false, false, false, false, false, false, false, false, false, false] rfl rfl (by kernel_rfl) (fun _ _ _ h => h) (Or.inl ⟨by rfl, ?_⟩) ?_ ?_
    rotate_left
    · intro w'
      go_simp
      with_reducible rfl
    rotate_left
    · simp only [Act.put, List.setIfInBounds_toArray, List.set_cons_zero, List.set_cons_succ, i64_w, i32_w]
      rfl
    refine pure_ (i := 1) (N := some 5) (v := ?_) (a' := ?_) #[true, true, false, false, false, false, false, false, false, false, false, false, false, false, false, false, false, false] rfl rfl (by kernel_rfl) (fun _ _ _ h => h) (Or.inl ⟨by rfl, ?_⟩) ?_ ?_
    rotate_left
    · intro w'
      go_simp
      with_reducible rfl
    rotate_left
    · simp only [Act.put, List.setIfInBounds_toArray, List.set_cons_zero, List.set_cons_succ, i64_w, i32_w]
      rfl
    refine pure_ (i := 2) (N := some 6) (v := ?_) (a' := ?_) #[true, true, true, false, false, false, false, false, false, false, false, false, false, false, false, false, false, false] rfl rfl (by kernel_rfl) (fun _ _ _ h => h) (Or.inl ⟨by rfl, ?_⟩) ?_ ?_
    rotate_left
    · intro w'
      go_simp
      with_reducible rfl
    rotate_left
    · simp only [Act.put, List.setIfInBounds_toArray, List.set_cons_zero, List.set_cons_succ, i64_w, i32_w]
      rfl
    refine take_ (i := 3) (N := some 7) (v := ?_) (a' := ?_) #[true, true, true, true, false, false, false, false, false, false, false, false, false, false, false, false, false, false] rfl rfl (by kernel_rfl) (fun _ _ _ h => h) (Or.inl ⟨by rfl, ?_⟩) hHeld ?_ ?_
    rotate_left
    · rintro w' ⟨s0, s1, s2⟩
      go_simp
      with_reducible rfl
    rotate_left
    · simp only [Act.put, List.setIfInBounds_toArray, List.set_cons_zero, List.set_cons_succ, i64_w, i32_w]
      rfl
    refine pure_ (i := 4) (N := some 8) (v := ?_) (a' := ?_) #[true, true, true, true, true, false, false, false, false, false, false, false, false, false, false, false, false, false] rfl rfl (by kernel_rfl) (fun _ _ _ h => h) (Or.inl ⟨by rfl, ?_⟩) ?_ ?_
    rotate_left
    · intro w'
      go_simp
      with_reducible rfl
    rotate_left
    · simp only [Act.put, List.setIfInBounds_toArray, List.set_cons_zero, List.set_cons_succ, i64_w, i32_w]
      rfl
    refine pure_ (i := 5) (N := some 9) (v := ?_) (a' := ?_) #[true, true, true, true, true, true, false, false, false, false, false, false, false, false, false, false, false, false] rfl rfl (by kernel_rfl) (fun _ _ _ h => h) (Or.inl ⟨by rfl, ?_⟩) ?_ ?_
    rotate_left
    · intro w'
      go_simp
      with_reducible rfl
    rotate_left
    · simp only [Act.put, List.setIfInBounds_toArray, List.set_cons_zero, List.set_cons_succ, i64_w, i32_w]
      rfl
    refine pure_ (i := 6) (N := some 10) (v := undef) (a' := ?_) #[true, true, true, true, true, true, true, false, false, false, false, false, false, false, false, false, false, false] rfl rfl (by kernel_rfl) (fun _ _ _ h => h) (Or.inr ⟨by rfl, rfl⟩) ?_ ?_
    rotate_left
    · simp only [Act.put, List.setIfInBounds_toArray, List.set_cons_zero, List.set_cons_succ, i64_w, i32_w]
      rfl
    refine pure_ (i := 7) (N := some 11) (v := undef) (a' := ?_) #[true, true, true, true, true, true, true, true, false, false, false, false, false, false, false, false, false, false] rfl rfl (by kernel_rfl) (fun _ _ _ h => h) (Or.inr ⟨by rfl, rfl⟩) ?_ ?_
    rotate_left
    · simp only [Act.put, List.setIfInBounds_toArray, List.set_cons_zero, List.set_cons_succ, i64_w, i32_w]
      rfl
    refine pure_ (i := 8) (N := some 12) (v := undef) (a' := ?_) #[true, true, true, true, true, true, true, true, true, false, false, false, false, false, false, false, false, false] rfl rfl (by kernel_rfl) (fun _ _ _ h => h) (Or.inr ⟨by rfl, rfl⟩) ?_ ?_
    rotate_left
    · simp only [Act.put, List.setIfInBounds_toArray, List.set_cons_zero, List.set_cons_succ, i64_w, i32_w]
      rfl
    refine pure_ (i := 9) (N := some 13) (v := undef) (a' := ?_) #[true, true, true, true, true, true, true, true, true, true, false, false, false, false, false, false, false, false] rfl rfl (by kernel_rfl) (fun _ _ _ h => h) (Or.inr ⟨by rfl, rfl⟩) ?_ ?_
    rotate_left
    · simp only [Act.put, List.setIfInBounds_toArray, List.set_cons_zero, List.set_cons_succ, i64_w, i32_w]
      rfl
    refine pure_ (i := 10) (N := some 14) (v := undef) (a' := ?_) #[true, true, true, true, true, true, true, true, true, true, true, false, false, false, false, false, false, false] rfl rfl (by kernel_rfl) (fun _ _ _ h => h) (Or.inr ⟨by rfl, rfl⟩) ?_ ?_
    rotate_left
    · simp only [Act.put, List.setIfInBounds_toArray, List.set_cons_zero, List.set_cons_succ, i64_w, i32_w]
      rfl
    refine pure_ (i := 11) (N := some 15) (v := undef) (a' := ?_) #[true, true, true, true, true, true, true, true, true, true, true, true, false, false, false, false, false, false] rfl rfl (by kernel_rfl) (fun _ _ _ h => h) (Or.inr ⟨by rfl, rfl⟩) ?_ ?_
    rotate_left
    · simp only [Act.put, List.setIfInBounds_toArray, List.set_cons_zero, List.set_cons_succ, i64_w, i32_w]
      rfl
    refine pure_ (i := 12) (N := some 16) (v := undef) (a' := ?_) #[true, true, true, true, true, true, true, true, true, true, true, true, true, false, false, false, false, false] rfl rfl (by kernel_rfl) (fun _ _ _ h => h) (Or.inr ⟨by rfl, rfl⟩) ?_ ?_
    rotate_left
    · simp only [Act.put, List.setIfInBounds_toArray, List.set_cons_zero, List.set_cons_succ, i64_w, i32_w]
      rfl
    refine pure_ (i := 13) (N := some 17) (v := undef) (a' := ?_) #[true, true, true, true, true, true, true, true, true, true, true, true, true, true, false, false, false, false] rfl rfl (by kernel_rfl) (fun _ _ _ h => h) (Or.inr ⟨by rfl, rfl⟩) ?_ ?_
    rotate_left
    · simp only [Act.put, List.setIfInBounds_toArray, List.set_cons_zero, List.set_cons_succ, i64_w, i32_w]
      rfl
    refine pure_ (i := 14) (N := some 18) (v := undef) (a' := ?_) #[true, true, true, true, true, true, true, true, true, true, true, true, true, true, true, false, false, false] rfl rfl (by kernel_rfl) (fun _ _ _ h => h) (Or.inr ⟨by rfl, rfl⟩) ?_ ?_
    rotate_left
    · simp only [Act.put, List.setIfInBounds_toArray, List.set_cons_zero, List.set_cons_succ, i64_w, i32_w]
      rfl
    refine pure_ (i := 15) (N := some 19) (v := undef) (a' := ?_) #[true, true, true, true, true, true, true, true, true, true, true, true, true, true, true, true, false, false] rfl rfl (by kernel_rfl) (fun _ _ _ h => h) (Or.inr ⟨by rfl, rfl⟩) ?_ ?_
    rotate_left
    · simp only [Act.put, List.setIfInBounds_toArray, List.set_cons_zero, List.set_cons_succ, i64_w, i32_w]
      rfl
    refine pure_ (i := 16) (N := some 20) (v := ?_) (a' := ?_) #[true, true, true, true, true, true, true, true, true, true, true, true, true, true, true, true, true, false] rfl rfl (by kernel_rfl) (fun _ _ _ h => h) (Or.inl ⟨by rfl, ?_⟩) ?_ ?_
    rotate_left
    · intro w'
      go_simp
      with_reducible rfl
    rotate_left
    · simp only [Act.put, List.setIfInBounds_toArray, List.set_cons_zero, List.set_cons_succ, i64_w, i32_w]
      rfl
    refine pure_ (i := 17) (N := some 3) (v := ?_) (a' := ?_) #[true, true, true, true, true, true, true, true, true, true, true, true, true, true, true, true, true, true] rfl rfl (by kernel_rfl) (fun _ _ _ h => h) (Or.inl ⟨by rfl, ?_⟩) ?_ ?_
    rotate_left
    · intro w'
      go_simp
      with_reducible rfl
    rotate_left
    · simp only [Act.put, List.setIfInBounds_toArray, List.set_cons_zero, List.set_cons_succ, i64_w, i32_w]
      rfl
    refine done_ (by kernel_rfl) ?_
    go_wp2_with fail
    go_ret
    exact ⟨by rw [HQ.out]; rfl, 1, rfl⟩
/-- A list of texts of the call's own. -/
abbrev Ls (base : Nat) (w : World) (v : Value) (ss : List ByteArray) : Prop := Kd.string.R 9 w base (fun _ => True) v ss
theorem info9 : (Try.prog.info? 9).map (fun i => (i.zero, i.size, i.bytes)) = some (some (.string ByteArray.empty), 1, 16) := by kernel_rfl
def mkS (l : List UInt8) : ByteArray := ⟨l.toArray⟩
theorem kl_mkS (l : List UInt8) : kl (mkS l) = .string l := by simp [kl, mkS]
theorem mkS_inj {a b : List UInt8} (h : mkS a = mkS b) : a = b := by simpa [mkS] using h
theorem Ls_of_own {base : Nat} {w : World} {v : Value} {ss : List (List UInt8)} {n : Nat} (h : w.ownsRow base 9 1 v n (ss.map encStr)) (hn : n = ss.length) : Ls base w v (ss.map mkS) := by
  refine Kd.R_of_own ?_ (fun _ _ => trivial)
  rw [List.length_map, ← hn]
  have e : encs Value.string (ss.map mkS) = ss.map encStr := by simp [encs, mkS, encStr, Function.comp_def]
  rw [e]
  exact h
theorem sorts55 (m : Nat) : AnyZ.SortsIn Try.prog Try.sortedA_ren Fence.wide m :=
  ⟨fun blk off cap ss W hH hblk hsz => callsIn_wide.2 (Try.slices_Sort_string blk off cap ss W hH hblk hsz), fun p cap W => callsIn_wide.2 (Try.slices_Sort_string_none p cap W)⟩
theorem keys41 (mb : Option Nat) (W : World) : Calls Try.prog 41 #[.map mb] W fun e w' => e = .returned (.func (.func 56) #[] #[.pointer (some ⟨W.heap.size, 0, none⟩)]) ∧ w' = W.alloc (.cells #[.map mb] 47) :=
  (callsIn_wide (n := 5)).1 (AnyZ.keys_in Try.keysA Fence.wide 5 trivial rfl mb W)
theorem sorted40 {m N : Nat} {D : DataW Value} {w : World} (hown : w.ownsMap Try.prog 9 RV m N D) (hN : N ≤ 100000) :
    Calls Try.prog 40 #[.func (.func 56) #[] #[.pointer (some ⟨w.heap.size, 0, none⟩)]] (w.alloc (.cells #[.map (some m)] 47)) fun e w' => ∃ v, ∃ ss : List (List UInt8), e = .returned v ∧ Ls w.heap.size w' v (ss.map mkS) ∧ ss.Perm (strKeys D) ∧ Below w.heap.size w w' := by
  have hsz : Maps.size D ≤ N := hown.size_le
  have hbl := hown.lt
  have hseq : SeqGives Fence.wide 2 Try.prog 56 #[.pointer (some ⟨w.heap.size, 0, none⟩)] encStr (fun ss => ss.Perm (strKeys D)) (Maps.size D) (w.alloc (.cells #[.map (some m)] 47)) :=
    AnyZ.keys_gives (ρ := Try.keysA_ren) { Try.keysA with } Fence.wide _ trivial rfl (by omega) w.heap.size m N D _ (by simp) (by simp) (by
      obtain ⟨es, clock, hb, Ft, hs, hD⟩ := hown
      exact ⟨es, clock, (Below.heap_alloc _ _ m hbl).trans hb, Ft, hs, hD⟩)
  have cS := AnyZ.sorted_in Try.sortedA Fence.wide 5 trivial trivial trivial trivial rfl (by omega) (sorts55 _) (enters_of Try.func55 (by kernel_rfl) rfl) 56 #[.pointer (some ⟨w.heap.size, 0, none⟩)] trivial (enters_of Try.func56 (by kernel_rfl) rfl) _ (Maps.size D) (by unfold maxLen; omega) (by omega) _ hseq
  refine (callsIn_wide.1 cS).mono ?_
  rintro e w' ⟨v, ss, rfl, hp, hrow, _, hb⟩
  refine ⟨v, _, rfl, Ls_of_own (ownsRow_base_a hrow (by simp)) (by simp), (List.mergeSort_perm ss _).trans hp, ((Below.refl _ w).alloc (Nat.le_refl _) _).trans (hb.mono (by simp))⟩
theorem w64n {n : Nat} (h : n < 9223372036854775807) : wrap64 ((n : Int) + 1) = ((n + 1 : Nat) : Int) := by
  unfold wrap64
  omega
/-- Whether a feed is there, and is asked for. -/
def isQ (f : PF) (q : Fd → Bool) (k : ByteArray) : Bool := match f k with | some x => q x | none => false
theorem isQ_iff {f : PF} {q : Fd → Bool} {k : ByteArray} : isQ f q k = true ↔ ∃ x, f k = some x ∧ q x = true := by
  unfold isQ
  cases f k <;> simp
theorem filter_snoc {α : Type} (q : α → Bool) (l : List α) (n : Nat) (h : n < l.length) : (l.take (n + 1)).filter q = (l.take n).filter q ++ (if q l[n] then [l[n]] else []) := by
  rw [List.take_succ_eq_append_getElem h, List.filter_append]
  congr 1
  cases hq : q l[n] <;> simp [hq]
theorem mem_strKeys {D : DataW Value} {es : List (Lit × DataW Value)} (hD : D = .map es) (hk : ∀ p ∈ es, ∃ x : List UInt8, p.1 = .string x) (x : List UInt8) : x ∈ strKeys D ↔ Maps.has D (.string x) = true := by
  subst hD
  rw [Maps.has_eq]
  simp only [strKeys, List.mem_map, List.any_eq_true]
  constructor
  · rintro ⟨p, hp, rfl⟩
    obtain ⟨y, hy⟩ := hk p hp
    exact ⟨p, hp, by rw [hy]; simp [strOf, Lit.sameKey]⟩
  · rintro ⟨p, hp, h⟩
    obtain ⟨y, hy⟩ := hk p hp
    rw [hy] at h
    simp [Lit.sameKey] at h
    exact ⟨p, hp, by rw [hy, h]; rfl⟩
theorem Pl.keys {B N p m : Nat} {b : ByteArray → Nat} {D : DataW Value} {t : Int} {f : PF} {w : World} (h : Pl B N p m b D t f w) {ss : List (List UInt8)} (hp : ss.Perm (strKeys D)) :
    (ss.map mkS).Nodup ∧ (∀ k, k ∈ ss.map mkS ↔ (f k).isSome = true) ∧ (ss.map mkS).length ≤ N ∧ ∀ k ∈ ss.map mkS, k.size ≤ maxLen := by
  obtain ⟨es, hD, hpw, _⟩ := h.own.entries key9
  obtain ⟨es', hD', hK⟩ := h.own.keysOf
  rw [hD] at hD'
  cases hD'
  have hks : ∀ p ∈ es, ∃ x : List UInt8, p.1 = .string x ∧ x.length ≤ maxLen := fun p hp => by
    obtain ⟨key, hkey⟩ := hK p hp
    obtain ⟨x, _, e, hx⟩ := Maps.keyOf_str Try.underlying9 hkey
    exact ⟨x, e, hx⟩
  have hm := mem_strKeys hD (fun p hp => (hks p hp).imp fun _ h => h.1)
  have hnd : (strKeys D).Nodup := by
    rw [hD]
    simp only [strKeys]
    refine List.pairwise_map.2 (hpw.imp_of_mem fun {p q} hp hq hne e => hne ?_)
    obtain ⟨x, hx, _⟩ := hks p hp
    obtain ⟨y, hy, _⟩ := hks q hq
    rw [hx, hy] at e ⊢
    simp only [strOf] at e
    rw [e]
  refine ⟨List.pairwise_map.2 ((hp.nodup_iff.2 hnd).imp fun hne e => hne (mkS_inj e)), fun k => ?_, ?_, fun k hk => ?_⟩
  · rw [← h.has k]
    constructor
    · intro hk
      obtain ⟨x, hx, rfl⟩ := List.mem_map.1 hk
      rw [kl_mkS]
      exact (hm x).1 (hp.mem_iff.1 hx)
    · intro hk
      refine List.mem_map.2 ⟨k.data.toList, hp.mem_iff.2 ((hm _).2 hk), ?_⟩
      cases k
      simp [mkS]
  · rw [List.length_map, hp.length_eq, ← show Maps.size D = (strKeys D).length from by rw [hD]; simp [Maps.size, strKeys]]
    exact h.own.size_le
  · obtain ⟨x, hx, rfl⟩ := List.mem_map.1 hk
    have hx' := hp.mem_iff.1 hx
    rw [hD] at hx'
    obtain ⟨q, hq, e⟩ := List.mem_map.1 hx'
    obtain ⟨y, hy, hl⟩ := hks q hq
    rw [hy] at e
    simp only [strOf] at e
    subst e
    simpa [mkS, ByteArray.size] using hl
theorem below_drewN2 {B : Nat} {a w : World} (h : Below B a w) (n : Nat) : Below B a (w.drewN n) := ⟨h.os, h.tape, h.output, h.size, h.block⟩
set_option maxHeartbeats 2000000 in
theorem p_those.calls {B N p m : Nat} {b : ByteArray → Nat} {D : DataW Value} {t : Int} {f : PF} {w : World} (h : Pl B N p m b D t f w) (hN : N ≤ 100000) {g : Nat} {lb : Array Value} {q : Fd → Bool} (hA : AskAt w g lb b f q) (eg : ∀ args w, (callFunc g args).run Try.prog w = .ok (.enter g args) w) :
    Calls Try.prog 30 #[.pointer (some ⟨p, 0, none⟩), .func (.func g) #[] lb] w fun e w' => ∃ v, ∃ ss : List ByteArray, e = .returned v ∧ Ls w.heap.size w' v ss ∧ ss.Nodup ∧ (∀ k, k ∈ ss ↔ ∃ x, f k = some x ∧ q x = true) ∧ (ss.length ≤ N ∧ ∀ k ∈ ss, k.size ≤ maxLen) ∧ Below w.heap.size w w' := by
  have hk := p_ok.calls ⟨b, D, h⟩
  have x1 : w.cell? ⟨p, 1, none⟩ = some (.map (some m)) := h.pl.cell 1
  have hs := sorted40 h.own hN
  have H := Aside0.mk h
  have HA := Aside0.mk hA
  have HN := Aside0.mk hN
  clear h hA hN
  go_enter Try.func30, Try.ntmps30
  go_wp2_with fail
  refine hk.mono ?_
  rintro e w1 ⟨rfl, rfl⟩
  go_wp2_with fail
  refine (keys41 (some m) w1).mono ?_
  rintro e w2 ⟨rfl, rfl⟩
  go_wp2_with fail
  refine hs.mono ?_
  rintro e w3 ⟨v, ss, rfl, hL, hp, hb⟩
  have HK := Aside0.mk (H.out.keys hp)
  generalize ss.map mkS = ks at hL HK
  have HB3 := Aside0.mk hb
  obtain ⟨A, c, rfl⟩ := Kd.R_slice hL
  have HC := Aside0.mk (Kd.V_reads' (Kd.R_V (base' := 0) hL)).2.2
  clear hL hk hs hp hb x1
  go_wp2_with fail
  have HL0 := Aside0.mk (show Ls w3.heap.size w3 (.slice none 0 0) ((ks.take 0).filter (isQ f q)) from Kd.R_nil _ _ _ _ _)
  have HB0 := Aside0.mk (Below.refl w3.heap.size w3)
  go_loopw [18, 5] (fun j v wr => ∃ n : Nat, n ≤ ks.length ∧ j = .int .i64 n ∧ Aside0 (Ls w3.heap.size wr v ((ks.take n).filter (isQ f q))) ∧ Aside0 (Below w3.heap.size w3 wr)) (fun j _ _ => ks.length - (intOf j).toNat)
  case atStart => exact ⟨0, Nat.zero_le _, rfl, HL0, HB0⟩
  case round =>
    clear HL0 HB0
    obtain ⟨n, hn, rfl, HL, HB⟩ := hrel
    by_cases hlt : n < ks.length
    · obtain ⟨ad, rfl, hcs⟩ := Kd.C_strings_cells HC.out (by omega)
      have hx0 : wr.cell? (ad.add n) = some (.string ks[n]) := pw_cell_below HB.out (hcs n _ (List.getElem?_eq_getElem hlt))
      have hmem : ks[n] ∈ ks := List.getElem_mem hlt
      obtain ⟨fx, hfx⟩ := Option.isSome_iff_exists.1 ((HK.out.2.1 _).1 hmem)
      have hsz := HK.out.2.2.2 _ hmem
      have hbw : Below w1.heap.size w1 wr := HB3.out.trans (HB.out.mono HB3.out.size)
      have hP := H.out.np (Np.of_below hbw)
      have hlk := hP.look1 hsz hfx
      have hask := HA.out wr hbw _ fx hfx
      have hq : isQ f q ks[n] = q fx := by unfold isQ; rw [hfx]
      have hsn := filter_snoc (isQ f q) ks n hlt
      rw [hq] at hsn
      have x1 : wr.cell? ⟨p, 1, none⟩ = some (.map (some m)) := hP.pl.cell 1
      generalize ks[n] = s at hx0 hlk hask hsn
      generalize b s = gb at hlk hask
      have HASK := Aside0.mk hask
      have HSN := Aside0.mk hsn
      have HLT := Aside0.mk hlt
      have en : wrap64 ((n : Int) + 1) = ((n + 1 : Nat) : Int) := w64n (by have := HC.out.2.1; omega)
      clear hmem hfx hsz hbw hP hask hq hsn hcs
      go_wp2_with fail
      refine HASK.out.mono ?_
      rintro e w4 ⟨rfl, nn, hw4⟩
      have HL4 := Aside0.mk (Kd.R_at hw4.symm HL.out)
      have HB4 := Aside0.mk (show Below w3.heap.size w3 w4 from by rw [hw4]; exact below_drewN2 HB.out nn)
      have HLEN := Aside0.mk (show (((ks.take n).filter (isQ f q)).length + 1) * 16 ≤ 140737488355328 from by
        have h1 := List.length_filter_le (isQ f q) (ks.take n)
        have h2 := List.length_take_le n ks
        have h3 := HK.out.2.2.1
        have h4 := HN.out
        omega)
      clear HL HB HASK hw4 hx0 hlk x1
      cases hqv : q fx with
      | false =>
        rw [hqv] at HSN
        go_wp2_with fail
        rw [en]
        go_roundw
        case rel => exact ⟨n + 1, HLT.out, rfl, ⟨by rw [HSN.out]; simpa using HL4.out⟩, HB4⟩
        case measure => simp [intOf]; omega
      | true =>
        rw [hqv] at HSN
        go_wp2_with (at_builtin; refine Kd.R_append Kd.string (w0 := w3) w3.heap.size rfl (.tmp 30) (.tmp 32) 29 9 (.string ByteArray.empty) 16 rfl Try.underlying29 info9 rfl (by decide) (by decide) u5 ((ks.take n).filter (isQ f q)) s [.string s] (fun _ => True) (fun k => some k ≠ u5.ownBlock) rfl rfl rfl (fun k hk => ⟨trivial, hk⟩) (fun _ _ => trivial) HL4.out HB4.out HB4.out.size HLEN.out ?_; intro v1 w5 ho hb hg hat; have HO5 := Aside0.mk ho; have HB5 := Aside0.mk hb; clear ho hb hg hat)
        go_wp2_with fail
        rw [en]
        go_roundw
        case rel => exact ⟨n + 1, HLT.out, rfl, ⟨by rw [HSN.out]; simpa using HO5.out⟩, HB5⟩
        case measure => simp [intOf]; omega
    · obtain rfl : n = ks.length := by omega
      go_wp2_with fail
      go_ret
      have hL := HL.out
      rw [List.take_length] at hL
      refine ⟨u5, ks.filter (isQ f q), rfl, Kd.R_lower hL HB3.out.size, HK.out.1.filter _, fun k => ?_, ⟨Nat.le_trans (List.length_filter_le _ _) HK.out.2.2.1, fun k hk => HK.out.2.2.2 k (List.mem_filter.1 hk).1⟩, HB3.out.trans (HB.out.mono HB3.out.size)⟩
      rw [List.mem_filter, isQ_iff, HK.out.2.1]
      constructor
      · exact fun h => h.2
      · rintro ⟨x, hx, hq⟩
        exact ⟨by rw [hx]; rfl, x, hx, hq⟩
theorem not_keyed9 {cs : Array Value} : ¬ keyed (.cells cs 9) := by simp [keyed]
theorem Ls.kp {B base : Nat} {w w' : World} {v : Value} {ss : List ByteArray} (h : Ls base w v ss) (hk : Kp B w w') : Ls base w' v ss :=
  Kd.R_mono (Kd.R_step (Kd.R_bound h) (fun k ho hlt => by
    obtain ⟨_, _, _, q, hq, cs, hc⟩ := ho
    obtain rfl : q = 9 := by simpa [Kd.string, Kd.scalar] using hq
    rw [hc]
    exact hk.block k _ hc not_keyed9)) (fun _ _ => trivial)
theorem Ls.below {base : Nat} {w w' : World} {v : Value} {ss : List ByteArray} (h : Ls base w v ss) (hk : Below w.heap.size w w') : Ls base w' v ss := h.kp (B := 0) (Kp.of_below hk)
theorem p_those.dead {v : Value} {w : World} (h : Dead v w) (q : Value) : Calls Try.prog 30 #[v, q] w fun e w' => e = .returned (.slice none 0 0) ∧ w' = w := by
  have hk := p_ok.dead h
  clear h
  go_enter Try.func30, Try.ntmps30
  go_wp2_with fail
  refine hk.mono ?_
  rintro e w1 ⟨rfl, rfl⟩
  go_wp2_with fail
  go_ret
  exact ⟨rfl, rfl⟩
theorem p_All.dead {v : Value} {w : World} (h : Dead v w) : Calls Try.prog 19 #[v] w fun e w' => e = .returned (.slice none 0 0) ∧ w' = w := by
  have hk := p_those.dead h (.func (.func 32) #[] #[])
  clear h
  go_enter Try.func19, Try.ntmps19
  go_wp2_with fail
  refine hk.mono ?_
  rintro e w1 ⟨rfl, rfl⟩
  go_wp2_with fail
  go_ret
  exact ⟨rfl, rfl⟩
theorem p_Out.dead {v : Value} {w : World} (h : Dead v w) : Calls Try.prog 16 #[v] w fun e w' => e = .returned (.slice none 0 0) ∧ w' = w := by
  have hk := p_those.dead h (.func (.func 31) #[] #[])
  clear h
  go_enter Try.func16, Try.ntmps16
  go_wp2_with fail
  refine hk.mono ?_
  rintro e w1 ⟨rfl, rfl⟩
  go_wp2_with fail
  go_ret
  exact ⟨rfl, rfl⟩
theorem p_Late.dead {v : Value} {w : World} (h : Dead v w) (now : Int) : Calls Try.prog 20 #[v, .int .i64 now] w fun e w' => e = .returned (.slice none 0 0) ∧ Below w.heap.size w w' := by
  have hk := p_ok.dead (h.below (below_alloc (Below.refl _ _) (.cells #[v] 22)))
  have hv : ∃ a, v = .pointer a := by
    rcases h with rfl | ⟨p, rfl, _⟩
    · exact ⟨_, rfl⟩
    · exact ⟨_, rfl⟩
  obtain ⟨a, rfl⟩ := hv
  clear h
  go_enter Try.func20, Try.ntmps20
  go_wp2_with fail
  refine hk.mono ?_
  rintro e w1 ⟨rfl, rfl⟩
  go_wp2_with fail
  go_ret
  exact ⟨rfl, below_alloc (Below.refl _ _) _⟩
/-- The keys of the feeds that are asked for, in a list of the call's own. -/
def Sel (base : Nat) (w : World) (v : Value) (ss : List ByteArray) (f : PF) (q : Fd → Bool) (N : Nat) : Prop :=
  Ls base w v ss ∧ ss.Nodup ∧ (∀ k, k ∈ ss ↔ ∃ x, f k = some x ∧ q x = true) ∧ (ss.length ≤ N ∧ ∀ k ∈ ss, k.size ≤ maxLen)
theorem p_All.calls {B N p m : Nat} {t : Int} {f : PF} {w : World} (h : PA B N p m t f w) (hN : N ≤ 100000) :
    Calls Try.prog 19 #[.pointer (some ⟨p, 0, none⟩)] w fun e w' => ∃ v, ∃ ss : List ByteArray, e = .returned v ∧ Sel w.heap.size w' v ss f everF N ∧ Below w.heap.size w w' := by
  obtain ⟨b, D, h⟩ := h
  have hk := p_those.calls h hN (ask_all h) (enters_of Try.func32 (by kernel_rfl) rfl)
  clear h
  go_enter Try.func19, Try.ntmps19
  go_wp2_with fail
  refine hk.mono ?_
  rintro e w1 ⟨v, ss, rfl, h1, h2, h3, h4, hb⟩
  have H1 := Aside0.mk h1
  have H3 := Aside0.mk h3
  clear h3
  obtain ⟨A, c, rfl⟩ := Kd.R_slice h1
  clear h1 hk
  go_wp2_with fail
  go_ret
  exact ⟨_, ss, rfl, ⟨H1.out, h2, H3.out, h4⟩, hb⟩
theorem p_Out.calls {B N p m : Nat} {t : Int} {f : PF} {w : World} (h : PA B N p m t f w) (hN : N ≤ 100000) :
    Calls Try.prog 16 #[.pointer (some ⟨p, 0, none⟩)] w fun e w' => ∃ v, ∃ ss : List ByteArray, e = .returned v ∧ Sel w.heap.size w' v ss f outF N ∧ Below w.heap.size w w' := by
  obtain ⟨b, D, h⟩ := h
  have hk := p_those.calls h hN (ask_out h) (enters_of Try.func31 (by kernel_rfl) rfl)
  clear h
  go_enter Try.func16, Try.ntmps16
  go_wp2_with fail
  refine hk.mono ?_
  rintro e w1 ⟨v, ss, rfl, h1, h2, h3, h4, hb⟩
  have H1 := Aside0.mk h1
  have H3 := Aside0.mk h3
  clear h3
  obtain ⟨A, c, rfl⟩ := Kd.R_slice h1
  clear h1 hk
  go_wp2_with fail
  go_ret
  exact ⟨_, ss, rfl, ⟨H1.out, h2, H3.out, h4⟩, hb⟩
/-- What turns with all feeds of a list. -/
def upds (f : PF) (ks : List ByteArray) (G : Fd → Fd) : PF := fun k => if ks.any (fun y => decide (y = k)) then (f k).map G else f k
theorem any_mem {ks : List ByteArray} {k : ByteArray} : ks.any (fun y => decide (y = k)) = true ↔ k ∈ ks := by simp
theorem upds_in {f : PF} {ks : List ByteArray} {G : Fd → Fd} {k : ByteArray} (h : k ∈ ks) : upds f ks G k = (f k).map G := by
  unfold upds
  rw [if_pos (any_mem.2 h)]
theorem upds_out {f : PF} {ks : List ByteArray} {G : Fd → Fd} {k : ByteArray} (h : k ∉ ks) : upds f ks G k = f k := by
  unfold upds
  rw [if_neg (fun e => h (any_mem.1 e))]
theorem upds_nil (f : PF) (G : Fd → Fd) : upds f [] G = f := by
  funext k
  simp [upds]
theorem upds_step {f : PF} {ks : List ByteArray} (G : Fd → Fd) (hnd : ks.Nodup) {n : Nat} (hn : n < ks.length) {x : Fd} (hf : f ks[n] = some x) : upds f (ks.take (n + 1)) G = upd (upds f (ks.take n) G) ks[n] (some (G x)) := by
  funext k
  by_cases e : k = ks[n]
  · rw [e, upds_in (List.mem_take_iff_getElem.2 ⟨n, by omega, rfl⟩), upd_same, hf]
    rfl
  · rw [upd_other _ e]
    by_cases hm : k ∈ ks.take n
    · rw [upds_in hm, upds_in (by rw [List.take_succ_eq_append_getElem hn]; exact List.mem_append_left _ hm)]
    · rw [upds_out hm, upds_out (by
        rw [List.take_succ_eq_append_getElem hn]
        intro h
        rcases List.mem_append.1 h with h | h
        · exact hm h
        · exact e (List.mem_singleton.1 h))]
theorem upds_fresh {f : PF} {ks : List ByteArray} (G : Fd → Fd) (hnd : ks.Nodup) {n : Nat} (hn : n < ks.length) : upds f (ks.take n) G ks[n] = f ks[n] := by
  refine upds_out fun h => ?_
  obtain ⟨i, hi, e⟩ := List.mem_take_iff_getElem.1 h
  have := (List.pairwise_iff_getElem.1 hnd) i n (by omega) hn (by omega)
  exact this e
theorem ltr_self {t : Int} : ltr t t = t := by
  unfold ltr
  split <;> simp
theorem ltr_le (t now : Int) : t ≤ ltr t now := by
  unfold ltr
  split
  · split <;> omega
  · omega
set_option maxHeartbeats 4000000 in
theorem p_Late.calls {B N p m : Nat} {t : Int} {f : PF} {w : World} (h : PA B N p m t f w) (hN : N ≤ 100000) (now : Int) (ht : 0 ≤ t ∧ t ≤ 1099511627776) (hF : ∀ k x, f k = some x → x.out ≤ t ∧ 0 ≤ x.fails ∧ x.fails < 1000000) :
    Calls Try.prog 20 #[.pointer (some ⟨p, 0, none⟩), .int .i64 now] w fun e w' => ∃ v, ∃ ss : List ByteArray, e = .returned v ∧ Sel w.heap.size w' v ss f (lostF (ltr t now)) N ∧ PA B N p m (ltr t now) (upds f ss (dnF (ltr t now) false)) w' ∧ Kp B w w' := by
  have ha := below_alloc (Below.refl _ w) (.cells #[.pointer (some ⟨p, 0, none⟩)] 22)
  have hc := Blk.At.new w #[.pointer (some ⟨p, 0, none⟩)] 22
  have hsz : (w.alloc (.cells #[.pointer (some ⟨p, 0, none⟩)] 22)).heap.size = w.heap.size + 1 := size_alloc _ _
  have h1 := h.below ha
  have hk := p_ok.calls h1
  have hl := p_later.calls h1 now
  have ht1 := ltr_at ht now
  have hle := ltr_le t now
  obtain ⟨t1, hT⟩ : ∃ t1, t1 = ltr t now := ⟨_, rfl⟩
  rw [← hT] at hl ht1 hle ⊢
  have hF1 : ∀ k x, f k = some x → x.out ≤ t1 ∧ 0 ≤ x.fails ∧ x.fails < 1000000 := fun k x hx => ⟨Int.le_trans (hF k x hx).1 hle, (hF k x hx).2⟩
  obtain ⟨c, hce⟩ : ∃ c, c = w.heap.size := ⟨_, rfl⟩
  rw [← hce] at hc hsz
  have HF1 := Aside0.mk hF1
  have HT1 := Aside0.mk ht1
  have HN := Aside0.mk hN
  have HCE := Aside0.mk hce
  obtain ⟨wa, hwa⟩ : ∃ wa, wa = w.alloc (.cells #[.pointer (some ⟨p, 0, none⟩)] 22) := ⟨_, rfl⟩
  rw [← hwa] at hk hl ha hc hsz
  have hca : wa.cell? ⟨c, 0, none⟩ = some (.pointer (some ⟨p, 0, none⟩)) := hc.cell 0
  have HA := Aside0.mk ha
  have HC := Aside0.mk hc
  clear h h1 ht ht1 hF hF1 hle hT hN ha hc hsz
  replace hwa := hwa.symm
  replace hce := hce.symm
  go_enter Try.func20, Try.ntmps20
  go_wp2_with fail
  refine hk.mono ?_
  rintro e w1 ⟨rfl, rfl⟩
  go_wp2_with fail
  refine hl.mono ?_
  rintro e w2 ⟨rfl, ⟨b, D, hP⟩, hK⟩
  have HC2 := Aside0.mk (At.kp HC.out (by decide) (by decide) hK)
  have hcc : w2.cell? ⟨c, 0, none⟩ = some (.pointer (some ⟨p, 0, none⟩)) := HC2.out.cell 0
  have hth := p_those.calls hP HN.out (ask_lost hP HC2.out HT1.out (fun k x hx => (HF1.out k x hx).1)) (enters_of Try.func33 (by kernel_rfl) rfl)
  have HK2 := Aside0.mk ((Kp.of_below (B := B) HA.out).trans hK)
  have HP2 := Aside0.mk hP
  clear hP hK hk hl
  go_wp2_with fail
  refine hth.mono ?_
  rintro e w3 ⟨v, ss, rfl, h1, h2, h3, h4, hb⟩
  obtain ⟨A, cc, rfl⟩ := Kd.R_slice h1
  have HL3 := Aside0.mk h1
  have HS3 := Aside0.mk (And.intro h2 (And.intro h3 h4))
  have HK3 := Aside0.mk (HK2.out.trans (Kp.of_below hb))
  have HP3 := Aside0.mk (show PA B N p m t1 f w3 from ⟨b, D, HP2.out.np (Np.of_below hb)⟩)
  have HC3 := Aside0.mk (HC2.out.below hb HC2.out.lt)
  clear h1 h2 h3 h4 hb hth hcc
  go_wp2_with fail
  have HP0 := Aside0.mk (show PA B N p m t1 (upds f (ss.take 0) (dnF t1 false)) w3 from by rw [List.take_zero, upds_nil]; exact HP3.out)
  have HK0 := Aside0.mk (Kp.refl B w3)
  go_loopw [19] (fun j wr => ∃ n : Nat, n ≤ ss.length ∧ j = .int .i64 n ∧ Aside0 (PA B N p m t1 (upds f (ss.take n) (dnF t1 false)) wr) ∧ Aside0 (Kp B w3 wr)) (fun j _ => ss.length - (intOf j).toNat)
  case atStart => exact ⟨0, Nat.zero_le _, rfl, HP0, HK0⟩
  case round =>
    clear HP0 HK0 HP3
    obtain ⟨n, hn, rfl, HP, HK⟩ := hrel
    by_cases hlt : n < ss.length
    · have HC := (Kd.V_reads' (Kd.R_V (base' := 0) (Ls.kp HL3.out HK.out))).2.2
      obtain ⟨ad, rfl, hcs⟩ := Kd.C_strings_cells HC (by omega)
      have hx0 : wr.cell? (ad.add n) = some (.string ss[n]) := hcs n _ (List.getElem?_eq_getElem hlt)
      have hmem : ss[n] ∈ ss := List.getElem_mem hlt
      obtain ⟨fx, hfx, hlo⟩ := (HS3.out.2.1 _).1 hmem
      have hsz := HS3.out.2.2.2 _ hmem
      have hup := upds_step (dnF t1 false) HS3.out.1 hlt hfx
      have hfr := upds_fresh (f := f) (dnF t1 false) HS3.out.1 hlt
      have hout : 0 ≤ fx.out := by
        unfold lostF at hlo
        simp at hlo
        exact hlo.1
      have hFx := HF1.out _ fx hfx
      rw [hfx] at hfr
      generalize ss[n] = s at hx0 hsz hup hfr
      have HDN := Aside0.mk (p_Done2.calls (HP.out.np (Np.drew _)) t1 hsz false hfr hout HT1.out hFx.2)
      rw [ltr_self, ← hup] at HDN
      have HCr := Aside0.mk (At.kp HC3.out (by decide) (by decide) HK.out)
      have hcr : wr.cell? ⟨c, 0, none⟩ = some (.pointer (some ⟨p, 0, none⟩)) := HCr.out.cell 0
      obtain ⟨b', D', hPl⟩ := HP.out
      have hc0 : wr.cell? ⟨p, 0, none⟩ = some (.int .i64 t1) := hPl.pl.cell 0
      have HLT := Aside0.mk hlt
      have en : wrap64 ((n : Int) + 1) = ((n + 1 : Nat) : Int) := w64n (by have := HC.2.1; omega)
      clear hmem hfx hlo hsz hup hfr hout hFx hPl HC hcs HP
      go_wp2_with fail
      refine start_ (n := 7) (S := fun w' => w'.cell? ⟨c, 0, none⟩ = some (.pointer (some ⟨p, 0, none⟩)) ∧ w'.cell? ⟨p, 0, none⟩ = some (.int .i64 t1)) (ds := [6]) #[false, false, false, false, false, false, false] (by kernel_rfl) rfl rfl ⟨hcr, hc0⟩ (fun hHeld => ?_)
      refine pure_ (i := 5) (N := some 28) (v := ?_) (a' := ?_) #[false, false, false, false, false, true, false] rfl rfl (by kernel_rfl) (fun _ _ _ h => h) (Or.inl ⟨by rfl, ?_⟩) ?_ ?_
      rotate_left
      · intro w'
        go_simp
        with_reducible rfl
      rotate_left
      · simp only [Act.put, List.setIfInBounds_toArray, List.set_cons_zero, List.set_cons_succ, i64_w, i32_w]
        rfl
      refine take_ (i := 0) (N := some 23) (v := ?_) (a' := ?_) #[true, false, false, false, false, true, false] rfl rfl (by kernel_rfl) (fun _ _ _ h => h) (Or.inl ⟨by rfl, ?_⟩) hHeld ?_ ?_
      rotate_left
      · rintro w' ⟨s0, s1⟩
        go_simp
        with_reducible rfl
      rotate_left
      · simp only [Act.put, List.setIfInBounds_toArray, List.set_cons_zero, List.set_cons_succ, i64_w, i32_w]
        rfl
      refine take_ (i := 1) (N := some 24) (v := ?_) (a' := ?_) #[true, true, false, false, false, true, false] rfl rfl (by kernel_rfl) (fun _ _ _ h => h) (Or.inl ⟨by rfl, ?_⟩) hHeld ?_ ?_
      rotate_left
      · rintro w' ⟨s0, s1⟩
        go_simp
        with_reducible rfl
      rotate_left
      · simp only [Act.put, List.setIfInBounds_toArray, List.set_cons_zero, List.set_cons_succ, i64_w, i32_w]
        rfl
      refine pure_ (i := 2) (N := some 25) (v := ?_) (a' := ?_) #[true, true, true, false, false, true, false] rfl rfl (by kernel_rfl) (fun _ _ _ h => h) (Or.inl ⟨by rfl, ?_⟩) ?_ ?_
      rotate_left
      · intro w'
        go_simp
        with_reducible rfl
      rotate_left
      · simp only [Act.put, List.setIfInBounds_toArray, List.set_cons_zero, List.set_cons_succ, i64_w, i32_w]
        rfl
      refine pure_ (i := 3) (N := some 26) (v := ?_) (a' := ?_) #[true, true, true, true, false, true, false] rfl rfl (by kernel_rfl) (fun _ _ _ h => h) (Or.inl ⟨by rfl, ?_⟩) ?_ ?_
      rotate_left
      · intro w'
        go_simp
        with_reducible rfl
      rotate_left
      · simp only [Act.put, List.setIfInBounds_toArray, List.set_cons_zero, List.set_cons_succ, i64_w, i32_w]
        rfl
      refine take_ (i := 4) (N := some 27) (v := ?_) (a' := ?_) #[true, true, true, true, true, true, false] rfl rfl (by kernel_rfl) (fun _ _ _ h => h) (Or.inl ⟨by rfl, ?_⟩) hHeld ?_ ?_
      rotate_left
      · rintro w' ⟨s0, s1⟩
        go_simp
        with_reducible rfl
      rotate_left
      · simp only [Act.put, List.setIfInBounds_toArray, List.set_cons_zero, List.set_cons_succ, i64_w, i32_w]
        rfl
      refine last_ (i := 6) (N := some 29) #[true, true, true, true, true, true, true] rfl rfl (by kernel_rfl) (by decide) (fun K hK => ?_)
      refine goes_ Try.func11 (by kernel_rfl) rfl #[.pointer (some ⟨p, 0, none⟩), .int .i64 t1, .string s, .bool false] (by rfl) rfl rfl (by simp only [List.map_toArray, List.map_cons, List.map_nil]; rfl) ?_
      with_reducible refine (HDN.out).mono ?_
      rintro e w6 ⟨rfl, hPA_, hKp_⟩
      refine ⟨_, rfl, ?_⟩
      have HPA := Aside0.mk hPA_
      have HKP := Aside0.mk ((HK.out.trans (Kp.of_below (below_drew (Below.refl _ _)))).trans hKp_)
      clear hPA_ hKp_
      refine hK.out _ _ ?_
      clear hK K
      refine norm_ (a' := ?_) ?_ ?_
      rotate_left
      · show Act.put _ (some 29) _ = _
        simp only [Act.put, List.setIfInBounds_toArray, List.set_cons_zero, List.set_cons_succ, i64_w, i32_w]
        rfl
      refine done_ (by kernel_rfl) ?_
      go_wp2_with fail
      rw [en]
      go_roundw
      case rel => exact ⟨n + 1, HLT.out, rfl, HPA, HKP⟩
      case measure => simp [intOf]; omega
    · obtain rfl : n = ss.length := by omega
      go_wp2_with fail
      go_ret
      have hP := HP.out
      rw [List.take_length] at hP
      exact ⟨_, ss, rfl, ⟨Kd.R_lower ((HL3.out).kp HK.out) HK2.out.size, HS3.out⟩, hP, HK3.out.trans HK.out⟩
end Go.Proofs.Ytomkjakffpomdaa.Q
