/- A plan's functions, walked: DeleteFunc. No condition but those typed. -/
import Derived.Test.YtomkjakffpomdaaSw3
import Derived.Lib.SliceRun
namespace Go.Proofs.Ytomkjakffpomdaa.Q
open Go.RowKit Go.Maps Go.Sort Go.Shelf Go.Proofs.YtomkjakffpomdaaW.PrintWords Go.Proofs.YtomkjakffpomdaaW.PrintLast Go.Proofs.YtomkjakffpomdaaW.PrintMore
attribute [local go_sem] max2_int min2_int max_two min_two max_three min_three max_four min_four   -- for this text's walks alone
set_option linter.unusedVariables false
set_option linter.unusedSimpArgs false
set_option maxRecDepth 100000
/-- Whether a feed is due, and not out. -/
def dueF (t : Int) (x : Fd) : Bool := decide (x.out < 0) && decide (x.due ≤ t)
/-- What Take's closure is asked in. -/
structure Tk (B N p m c : Nat) (t : Int) (f : PF) (w : World) : Prop where
  pa : PA B N p m t f w
  cap : Blk.At c #[.pointer (some ⟨p, 0, none⟩)] 22 w
section
variable {B N p m c : Nat} {t : Int} {f : PF} {w w' : World}
theorem Tk.below (h : Tk B N p m c t f w) (hb : Below w.heap.size w w') : Tk B N p m c t f w' := ⟨h.pa.below hb, h.cap.below hb h.cap.lt⟩
theorem Tk.drewN (h : Tk B N p m c t f w) (n : Nat) : Tk B N p m c t f (w.drewN n) := h.below (below_drewN2 (Below.refl _ _) n)
theorem Tk.setCell (h : Tk B N p m c t f w) {g i : Nat} {cs : Array Value} (hg : w.heap[g]? = some (.cells cs 9)) (v : Value) : Tk B N p m c t f (w.setCell ⟨g, i, none⟩ v) :=
  ⟨h.pa.np (Np.setCell fun o ho => by
    rw [show w.heap[g]? = _ from hg] at ho
    cases ho
    exact not_keyed9), h.cap.set_other (fun e => by
    have h1 := h.cap
    unfold Blk.At at h1
    rw [← e, hg] at h1
    cases h1) _ _⟩
theorem take_pred (h : Tk B N p m c t f w) {s : ByteArray} (hs : s.size ≤ maxLen) {x : Fd} (hf : f s = some x) :
    Calls Try.prog 26 (#[.string s] ++ #[.pointer (some ⟨c, 0, none⟩)]) w fun e w' => e = .returned (.bool (!dueF t x)) ∧ ∃ n, w' = w.drewN n := by
  obtain ⟨b, D, hP⟩ := h.pa
  have x1 : w.cell? ⟨p, 1, none⟩ = some (.map (some m)) := hP.pl.cell 1
  have x0 : w.cell? ⟨p, 0, none⟩ = some (.int .i64 t) := hP.pl.cell 0
  have hc : w.cell? ⟨c, 0, none⟩ = some (.pointer (some ⟨p, 0, none⟩)) := h.cap.cell 0
  have hl := hP.look1 hs hf
  have c2 : w.cell? ⟨b s, 2, none⟩ = some (.int .i64 x.out) := (hP.blk s x hf).cell 2
  have c0 : w.cell? ⟨b s, 0, none⟩ = some (.int .i64 x.due) := (hP.blk s x hf).cell 0
  clear hP h hf
  generalize b s = g at c2 c0 hl
  show Calls Try.prog 26 #[.string s, .pointer (some ⟨c, 0, none⟩)] w _
  by_cases ho : 0 ≤ x.out
  · have hd : decide (x.out ≥ 0) = true := decide_eq_true ho
    have HQ : Aside0 ((!dueF t x) = true) := ⟨by unfold dueF; rw [decide_eq_false (by omega)]; rfl⟩
    clear ho
    go_enter Try.func26, Try.ntmps26
    go_wp2_with fail
    refine start_ (n := 17) (S := fun w' => w'.cell? ⟨g, 2, none⟩ = some (.int .i64 x.out) ∧ w'.cell? ⟨g, 0, none⟩ = some (.int .i64 x.due) ∧ w'.cell? ⟨p, 0, none⟩ = some (.int .i64 t) ∧ w'.cell? ⟨c, 0, none⟩ = some (.pointer (some ⟨p, 0, none⟩))) (ds := []) #[false, false, false, false, false, false, false, false, false, false, false, false, false, false, false, false, false] (by kernel_rfl) rfl rfl ⟨c2, c0, x0, hc⟩ (fun hHeld => ?_)
    refine pure_ (i := 0) (N := some 11) (v := ?_) (a' := ?_) #[true, false, false, false, false, false, false, false, false, false, false, false, false, false, false, false, false] rfl rfl (by kernel_rfl) (fun _ _ _ h => h) (Or.inl ⟨by rfl, ?_⟩) ?_ ?_
    rotate_left
    · intro w'
      go_simp
      with_reducible rfl
    rotate_left
    · simp only [Act.put, List.setIfInBounds_toArray, List.set_cons_zero, List.set_cons_succ, i64_w, i32_w]
      rfl
    refine pure_ (i := 1) (N := some 12) (v := ?_) (a' := ?_) #[true, true, false, false, false, false, false, false, false, false, false, false, false, false, false, false, false] rfl rfl (by kernel_rfl) (fun _ _ _ h => h) (Or.inl ⟨by rfl, ?_⟩) ?_ ?_
    rotate_left
    · intro w'
      go_simp
      with_reducible rfl
    rotate_left
    · simp only [Act.put, List.setIfInBounds_toArray, List.set_cons_zero, List.set_cons_succ, i64_w, i32_w]
      rfl
    refine pure_ (i := 2) (N := some 13) (v := ?_) (a' := ?_) #[true, true, true, false, false, false, false, false, false, false, false, false, false, false, false, false, false] rfl rfl (by kernel_rfl) (fun _ _ _ h => h) (Or.inl ⟨by rfl, ?_⟩) ?_ ?_
    rotate_left
    · intro w'
      go_simp
      with_reducible rfl
    rotate_left
    · simp only [Act.put, List.setIfInBounds_toArray, List.set_cons_zero, List.set_cons_succ, i64_w, i32_w]
      rfl
    refine take_ (i := 3) (N := some 14) (v := ?_) (a' := ?_) #[true, true, true, true, false, false, false, false, false, false, false, false, false, false, false, false, false] rfl rfl (by kernel_rfl) (fun _ _ _ h => h) (Or.inl ⟨by rfl, ?_⟩) hHeld ?_ ?_
    rotate_left
    · rintro w' ⟨s0, s1, s2, s3⟩
      go_simp
      with_reducible rfl
    rotate_left
    · simp only [Act.put, List.setIfInBounds_toArray, List.set_cons_zero, List.set_cons_succ, i64_w, i32_w]
      rfl
    refine pure_ (i := 4) (N := some 15) (v := ?_) (a' := ?_) #[true, true, true, true, true, false, false, false, false, false, false, false, false, false, false, false, false] rfl rfl (by kernel_rfl) (fun _ _ _ h => h) (Or.inl ⟨by rfl, ?_⟩) ?_ ?_
    rotate_left
    · intro w'
      go_simp
      with_reducible rfl
    rotate_left
    · simp only [Act.put, List.setIfInBounds_toArray, List.set_cons_zero, List.set_cons_succ, i64_w, i32_w]
      rfl
    refine pure_ (i := 5) (N := some 16) (v := ?_) (a' := ?_) #[true, true, true, true, true, true, false, false, false, false, false, false, false, false, false, false, false] rfl rfl (by kernel_rfl) (fun _ _ _ h => h) (Or.inl ⟨by rfl, ?_⟩) ?_ ?_
    rotate_left
    · intro w'
      go_simp
      with_reducible rfl
    rotate_left
    · simp only [Act.put, List.setIfInBounds_toArray, List.set_cons_zero, List.set_cons_succ, i64_w, i32_w]
      rfl
    refine pure_ (i := 6) (N := some 17) (v := undef) (a' := ?_) #[true, true, true, true, true, true, true, false, false, false, false, false, false, false, false, false, false] rfl rfl (by kernel_rfl) (fun _ _ _ h => h) (Or.inr ⟨by rfl, rfl⟩) ?_ ?_
    rotate_left
    · simp only [Act.put, List.setIfInBounds_toArray, List.set_cons_zero, List.set_cons_succ, i64_w, i32_w]
      rfl
    refine pure_ (i := 7) (N := some 18) (v := undef) (a' := ?_) #[true, true, true, true, true, true, true, true, false, false, false, false, false, false, false, false, false] rfl rfl (by kernel_rfl) (fun _ _ _ h => h) (Or.inr ⟨by rfl, rfl⟩) ?_ ?_
    rotate_left
    · simp only [Act.put, List.setIfInBounds_toArray, List.set_cons_zero, List.set_cons_succ, i64_w, i32_w]
      rfl
    refine pure_ (i := 8) (N := some 19) (v := undef) (a' := ?_) #[true, true, true, true, true, true, true, true, true, false, false, false, false, false, false, false, false] rfl rfl (by kernel_rfl) (fun _ _ _ h => h) (Or.inr ⟨by rfl, rfl⟩) ?_ ?_
    rotate_left
    · simp only [Act.put, List.setIfInBounds_toArray, List.set_cons_zero, List.set_cons_succ, i64_w, i32_w]
      rfl
    refine pure_ (i := 9) (N := some 20) (v := undef) (a' := ?_) #[true, true, true, true, true, true, true, true, true, true, false, false, false, false, false, false, false] rfl rfl (by kernel_rfl) (fun _ _ _ h => h) (Or.inr ⟨by rfl, rfl⟩) ?_ ?_
    rotate_left
    · simp only [Act.put, List.setIfInBounds_toArray, List.set_cons_zero, List.set_cons_succ, i64_w, i32_w]
      rfl
    refine pure_ (i := 10) (N := some 21) (v := undef) (a' := ?_) #[true, true, true, true, true, true, true, true, true, true, true, false, false, false, false, false, false] rfl rfl (by kernel_rfl) (fun _ _ _ h => h) (Or.inr ⟨by rfl, rfl⟩) ?_ ?_
    rotate_left
    · simp only [Act.put, List.setIfInBounds_toArray, List.set_cons_zero, List.set_cons_succ, i64_w, i32_w]
      rfl
    refine pure_ (i := 11) (N := some 22) (v := undef) (a' := ?_) #[true, true, true, true, true, true, true, true, true, true, true, true, false, false, false, false, false] rfl rfl (by kernel_rfl) (fun _ _ _ h => h) (Or.inr ⟨by rfl, rfl⟩) ?_ ?_
    rotate_left
    · simp only [Act.put, List.setIfInBounds_toArray, List.set_cons_zero, List.set_cons_succ, i64_w, i32_w]
      rfl
    refine pure_ (i := 12) (N := some 23) (v := undef) (a' := ?_) #[true, true, true, true, true, true, true, true, true, true, true, true, true, false, false, false, false] rfl rfl (by kernel_rfl) (fun _ _ _ h => h) (Or.inr ⟨by rfl, rfl⟩) ?_ ?_
    rotate_left
    · simp only [Act.put, List.setIfInBounds_toArray, List.set_cons_zero, List.set_cons_succ, i64_w, i32_w]
      rfl
    refine pure_ (i := 13) (N := some 24) (v := undef) (a' := ?_) #[true, true, true, true, true, true, true, true, true, true, true, true, true, true, false, false, false] rfl rfl (by kernel_rfl) (fun _ _ _ h => h) (Or.inr ⟨by rfl, rfl⟩) ?_ ?_
    rotate_left
    · simp only [Act.put, List.setIfInBounds_toArray, List.set_cons_zero, List.set_cons_succ, i64_w, i32_w]
      rfl
    refine pure_ (i := 14) (N := some 25) (v := undef) (a' := ?_) #[true, true, true, true, true, true, true, true, true, true, true, true, true, true, true, false, false] rfl rfl (by kernel_rfl) (fun _ _ _ h => h) (Or.inr ⟨by rfl, rfl⟩) ?_ ?_
    rotate_left
    · simp only [Act.put, List.setIfInBounds_toArray, List.set_cons_zero, List.set_cons_succ, i64_w, i32_w]
      rfl
    refine pure_ (i := 15) (N := some 26) (v := ?_) (a' := ?_) #[true, true, true, true, true, true, true, true, true, true, true, true, true, true, true, true, false] rfl rfl (by kernel_rfl) (fun _ _ _ h => h) (Or.inl ⟨by rfl, ?_⟩) ?_ ?_
    rotate_left
    · intro w'
      go_simp
      with_reducible rfl
    rotate_left
    · simp only [Act.put, List.setIfInBounds_toArray, List.set_cons_zero, List.set_cons_succ, i64_w, i32_w]
      rfl
    refine pure_ (i := 16) (N := some 3) (v := ?_) (a' := ?_) #[true, true, true, true, true, true, true, true, true, true, true, true, true, true, true, true, true] rfl rfl (by kernel_rfl) (fun _ _ _ h => h) (Or.inl ⟨by rfl, ?_⟩) ?_ ?_
    rotate_left
    · intro w'
      go_simp
      with_reducible rfl
    rotate_left
    · simp only [Act.put, List.setIfInBounds_toArray, List.set_cons_zero, List.set_cons_succ, i64_w, i32_w]
      rfl
    refine done_ (by kernel_rfl) ?_
    go_wp2_with fail
    go_ret
    exact ⟨by rw [HQ.out]; rfl, 1, rfl⟩
  · have hd : decide (x.out ≥ 0) = false := decide_eq_false ho
    have HQ : Aside0 ((!dueF t x) = decide (x.due > t)) := ⟨by
      unfold dueF
      rw [decide_eq_true (by omega)]
      by_cases hx : x.due ≤ t
      · rw [decide_eq_true hx, decide_eq_false (by omega)]; rfl
      · rw [decide_eq_false hx, decide_eq_true (by omega)]; rfl⟩
    clear ho
    go_enter Try.func26, Try.ntmps26
    go_wp2_with fail
    refine start_ (n := 17) (S := fun w' => w'.cell? ⟨g, 2, none⟩ = some (.int .i64 x.out) ∧ w'.cell? ⟨g, 0, none⟩ = some (.int .i64 x.due) ∧ w'.cell? ⟨p, 0, none⟩ = some (.int .i64 t) ∧ w'.cell? ⟨c, 0, none⟩ = some (.pointer (some ⟨p, 0, none⟩))) (ds := []) #[false, false, false, false, false, false, false, false, false, false, false, false, false, false, false, false, false] (by kernel_rfl) rfl rfl ⟨c2, c0, x0, hc⟩ (fun hHeld => ?_)
    refine pure_ (i := 0) (N := some 11) (v := ?_) (a' := ?_) #[true, false, false, false, false, false, false, false, false, false, false, false, false, false, false, false, false] rfl rfl (by kernel_rfl) (fun _ _ _ h => h) (Or.inl ⟨by rfl, ?_⟩) ?_ ?_
    rotate_left
    · intro w'
      go_simp
      with_reducible rfl
    rotate_left
    · simp only [Act.put, List.setIfInBounds_toArray, List.set_cons_zero, List.set_cons_succ, i64_w, i32_w]
      rfl
    refine pure_ (i := 1) (N := some 12) (v := ?_) (a' := ?_) #[true, true, false, false, false, false, false, false, false, false, false, false, false, false, false, false, false] rfl rfl (by kernel_rfl) (fun _ _ _ h => h) (Or.inl ⟨by rfl, ?_⟩) ?_ ?_
    rotate_left
    · intro w'
      go_simp
      with_reducible rfl
    rotate_left
    · simp only [Act.put, List.setIfInBounds_toArray, List.set_cons_zero, List.set_cons_succ, i64_w, i32_w]
      rfl
    refine pure_ (i := 2) (N := some 13) (v := ?_) (a' := ?_) #[true, true, true, false, false, false, false, false, false, false, false, false, false, false, false, false, false] rfl rfl (by kernel_rfl) (fun _ _ _ h => h) (Or.inl ⟨by rfl, ?_⟩) ?_ ?_
    rotate_left
    · intro w'
      go_simp
      with_reducible rfl
    rotate_left
    · simp only [Act.put, List.setIfInBounds_toArray, List.set_cons_zero, List.set_cons_succ, i64_w, i32_w]
      rfl
    refine take_ (i := 3) (N := some 14) (v := ?_) (a' := ?_) #[true, true, true, true, false, false, false, false, false, false, false, false, false, false, false, false, false] rfl rfl (by kernel_rfl) (fun _ _ _ h => h) (Or.inl ⟨by rfl, ?_⟩) hHeld ?_ ?_
    rotate_left
    · rintro w' ⟨s0, s1, s2, s3⟩
      go_simp
      with_reducible rfl
    rotate_left
    · simp only [Act.put, List.setIfInBounds_toArray, List.set_cons_zero, List.set_cons_succ, i64_w, i32_w]
      rfl
    refine pure_ (i := 4) (N := some 15) (v := ?_) (a' := ?_) #[true, true, true, true, true, false, false, false, false, false, false, false, false, false, false, false, false] rfl rfl (by kernel_rfl) (fun _ _ _ h => h) (Or.inl ⟨by rfl, ?_⟩) ?_ ?_
    rotate_left
    · intro w'
      go_simp
      with_reducible rfl
    rotate_left
    · simp only [Act.put, List.setIfInBounds_toArray, List.set_cons_zero, List.set_cons_succ, i64_w, i32_w]
      rfl
    refine pure_ (i := 5) (N := some 16) (v := ?_) (a' := ?_) #[true, true, true, true, true, true, false, false, false, false, false, false, false, false, false, false, false] rfl rfl (by kernel_rfl) (fun _ _ _ h => h) (Or.inl ⟨by rfl, ?_⟩) ?_ ?_
    rotate_left
    · intro w'
      go_simp
      with_reducible rfl
    rotate_left
    · simp only [Act.put, List.setIfInBounds_toArray, List.set_cons_zero, List.set_cons_succ, i64_w, i32_w]
      rfl
    refine pure_ (i := 6) (N := some 17) (v := ?_) (a' := ?_) #[true, true, true, true, true, true, true, false, false, false, false, false, false, false, false, false, false] rfl rfl (by kernel_rfl) (fun _ _ _ h => h) (Or.inl ⟨by rfl, ?_⟩) ?_ ?_
    rotate_left
    · intro w'
      go_simp
      with_reducible rfl
    rotate_left
    · simp only [Act.put, List.setIfInBounds_toArray, List.set_cons_zero, List.set_cons_succ, i64_w, i32_w]
      rfl
    refine pure_ (i := 7) (N := some 18) (v := ?_) (a' := ?_) #[true, true, true, true, true, true, true, true, false, false, false, false, false, false, false, false, false] rfl rfl (by kernel_rfl) (fun _ _ _ h => h) (Or.inl ⟨by rfl, ?_⟩) ?_ ?_
    rotate_left
    · intro w'
      go_simp
      with_reducible rfl
    rotate_left
    · simp only [Act.put, List.setIfInBounds_toArray, List.set_cons_zero, List.set_cons_succ, i64_w, i32_w]
      rfl
    refine pure_ (i := 8) (N := some 19) (v := ?_) (a' := ?_) #[true, true, true, true, true, true, true, true, true, false, false, false, false, false, false, false, false] rfl rfl (by kernel_rfl) (fun _ _ _ h => h) (Or.inl ⟨by rfl, ?_⟩) ?_ ?_
    rotate_left
    · intro w'
      go_simp
      with_reducible rfl
    rotate_left
    · simp only [Act.put, List.setIfInBounds_toArray, List.set_cons_zero, List.set_cons_succ, i64_w, i32_w]
      rfl
    refine take_ (i := 9) (N := some 20) (v := ?_) (a' := ?_) #[true, true, true, true, true, true, true, true, true, true, false, false, false, false, false, false, false] rfl rfl (by kernel_rfl) (fun _ _ _ h => h) (Or.inl ⟨by rfl, ?_⟩) hHeld ?_ ?_
    rotate_left
    · rintro w' ⟨s0, s1, s2, s3⟩
      go_simp
      with_reducible rfl
    rotate_left
    · simp only [Act.put, List.setIfInBounds_toArray, List.set_cons_zero, List.set_cons_succ, i64_w, i32_w]
      rfl
    refine take_ (i := 10) (N := some 21) (v := ?_) (a' := ?_) #[true, true, true, true, true, true, true, true, true, true, true, false, false, false, false, false, false] rfl rfl (by kernel_rfl) (fun _ _ _ h => h) (Or.inl ⟨by rfl, ?_⟩) hHeld ?_ ?_
    rotate_left
    · rintro w' ⟨s0, s1, s2, s3⟩
      go_simp
      with_reducible rfl
    rotate_left
    · simp only [Act.put, List.setIfInBounds_toArray, List.set_cons_zero, List.set_cons_succ, i64_w, i32_w]
      rfl
    refine pure_ (i := 11) (N := some 22) (v := ?_) (a' := ?_) #[true, true, true, true, true, true, true, true, true, true, true, true, false, false, false, false, false] rfl rfl (by kernel_rfl) (fun _ _ _ h => h) (Or.inl ⟨by rfl, ?_⟩) ?_ ?_
    rotate_left
    · intro w'
      go_simp
      with_reducible rfl
    rotate_left
    · simp only [Act.put, List.setIfInBounds_toArray, List.set_cons_zero, List.set_cons_succ, i64_w, i32_w]
      rfl
    refine pure_ (i := 12) (N := some 23) (v := ?_) (a' := ?_) #[true, true, true, true, true, true, true, true, true, true, true, true, true, false, false, false, false] rfl rfl (by kernel_rfl) (fun _ _ _ h => h) (Or.inl ⟨by rfl, ?_⟩) ?_ ?_
    rotate_left
    · intro w'
      go_simp
      with_reducible rfl
    rotate_left
    · simp only [Act.put, List.setIfInBounds_toArray, List.set_cons_zero, List.set_cons_succ, i64_w, i32_w]
      rfl
    refine take_ (i := 13) (N := some 24) (v := ?_) (a' := ?_) #[true, true, true, true, true, true, true, true, true, true, true, true, true, true, false, false, false] rfl rfl (by kernel_rfl) (fun _ _ _ h => h) (Or.inl ⟨by rfl, ?_⟩) hHeld ?_ ?_
    rotate_left
    · rintro w' ⟨s0, s1, s2, s3⟩
      go_simp
      with_reducible rfl
    rotate_left
    · simp only [Act.put, List.setIfInBounds_toArray, List.set_cons_zero, List.set_cons_succ, i64_w, i32_w]
      rfl
    refine pure_ (i := 14) (N := some 25) (v := ?_) (a' := ?_) #[true, true, true, true, true, true, true, true, true, true, true, true, true, true, true, false, false] rfl rfl (by kernel_rfl) (fun _ _ _ h => h) (Or.inl ⟨by rfl, ?_⟩) ?_ ?_
    rotate_left
    · intro w'
      go_simp
      with_reducible rfl
    rotate_left
    · simp only [Act.put, List.setIfInBounds_toArray, List.set_cons_zero, List.set_cons_succ, i64_w, i32_w]
      rfl
    refine pure_ (i := 15) (N := some 26) (v := ?_) (a' := ?_) #[true, true, true, true, true, true, true, true, true, true, true, true, true, true, true, true, false] rfl rfl (by kernel_rfl) (fun _ _ _ h => h) (Or.inl ⟨by rfl, ?_⟩) ?_ ?_
    rotate_left
    · intro w'
      go_simp
      with_reducible rfl
    rotate_left
    · simp only [Act.put, List.setIfInBounds_toArray, List.set_cons_zero, List.set_cons_succ, i64_w, i32_w]
      rfl
    refine pure_ (i := 16) (N := some 3) (v := ?_) (a' := ?_) #[true, true, true, true, true, true, true, true, true, true, true, true, true, true, true, true, true] rfl rfl (by kernel_rfl) (fun _ _ _ h => h) (Or.inl ⟨by rfl, ?_⟩) ?_ ?_
    rotate_left
    · intro w'
      go_simp
      with_reducible rfl
    rotate_left
    · simp only [Act.put, List.setIfInBounds_toArray, List.set_cons_zero, List.set_cons_succ, i64_w, i32_w]
      rfl
    refine done_ (by kernel_rfl) ?_
    go_wp2_with fail
    go_ret
    exact ⟨by rw [HQ.out]; rfl, 1, rfl⟩
end
/-- All of a list are feeds, of keys that are no longer than they may be. -/
def Known (f : PF) (ss : List ByteArray) : Prop := ∀ k ∈ ss, k.size ≤ maxLen ∧ (f k).isSome = true
/-- Whether a feed of a list stays. -/
def stayQ (t : Int) (f : PF) (k : ByteArray) : Bool := isQ f (dueF t) k
theorem pred_known {B N p m c : Nat} {t : Int} {f : PF} {w : World} (h : Tk B N p m c t f w) {ss : List ByteArray} (hk : Known f ss) {s : ByteArray} (hs : s ∈ ss) :
    Calls Try.prog 26 (#[.string s] ++ #[.pointer (some ⟨c, 0, none⟩)]) w fun e w' => e = .returned (.bool (!stayQ t f s)) ∧ ∃ n, w' = w.drewN n := by
  obtain ⟨h1, h2⟩ := hk s hs
  obtain ⟨x, hx⟩ := Option.isSome_iff_exists.1 h2
  have := take_pred h h1 hx
  unfold stayQ isQ
  rw [hx]
  exact this
set_option maxHeartbeats 1000000 in
theorem s_IndexFunc.calls {B N p m c base : Nat} {t : Int} {f : PF} {w : World} (h : Tk B N p m c t f w) {A : Option Addr} {cap : Nat} {ss : List ByteArray} (hL : Ls base w (.slice A ss.length cap) ss) (hK : Known f ss) :
    Calls Try.prog 34 #[.slice A ss.length cap, .func (.func 26) #[] #[.pointer (some ⟨c, 0, none⟩)]] w fun e w' => ∃ q, w' = w.drewN q ∧ ∃ i : Int, e = .returned (.int .i64 i) ∧ ((i = -1 ∧ ∀ k ∈ ss, stayQ t f k = true) ∨ ∃ n : Nat, i = n ∧ ∃ hn : n < ss.length, stayQ t f ss[n] = false ∧ ∀ k ∈ ss.take n, stayQ t f k = true) := by
  have hC := (Kd.V_reads' (Kd.R_V (base' := 0) hL)).2.2
  have HC := Aside0.mk hC
  have HK := Aside0.mk hK
  have H := Aside0.mk h
  have HD0 := Aside0.mk (show ∃ q, w = w.drewN q from ⟨0, rfl⟩)
  clear h hL hK hC
  go_enter Try.func34, Try.ntmps34
  go_wp2_with fail
  go_loopw [8] (fun j wr => ∃ n : Nat, n ≤ ss.length ∧ j = .int .i64 n ∧ Aside0 (∃ q, wr = w.drewN q) ∧ Aside0 (∀ k ∈ ss.take n, stayQ t f k = true)) (fun j _ => ss.length - (intOf j).toNat)
  case atStart => exact ⟨0, Nat.zero_le _, rfl, HD0, ⟨by simp⟩⟩
  case round =>
    clear HD0
    obtain ⟨n, hn, rfl, HD, HP⟩ := hrel
    by_cases hlt : n < ss.length
    · obtain ⟨q, hq⟩ := HD.out
      obtain ⟨ad, rfl, hcs⟩ := Kd.C_strings_cells HC.out (by omega)
      have hx0 : wr.cell? (ad.add n) = some (.string ss[n]) := by rw [hq]; exact hcs n _ (List.getElem?_eq_getElem hlt)
      have hT : Tk B N p m c t f wr := by rw [hq]; exact H.out.drewN q
      have hpr := pred_known hT HK.out (List.getElem_mem hlt)
      have HLT := Aside0.mk hlt
      have en : wrap64 ((n : Int) + 1) = ((n + 1 : Nat) : Int) := w64n (by have := HC.out.2.1; omega)
      have HQ := Aside0.mk hq
      obtain ⟨s, hs⟩ : ∃ s, s = ss[n] := ⟨_, rfl⟩
      have HS := Aside0.mk hs
      rw [← hs] at hx0 hpr
      have HPR := Aside0.mk hpr
      clear hq hT hcs hs hpr
      go_wp2_with fail
      refine HPR.out.mono ?_
      rintro e w4 ⟨rfl, nn, hw4⟩
      have HW4 := Aside0.mk (show w4 = w.drewN (q + nn) from by rw [hw4, HQ.out, World.drewN_drewN])
      clear hw4 HPR hx0
      cases hst : stayQ t f s with
      | true =>
        go_wp2_with fail
        rw [en]
        go_roundw
        case rel => exact ⟨n + 1, HLT.out, rfl, ⟨_, HW4.out⟩, ⟨fun k hk => by
          rw [List.take_succ_eq_append_getElem HLT.out] at hk
          rcases List.mem_append.1 hk with hk | hk
          · exact HP.out k hk
          · rw [List.mem_singleton.1 hk, ← HS.out]; exact hst⟩⟩
        case measure => simp [intOf]; omega
      | false =>
        go_wp2_with fail
        go_ret
        exact ⟨_, HW4.out, n, rfl, .inr ⟨n, rfl, HLT.out, by rw [← HS.out]; exact hst, HP.out⟩⟩
    · obtain rfl : n = ss.length := by omega
      go_wp2_with fail
      go_ret
      obtain ⟨q, hq⟩ := HD.out
      have hp := HP.out
      rw [List.take_length] at hp
      exact ⟨q, hq, -1, rfl, .inl ⟨rfl, hp⟩⟩
theorem Ls.set {base g c : Nat} {w : World} {rr : List ByteArray} (h : Ls base w (.slice (some ⟨g, 0, none⟩) rr.length c) rr) (i : Nat) (x : ByteArray) :
    Ls base (w.setCell ⟨g, i, none⟩ (.string x)) (.slice (some ⟨g, 0, none⟩) rr.length c) (rr.set i x) ∧ w.grownBy (w.setCell ⟨g, i, none⟩ (.string x)) (some g) := by
  have := Kd.R_put h (i : Int) x
  rw [Int.toNat_natCast] at this
  exact this
theorem Ls.block {base g n c : Nat} {w : World} {rr : List ByteArray} (h : Ls base w (.slice (some ⟨g, 0, none⟩) n c) rr) : base ≤ g ∧ ∃ cs, w.heap[g]? = some (.cells cs 9) ∧ n ≤ c ∧ n = rr.length := by
  obtain ⟨c', hc⟩ := Kd.R_slice h
  obtain ⟨hc, e⟩ := hc
  cases e
  have ho := Kd.own_of_R h
  rcases ho.2 with ⟨h1, _⟩ | ⟨g', cap, cur, e, hb, hh, h1, _⟩
  · cases h1
  · cases e
    exact ⟨hb, cur, hh, h1, rfl⟩
theorem Ls.cell {base g n c : Nat} {w : World} {rr : List ByteArray} (h : Ls base w (.slice (some ⟨g, 0, none⟩) n c) rr) {j : Nat} (hj : j < rr.length) : w.cell? ⟨g, j, none⟩ = some (.string rr[j]) ∧ w.frozen? ⟨g, j, none⟩ = false := by
  obtain ⟨_, _, _, _, rfl⟩ := h.block
  have := Kd.R_cell (d := ByteArray.empty) h (j : Int) (by omega) (by omega)
  simp only [Int.toNat_natCast] at this
  refine ⟨this.1.trans ?_, this.2⟩
  unfold rdOf
  rw [Int.toNat_natCast, List.getD_eq_getElem?_getD, List.getElem?_eq_getElem hj]
  rfl
theorem Ls.clear {base g c : Nat} : ∀ (m i : Nat) {w : World} {rr : List ByteArray}, Ls base w (.slice (some ⟨g, 0, none⟩) rr.length c) rr → i + m = rr.length → ∃ rr', Ls base (w.setCells g i (List.replicate m (.string ByteArray.empty))) (.slice (some ⟨g, 0, none⟩) rr.length c) rr' ∧ rr'.length = rr.length ∧ rr'.take i = rr.take i ∧ w.grownBy (w.setCells g i (List.replicate m (.string ByteArray.empty))) (some g)
  | 0, i, w, rr, h, _ => ⟨rr, h, rfl, rfl, ⟨rfl, rfl, rfl, Nat.le_refl _, fun _ _ _ => rfl⟩⟩
  | m + 1, i, w, rr, h, hm => by
    obtain ⟨h1, g1⟩ := h.set i ByteArray.empty
    have hl : (rr.set i ByteArray.empty).length = rr.length := List.length_set
    rw [← hl] at h1
    obtain ⟨rr', h2, h3, h4, g2⟩ := Ls.clear m (i + 1) h1 (by rw [hl]; omega)
    rw [hl] at h2 h3
    refine ⟨rr', h2, h3, ?_, g1.trans g2⟩
    have := congrArg (List.take i) h4
    rw [List.take_take, List.take_take, Nat.min_eq_left (Nat.le_succ _)] at this
    rw [this, List.take_set_of_le (Nat.le_refl _)]
/-- How far the cut has come: the kept ones ahead, what is still to come behind. -/
structure Half (q : ByteArray → Bool) (ss : List ByteArray) (n i : Nat) (rr : List ByteArray) : Prop where
  len : rr.length = ss.length
  le : i < n
  kept : rr.take i = (ss.take n).filter q
  rest : ∀ j, n ≤ j → rr[j]? = ss[j]?
theorem Half.drop {q : ByteArray → Bool} {ss : List ByteArray} {n i : Nat} {rr : List ByteArray} (h : Half q ss n i rr) (hn : n < ss.length) (hq : q ss[n] = false) : Half q ss (n + 1) i rr :=
  ⟨h.len, by have := h.le; omega, by rw [filter_snoc q ss n hn, hq, h.kept]; simp, fun j hj => h.rest j (by omega)⟩
theorem Half.keep {q : ByteArray → Bool} {ss : List ByteArray} {n i : Nat} {rr : List ByteArray} (h : Half q ss n i rr) (hn : n < ss.length) (hq : q ss[n] = true) : Half q ss (n + 1) (i + 1) (rr.set i ss[n]) :=
  ⟨by rw [List.length_set]; exact h.len, by have := h.le; omega, by
    have hi : i < rr.length := by have := h.le; have := h.len; omega
    rw [filter_snoc q ss n hn, hq, ← h.kept, List.take_succ_eq_append_getElem (by rw [List.length_set]; exact hi), List.take_set_of_le (Nat.le_refl _)]
    simp, fun j hj => by
    rw [List.getElem?_set_ne (by have := h.le; omega)]
    exact h.rest j (by omega)⟩
theorem Half.start {q : ByteArray → Bool} {ss : List ByteArray} {n : Nat} (hn : n < ss.length) (hq : q ss[n] = false) (ha : ∀ k ∈ ss.take n, q k = true) : Half q ss (n + 1) n ss :=
  ⟨rfl, Nat.lt_succ_self _, by
    rw [filter_snoc q ss n hn, hq, List.filter_eq_self.2 ha]
    simp, fun _ _ => rfl⟩
theorem zero9 (w : World) : (zeroValue 9).run Try.prog w = .ok (.string ByteArray.empty) w := by kernel_rfl
set_option maxHeartbeats 4000000 in
theorem s_DeleteFunc.calls {B N p m c base : Nat} {t : Int} {f : PF} {w : World} (h : Tk B N p m c t f w) {A : Option Addr} {cap : Nat} {ss : List ByteArray} (hL : Ls base w (.slice A ss.length cap) ss) (hK : Known f ss) (hN : ss.length ≤ 100000) :
    Calls Try.prog 25 #[.slice A ss.length cap, .func (.func 26) #[] #[.pointer (some ⟨c, 0, none⟩)]] w fun e w' => ∃ v, e = .returned v ∧ Ls base w' v (ss.filter (stayQ t f)) ∧ Tk B N p m c t f w' ∧ ∃ row, w.grownBy w' row ∧ ∀ j, row = some j → base ≤ j := by
  have hI := s_IndexFunc.calls h hL hK
  have HL := Aside0.mk hL
  have HK := Aside0.mk hK
  have H := Aside0.mk h
  have HN := Aside0.mk hN
  clear h hL hK hN
  go_enter Try.func25, Try.ntmps25
  go_wp2_with fail
  refine hI.mono ?_
  rintro e w1 ⟨q, hq, i, rfl, hi⟩
  have HQ := Aside0.mk hq
  clear hI hq
  rcases hi with ⟨rfl, ha⟩ | ⟨n0, rfl, hn0, hst, ha⟩
  · have HA := Aside0.mk ha
    clear ha
    go_wp2_with fail
    go_ret
    rw [List.filter_eq_self.2 HA.out]
    exact ⟨_, rfl, by rw [HQ.out]; exact Kd.R_drewN HL.out q, by rw [HQ.out]; exact H.out.drewN q, none, by rw [HQ.out]; exact grownBy_none (below_drewN2 (Below.refl _ _) q), fun j hj => by cases hj⟩
  · have HH := Aside0.mk (Half.start hn0 hst ha)
    have hne : ((n0 : Int) == -1) = false := beq_eq_false_iff_ne.2 (by omega)
    have HN0 := Aside0.mk hn0
    obtain ⟨ad, rfl⟩ : ∃ ad, A = some ad := by
      obtain ⟨ad, e, _⟩ := Kd.C_strings_cells (Kd.V_reads' (Kd.R_V (base' := 0) HL.out)).2.2 (by omega)
      exact ⟨ad, e⟩
    obtain ⟨g, rfl⟩ := Kd.R_head HL.out
    have hcap := (Kd.V_reads' (Kd.R_V (base' := 0) HL.out)).2.1
    have HNL := Aside0.mk (show ss.length < 4611686018427387904 from by have := HN.out; omega)
    have en0 : wrap64 ((n0 : Int) + 1) = ((n0 + 1 : Nat) : Int) := w64n (by have := HNL.out; omega)
    have HL1 := Aside0.mk (show Ls base w1 (.slice (some ⟨g, 0, none⟩) ss.length cap) ss from by rw [HQ.out]; exact Kd.R_drewN HL.out q)
    have HT1 := Aside0.mk (show Tk B N p m c t f w1 from by rw [HQ.out]; exact H.out.drewN q)
    have HG1 := Aside0.mk (show w.grownBy w1 (some g) from by rw [HQ.out]; exact (grownBy_none (below_drewN2 (Below.refl _ _) q)).but _)
    have HBG := Aside0.mk (HL.out.block).1
    clear ha hst hn0 HQ
    go_wp2_with fail
    go_loopw [6, 5] (fun j v wr => ∃ n i rr, n ≤ ss.length ∧ j = .int .i64 (n : Nat) ∧ v = .int .i64 (i : Nat) ∧ Aside0 (Half (stayQ t f) ss n i rr) ∧ Aside0 (Ls base wr (.slice (some ⟨g, 0, none⟩) ss.length cap) rr) ∧ Aside0 (Tk B N p m c t f wr) ∧ Aside0 (w.grownBy wr (some g))) (fun j _ _ => ss.length - (intOf j).toNat)
    case atStart => exact ⟨n0 + 1, n0, ss, HN0.out, by rw [en0], rfl, HH, HL1, HT1, HG1⟩
    case round =>
      clear HH HL1 HT1 HG1 en0
      obtain ⟨n, i, rr, hn, rfl, rfl, HH, HLr, HT, HG⟩ := hrel
      by_cases hlt : n < ss.length
      · have hlr : n < rr.length := by rw [HH.out.len]; exact hlt
        have hx0 : wr.cell? ⟨g, n, none⟩ = some (.string ss[n]) := by
          have h1 := (HLr.out.cell hlr).1
          have h2 := HH.out.rest n (Nat.le_refl _)
          rw [List.getElem?_eq_getElem hlr, List.getElem?_eq_getElem hlt] at h2
          rw [h1, Option.some.inj h2]
        have hil : i < rr.length := by have := HH.out.le; omega
        have hxi := HLr.out.cell hil
        have hpr := pred_known HT.out HK.out (List.getElem_mem hlt)
        have en : wrap64 ((n : Int) + 1) = ((n + 1 : Nat) : Int) := w64n (by have := HNL.out; omega)
        have ei : wrap64 ((i : Int) + 1) = ((i + 1 : Nat) : Int) := w64n (by have := HNL.out; have := HH.out.le; omega)
        have HLT := Aside0.mk hlt
        have HIL := Aside0.mk (show i < ss.length from by have := HH.out.le; omega)
        have HXI := Aside0.mk hxi
        obtain ⟨s, hs⟩ : ∃ s, s = ss[n] := ⟨_, rfl⟩
        have HS := Aside0.mk hs
        rw [← hs] at hx0 hpr
        have HPR := Aside0.mk hpr
        have hilt := HIL.out
        clear hs hpr hlr
        go_wp2_with fail
        refine HPR.out.mono ?_
        rintro e w4 ⟨rfl, nn, hw4⟩
        have HL4 := Aside0.mk (show Ls base w4 (.slice (some ⟨g, 0, none⟩) ss.length cap) rr from by rw [hw4]; exact Kd.R_drewN HLr.out nn)
        have HT4 := Aside0.mk (show Tk B N p m c t f w4 from by rw [hw4]; exact HT.out.drewN nn)
        have HG4 := Aside0.mk (show w.grownBy w4 (some g) from by rw [hw4]; exact HG.out.trans ((grownBy_none (below_drewN2 (Below.refl _ _) nn)).but _))
        have hy : w4.cell? ⟨g, i, none⟩ = some (.string (rr[i]'(by have := HIL.out; have := HH.out.len; omega))) := by rw [hw4]; exact HXI.out.1
        have hy' : w4.frozen? ⟨g, i, none⟩ = false := by rw [hw4]; exact HXI.out.2
        generalize (rr[i]'(by have := HIL.out; have := HH.out.len; omega)) = ri at hy
        clear hw4 HPR hx0 HLr HT HG HXI
        cases hst : stayQ t f s with
        | true =>
          have HS4 := Aside0.mk (HH.out.keep HLT.out (by rw [← HS.out]; exact hst))
          have HW4 := Aside0.mk (show Ls base (w4.setCell ⟨g, i, none⟩ (.string s)) (.slice (some ⟨g, 0, none⟩) ss.length cap) (rr.set i ss[n]) ∧ w4.grownBy (w4.setCell ⟨g, i, none⟩ (.string s)) (some g) from by
            have h1 := HL4.out
            rw [← HH.out.len] at h1
            obtain ⟨k1, k2⟩ := h1.set i s
            rw [HH.out.len] at k1
            rw [← HS.out]
            exact ⟨k1, k2⟩)
          have HT5 := Aside0.mk (show Tk B N p m c t f (w4.setCell ⟨g, i, none⟩ (.string s)) from by
            obtain ⟨_, cs, hcs, _⟩ := HL4.out.block
            exact HT4.out.setCell hcs _)
          go_wp2_with fail
          rw [en, ei]
          go_roundw
          case rel => exact ⟨n + 1, i + 1, _, HLT.out, rfl, rfl, HS4, ⟨HW4.out.1⟩, HT5, ⟨HG4.out.trans HW4.out.2⟩⟩
          case measure => simp [intOf]; omega
        | false =>
          go_wp2_with fail
          rw [en]
          go_roundw
          case rel => exact ⟨n + 1, i, rr, HLT.out, rfl, rfl, ⟨HH.out.drop HLT.out (by rw [← HS.out]; exact hst)⟩, HL4, HT4, HG4⟩
          case measure => simp [intOf]; omega
      · obtain rfl : n = ss.length := by omega
        obtain ⟨i0, hi0, hz0, hz1, hz2⟩ := info_parts info9
        have hle := HH.out.le
        have hnm : cap ≠ i := by omega
        have hcut := cut_from 29 9 .i64 Try.underlying29 hi0 1 hz1 (some ⟨g, 0, none⟩) ss.length cap (i : Int) (by omega) (by omega)
        have hcut2 := cut_to 29 9 .i64 Try.underlying29 hi0 (some ⟨g, 0, none⟩) ss.length cap (i : Int) (by omega) (by omega) hcap
        simp only [Int.toNat_natCast, hnm, if_false, Option.map_some, Addr.add, Nat.mul_one, Nat.zero_add] at hcut hcut2
        have hclr := Go.Lib.run_clear_slice wr 29 9 0 (.string ByteArray.empty) Try.underlying29 zero9 rfl rfl g i (ss.length - i) (cap - i) (by omega) (fun j hj => by rw [(HLr.out.cell (j := i + j) (by rw [HH.out.len]; omega)).1]; rfl) (fun j hj => (HLr.out.cell (j := i + j) (by rw [HH.out.len]; omega)).2)
        have HCL := Aside0.mk (show ∃ rr', Ls base (wr.setCells g i (List.replicate (ss.length - i) (.string ByteArray.empty))) (.slice (some ⟨g, 0, none⟩) ss.length cap) rr' ∧ rr'.length = ss.length ∧ rr'.take i = rr.take i ∧ wr.grownBy (wr.setCells g i (List.replicate (ss.length - i) (.string ByteArray.empty))) (some g) from by
          have h1 := HLr.out
          rw [← HH.out.len] at h1
          obtain ⟨rr', k1, k2, k3, k4⟩ := Ls.clear (ss.length - i) i h1 (by rw [HH.out.len]; omega)
          rw [HH.out.len] at k1 k2
          exact ⟨rr', k1, k2, k3, k4⟩)
        obtain ⟨W2, hW2⟩ : ∃ W2, W2 = wr.setCells g i (List.replicate (ss.length - i) (.string ByteArray.empty)) := ⟨_, rfl⟩
        rw [← hW2] at hclr HCL
        have HLE := Aside0.mk hle
        have hle2 : (i : Int) ≤ ss.length := by omega
        clear hW2 hnm hi0 hz0 hz1 hz2
        rcases Nat.eq_zero_or_pos i with hi0 | hip
        · subst hi0
          simp only [Nat.sub_zero, Int.natCast_zero, Int.ofNat_zero] at hcut hcut2 hclr
          go_wp2_with fail
          go_ret
          obtain ⟨rr', k1, k2, k3, k4⟩ := HCL.out
          have hkf := HH.out.kept
          rw [List.take_length] at hkf
          have k5 := Kd.R_take k1 (k2.symm ▸ Nat.le_of_lt HLE.out)
          rw [k3, hkf] at k5
          obtain ⟨_, cs, hcs, _⟩ := HLr.out.block
          refine ⟨_, rfl, k5, ⟨HT.out.pa.np ⟨k4.size, fun j o ho hk => ?_⟩, ?_⟩, some g, HG.out.trans k4, fun j hj => by cases hj; exact HBG.out⟩
          · rw [k4.block j (Array.getElem?_eq_some_iff.1 ho).1 (fun e => by
              cases e
              rw [hcs] at ho
              cases ho
              exact not_keyed9 hk)]
            exact ho
          · refine (k4.block c HT.out.cap.lt (fun e => ?_)).trans HT.out.cap
            cases e
            have h1 := HT.out.cap
            unfold Blk.At at h1
            rw [hcs] at h1
            cases h1
        · have hip2 : ¬ ((i : Int) = 0) := by omega
          go_wp2_with fail
          go_ret
          obtain ⟨rr', k1, k2, k3, k4⟩ := HCL.out
          have hkf := HH.out.kept
          rw [List.take_length] at hkf
          have k5 := Kd.R_take k1 (k2.symm ▸ Nat.le_of_lt HLE.out)
          rw [k3, hkf] at k5
          obtain ⟨_, cs, hcs, _⟩ := HLr.out.block
          refine ⟨_, rfl, k5, ⟨HT.out.pa.np ⟨k4.size, fun j o ho hk => ?_⟩, ?_⟩, some g, HG.out.trans k4, fun j hj => by cases hj; exact HBG.out⟩
          · rw [k4.block j (Array.getElem?_eq_some_iff.1 ho).1 (fun e => by
              cases e
              rw [hcs] at ho
              cases ho
              exact not_keyed9 hk)]
            exact ho
          · refine (k4.block c HT.out.cap.lt (fun e => ?_)).trans HT.out.cap
            cases e
            have h1 := HT.out.cap
            unfold Blk.At at h1
            rw [hcs] at h1
            cases h1
end Go.Proofs.Ytomkjakffpomdaa.Q
