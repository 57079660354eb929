/- What the printed Civil, and the reference's, come to. No condition but those typed. -/
import Derived.Test.YtfoikdjffemhbaaDoorConn06
namespace Go.Proofs.YtfoikdjffemhbaaDoor.Plain
open Go.RowKit Go.Proofs.YtfoikdjffemhbaaDoor.Q Go.Proofs.YtfoikdjffemhbaaDoorW.PrintWords Go.Proofs.YtfoikdjffemhbaaDoorW.PrintLast Go.Proofs.YtfoikdjffemhbaaDoorW.PrintMore
open Go.Proofs.YtfoikdjffemhbaaDoor.Dy (leap cum ylen mlen ah isDay num)
set_option linter.unusedVariables false
section
variable (y : Int) (m : Nat) (d : Int) (h : isDay y m d) (n : Int) (hn : num y m d = n + 719162)
include h hn
theorem civ2 (e : Nat) : ∀ j : Nat, 1 ≤ j → j + e = m → Ev (fun k => date_Civil.l2 k y (n - (cum y - 719162)) (Dy.ahead y) (j : Int)) (y, (m : Int), d, 0) := by
  obtain ⟨a1, a2, a3, a4⟩ := Dy.num_in h
  have hd := Dy.mlen_range y (m : Int)
  obtain ⟨q1, q2, q3, q4, q5, q6⟩ := h
  induction e with
  | zero =>
    intro j h0 hj
    obtain rfl : j = m := by omega
    have r := Dy.ah_range y (m := j - 1) (by omega)
    refine Ev.step (f := fun _ => some (y, (j : Int), d, 0)) (fun k => ?_) (Ev.now _)
    rw [date_Civil.l2, if_pos (by omega), if_pos (by omega), rd_ahead y _ (by omega), Int.toNat_natCast, if_neg (by omega), show (j : Int) - 1 = ((j - 1 : Nat) : Int) from by omega, rd_ahead y _ (by omega), Int.toNat_natCast]
    unfold Dy.num at hn
    rw [w64 (n := n - (cum y - 719162) - ah y (j - 1)) (by omega) (by omega), w64 (by omega) (by omega)]
    congr 4
    omega
  | succ e ih =>
    intro j h0 hj
    have hlt : ah y j ≤ ah y (m - 1) := by
      by_cases e : j = m - 1
      · rw [e]; exact Int.le_refl _
      · have := Dy.ah_mono y (m := j) (k := m - 1) (by omega) (by omega)
        omega
    refine Ev.step (fun k => ?_) (ih (j + 1) (by omega) (by omega))
    rw [date_Civil.l2, if_pos (by omega), if_pos (by omega), rd_ahead y _ (by omega), Int.toNat_natCast, if_pos (by omega)]
    rfl
theorem year_lt {a : Int} (h0 : 1 ≤ a) (ha : a ≤ y) : cum a ≤ n + 719162 := by
  obtain ⟨a1, a2, a3, a4⟩ := Dy.num_in h
  by_cases e : a = y
  · rw [e]; omega
  · have := Dy.cum_lt (a := a) (b := y) h0 (by omega)
    omega
theorem year_gt {a : Int} (ha : y < a) : n + 719162 < cum a := by
  obtain ⟨a1, a2, a3, a4⟩ := Dy.num_in h
  have hy := h.1
  by_cases e : a = y + 1
  · rw [e]; omega
  · have := Dy.cum_lt (a := y + 1) (b := a) (by omega) (by omega)
    omega
theorem civ1 (e : Nat) : ∀ a : Int, 1 ≤ a → a + e = y → Ev (fun k => date_Civil.l1 k n a) (y, (m : Int), d, 0) := by
  have hb := cum_bounds (y := y) h.1 (by have := h.2.1; omega)
  have hr := Dy.num_range h
  have hy := h.2.1
  induction e with
  | zero =>
    intro a h0 ha
    obtain rfl : a = y := by omega
    have hg := year_gt a m d h n hn (a := a + 1) (by omega)
    have h2 := civ2 a m d h n hn (m - 1) 1 (by omega) (by have := h.2.2.1; omega)
    refine Ev.step (fun k => ?_) h2
    rw [date_Civil.l1, w64 (n := a + 1) (by omega) (by omega), begin_eq _ (by omega) (by omega), Option.bind_some, if_neg (by omega), begin_eq _ (by omega) (by omega), Option.bind_some, ahead_eq, Option.bind_some, w64 (by omega) (by omega)]
    rfl
  | succ e ih =>
    intro a h0 ha
    have hl := year_lt y m d h n hn (a := a + 1) (by omega) (by omega)
    refine Ev.step (fun k => ?_) (ih (a + 1) (by omega) (by omega))
    rw [date_Civil.l1, w64 (n := a + 1) (by omega) (by omega), begin_eq _ (by omega) (by omega), Option.bind_some, if_pos (by omega)]
theorem civ0 (e : Nat) : ∀ a : Int, 1 ≤ a → a ≤ 10001 → a ≤ y + e → Ev (fun k => date_Civil.l0 k n a) (y, (m : Int), d, 0) := by
  have hy := h.2.1
  have hy1 := h.1
  have down : ∀ a : Int, 1 ≤ a → a ≤ y → Ev (fun k => date_Civil.l0 k n a) (y, (m : Int), d, 0) := fun a h0 ha => by
    have hl := year_lt y m d h n hn h0 ha
    refine Ev.step (fun k => ?_) (civ1 y m d h n hn (y - a).toNat a h0 (by omega))
    rw [date_Civil.l0, begin_eq _ (by omega) (by omega), Option.bind_some, if_neg (by omega)]
  induction e with
  | zero => exact fun a h0 h1 ha => down a h0 (by omega)
  | succ e ih =>
    intro a h0 h1 ha
    by_cases c : a ≤ y
    · exact down a h0 c
    · have hg := year_gt y m d h n hn (a := a) (by omega)
      refine Ev.step (fun k => ?_) (ih (a - 1) (by omega) (by omega) (by omega))
      rw [date_Civil.l0, begin_eq _ (by omega) (by omega), Option.bind_some, if_pos (by omega), w64 (by omega) (by omega)]
theorem civil_day : Ev (fun k => date_Civil.f k n) (y, (m : Int), d, 0) := by
  have hr := Dy.num_range h
  have hy := h.2.1
  have hy1 := h.1
  unfold date_Civil.f
  rw [begin_eq 1 (by omega) (by omega), begin_eq 10000 (by omega) (by omega), Dy.cum_one, Dy.cum_end]
  refine Ev.bind (Ev.now _) ?_
  refine Ev.congr (fun k => if_neg (by omega)) ?_
  refine Ev.bind (Ev.now _) ?_
  refine Ev.congr (fun k => if_neg (by omega)) ?_
  refine Ev.bind (Ev.now _) ?_
  rw [w64 (n := n - (0 - 719162)) (by omega) (by omega), w64 (n := (n - (0 - 719162)) * 400) (by omega) (by omega), Int.tdiv_eq_ediv_of_nonneg (by omega), w64 (n := (n - (0 - 719162)) * 400 / 146097) (by omega) (by omega), w64 (n := (n - (0 - 719162)) * 400 / 146097 + 1) (by omega) (by omega)]
  exact civ0 y m d h n hn 10001 _ (by omega) (by omega) (by omega)
/-! the reference's -/
theorem rciv1 (e : Nat) : ∀ j : Nat, 1 ≤ j → j + e = m → Ev (fun k => cringleref06_Civil.l1 k (n + 719162 - cum y - ah y (j - 1)) y (j : Int)) (y, (m : Int), d, 0) := by
  obtain ⟨a1, a2, a3, a4⟩ := Dy.num_in h
  have hb := cum_bounds (y := y) h.1 (by have := h.2.1; omega)
  have hr := Dy.num_range h
  have hd := Dy.mlen_range y (m : Int)
  obtain ⟨q1, q2, q3, q4, q5, q6⟩ := h
  induction e with
  | zero =>
    intro j h0 hj
    obtain rfl : j = m := by omega
    have r := Dy.ah_range y (m := j - 1) (by omega)
    refine Ev.step (f := fun _ => some (y, (j : Int), d, 0)) (fun k => ?_) (Ev.now _)
    simp only [cringleref06_Civil.l1]
    unfold Dy.num at hn
    rw [rmonth_eq, Option.bind_some, if_neg (by omega), w64 (by omega) (by omega)]
    congr 4
    omega
  | succ e ih =>
    intro j h0 hj
    have r := Dy.ah_range y (m := j - 1) (by omega)
    have hs := Dy.ah_succ y j (by omega) (by omega)
    have hm2 := Dy.mlen_range y (j : Int)
    have hlt : ah y j ≤ ah y (m - 1) := by
      by_cases e : j = m - 1
      · rw [e]; exact Int.le_refl _
      · have := Dy.ah_mono y (m := j) (k := m - 1) (by omega) (by omega)
        omega
    refine Ev.step (fun k => ?_) (ih (j + 1) (by omega) (by omega))
    simp only [cringleref06_Civil.l1]
    rw [rmonth_eq, Option.bind_some, if_pos (by omega), Option.bind_some, next (by omega), w64 (by omega) (by omega), Nat.add_sub_cancel]
    congr 1
    omega
theorem rciv0 (e : Nat) : ∀ j : Nat, 1 ≤ j → (j : Int) + e = y → Ev (fun k => cringleref06_Civil.l0 k (n + 719162 - cum j) (j : Int)) (y, (m : Int), d, 0) := by
  have hr := Dy.num_range h
  have hy := h.2.1
  induction e with
  | zero =>
    intro j h0 hj
    have hj' : (j : Int) = y := by omega
    obtain ⟨a1, a2, a3, a4⟩ := Dy.num_in h
    have hs := Dy.cum_succ y h.1
    have h1 := rciv1 y m d h n hn (m - 1) 1 (by omega) (by have := h.2.2.1; omega)
    rw [Nat.sub_self, Dy.ah_zero, Int.sub_zero] at h1
    refine Ev.step (fun k => ?_) h1
    simp only [cringleref06_Civil.l0]
    rw [ryear_eq, Option.bind_some, hj', if_neg (by omega)]
    rfl
  | succ e ih =>
    intro j h0 hj
    have hb := cum_bounds (y := (j : Int)) (by omega) (by omega)
    have hl := Dy.ylen_range (j : Int)
    have hs := Dy.cum_succ (j : Int) (by omega)
    have hlt := year_lt y m d h n hn (a := (j : Int) + 1) (by omega) (by omega)
    refine Ev.step (fun k => ?_) (ih (j + 1) (by omega) (by omega))
    simp only [cringleref06_Civil.l0]
    rw [ryear_eq, Option.bind_some, if_pos (by omega), Option.bind_some, next (by omega), w64 (by omega) (by omega), show (((j + 1 : Nat) : Int)) = (j : Int) + 1 from by omega, hs]
    congr 1
    omega
theorem rcivil_day : Ev (fun k => cringleref06_Civil.f k n) (y, (m : Int), d, 0) := by
  have hr := Dy.num_range h
  have hy := h.1
  unfold cringleref06_Civil.f
  refine Ev.bind ends_ev ?_
  refine Ev.congr (fun k => if_neg (show ¬ n < -719162 by omega)) ?_
  rw [decide_eq_false (show ¬ n > 2932896 by omega)]
  have h0 := rciv0 y m d h n hn (y - 1).toNat 1 (by omega) (by omega)
  rw [show cum ((1 : Nat) : Int) = 0 from by decide, Int.sub_zero] at h0
  refine Ev.step (fun k => ?_) h0
  simp only [cringleref06_Civil.j0]
  rw [if_neg (by simp), w64 (by omega) (by omega)]
  rfl
end
theorem civil_bad (n : Int) (h : n < -719162 ∨ 2932897 ≤ n) : Ev (fun k => date_Civil.f k n) (0, 0, 0, 3) := by
  unfold date_Civil.f
  rw [begin_eq 1 (by omega) (by omega), begin_eq 10000 (by omega) (by omega), Dy.cum_one, Dy.cum_end]
  refine Ev.bind (Ev.now _) ?_
  by_cases c : n < -719162
  · refine Ev.congr (fun k => if_pos (by omega)) ?_
    exact Ev.now _
  · refine Ev.congr (fun k => if_neg (by omega)) ?_
    refine Ev.bind (Ev.now _) ?_
    refine Ev.congr (fun k => if_pos (by omega)) ?_
    exact Ev.now _
theorem rcivil_bad (n : Int) (h : n < -719162 ∨ 2932897 ≤ n) : Ev (fun k => cringleref06_Civil.f k n) (0, 0, 0, 3) := by
  have bad : ∀ x : Int, Ev (fun k => cringleref06_Civil.j0 k n x true) (0, 0, 0, 3) := fun x => Ev.step (f := fun _ => some (0, 0, 0, 3)) (fun k => by simp only [cringleref06_Civil.j0]; rw [if_pos trivial]) (Ev.now _)
  unfold cringleref06_Civil.f
  refine Ev.bind ends_ev ?_
  by_cases c : n < -719162
  · exact Ev.congr (fun k => if_pos c) (bad _)
  · refine Ev.congr (fun k => if_neg c) ?_
    rw [decide_eq_true (show n > 2932896 by omega)]
    exact bad _
/-- Every number is no day's, or a day's. -/
theorem day_or (n : Int) : (n < -719162 ∨ 2932897 ≤ n) ∨ ∃ (y : Int) (m : Nat) (d : Int), isDay y m d ∧ num y m d = n + 719162 := by
  by_cases c : n < -719162 ∨ 2932897 ≤ n
  · exact .inl c
  · exact .inr (Dy.day_of (n + 719162) (by omega) (by omega))
end Go.Proofs.YtfoikdjffemhbaaDoor.Plain
