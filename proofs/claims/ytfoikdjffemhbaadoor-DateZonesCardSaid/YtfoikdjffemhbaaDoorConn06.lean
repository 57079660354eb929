/- What the printed functions of days come to: leap years, a day's number, the day of a number. No condition but those typed. -/
import Derived.Test.YtfoikdjffemhbaaDoorQ
import Derived.Test.YtfoikdjffemhbaaDoorTexts
import Derived.Test.YtfoikdjffemhbaaDoorDays06
namespace Go.Proofs.YtfoikdjffemhbaaDoor.Plain
open Go.RowKit Go.Proofs.YtfoikdjffemhbaaDoor.Q Go.Proofs.YtfoikdjffemhbaaDoorW.PrintWords Go.Proofs.YtfoikdjffemhbaaDoorW.PrintLast Go.Proofs.YtfoikdjffemhbaaDoorW.PrintMore
open Go.Proofs.YtfoikdjffemhbaaDoor.Dy (leap cum ylen mlen ah isDay num)
set_option linter.unusedVariables false
theorem now_of {α : Type} {o : Option α} {r : α} (h : o = some r) : Ev (fun _ => o) r := ⟨0, fun _ _ => h⟩
theorem tmod0 (y n : Int) : Int.tmod y n = 0 ↔ y % n = 0 := ⟨fun h => Int.emod_eq_zero_of_dvd (Int.dvd_of_tmod_eq_zero h), fun h => Int.tmod_eq_zero_of_dvd (Int.dvd_of_emod_eq_zero h)⟩
theorem leap_eq (y : Int) : date_IsLeap.f y = some (leap y) := by
  unfold date_IsLeap.f Dy.leap
  have h4 := tmod0 y 4
  have h100 := tmod0 y 100
  have h400 := tmod0 y 400
  by_cases a : Int.tmod y 4 = 0
  · rw [if_pos a]
    by_cases b : Int.tmod y 100 = 0
    · rw [if_pos b]
      by_cases c : Int.tmod y 400 = 0
      · rw [beq_iff_eq.2 c, decide_eq_true (by omega)]
      · rw [beq_eq_false_iff_ne.2 c, decide_eq_false (by omega)]
    · rw [if_neg b, decide_eq_true (by omega)]
  · rw [if_neg a, decide_eq_false (by omega)]
theorem rleap_eq (y : Int) : cringleref06_IsLeap.f y = some (leap y) := by
  unfold cringleref06_IsLeap.f Dy.leap
  have h4 := tmod0 y 4
  have h100 := tmod0 y 100
  have h400 := tmod0 y 400
  by_cases a : Int.tmod y 4 = 0
  · rw [if_pos a]
    by_cases b : Int.tmod y 100 = 0
    · rw [if_pos b]
      by_cases c : Int.tmod y 400 = 0
      · rw [beq_iff_eq.2 c, decide_eq_true (by omega)]
      · rw [beq_eq_false_iff_ne.2 c, decide_eq_false (by omega)]
    · rw [if_neg b, decide_eq_true (by omega)]
  · rw [if_neg a]
    have c : ¬ Int.tmod y 400 = 0 := by omega
    rw [beq_eq_false_iff_ne.2 c, decide_eq_false (by omega)]
theorem ryear_eq (y : Int) : cringleref06_year.f y = some (ylen y) := by
  unfold cringleref06_year.f Dy.ylen
  rw [rleap_eq, Option.bind_some]
  split <;> rfl
theorem rmonth_eq (y m : Int) : cringleref06_month.f y m = some (mlen y m) := by
  unfold cringleref06_month.f Dy.mlen
  by_cases h2 : m = 2
  · rw [if_pos h2, if_pos h2, rleap_eq, Option.bind_some]
    split <;> rfl
  · rw [if_neg h2, if_neg h2]
    by_cases h4 : m = 4
    · rw [if_pos h4, if_pos (by omega)]
    · rw [if_neg h4]
      by_cases h6 : m = 6
      · rw [if_pos h6, if_pos (by omega)]
      · rw [if_neg h6]
        by_cases h9 : m = 9
        · rw [if_pos h9, if_pos (by omega)]
        · rw [if_neg h9]
          by_cases h11 : m = 11
          · rw [if_pos h11, if_pos (by omega)]
          · rw [if_neg h11, if_neg (by omega)]
theorem w64 {n : Int} (h0 : -9223372036854775808 ≤ n) (h1 : n < 9223372036854775808) : wrap64 n = n := wrap64_id h0 h1
theorem begin_eq (y : Int) (h0 : 1 ≤ y) (h1 : y ≤ 20000) : date_begin.f y = some (cum y - 719162) := by
  unfold date_begin.f Dy.cum
  rw [w64 (n := y - 1) (by omega) (by omega)]
  rw [Int.tdiv_eq_ediv_of_nonneg (by omega), Int.tdiv_eq_ediv_of_nonneg (by omega), Int.tdiv_eq_ediv_of_nonneg (by omega)]
  rw [w64 (n := 365 * (y - 1)) (by omega) (by omega), w64 (n := (y - 1) / 4) (by omega) (by omega), w64 (n := (y - 1) / 100) (by omega) (by omega), w64 (n := (y - 1) / 400) (by omega) (by omega)]
  rw [w64 (n := 365 * (y - 1) + (y - 1) / 4) (by omega) (by omega), w64 (n := 365 * (y - 1) + (y - 1) / 4 - (y - 1) / 100) (by omega) (by omega), w64 (n := 365 * (y - 1) + (y - 1) / 4 - (y - 1) / 100 + (y - 1) / 400) (by omega) (by omega), w64 (by omega) (by omega)]
theorem ahead_eq (y : Int) : date_ahead.l y = some (Dy.ahead y) := by
  unfold date_ahead.l Dy.ahead
  rw [leap_eq, Option.bind_some]
  cases leap y <;> rfl
theorem rd_ahead (y : Int) (m : Int) (h0 : 0 ≤ m) : rd (Dy.ahead y) m = ah y m.toNat := rfl
theorem cum_bounds {y : Int} (h0 : 1 ≤ y) (h1 : y ≤ 10000) : 0 ≤ cum y ∧ cum y ≤ 3652059 := by
  unfold Dy.cum
  omega
/-- What is told of a day. -/
def daysS (y m d : Int) : Int × Int := if 1 ≤ y ∧ y ≤ 9999 ∧ 1 ≤ m ∧ m ≤ 12 ∧ 1 ≤ d ∧ d ≤ mlen y m then (num y m.toNat d - 719162, 0) else (0, 3)
theorem days_eq (y m d : Int) (hd : -9223372036854775808 ≤ d ∧ d < 9223372036854775808) : date_Days.f y m d = some (daysS y m d) := by
  unfold date_Days.f daysS
  by_cases c1 : y < 1
  · rw [if_pos c1, if_neg (by omega)]
  by_cases c2 : y > 9999
  · rw [if_neg c1, if_pos c2, if_neg (by omega)]
  by_cases c3 : m < 1
  · rw [if_neg c1, if_neg c2, if_pos c3, if_neg (by omega)]
  by_cases c4 : m > 12
  · rw [if_neg c1, if_neg c2, if_neg c3, if_pos c4, if_neg (by omega)]
  rw [if_neg c1, if_neg c2, if_neg c3, if_neg c4, ahead_eq, Option.bind_some]
  obtain ⟨M, rfl⟩ : ∃ M : Nat, m = (M : Int) := ⟨m.toNat, by omega⟩
  have e1 : wrap64 ((M : Int) - 1) = ((M - 1 : Nat) : Int) := by unfold wrap64; omega
  have hs := Dy.ah_succ y M (by omega) (by omega)
  have r0 := Dy.ah_range y (m := M) (by omega)
  have r1 := Dy.ah_range y (m := M - 1) (by omega)
  have hm := Dy.mlen_range y (M : Int)
  rw [e1, rd_ahead y _ (by omega), rd_ahead y _ (by omega), Int.toNat_natCast, Int.toNat_natCast, w64 (n := ah y M - ah y (M - 1)) (by omega) (by omega)]
  by_cases c5 : d < 1
  · rw [if_pos c5, if_neg (by omega)]
  rw [if_neg c5]
  by_cases c6 : d > ah y M - ah y (M - 1)
  · rw [if_pos c6, if_neg (by omega)]
  have hc := cum_bounds (y := y) (by omega) (by omega)
  rw [if_neg c6, begin_eq y (by omega) (by omega), Option.bind_some, if_pos (by omega)]
  unfold Dy.num
  rw [w64 (n := ah y (M - 1) + d) (by omega) (by omega), w64 (n := ah y (M - 1) + d - 1) (by omega) (by omega), w64 (by omega) (by omega)]
  congr 2
  omega
/-! the reference's -/
theorem ends1 (a : Int) (d : Nat) : ∀ y : Nat, 1970 ≤ y → y + d = 10000 → Ev (fun k => cringleref06_ends.l1 k a (cum y - 719163) (y : Int)) (a, 2932896) := by
  induction d with
  | zero =>
    intro y h0 h
    obtain rfl : y = 10000 := by omega
    refine Ev.step (f := fun _ => some (a, 2932896)) (fun k => ?_) (Ev.now _)
    simp only [cringleref06_ends.l1]
    rw [if_neg (by omega), show ((10000 : Nat) : Int) = 10000 from rfl, Dy.cum_end]
    rfl
  | succ d ih =>
    intro y h0 h
    have hb := cum_bounds (y := (y : Int)) (by omega) (by omega)
    have hl := Dy.ylen_range (y : Int)
    refine Ev.step (fun k => ?_) (ih (y + 1) (by omega) (by omega))
    simp only [cringleref06_ends.l1]
    rw [if_pos (by omega), ryear_eq, Option.bind_some, next (by omega), w64 (by omega) (by omega), show (((y + 1 : Nat) : Int)) = (y : Int) + 1 from by omega, Dy.cum_succ _ (by omega)]
    congr 1
    omega
theorem ends0 (d : Nat) : ∀ y : Nat, 1 ≤ y → y + d = 1970 → Ev (fun k => cringleref06_ends.l0 k (- cum y) (-1) (y : Int)) (-719162, 2932896) := by
  induction d with
  | zero =>
    intro y h0 h
    obtain rfl : y = 1970 := by omega
    refine Ev.step (f := fun k => cringleref06_ends.l1 k (-719162) (cum ((1970 : Nat) : Int) - 719163) ((1970 : Nat) : Int)) (fun k => ?_) (ends1 (-719162) 8030 1970 (by omega) (by omega))
    simp only [cringleref06_ends.l0]
    rw [if_neg (by omega), show cum ((1970 : Nat) : Int) = 719162 from by decide]
    rfl
  | succ d ih =>
    intro y h0 h
    have hb := cum_bounds (y := (y : Int)) (by omega) (by omega)
    have hl := Dy.ylen_range (y : Int)
    refine Ev.step (fun k => ?_) (ih (y + 1) (by omega) (by omega))
    simp only [cringleref06_ends.l0]
    rw [if_pos (by omega), ryear_eq, Option.bind_some, next (by omega), w64 (by omega) (by omega), show (((y + 1 : Nat) : Int)) = (y : Int) + 1 from by omega, Dy.cum_succ _ (by omega)]
    congr 1
    omega
theorem ends_ev : Ev (fun k => cringleref06_ends.f k) (-719162, 2932896) := by
  have := ends0 1969 1 (by omega) (by omega)
  rw [show cum ((1 : Nat) : Int) = 0 from by decide] at this
  exact this
theorem rdays1 (y m d : Int) (hy : 1 ≤ y ∧ y ≤ 9999) (hm : 1 ≤ m ∧ m ≤ 12) (hd : 1 ≤ d ∧ d ≤ 31) (e : Nat) : ∀ j : Nat, 1 ≤ j → (j : Int) + e = m → Ev (fun k => cringleref06_Days.l1 k y m d (cum y - 719162 + ah y (j - 1)) (j : Int)) (num y m.toNat d - 719162, 0) := by
  have hb := cum_bounds (y := y) (by omega) (by omega)
  induction e with
  | zero =>
    intro j h0 h
    have r := Dy.ah_range y (m := j - 1) (by omega)
    have hj : m.toNat = j := by omega
    refine Ev.step (f := fun _ => some (num y m.toNat d - 719162, 0)) (fun k => ?_) (Ev.now _)
    simp only [cringleref06_Days.l1]
    rw [if_neg (by omega), hj]
    unfold Dy.num
    rw [w64 (n := cum y - 719162 + ah y (j - 1) + d) (by omega) (by omega), w64 (by omega) (by omega)]
    congr 2
    omega
  | succ e ih =>
    intro j h0 h
    have r := Dy.ah_range y (m := j - 1) (by omega)
    have hs := Dy.ah_succ y j (by omega) (by omega)
    have hm2 := Dy.mlen_range y (j : Int)
    refine Ev.step (fun k => ?_) (ih (j + 1) (by omega) (by omega))
    simp only [cringleref06_Days.l1]
    rw [if_pos (by omega), rmonth_eq, Option.bind_some, next (by omega), w64 (by omega) (by omega), Nat.add_sub_cancel]
    congr 1
    omega
theorem rdays0 (y m d : Int) (hy : 1 ≤ y ∧ y ≤ 9999) (hm : 1 ≤ m ∧ m ≤ 12) (hd : 1 ≤ d ∧ d ≤ 31) (e : Nat) : ∀ j : Nat, 1 ≤ j → (j : Int) + e = y → Ev (fun k => cringleref06_Days.l0 k y m d (cum j - 719162) (j : Int)) (num y m.toNat d - 719162, 0) := by
  induction e with
  | zero =>
    intro j h0 h
    have hj : (j : Int) = y := by omega
    have h1 := rdays1 y m d hy hm hd (m - 1).toNat 1 (by omega) (by omega)
    rw [Nat.sub_self, Dy.ah_zero, Int.add_zero] at h1
    refine Ev.step (fun k => ?_) h1
    simp only [cringleref06_Days.l0]
    rw [if_neg (by omega), hj]
    rfl
  | succ e ih =>
    intro j h0 h
    have hb := cum_bounds (y := (j : Int)) (by omega) (by omega)
    have hl := Dy.ylen_range (j : Int)
    refine Ev.step (fun k => ?_) (ih (j + 1) (by omega) (by omega))
    simp only [cringleref06_Days.l0]
    rw [if_pos (by omega), ryear_eq, Option.bind_some, next (by omega), w64 (by omega) (by omega), show (((j + 1 : Nat) : Int)) = (j : Int) + 1 from by omega, Dy.cum_succ _ (by omega)]
    congr 1
    omega
theorem rdays_ev (y m d : Int) : Ev (fun k => cringleref06_Days.f k y m d) (daysS y m d) := by
  unfold cringleref06_Days.f daysS
  have bad : Ev (fun k => cringleref06_Days.j0 k y m d true) (0, 3) := Ev.step (f := fun _ => some (0, 3)) (fun k => by simp only [cringleref06_Days.j0]; rw [if_pos trivial]) (Ev.now _)
  by_cases c1 : y < 1
  · rw [if_neg (show ¬ (1 ≤ y ∧ y ≤ 9999 ∧ 1 ≤ m ∧ m ≤ 12 ∧ 1 ≤ d ∧ d ≤ mlen y m) by omega)]
    exact Ev.congr (fun k => if_pos c1) bad
  refine Ev.congr (fun k => if_neg c1) ?_
  by_cases c2 : y > 9999
  · rw [if_neg (show ¬ (1 ≤ y ∧ y ≤ 9999 ∧ 1 ≤ m ∧ m ≤ 12 ∧ 1 ≤ d ∧ d ≤ mlen y m) by omega)]
    exact Ev.congr (fun k => if_pos c2) bad
  refine Ev.congr (fun k => if_neg c2) ?_
  by_cases c3 : m < 1
  · rw [if_neg (show ¬ (1 ≤ y ∧ y ≤ 9999 ∧ 1 ≤ m ∧ m ≤ 12 ∧ 1 ≤ d ∧ d ≤ mlen y m) by omega)]
    exact Ev.congr (fun k => if_pos c3) bad
  refine Ev.congr (fun k => if_neg c3) ?_
  by_cases c4 : m > 12
  · rw [if_neg (show ¬ (1 ≤ y ∧ y ≤ 9999 ∧ 1 ≤ m ∧ m ≤ 12 ∧ 1 ≤ d ∧ d ≤ mlen y m) by omega)]
    exact Ev.congr (fun k => if_pos c4) bad
  refine Ev.congr (fun k => if_neg c4) ?_
  by_cases c5 : d < 1
  · rw [if_neg (show ¬ (1 ≤ y ∧ y ≤ 9999 ∧ 1 ≤ m ∧ m ≤ 12 ∧ 1 ≤ d ∧ d ≤ mlen y m) by omega)]
    exact Ev.congr (fun k => if_pos c5) bad
  refine Ev.congr (fun k => if_neg c5) ?_
  rw [rmonth_eq]
  refine Ev.bind (Ev.now _) ?_
  by_cases c6 : d > mlen y m
  · rw [if_neg (show ¬ (1 ≤ y ∧ y ≤ 9999 ∧ 1 ≤ m ∧ m ≤ 12 ∧ 1 ≤ d ∧ d ≤ mlen y m) by omega), decide_eq_true c6]
    exact bad
  · rw [if_pos (show 1 ≤ y ∧ y ≤ 9999 ∧ 1 ≤ m ∧ m ≤ 12 ∧ 1 ≤ d ∧ d ≤ mlen y m by omega), decide_eq_false c6]
    have hm := Dy.mlen_range y m
    refine Ev.step (fun k => by simp only [cringleref06_Days.j0]; rw [if_neg (by simp)]) ?_
    refine Ev.bind ends_ev ?_
    have h0 := rdays0 y m d (by omega) (by omega) (by omega) (y - 1).toNat 1 (by omega) (by omega)
    rw [show cum ((1 : Nat) : Int) = 0 from by decide] at h0
    exact h0
theorem alive_ev : Ev (fun k => cringlelaw06_alive.f k) true := Ev.of (k := 60) cringlelaw06_alive.mono (by decide +kernel)
theorem alive_then : Ev (fun k => (cringlelaw06_alive.f k).bind fun t => some t) true := Ev.bind alive_ev (Ev.now _)
end Go.Proofs.YtfoikdjffemhbaaDoor.Plain
