/- Plain laws of days: leap years, days ahead of a year and of a month, a day's number, the day of a number. No condition but those typed. -/
namespace Go.Proofs.YtfoikdjffemhbaaDoor.Dy
set_option linter.unusedVariables false
def leap (y : Int) : Bool := decide (y % 4 = 0 ∧ (y % 100 ≠ 0 ∨ y % 400 = 0))
/-- The days ahead of a year, from the first one on. -/
def cum (y : Int) : Int := 365 * (y - 1) + (y - 1) / 4 - (y - 1) / 100 + (y - 1) / 400
def ylen (y : Int) : Int := if leap y = true then 366 else 365
def mlen (y m : Int) : Int := if m = 2 then (if leap y = true then 29 else 28) else if m = 4 ∨ m = 6 ∨ m = 9 ∨ m = 11 then 30 else 31
def base : List Int := [0, 31, 59, 90, 120, 151, 181, 212, 243, 273, 304, 334, 365]
/-- The days ahead of each month. -/
def ahead (y : Int) : List Int := if leap y = true then [0, 31, 60, 91, 121, 152, 182, 213, 244, 274, 305, 335, 366] else base
def ah (y : Int) (m : Nat) : Int := (ahead y).getD m 0
theorem cum_succ (y : Int) (h : 1 ≤ y) : cum (y + 1) = cum y + ylen y := by
  unfold cum ylen leap
  by_cases h1 : y % 4 = 0 ∧ (y % 100 ≠ 0 ∨ y % 400 = 0)
  · rw [if_pos (decide_eq_true h1)]
    omega
  · rw [if_neg (by simpa using h1)]
    omega
theorem cum_lt {a b : Int} (h1 : 1 ≤ a) (h : a < b) : cum a + 365 ≤ cum b := by
  unfold cum
  omega
theorem ah_succ (y : Int) (m : Nat) (h0 : 1 ≤ m) (h1 : m ≤ 12) : ah y m = ah y (m - 1) + mlen y m := by
  unfold ah ahead mlen
  cases leap y <;> (rcases (by omega : m = 1 ∨ m = 2 ∨ m = 3 ∨ m = 4 ∨ m = 5 ∨ m = 6 ∨ m = 7 ∨ m = 8 ∨ m = 9 ∨ m = 10 ∨ m = 11 ∨ m = 12) with rfl | rfl | rfl | rfl | rfl | rfl | rfl | rfl | rfl | rfl | rfl | rfl <;> rfl)
theorem ah_last (y : Int) : ah y 12 = ylen y := by
  unfold ah ahead ylen
  cases leap y <;> rfl
theorem ah_zero (y : Int) : ah y 0 = 0 := by
  unfold ah ahead
  cases leap y <;> rfl
theorem mlen_range (y m : Int) : 28 ≤ mlen y m ∧ mlen y m ≤ 31 := by
  unfold mlen
  repeat' split
  all_goals omega
theorem ylen_range (y : Int) : 365 ≤ ylen y ∧ ylen y ≤ 366 := by
  unfold ylen
  split <;> omega
theorem ah_mono (y : Int) {m k : Nat} (h : m < k) (hk : k ≤ 12) : ah y m + 28 ≤ ah y k := by
  induction k with
  | zero => omega
  | succ k ih =>
    have h1 := ah_succ y (k + 1) (by omega) hk
    have h2 := mlen_range y ((k + 1 : Nat) : Int)
    rw [Nat.add_sub_cancel] at h1
    by_cases e : m = k
    · subst e; omega
    · have := ih (by omega) (by omega)
      omega
theorem ah_range (y : Int) {m : Nat} (h : m ≤ 12) : 0 ≤ ah y m ∧ ah y m ≤ 366 := by
  have h0 := ah_zero y
  have h1 := ah_last y
  have h2 := ylen_range y
  by_cases e0 : m = 0
  · subst e0; omega
  · by_cases e1 : m = 12
    · subst e1; omega
    · have a := ah_mono y (m := 0) (k := m) (by omega) h
      have b := ah_mono y (m := m) (k := 12) (by omega) (by omega)
      omega
/-- A day's number, from the first one on. -/
def num (y : Int) (m : Nat) (d : Int) : Int := cum y + ah y (m - 1) + d - 1
def isDay (y : Int) (m : Nat) (d : Int) : Prop := 1 ≤ y ∧ y ≤ 9999 ∧ 1 ≤ m ∧ m ≤ 12 ∧ 1 ≤ d ∧ d ≤ mlen y m
theorem num_in {y : Int} {m : Nat} {d : Int} (h : isDay y m d) : cum y ≤ num y m d ∧ num y m d < cum (y + 1) ∧ ah y (m - 1) ≤ num y m d - cum y ∧ num y m d - cum y < ah y m := by
  obtain ⟨h1, h2, h3, h4, h5, h6⟩ := h
  have e1 := cum_succ y h1
  have e2 := ah_succ y m h3 h4
  have e3 := ah_range y (m := m - 1) (by omega)
  have e4 := ah_last y
  have e5 : ah y m ≤ ah y 12 := by
    by_cases e : m = 12
    · subst e; exact Int.le_refl _
    · have := ah_mono y (m := m) (k := 12) (by omega) (by omega)
      omega
  unfold num
  omega
theorem cum_one : cum 1 = 0 := by decide
theorem cum_end : cum 10000 = 3652059 := by decide
/-- The year of a number. -/
theorem year_of (n : Int) (h0 : 0 ≤ n) : ∀ k : Nat, n < cum ((k : Int) + 1) → ∃ y : Int, 1 ≤ y ∧ y ≤ k ∧ cum y ≤ n ∧ n < cum (y + 1)
  | 0, h => by
    have := cum_one
    simp at h
    omega
  | k + 1, h => by
    by_cases e : n < cum ((k : Int) + 1)
    · obtain ⟨y, h1, h2, h3, h4⟩ := year_of n h0 k e
      exact ⟨y, h1, by omega, h3, h4⟩
    · exact ⟨(k : Int) + 1, by omega, by omega, by omega, by
        have e2 : (((k + 1 : Nat) : Int) + 1) = (k : Int) + 1 + 1 := by omega
        rw [e2] at h
        exact h⟩
theorem month_of (y n : Int) (h0 : 0 ≤ n) : ∀ k : Nat, k ≤ 12 → n < ah y k → ∃ m : Nat, 1 ≤ m ∧ m ≤ k ∧ ah y (m - 1) ≤ n ∧ n < ah y m
  | 0, _, h => by rw [ah_zero] at h; omega
  | k + 1, hk, h => by
    by_cases e : n < ah y k
    · obtain ⟨m, h1, h2, h3, h4⟩ := month_of y n h0 k (by omega) e
      exact ⟨m, h1, by omega, h3, h4⟩
    · exact ⟨k + 1, by omega, Nat.le_refl _, by rw [Nat.add_sub_cancel]; omega, h⟩
/-- The day of a number. -/
theorem day_of (n : Int) (h0 : 0 ≤ n) (h1 : n < 3652059) : ∃ (y : Int) (m : Nat) (d : Int), isDay y m d ∧ num y m d = n := by
  obtain ⟨y, a1, a2, a3, a4⟩ := year_of n h0 9999 (by rw [show (((9999 : Nat) : Int) + 1) = 10000 from rfl, cum_end]; exact h1)
  have e1 := cum_succ y a1
  have e2 := ah_last y
  obtain ⟨m, b1, b2, b3, b4⟩ := month_of y (n - cum y) (by omega) 12 (Nat.le_refl _) (by omega)
  have e3 := ah_succ y m b1 b2
  refine ⟨y, m, n - cum y - ah y (m - 1) + 1, ⟨a1, by omega, b1, b2, by omega, by omega⟩, ?_⟩
  unfold num
  omega
theorem num_range {y : Int} {m : Nat} {d : Int} (h : isDay y m d) : 0 ≤ num y m d ∧ num y m d < 3652059 := by
  obtain ⟨h1, h2, h3, h4⟩ := num_in h
  have c1 : cum 1 ≤ cum y := by
    by_cases e : y = 1
    · subst e; exact Int.le_refl _
    · have := cum_lt (a := 1) (b := y) (by omega) (by have := h.1; omega)
      omega
  have c2 : cum (y + 1) ≤ cum 10000 := by
    by_cases e : y = 9999
    · subst e; exact Int.le_refl _
    · have := cum_lt (a := y + 1) (b := 10000) (by have := h.1; omega) (by have := h.2.1; omega)
      omega
  rw [cum_one] at c1
  rw [cum_end] at c2
  omega
theorem num_inj {y y' : Int} {m m' : Nat} {d d' : Int} (h : isDay y m d) (h' : isDay y' m' d') (e : num y m d = num y' m' d') : y = y' ∧ m = m' ∧ d = d' := by
  obtain ⟨a1, a2, a3, a4⟩ := num_in h
  obtain ⟨b1, b2, b3, b4⟩ := num_in h'
  have hy : y = y' := by
    rcases Int.lt_trichotomy y y' with q | q | q
    · have := cum_lt (a := y) (b := y') h.1 q
      have e2 : cum (y + 1) ≤ cum y' := by
        by_cases e : y + 1 = y'
        · rw [e]; exact Int.le_refl _
        · have := cum_lt (a := y + 1) (b := y') (by have := h.1; omega) (by omega)
          omega
      omega
    · exact q
    · have e2 : cum (y' + 1) ≤ cum y := by
        by_cases e : y' + 1 = y
        · rw [e]; exact Int.le_refl _
        · have := cum_lt (a := y' + 1) (b := y) (by have := h'.1; omega) (by omega)
          omega
      omega
  subst hy
  have hm : m = m' := by
    obtain ⟨_, _, h3, h4, _⟩ := h
    obtain ⟨_, _, h3', h4', _⟩ := h'
    rcases Nat.lt_trichotomy m m' with q | q | q
    · by_cases e2 : m = m' - 1
      · rw [← e2] at b3; omega
      · have := ah_mono y (m := m) (k := m' - 1) (by omega) (by omega)
        omega
    · exact q
    · by_cases e2 : m' = m - 1
      · rw [← e2] at a3; omega
      · have := ah_mono y (m := m') (k := m - 1) (by omega) (by omega)
        omega
  subst hm
  refine ⟨rfl, rfl, ?_⟩
  unfold num at e
  omega
end Go.Proofs.YtfoikdjffemhbaaDoor.Dy
