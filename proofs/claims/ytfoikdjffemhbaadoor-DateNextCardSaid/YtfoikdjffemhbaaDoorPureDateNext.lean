/- The pure statement of DateNext. No condition. -/
import Derived.Test.YtfoikdjffemhbaaDoorSayDateNext
import Derived.Test.YtfoikdjffemhbaaDoorCivil06
namespace Go.Proofs.YtfoikdjffemhbaaDoor.Pure
open Go.RowKit Go.Proofs.YtfoikdjffemhbaaDoor.Q Go.Proofs.YtfoikdjffemhbaaDoorW.PrintWords Go.Proofs.YtfoikdjffemhbaaDoorW.PrintLast Go.Proofs.YtfoikdjffemhbaaDoorW.PrintMore Go.Proofs.YtfoikdjffemhbaaDoor.Plain
open Go.Proofs.YtfoikdjffemhbaaDoor.Dy (cum ylen mlen ah isDay)
set_option linter.unusedVariables false
theorem alive_rest : Ev (fun k => cringlelaw06_alive.f k) true := alive_ev
theorem days_day {y m d : Int} (hd : -9223372036854775808 ≤ d ∧ d < 9223372036854775808) (h : 1 ≤ y ∧ y ≤ 9999 ∧ 1 ≤ m ∧ m ≤ 12 ∧ 1 ≤ d ∧ d ≤ mlen y m) : date_Days.f y m d = some (Dy.num y m.toNat d - 719162, 0) := by
  rw [days_eq y m d hd]
  unfold daysS
  rw [if_pos h]
theorem days_none {y m d : Int} (hd : -9223372036854775808 ≤ d ∧ d < 9223372036854775808) (h : ¬ (1 ≤ y ∧ y ≤ 9999 ∧ 1 ≤ m ∧ m ≤ 12 ∧ 1 ≤ d ∧ d ≤ mlen y m)) : date_Days.f y m d = some (0, 3) := by
  rw [days_eq y m d hd]
  unfold daysS
  rw [if_neg h]
theorem DateNext : Say.DateNext := by
  intro y m d hy hm hd
  have hd' := in_i64 hd
  refine Ev.rounds (g := fun k => cringlelaw06_DateNext.f k y m d) ?_
  unfold cringlelaw06_DateNext.f
  by_cases h : 1 ≤ y ∧ y ≤ 9999 ∧ 1 ≤ m ∧ m ≤ 12 ∧ 1 ≤ d ∧ d ≤ mlen y m
  case neg =>
    rw [days_none (by omega) h]
    refine Ev.bind (Ev.now _) ?_
    refine Ev.congr (fun k => (if_neg (by simp)).trans (if_pos rfl)) ?_
    exact alive_ev
  rw [days_day (by omega) h]
  refine Ev.bind (Ev.now _) ?_
  refine Ev.congr (fun k => if_pos rfl) ?_
  obtain ⟨M, rfl⟩ : ∃ M : Nat, m = (M : Int) := ⟨m.toNat, by omega⟩
  have hday : isDay y M d := ⟨by omega, by omega, by omega, by omega, by omega, h.2.2.2.2.2⟩
  have hn := Dy.num_range hday
  have hml := Dy.mlen_range y (M : Int)
  have hs := Dy.ah_succ y M (by omega) (by omega)
  rw [Int.toNat_natCast]
  refine Ev.bind (civil_day y M d hday (Dy.num y M d - 719162) (by omega)) ?_
  refine Ev.congr (fun k => (if_pos rfl).trans ((if_pos rfl).trans ((if_pos rfl).trans (if_pos rfl)))) ?_
  have e0 : wrap64 (Dy.num y M d - 719162 + 1) = Dy.num y M d - 719161 := by rw [w64 (by omega) (by omega)]; omega
  rw [w64 (n := d + 1) (by omega) (by omega), w64 (n := (M : Int) + 1) (by omega) (by omega), w64 (n := y + 1) (by omega) (by omega)]
  simp only [cringlelaw06_DateNext.rest, e0]
  by_cases c1 : d < mlen y (M : Int)
  · rw [days_day (by omega) ⟨by omega, by omega, by omega, by omega, by omega, by omega⟩]
    refine Ev.bind (Ev.now _) ?_
    refine Ev.congr (fun k => (if_pos rfl).trans (if_pos (by simp only [Int.toNat_natCast]; unfold Dy.num; omega))) ?_
    exact alive_ev
  rw [days_none (d := d + 1) (by omega) (by omega)]
  refine Ev.bind (Ev.now _) ?_
  refine Ev.congr (fun k => if_neg (by simp)) ?_
  by_cases c2 : M < 12
  · have hm2 := Dy.mlen_range y ((M : Int) + 1)
    rw [days_day (by omega) ⟨by omega, by omega, by omega, by omega, by omega, by omega⟩]
    refine Ev.bind (Ev.now _) ?_
    have e : ((M : Int) + 1).toNat = M + 1 := by omega
    refine Ev.congr (fun k => (if_pos rfl).trans (if_pos (by simp only [e]; unfold Dy.num; rw [Nat.add_sub_cancel]; omega))) ?_
    exact alive_ev
  rw [days_none (m := (M : Int) + 1) (by omega) (by omega)]
  refine Ev.bind (Ev.now _) ?_
  refine Ev.congr (fun k => if_neg (by simp)) ?_
  obtain rfl : M = 12 := by omega
  by_cases c3 : y < 9999
  · have hm3 := Dy.mlen_range (y + 1) 1
    have hc := Dy.cum_succ y (by omega)
    have hl := Dy.ah_last y
    have hz := Dy.ah_zero (y + 1)
    rw [days_day (by omega) ⟨by omega, by omega, by omega, by omega, by omega, by omega⟩]
    refine Ev.bind (Ev.now _) ?_
    refine Ev.congr (fun k => (if_pos rfl).trans (if_pos (by
      simp only [show (1 : Int).toNat = 1 from rfl]
      unfold Dy.num
      rw [show 1 - 1 = 0 from rfl, hz]
      omega))) ?_
    exact alive_ev
  rw [days_none (y := y + 1) (by omega) (by omega)]
  refine Ev.bind (Ev.now _) ?_
  refine Ev.congr (fun k => if_neg (by simp)) ?_
  have h31 : mlen y ((12 : Nat) : Int) = 31 := by unfold Dy.mlen; rfl
  refine Ev.congr (fun k => (if_pos (by omega)).trans ((if_pos (by omega)).trans (if_pos (by omega)))) ?_
  exact alive_ev
end Go.Proofs.YtfoikdjffemhbaaDoor.Pure
