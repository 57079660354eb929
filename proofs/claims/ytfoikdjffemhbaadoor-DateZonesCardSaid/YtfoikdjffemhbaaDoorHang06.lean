/- A moment's text with a zone behind it, read. No condition but those typed. -/
import Derived.Test.YtfoikdjffemhbaaDoorBack06
import Derived.Test.YtfoikdjffemhbaaDoorZones06
namespace Go.Proofs.YtfoikdjffemhbaaDoor.Plain
open Go.RowKit Go.Proofs.YtfoikdjffemhbaaDoor.Q Go.Proofs.YtfoikdjffemhbaaDoorW.PrintWords Go.Proofs.YtfoikdjffemhbaaDoorW.PrintLast Go.Proofs.YtfoikdjffemhbaaDoorW.PrintMore
open Go.Proofs.YtfoikdjffemhbaaDoor.Dy (leap cum ylen mlen ah isDay)
set_option linter.unusedVariables false
theorem two_all : ∀ n : Fin 100, cringlelaw06_DateZones.two ((n.val : Nat) : Int) = strOf (p2 n.val) := by decide +kernel
theorem two_eq {n : Nat} (h : n < 100) : cringlelaw06_DateZones.two (n : Int) = strOf (p2 n) := two_all ⟨n, h⟩
theorem num14_all : ∀ n : Fin 15, ascii_Number.f 4 (strOf (p2 n.val)) 14 = some (((n.val : Nat) : Int), 0) := by decide +kernel
theorem digits14 {n : Nat} (h : n < 15) (bad : Bool) (rest : List UInt8) : Ev (fun k => date_digits.f k (strOf (p2 n ++ rest)) bad 2 0 14) ((n : Int), strOf rest, bad) := by
  unfold date_digits.f
  refine Ev.congr (fun k => if_neg (by rw [str_size', List.length_append]; show ¬ (((2 + rest.length : Nat) : Int) < 2); omega)) ?_
  rw [show (strOf (p2 n ++ rest)).extract 0 2 = strOf (p2 n) from cut_to (p2 n) rest, show (strOf (p2 n ++ rest)).extract 2 (strOf (p2 n ++ rest)).size = strOf rest from cut_from (p2 n) rest]
  refine Ev.bind (Ev.of (fun k => ascii_Number.mono _ _ k) (num14_all ⟨n, h⟩)) ?_
  refine now_of ?_
  simp only []
  rw [if_pos ⟨trivial, by omega⟩]
theorem same_all : ∀ q : Fin 10, ascii_Same.f (strOf [UInt8.ofNat (48 + q.val)]) (strOf [58]) = some false := by decide +kernel
theorem last_all : ∀ q : Fin 10, ([9, 10, 12, 13, 32] : List UInt8).contains (UInt8.ofNat (48 + q.val)) = false := by decide +kernel
/-- A zone's text behind its sign, with and without ':'. -/
def zoneT (c : Bool) (H M : Nat) : List UInt8 := if c = true then p2 H ++ 58 :: p2 M else p2 H ++ p2 M
theorem zone_g (c : Bool) (H M : Nat) (hH : H < 15) (hM : M < 60) (sg : Int) (hs : sg = 1 ∨ sg = -1) : Ev (fun k => date_zone.g k sg (strOf (zoneT c H M)) false) (sg * ((H * 3600 + M * 60 : Nat) : Int), strOf [], false) := by
  have fin : Ev (fun k => (date_digits.f k (strOf (p2 M)) false 2 0 59).bind fun m => some (wrap64 (sg * wrap64 (wrap64 ((H : Int) * 3600) + wrap64 (m.1 * 60))), m.2.1, m.2.2)) (sg * ((H * 3600 + M * 60 : Nat) : Int), strOf [], false) := by
    have hd := digits2 59 0 (by simp) (n := M) (by omega) (by omega) false []
    rw [List.append_nil] at hd
    refine Ev.bind hd ?_
    refine now_of ?_
    simp only []
    rw [w64 (n := (H : Int) * 3600) (by omega) (by omega), w64 (n := (M : Int) * 60) (by omega) (by omega), w64 (n := (H : Int) * 3600 + (M : Int) * 60) (by omega) (by omega)]
    rcases hs with rfl | rfl
    · rw [w64 (by omega) (by omega)]
      congr 2
    · rw [w64 (by omega) (by omega)]
      congr 2
  unfold date_zone.g zoneT
  cases c with
  | true =>
    rw [if_pos rfl]
    refine Ev.bind (digits14 hH false _) ?_
    rw [show date_has.f (strOf (58 :: p2 M)) (⟨#[58]⟩ : ByteArray) = _ from has_eq 58 58 true same_colon _]
    refine Ev.bind (Ev.now _) ?_
    refine Ev.congr (fun k => if_pos (by simp)) ?_
    exact fin
  | false =>
    rw [if_neg (by simp)]
    refine Ev.bind (digits14 hH false _) ?_
    rw [show date_has.f (strOf (p2 M)) (⟨#[58]⟩ : ByteArray) = _ from has_eq (UInt8.ofNat (48 + M / 10)) 58 false (same_all ⟨M / 10, by omega⟩) [UInt8.ofNat (48 + M % 10)]]
    refine Ev.bind (Ev.now _) ?_
    refine Ev.congr (fun k => if_pos (.inr (by rw [Lib.toList_data]; simp [strOf]))) ?_
    exact fin
def signT (west : Bool) : UInt8 := if west = true then 45 else 43
def signZ (west : Bool) : Int := if west = true then -1 else 1
theorem same_pz : ascii_Same.f (strOf [43]) (strOf [122]) = some false := by decide +kernel
theorem same_mz : ascii_Same.f (strOf [45]) (strOf [122]) = some false := by decide +kernel
theorem same_pm : ascii_Same.f (strOf [43]) (strOf [45]) = some false := by decide +kernel
theorem same_pp : ascii_Same.f (strOf [43]) (strOf [43]) = some true := by decide +kernel
theorem same_sd : ∀ west : Bool, ascii_Same.f (strOf [signT west]) (strOf [46]) = some false := by decide +kernel
theorem zone_read (west c : Bool) (H M : Nat) (hH : H < 15) (hM : M < 60) : Ev (fun k => date_zone.f k (strOf (signT west :: zoneT c H M)) false) (signZ west * ((H * 3600 + M * 60 : Nat) : Int), strOf [], false) := by
  unfold date_zone.f signT signZ
  cases west with
  | true =>
    simp only [if_true]
    rw [show date_has.f (strOf (45 :: zoneT c H M)) (⟨#[122]⟩ : ByteArray) = _ from has_eq 45 122 false same_mz _]
    refine Ev.bind (Ev.now _) ?_
    refine Ev.congr (fun k => if_neg (by simp)) ?_
    simp only [Bool.false_eq_true, if_false]
    rw [show date_has.f (strOf (45 :: zoneT c H M)) (⟨#[45]⟩ : ByteArray) = _ from has_eq 45 45 true same_dash _]
    refine Ev.bind (Ev.now _) ?_
    refine Ev.congr (fun k => if_pos rfl) ?_
    exact zone_g c H M hH hM (-1) (.inr rfl)
  | false =>
    simp only [Bool.false_eq_true, if_false]
    rw [show date_has.f (strOf (43 :: zoneT c H M)) (⟨#[122]⟩ : ByteArray) = _ from has_eq 43 122 false same_pz _]
    refine Ev.bind (Ev.now _) ?_
    refine Ev.congr (fun k => if_neg (by simp)) ?_
    simp only [Bool.false_eq_true, if_false]
    rw [show date_has.f (strOf (43 :: zoneT c H M)) (⟨#[45]⟩ : ByteArray) = _ from has_eq 43 45 false same_pm _]
    refine Ev.bind (Ev.now _) ?_
    refine Ev.congr (fun k => if_neg (by simp)) ?_
    simp only [Bool.false_eq_true, if_false]
    rw [show date_must.f (strOf (43 :: zoneT c H M)) false (⟨#[43]⟩ : ByteArray) = _ from must_eq 43 43 false same_pp _]
    refine Ev.bind (Ev.now _) ?_
    exact zone_g c H M hH hM 1 (.inl rfl)
theorem zone_told (west c : Bool) (H M : Nat) (hH : H < 15) (hM : M < 60) : Ev (fun k => date_Zone.f k (strOf (signT west :: zoneT c H M))) (signZ west * ((H * 3600 + M * 60 : Nat) : Int), 0) := by
  unfold date_Zone.f
  refine Ev.bind (zone_read west c H M hH hM) ?_
  refine now_of ?_
  simp only []
  rw [if_neg (by simp), if_pos (by rw [Lib.toList_data]; rfl)]
/-- A moment's text without its end. -/
def headT (y m d r : Nat) : List UInt8 := p4 y ++ 45 :: (p2 m ++ 45 :: (p2 d ++ 84 :: timeT r))
theorem text_head (y m d r : Nat) : textT y m d r = headT y m d r ++ [90] := by simp [textT, headT]
theorem time_tail (r : Nat) (hr : r < 86400) (x : UInt8) (hx : ascii_Same.f (strOf [x]) (strOf [46]) = some false) (u : List UInt8) : Ev (fun k => date_time.f k (strOf (timeT r ++ x :: u)) false) ((r : Int), strOf (x :: u), false) := by
  have e : timeT r ++ x :: u = p2 (r / 3600) ++ 58 :: (p2 (r / 60 % 60) ++ 58 :: (p2 (r % 60) ++ x :: u)) := by simp [timeT]
  rw [e]
  unfold date_time.f
  refine Ev.bind (digits2 23 0 (by simp) (n := r / 3600) (by omega) (by omega) false _) ?_
  rw [show date_must.f (strOf (58 :: (p2 (r / 60 % 60) ++ 58 :: (p2 (r % 60) ++ x :: u)))) false (⟨#[58]⟩ : ByteArray) = _ from must_eq 58 58 false same_colon _]
  refine Ev.bind (Ev.now _) ?_
  refine Ev.bind (digits2 59 0 (by simp) (n := r / 60 % 60) (by omega) (by omega) false _) ?_
  rw [show date_has.f (strOf (58 :: (p2 (r % 60) ++ x :: u))) (⟨#[58]⟩ : ByteArray) = _ from has_eq 58 58 true same_colon _]
  refine Ev.bind (Ev.now _) ?_
  refine Ev.congr (fun k => if_pos rfl) ?_
  refine Ev.bind (digits2 60 0 (by simp) (n := r % 60) (by omega) (by omega) false _) ?_
  rw [show date_has.f (strOf (x :: u)) (⟨#[46]⟩ : ByteArray) = _ from has_eq x 46 false hx u]
  refine Ev.bind (Ev.now _) ?_
  refine Ev.congr (fun k => if_neg (by simp)) ?_
  refine now_of ?_
  have em : mn (((r % 60 : Nat)) : Int) 59 = ((r % 60 : Nat) : Int) := by unfold mn; split <;> omega
  simp only [em]
  rw [w64 (n := ((r / 3600 : Nat) : Int) * 3600) (by omega) (by omega), w64 (n := ((r / 60 % 60 : Nat) : Int) * 60) (by omega) (by omega), w64 (n := ((r / 3600 : Nat) : Int) * 3600 + ((r / 60 % 60 : Nat) : Int) * 60) (by omega) (by omega), w64 (by omega) (by omega)]
  congr 2
  omega
theorem zoneT_last (c : Bool) (H M : Nat) : ∃ u, zoneT c H M = u ++ [UInt8.ofNat (48 + M % 10)] := by
  unfold zoneT
  cases c with
  | true => exact ⟨p2 H ++ 58 :: [UInt8.ofNat (48 + M / 10)], by simp [p2]⟩
  | false => exact ⟨p2 H ++ [UInt8.ofNat (48 + M / 10)], by simp [p2]⟩
theorem trim_zone (y m d r : Nat) (hy : y < 10000) (x : UInt8) (c : Bool) (H M : Nat) : ascii_Trim.f (strOf (headT y m d r ++ x :: zoneT c H M)) = some (strOf (headT y m d r ++ x :: zoneT c H M)) := by
  have hb := p4_blank ⟨y / 1000, by omega⟩
  simp only [] at hb
  have hl : headT y m d r ++ x :: zoneT c H M = UInt8.ofNat (48 + y / 1000) :: (headT y m d r ++ x :: zoneT c H M).tail := rfl
  obtain ⟨u, hu⟩ := zoneT_last c H M
  have hlast := last_all ⟨M % 10, by omega⟩
  simp only [] at hlast
  have hR : Lib.trimRightS (headT y m d r ++ x :: zoneT c H M) [9, 10, 12, 13, 32] = headT y m d r ++ x :: zoneT c H M := by
    have e : headT y m d r ++ x :: zoneT c H M = (headT y m d r ++ x :: u) ++ [UInt8.ofNat (48 + M % 10)] := by rw [hu]; simp
    rw [e]
    unfold Lib.trimRightS
    rw [List.reverse_append, List.reverse_singleton, List.singleton_append, List.dropWhile_cons_of_neg (by rw [hlast]; simp)]
    simp
  have hL : Lib.trimLeftS (headT y m d r ++ x :: zoneT c H M) [9, 10, 12, 13, 32] = headT y m d r ++ x :: zoneT c H M := by
    unfold Lib.trimLeftS
    rw [hl, List.dropWhile_cons_of_neg (by rw [hb]; simp)]
  unfold ascii_Trim.f strings_Trim.f
  have hz : (strOf (headT y m d r ++ x :: zoneT c H M)).size ≤ 9223372036854775807 := by
    rw [str_size']
    unfold zoneT
    cases c <;> simp [headT, timeT, p4, p2]
  rw [if_pos hz, if_pos (by decide), if_pos (by decide), Option.bind_some]
  show some (strOf (Lib.trimS (headT y m d r ++ x :: zoneT c H M) [9, 10, 12, 13, 32])) = _
  unfold Lib.trimS
  rw [hR, hL]
theorem parse_zone (y m d r : Nat) (h : isDay y m d) (hr : r < 86400) (west c : Bool) (H M : Nat) (hH : H < 15) (hM : M < 60) : Ev (fun k => date_Parse.f k (strOf (headT y m d r ++ signT west :: zoneT c H M))) (wrap64 ((Dy.num y m d - 719162) * 86400 + r - signZ west * ((H * 3600 + M * 60 : Nat) : Int)), true, true, 0) := by
  have h' := h
  obtain ⟨h1, h2, h3, h4, h5, h6⟩ := h'
  have hn := Dy.num_range h
  unfold date_Parse.f
  rw [trim_zone y m d r (by omega)]
  refine Ev.bind (Ev.now _) ?_
  have hp : Ev (fun k => date_Parse_1.f k (strOf (headT y m d r ++ signT west :: zoneT c H M))) (wrap64 ((Dy.num y m d - 719162) * 86400 + r - signZ west * ((H * 3600 + M * 60 : Nat) : Int)), strOf [], false, true, true) := by
    unfold date_Parse_1.f
    rw [show headT y m d r ++ signT west :: zoneT c H M = p4 y ++ 45 :: (p2 m ++ 45 :: (p2 d ++ 84 :: (timeT r ++ signT west :: zoneT c H M))) from by simp [headT]]
    refine Ev.bind (day_read y m d h (84 :: (timeT r ++ signT west :: zoneT c H M)) (by unfold zoneT; cases c <;> simp [timeT, p2])) ?_
    refine Ev.congr (fun k => if_neg (by rw [Lib.toList_data]; simp [strOf])) ?_
    rw [show date_has.f (strOf (84 :: (timeT r ++ signT west :: zoneT c H M))) (⟨#[116]⟩ : ByteArray) = _ from has_eq 84 116 true same_t _]
    refine Ev.bind (Ev.now _) ?_
    simp only [if_true]
    refine Ev.bind (time_tail r hr (signT west) (same_sd west) _) ?_
    refine Ev.congr (fun k => if_neg (by rw [Lib.toList_data]; simp [strOf])) ?_
    have hb : date_blanks.s (strOf (signT west :: zoneT c H M)) = strOf (signT west :: zoneT c H M) := by
      unfold date_blanks.s
      show strOf (Lib.trimLeftB (signT west :: zoneT c H M) 32) = _
      unfold Lib.trimLeftB
      rw [List.dropWhile_cons_of_neg (by cases west <;> decide)]
    rw [hb]
    refine Ev.bind (zone_read west c H M hH hM) ?_
    refine now_of ?_
    simp only []
    rw [w64 (n := (Dy.num y m d - 719162) * 86400) (by omega) (by omega), w64 (n := (Dy.num y m d - 719162) * 86400 + r) (by omega) (by omega)]
  refine Ev.bind hp ?_
  refine now_of ?_
  simp only []
  rw [if_neg (by simp), if_pos (by rw [Lib.toList_data]; rfl)]
theorem zones_ev (n z0 z1 : Int) (west : Bool) (hn : -9223372036854775808 ≤ n ∧ n < 9223372036854775808) (h0 : 0 ≤ z0 ∧ z0 < 256) (h1 : 0 ≤ z1 ∧ z1 < 256) : Ev (fun k => cringlelaw06_DateZones.f k n z0 z1 west) true := by
  have alive : Ev (fun k => cringlelaw06_alive.f k) true := alive_ev
  unfold cringlelaw06_DateZones.f
  rcases day_or (n / 86400) with hb | ⟨y, m, d, hd, hnum⟩
  · refine Ev.bind (format_bad n hn hb) ?_
    refine Ev.congr (fun k => if_neg (by simp)) ?_
    exact alive
  · obtain ⟨Y, rfl⟩ : ∃ Y : Nat, y = (Y : Int) := ⟨y.toNat, by have := hd.1; omega⟩
    obtain ⟨E, rfl⟩ : ∃ E : Nat, d = (E : Int) := ⟨d.toNat, by have := hd.2.2.2.2.1; omega⟩
    obtain ⟨r, hr⟩ : ∃ r : Nat, n % 86400 = (r : Int) := ⟨(n % 86400).toNat, by omega⟩
    refine Ev.bind (format_day n hn Y m E r hd hnum hr) ?_
    refine Ev.congr (fun k => (if_pos rfl).trans (if_pos (by rw [str_size']; rfl))) ?_
    obtain ⟨H, hH, eH⟩ : ∃ H : Nat, H < 15 ∧ Int.tmod (wrap64 z0) 15 = (H : Int) := ⟨(z0 % 15).toNat, by omega, by rw [w64 (by omega) (by omega), Int.tmod_eq_emod_of_nonneg (by omega)]; omega⟩
    obtain ⟨M, hM, eM⟩ : ∃ M : Nat, M < 60 ∧ Int.tmod (wrap64 z1) 60 = (M : Int) := ⟨(z1 % 60).toNat, by omega, by rw [w64 (by omega) (by omega), Int.tmod_eq_emod_of_nonneg (by omega)]; omega⟩
    rw [eH, eM, two_eq (n := H) (by omega), two_eq (n := M) (by omega)]
    have hcut : (strOf (textT Y m E r)).extract 0 19 = strOf (headT Y m E r) := by
      rw [text_head]
      exact cut_to (headT Y m E r) [90]
    have hsg : (if west = true then (⟨#[45]⟩ : ByteArray) else ⟨#[43]⟩) = strOf [signT west] := by cases west <;> rfl
    have hah : (if west = true then wrap64 (-(wrap64 (wrap64 ((H : Int) * 3600) + wrap64 ((M : Int) * 60)))) else wrap64 (wrap64 ((H : Int) * 3600) + wrap64 ((M : Int) * 60))) = signZ west * ((H * 3600 + M * 60 : Nat) : Int) := by
      rw [w64 (n := (H : Int) * 3600) (by omega) (by omega), w64 (n := (M : Int) * 60) (by omega) (by omega), w64 (n := (H : Int) * 3600 + (M : Int) * 60) (by omega) (by omega)]
      unfold signZ
      cases west with
      | true => rw [if_pos rfl, if_pos rfl, w64 (by omega) (by omega)]; omega
      | false => rw [if_neg (by simp), if_neg (by simp)]; omega
    have z1' : strOf (p2 H) ++ strOf (p2 M) = strOf (zoneT false H M) := by rw [str_cat2]; rfl
    have z2' : strOf (p2 H) ++ ⟨#[58]⟩ ++ strOf (p2 M) = strOf (zoneT true H M) := by
      rw [show (⟨#[58]⟩ : ByteArray) = strOf [58] from rfl, str_cat2, str_cat2]
      exact congrArg strOf (by simp [zoneT])
    have hnn : (Dy.num (Y : Int) m (E : Int) - 719162) * 86400 + r = n := by omega
    rw [hcut, hsg, hah, z1', z2']
    have one : ∀ c : Bool, ∀ rest : List ByteArray, Ev (fun k => cringlelaw06_DateZones.body k n (signZ west * ((H * 3600 + M * 60 : Nat) : Int)) (strOf (headT Y m E r)) (strOf [signT west]) rest) true → Ev (fun k => cringlelaw06_DateZones.body k n (signZ west * ((H * 3600 + M * 60 : Nat) : Int)) (strOf (headT Y m E r)) (strOf [signT west]) (strOf (zoneT c H M) :: rest)) true := by
      intro c rest hrest
      refine Ev.congr (fun k => by rw [cringlelaw06_DateZones.body, str_cat2, str_cat2, str_cat2]) ?_
      rw [show headT Y m E r ++ [signT west] ++ zoneT c H M = headT Y m E r ++ signT west :: zoneT c H M from by simp, show [signT west] ++ zoneT c H M = signT west :: zoneT c H M from rfl]
      refine Ev.bind (parse_zone Y m E r hd (by omega) west c H M hH hM) ?_
      refine Ev.bind (zone_told west c H M hH hM) ?_
      refine Ev.congr (fun k => (if_pos rfl).trans ((if_pos rfl).trans ((if_pos (by rw [hnn])).trans (if_pos rfl)))) ?_
      exact hrest
    exact one false _ (one true _ alive)
end Go.Proofs.YtfoikdjffemhbaaDoor.Plain
