-- printed by a program of the session's own; Lean checks it
import Derived.Test.YtfoikdjffemhbaaDoorQ0
import Derived.Test.YtfoikdjffemhbaaDoorQ1
import Derived.Test.YtfoikdjffemhbaaDoorQ4
namespace Go.Proofs.YtfoikdjffemhbaaDoor.Q
open Go.RowKit Go.Proofs.YtfoikdjffemhbaaDoorW.PrintWords Go.Proofs.YtfoikdjffemhbaaDoorW.PrintLast Go.Proofs.YtfoikdjffemhbaaDoorW.PrintMore
attribute [local go_sem] max2_int min2_int max_two min_two max_three min_three max_four min_four   -- for this text's walks alone
set_option linter.unusedVariables false
set_option linter.unusedSimpArgs false

/-! ### date.Zone -/
/-! ### a reader: a text that is read on, and whether something stood that may not -/
def date_has.f (s t : ByteArray) : Option (Bool × ByteArray) := if (s.size : Int) < (t.size : Int) then some (false, s) else (ascii_Same.f (s.extract 0 t.size) t).bind fun b => some (b, if b = true then s.extract t.size s.size else s)
def date_must.f (s : ByteArray) (bad : Bool) (t : ByteArray) : Option (ByteArray × Bool) := (date_has.f s t).bind fun p => some (p.2, if p.1 = true then bad else true)
def date_digits.f (k : Nat) (s : ByteArray) (bad : Bool) (size : Nat) (lo hi : Int) : Option (Int × ByteArray × Bool) := if (s.size : Int) < (size : Int) then some (lo, s, true) else (ascii_Number.f k (s.extract 0 size) hi).bind fun p => some (if p.2 = 0 ∧ ¬ p.1 < lo then (p.1, s.extract size s.size, bad) else (lo, s.extract size s.size, true))
def date_run.n (s : ByteArray) : Nat := (s.data.toList.takeWhile fun c => decide (48 ≤ c ∧ c ≤ 57)).length
def date_run.f (s : ByteArray) : Option Nat := if s.size ≤ 1000000000 then some (date_run.n s) else none
def date_blanks.s (s : ByteArray) : ByteArray := ⟨(Lib.trimLeftB s.data.toList 32).toArray⟩
def date_day.f (k : Nat) (s : ByteArray) (bad : Bool) : Option (Int × ByteArray × Bool) :=
  (date_digits.f k s bad 4 1 9999).bind fun y => (date_must.f y.2.1 y.2.2 ⟨#[45]⟩).bind fun a => (date_run.f a.1).bind fun q => if (q : Int) = 3 then
    (date_ahead.l y.1).bind fun l => (date_digits.f k a.1 a.2 3 1 (rd l 12)).bind fun n => (date_begin.f y.1).bind fun t => some (wrap64 (t + wrap64 (n.1 - 1)), n.2.1, n.2.2)
  else (date_digits.f k a.1 a.2 2 1 12).bind fun m => (date_must.f m.2.1 m.2.2 ⟨#[45]⟩).bind fun c => (date_digits.f k c.1 c.2 2 1 31).bind fun d => (date_Days.f y.1 m.1 d.1).bind fun n => some (n.1, d.2.1, if d.2.2 = true then true else decide (n.2 ≠ 0))
def date_time.f (k : Nat) (s : ByteArray) (bad : Bool) : Option (Int × ByteArray × Bool) :=
  (date_digits.f k s bad 2 0 23).bind fun h => (date_must.f h.2.1 h.2.2 ⟨#[58]⟩).bind fun a => (date_digits.f k a.1 a.2 2 0 59).bind fun m => (date_has.f m.2.1 ⟨#[58]⟩).bind fun c =>
    if c.1 = true then (date_digits.f k c.2 m.2.2 2 0 60).bind fun x => (date_has.f x.2.1 ⟨#[46]⟩).bind fun d => if d.1 = true then
      (date_run.f d.2).bind fun q => some (wrap64 (wrap64 (wrap64 (h.1 * 3600) + wrap64 (m.1 * 60)) + mn x.1 59), d.2.extract q d.2.size, if x.2.2 = true then true else decide ((q : Int) = 0))
      else some (wrap64 (wrap64 (wrap64 (h.1 * 3600) + wrap64 (m.1 * 60)) + mn x.1 59), d.2, x.2.2)
    else if m.2.2 = true then some (wrap64 (wrap64 (h.1 * 3600) + wrap64 (m.1 * 60)), c.2, true) else (strings_HasPrefix.f c.2 ⟨#[46]⟩).bind fun p => some (wrap64 (wrap64 (h.1 * 3600) + wrap64 (m.1 * 60)), c.2, p)
def date_zone.g (k : Nat) (sign : Int) (s : ByteArray) (bad : Bool) : Option (Int × ByteArray × Bool) :=
  (date_digits.f k s bad 2 0 14).bind fun h => (date_has.f h.2.1 ⟨#[58]⟩).bind fun c => if c.1 = true ∨ c.2.toList ≠ ([] : List UInt8) then (date_digits.f k c.2 h.2.2 2 0 59).bind fun m => some (wrap64 (sign * wrap64 (wrap64 (h.1 * 3600) + wrap64 (m.1 * 60))), m.2.1, m.2.2) else some (wrap64 (sign * wrap64 (h.1 * 3600)), c.2, h.2.2)
def date_zone.f (k : Nat) (s : ByteArray) (bad : Bool) : Option (Int × ByteArray × Bool) :=
  (date_has.f s ⟨#[122]⟩).bind fun z => if z.1 = true then some (0, z.2, bad) else (date_has.f z.2 ⟨#[45]⟩).bind fun a => if a.1 = true then date_zone.g k (-1) a.2 bad else (date_must.f a.2 bad ⟨#[43]⟩).bind fun c => date_zone.g k 1 c.1 c.2
/-- The closure of Parse: the moment's number, what is left, was it bad, had it a time, a zone. -/
def date_Parse_1.f (k : Nat) (s : ByteArray) : Option (Int × ByteArray × Bool × Bool × Bool) :=
  (date_day.f k s false).bind fun d => if d.2.1.toList = ([] : List UInt8) then some (wrap64 (d.1 * 86400), d.2.1, d.2.2, false, false) else (date_has.f d.2.1 ⟨#[116]⟩).bind fun t =>
    (date_time.f k (if t.1 = true then t.2 else date_blanks.s t.2) (if t.1 = true then d.2.2 else if (date_blanks.s t.2).size < t.2.size then d.2.2 else true)).bind fun x =>
      if x.2.1.toList = ([] : List UInt8) then some (wrap64 (wrap64 (d.1 * 86400) + x.1), x.2.1, x.2.2, true, false) else (date_zone.f k (date_blanks.s x.2.1) x.2.2).bind fun z => some (wrap64 (wrap64 (wrap64 (d.1 * 86400) + x.1) - z.1), z.2.1, z.2.2, true, true)
set_option maxHeartbeats 2000000 in
set_option maxRecDepth 100000 in
theorem date_has.calls (b : Nat) (s t : ByteArray) (bad : Bool) (T : TypeId) (w : World) (hA : Blk.At b #[.string s, .bool bad] T w) (r : Bool × ByteArray) (h : date_has.f s t = some r) :
    Calls Tryd.prog 31 #[.pointer (some ⟨b, 0, none⟩), .string t] w fun e w' => e = .returned (.bool r.1) ∧ Blk.At b #[.string r.2, .bool bad] T w' ∧ Below b w w' := by
  unfold date_has.f at h
  have c0 : w.cell? ⟨b, 0, none⟩ = some (.string s) := hA.cell 0
  have HA := Aside0.mk hA
  clear hA
  by_cases c1 : (s.size : Int) < (t.size : Int)
  · rw [if_pos c1] at h
    obtain rfl := Option.some.inj h
    have c1b : decide ((s.size : Int) < (t.size : Int)) = true := decide_eq_true c1
    go_enter Tryd.func31, Tryd.ntmps31
    go_wp2_with fail
    go_ret
    exact ⟨rfl, HA.out, Below.refl _ _⟩
  · rw [if_neg c1] at h
    obtain ⟨bb, hb, h⟩ := Option.bind_eq_some_iff.mp h
    obtain rfl := Option.some.inj h
    have HS := Aside0.mk hb
    clear h hb
    have c1b : decide ((s.size : Int) < (t.size : Int)) = false := decide_eq_false c1
    have c2b : ((t.size : Int) ≤ (s.size : Int)) = True := eq_true (by omega)
    have c2n : (t.size ≤ s.size) = True := eq_true (by omega)
    go_enter Tryd.func31, Tryd.ntmps31
    go_wp2_with fail
    refine (ascii_Same.calls (s.extract 0 t.size) t bb _ HS.out).mono ?_
    rintro e w1 ⟨rfl, hw⟩
    have HA1 := Aside0.mk (HA.out.below hw HA.out.lt)
    have HB1 := Aside0.mk (hw.mono (Nat.le_of_lt HA.out.lt))
    clear hw HA c0
    have c0 : w1.cell? ⟨b, 0, none⟩ = some (.string s) := HA1.out.cell 0
    have f0 : w1.frozen? ⟨b, 0, none⟩ = false := HA1.out.frozen 0
    cases bb
    · go_wp2_with fail
      go_ret
      exact ⟨rfl, HA1.out, HB1.out⟩
    · go_wp2_with fail
      go_ret
      exact ⟨rfl, HA1.out.set 0 _, HB1.out.setCell (Nat.le_refl _) _⟩
set_option maxHeartbeats 2000000 in
set_option maxRecDepth 100000 in
theorem date_must.calls (b : Nat) (s t : ByteArray) (bad : Bool) (T : TypeId) (w : World) (hA : Blk.At b #[.string s, .bool bad] T w) (r : ByteArray × Bool) (h : date_must.f s bad t = some r) :
    Calls Tryd.prog 40 #[.pointer (some ⟨b, 0, none⟩), .string t] w fun e w' => e = .returned (.tuple #[]) ∧ Blk.At b #[.string r.1, .bool r.2] T w' ∧ Below b w w' := by
  unfold date_must.f at h
  obtain ⟨p, hp, h⟩ := Option.bind_eq_some_iff.mp h
  obtain rfl := Option.some.inj h
  have HP := Aside0.mk hp
  have HA := Aside0.mk hA
  clear h hp hA
  go_enter Tryd.func40, Tryd.ntmps40
  go_wp2_with fail
  refine (date_has.calls b s t bad T _ HA.out p HP.out).mono ?_
  rintro e w1 ⟨rfl, hA1, hB1⟩
  have HA1 := Aside0.mk hA1
  have HB1 := Aside0.mk hB1
  clear hA1 hB1 HA
  obtain ⟨p1, p2⟩ := p
  have f1 : w1.frozen? ⟨b, 1, none⟩ = false := HA1.out.frozen 1
  have c1 : w1.cell? ⟨b, 1, none⟩ = some (.bool bad) := HA1.out.cell 1
  cases p1
  · go_wp2_with fail
    go_end0
    exact ⟨rfl, HA1.out.set 1 _, Blk.below_self HB1.out⟩
  · go_wp2_with fail
    go_end0
    exact ⟨rfl, HA1.out, HB1.out⟩
set_option maxHeartbeats 2000000 in
set_option maxRecDepth 100000 in
theorem date_digits.calls (k b : Nat) (s : ByteArray) (bad : Bool) (T : TypeId) (size : Nat) (lo hi : Int) (w : World) (hA : Blk.At b #[.string s, .bool bad] T w) (r : Int × ByteArray × Bool) (h : date_digits.f k s bad size lo hi = some r) :
    Calls Tryd.prog 39 #[.pointer (some ⟨b, 0, none⟩), .int .i64 (size : Int), .int .i64 lo, .int .i64 hi] w fun e w' => e = .returned (.int .i64 r.1) ∧ Blk.At b #[.string r.2.1, .bool r.2.2] T w' ∧ Below b w w' := by
  unfold date_digits.f at h
  have HA := Aside0.mk hA
  have c0 : w.cell? ⟨b, 0, none⟩ = some (.string s) := hA.cell 0
  have f1 : w.frozen? ⟨b, 1, none⟩ = false := hA.frozen 1
  have d1 : w.cell? ⟨b, 1, none⟩ = some (.bool bad) := hA.cell 1
  clear hA
  by_cases c1 : (s.size : Int) < (size : Int)
  · rw [if_pos c1] at h
    obtain rfl := Option.some.inj h
    have c1b : decide ((s.size : Int) < (size : Int)) = true := decide_eq_true c1
    go_enter Tryd.func39, Tryd.ntmps39
    go_wp2_with fail
    go_ret
    exact ⟨rfl, HA.out.set 1 _, Blk.below_self (Below.refl b w)⟩
  · rw [if_neg c1] at h
    obtain ⟨⟨p1, p2⟩, hp, h⟩ := Option.bind_eq_some_iff.mp h
    simp only [] at h
    have HP := Aside0.mk hp
    clear hp f1 d1
    have c1b : decide ((s.size : Int) < (size : Int)) = false := decide_eq_false c1
    have c2b : ((size : Int) ≤ (s.size : Int)) = True := eq_true (by omega)
    have c2n : (size ≤ s.size) = True := eq_true (by omega)
    by_cases e1 : p2 = 0
    · subst e1
      by_cases e2 : p1 < lo
      · rw [if_neg (fun q => q.2 e2)] at h
        obtain rfl := Option.some.inj h
        clear h
        have e2b : decide (p1 < lo) = true := decide_eq_true e2
        go_enter Tryd.func39, Tryd.ntmps39
        go_wp2_with fail
        refine (ascii_Number.calls k (s.extract 0 size) hi _ _ _ HP.out).mono ?_
        rintro e w1 ⟨rfl, hw⟩
        have hw' : Below w.heap.size w w1 := hw.below
        have HA1 := Aside0.mk (HA.out.below hw' HA.out.lt)
        have HB1 := Aside0.mk (hw'.mono (Nat.le_of_lt HA.out.lt))
        clear hw hw' HA c0
        have c0 : w1.cell? ⟨b, 0, none⟩ = some (.string s) := HA1.out.cell 0
        have f0 : w1.frozen? ⟨b, 0, none⟩ = false := HA1.out.frozen 0
        have f1 : w1.frozen? ⟨b, 1, none⟩ = false := HA1.out.frozen 1
        have d1 : w1.cell? ⟨b, 1, none⟩ = some (.bool bad) := HA1.out.cell 1
        go_wp2_with fail
        go_ret
        exact ⟨rfl, (HA1.out.set 0 _).set 1 _, Blk.below_self (Blk.below_self HB1.out)⟩
      · rw [if_pos ⟨rfl, e2⟩] at h
        obtain rfl := Option.some.inj h
        clear h
        have e2b : decide (p1 < lo) = false := decide_eq_false e2
        go_enter Tryd.func39, Tryd.ntmps39
        go_wp2_with fail
        refine (ascii_Number.calls k (s.extract 0 size) hi _ _ _ HP.out).mono ?_
        rintro e w1 ⟨rfl, hw⟩
        have hw' : Below w.heap.size w w1 := hw.below
        have HA1 := Aside0.mk (HA.out.below hw' HA.out.lt)
        have HB1 := Aside0.mk (hw'.mono (Nat.le_of_lt HA.out.lt))
        clear hw hw' HA c0
        have c0 : w1.cell? ⟨b, 0, none⟩ = some (.string s) := HA1.out.cell 0
        have f0 : w1.frozen? ⟨b, 0, none⟩ = false := HA1.out.frozen 0
        have f1 : w1.frozen? ⟨b, 1, none⟩ = false := HA1.out.frozen 1
        have d1 : w1.cell? ⟨b, 1, none⟩ = some (.bool bad) := HA1.out.cell 1
        go_wp2_with fail
        go_ret
        exact ⟨rfl, HA1.out.set 0 _, Blk.below_self HB1.out⟩
    · rw [if_neg (fun q => e1 q.1)] at h
      obtain rfl := Option.some.inj h
      clear h
      have e1b : (p2 != 0) = true := by simpa using e1
      have e1c : (p2 == 0) = false := by simpa using e1
      go_enter Tryd.func39, Tryd.ntmps39
      go_wp2_with fail
      refine (ascii_Number.calls k (s.extract 0 size) hi _ _ _ HP.out).mono ?_
      rintro e w1 ⟨rfl, hw⟩
      have hw' : Below w.heap.size w w1 := hw.below
      have HA1 := Aside0.mk (HA.out.below hw' HA.out.lt)
      have HB1 := Aside0.mk (hw'.mono (Nat.le_of_lt HA.out.lt))
      clear hw hw' HA c0
      have c0 : w1.cell? ⟨b, 0, none⟩ = some (.string s) := HA1.out.cell 0
      have f0 : w1.frozen? ⟨b, 0, none⟩ = false := HA1.out.frozen 0
      have f1 : w1.frozen? ⟨b, 1, none⟩ = false := HA1.out.frozen 1
      have d1 : w1.cell? ⟨b, 1, none⟩ = some (.bool bad) := HA1.out.cell 1
      go_wp2_with fail
      go_ret
      exact ⟨rfl, (HA1.out.set 0 _).set 1 _, Blk.below_self (Blk.below_self HB1.out)⟩
set_option maxHeartbeats 2000000 in
set_option maxRecDepth 100000 in
theorem date_blanks.calls (b : Nat) (s : ByteArray) (bad : Bool) (T : TypeId) (w : World) (hA : Blk.At b #[.string s, .bool bad] T w) :
    Calls Tryd.prog 32 #[.pointer (some ⟨b, 0, none⟩)] w fun e w' => e = .returned (.bool (decide ((date_blanks.s s).size < s.size))) ∧ Blk.At b #[.string (date_blanks.s s), .bool bad] T w' ∧ Below b w w' := by
  have HA := Aside0.mk hA
  have c0 : w.cell? ⟨b, 0, none⟩ = some (.string s) := hA.cell 0
  have f0 : w.frozen? ⟨b, 0, none⟩ = false := hA.frozen 0
  clear hA
  go_enter Tryd.func32, Tryd.ntmps32
  go_wp2_with fail
  refine (Tryd.strings_TrimLeft_one s 32 (by decide) _).mono ?_
  rintro e w1 ⟨rfl, rfl⟩
  have HA1 := Aside0.mk (HA.out.set 0 (.string (date_blanks.s s)))
  have HB1 := Aside0.mk (Blk.below_self (i := 0) (v := .string (date_blanks.s s)) (Below.refl b w1))
  go_wp2_with fail
  go_ret
  exact ⟨rfl, HA1.out, HB1.out⟩
theorem date_run.next {n : Nat} (h : n ≤ 9223372036854775806) : wrap64 ((n : Int) + 1) = ((n + 1 : Nat) : Int) := by
  unfold wrap64
  omega
def date_run.dig (c : UInt8) : Bool := decide (48 ≤ c ∧ c ≤ 57)
theorem date_run.isdig (c : UInt8) : ascii_IsDigit.f (c.toNat : Int) = some (date_run.dig c) := by
  have key : ∀ x : Fin 256, ascii_IsDigit.f ((x.val : Nat) : Int) = some (date_run.dig (UInt8.ofNat x.val)) := by decide +kernel
  have h := key ⟨c.toNat, c.toNat_lt⟩
  rw [show UInt8.ofNat (⟨c.toNat, c.toNat_lt⟩ : Fin 256).val = c from UInt8.ofNat_toNat] at h
  exact h
theorem date_run.le (s : ByteArray) : date_run.n s ≤ s.size := by
  have h := (List.takeWhile_prefix (fun c : UInt8 => decide (48 ≤ c ∧ c ≤ 57)) (l := s.data.toList)).length_le
  rw [Array.length_toList] at h
  exact h
theorem date_run.in_ (s : ByteArray) {n : Nat} (h : n < date_run.n s) (hs : n < s.size) : date_run.dig (s[n]'hs) = true := by
  have h2 := List.all_eq_true.1 (List.all_takeWhile (p := fun c : UInt8 => decide (48 ≤ c ∧ c ≤ 57)) (l := s.data.toList)) _ (List.getElem_mem h)
  have h3 := (List.takeWhile_prefix (fun c : UInt8 => decide (48 ≤ c ∧ c ≤ 57)) (l := s.data.toList)).getElem h
  rw [h3] at h2
  exact h2
theorem date_run.end_ (s : ByteArray) (hs : date_run.n s < s.size) : date_run.dig (s[date_run.n s]'hs) = false := by
  have h1 := List.takeWhile_append_dropWhile (p := fun c : UInt8 => decide (48 ≤ c ∧ c ≤ 57)) (l := s.data.toList)
  cases hd : s.data.toList.dropWhile (fun c : UInt8 => decide (48 ≤ c ∧ c ≤ 57)) with
  | nil =>
    rw [hd, List.append_nil] at h1
    have := congrArg List.length h1
    rw [Array.length_toList] at this
    have e : date_run.n s = s.size := this
    omega
  | cons c r =>
    have h2 := List.head_dropWhile_not (fun c : UInt8 => decide (48 ≤ c ∧ c ≤ 57)) (l := s.data.toList) (by rw [hd]; simp)
    simp only [hd, List.head_cons] at h2
    rw [hd] at h1
    have h3 : s.data.toList[date_run.n s]'(by rw [Array.length_toList]; exact hs) = c := by
      have h4 : s.data.toList[date_run.n s]? = some c := by
        conv => lhs; rw [← h1]
        rw [show date_run.n s = (s.data.toList.takeWhile (fun c : UInt8 => decide (48 ≤ c ∧ c ≤ 57))).length from rfl, List.getElem?_append_right (Nat.le_refl _)]
        simp
      rw [List.getElem?_eq_getElem (by rw [Array.length_toList]; exact hs)] at h4
      exact Option.some.inj h4
    show date_run.dig (s.data.toList[date_run.n s]'_) = false
    rw [h3]
    exact h2
set_option maxHeartbeats 2000000 in
set_option maxRecDepth 100000 in
theorem date_run.calls (b : Nat) (s : ByteArray) (bad : Bool) (T : TypeId) (w : World) (hA : Blk.At b #[.string s, .bool bad] T w) (n : Nat) (h : date_run.f s = some n) :
    Calls Tryd.prog 41 #[.pointer (some ⟨b, 0, none⟩)] w fun e w' => e = .returned (.int .i64 (n : Int)) ∧ Blk.At b #[.string s, .bool bad] T w' ∧ Below b w w' := by
  unfold date_run.f at h
  by_cases hsz : s.size ≤ 1000000000
  case neg => rw [if_neg hsz] at h; cases h
  rw [if_pos hsz] at h
  obtain rfl := Option.some.inj h
  clear h
  have HA := Aside0.mk hA
  have HSZ := Aside0.mk hsz
  clear hsz
  have HLE := Aside0.mk (date_run.le s)
  clear hA
  go_enter Tryd.func41, Tryd.ntmps41
  go_wp2_with fail
  go_loopw [3] (fun j wr => ∃ n : Nat, n ≤ date_run.n s ∧ j = .int .i64 n ∧ Aside0 (Blk.At b #[.string s, .bool bad] T wr) ∧ Aside0 (Below b w wr)) (fun j _ => date_run.n s - (intOf j).toNat)
  case atStart => exact ⟨0, Nat.zero_le _, rfl, HA, ⟨Below.refl _ _⟩⟩
  case round =>
    clear HA
    obtain ⟨n, hn, rfl, HA, HB⟩ := hrel
    have c0 : wr.cell? ⟨b, 0, none⟩ = some (.string s) := HA.out.cell 0
    by_cases hlt : n < s.size
    · have hq : (n < s.size) = True := eq_true hlt
      by_cases hd : n < date_run.n s
      · have HD := Aside0.mk ((date_run.isdig (s[n]'hlt)).trans (congrArg some (date_run.in_ s hd hlt)))
        go_wp2_with fail
        refine (ascii_IsDigit.calls ((s[n]'hlt).toNat : Int) true _ HD.out).mono ?_
        rintro e w1 ⟨rfl, hw⟩
        have HA1 := Aside0.mk (HA.out.below hw.below HA.out.lt)
        have HB1 := Aside0.mk (HB.out.trans (hw.below.mono (Nat.le_of_lt HA.out.lt)))
        clear hw HA HB c0
        go_wp2_with fail
        go_round
        case rel => exact ⟨n + 1, hd, by rw [date_run.next (n := n) (by have := HSZ.out; omega)], HA1, HB1⟩
        case measure =>
          rw [date_run.next (n := n) (by have := HSZ.out; omega)]
          show date_run.n s - (((n + 1 : Nat) : Int)).toNat < date_run.n s - ((n : Nat) : Int).toNat
          rw [Int.toNat_natCast, Int.toNat_natCast]
          omega
      · obtain rfl : n = date_run.n s := by omega
        have HD := Aside0.mk ((date_run.isdig (s[date_run.n s]'hlt)).trans (congrArg some (date_run.end_ s hlt)))
        go_wp2_with fail
        refine (ascii_IsDigit.calls ((s[date_run.n s]'hlt).toNat : Int) false _ HD.out).mono ?_
        rintro e w1 ⟨rfl, hw⟩
        have HA1 := Aside0.mk (HA.out.below hw.below HA.out.lt)
        have HB1 := Aside0.mk (HB.out.trans (hw.below.mono (Nat.le_of_lt HA.out.lt)))
        clear hw HA HB c0
        go_wp2_with fail
        go_ret
        exact ⟨rfl, HA1.out, HB1.out⟩
    · obtain rfl : n = date_run.n s := by have := HLE.out; omega
      have hq : (date_run.n s < s.size) = False := eq_false hlt
      go_wp2_with fail
      go_ret
      exact ⟨rfl, HA.out, HB.out⟩
theorem date_digits.c2 (k b : Nat) (s : ByteArray) (bad : Bool) (T : TypeId) (lo hi : Int) (w : World) (hA : Blk.At b #[.string s, .bool bad] T w) (r : Int × ByteArray × Bool) (h : date_digits.f k s bad 2 lo hi = some r) :
    Calls Tryd.prog 39 #[.pointer (some ⟨b, 0, none⟩), .int .i64 2, .int .i64 lo, .int .i64 hi] w fun e w' => e = .returned (.int .i64 r.1) ∧ Blk.At b #[.string r.2.1, .bool r.2.2] T w' ∧ Below b w w' := date_digits.calls k b s bad T 2 lo hi w hA r h
theorem date_digits.c3 (k b : Nat) (s : ByteArray) (bad : Bool) (T : TypeId) (lo hi : Int) (w : World) (hA : Blk.At b #[.string s, .bool bad] T w) (r : Int × ByteArray × Bool) (h : date_digits.f k s bad 3 lo hi = some r) :
    Calls Tryd.prog 39 #[.pointer (some ⟨b, 0, none⟩), .int .i64 3, .int .i64 lo, .int .i64 hi] w fun e w' => e = .returned (.int .i64 r.1) ∧ Blk.At b #[.string r.2.1, .bool r.2.2] T w' ∧ Below b w w' := date_digits.calls k b s bad T 3 lo hi w hA r h
theorem date_digits.c4 (k b : Nat) (s : ByteArray) (bad : Bool) (T : TypeId) (lo hi : Int) (w : World) (hA : Blk.At b #[.string s, .bool bad] T w) (r : Int × ByteArray × Bool) (h : date_digits.f k s bad 4 lo hi = some r) :
    Calls Tryd.prog 39 #[.pointer (some ⟨b, 0, none⟩), .int .i64 4, .int .i64 lo, .int .i64 hi] w fun e w' => e = .returned (.int .i64 r.1) ∧ Blk.At b #[.string r.2.1, .bool r.2.2] T w' ∧ Below b w w' := date_digits.calls k b s bad T 4 lo hi w hA r h
theorem date_run.whole (s : ByteArray) : s.extract 0 s.size = s := by
  first | exact ByteArray.extract_zero_size | simp
theorem date_run.bound {s : ByteArray} {q : Nat} (h : date_run.f s = some q) : q ≤ s.size := by
  unfold date_run.f at h
  split at h
  · obtain rfl := Option.some.inj h
    exact date_run.le s
  · cases h
set_option maxRecDepth 10000 in
theorem date_ahead.twelve (l0 l1 l2 l3 l4 l5 l6 l7 l8 l9 l10 l11 l12 : Int) (w : World) : Sem.run Tryd.prog (Instr.index 50 (.agg #[.int .i64 l0, .int .i64 l1, .int .i64 l2, .int .i64 l3, .int .i64 l4, .int .i64 l5, .int .i64 l6, .int .i64 l7, .int .i64 l8, .int .i64 l9, .int .i64 l10, .int .i64 l11, .int .i64 l12]) (.int .i64 12)) w = .ok (.int .i64 l12) w := by
  have hu := Tryd.underlying50
  simp [Instr.index, run_underlying hu, asIntOf, go_sem, part]
set_option maxHeartbeats 4000000 in
set_option maxRecDepth 100000 in
theorem date_day.calls (k b : Nat) (s : ByteArray) (bad : Bool) (T : TypeId) (w : World) (hA : Blk.At b #[.string s, .bool bad] T w) (r : Int × ByteArray × Bool) (h : date_day.f k s bad = some r) :
    Calls Tryd.prog 30 #[.pointer (some ⟨b, 0, none⟩)] w fun e w' => e = .returned (.int .i64 r.1) ∧ Blk.At b #[.string r.2.1, .bool r.2.2] T w' ∧ Below b w w' := by
  unfold date_day.f at h
  have HA0 := Aside0.mk hA
  have HB0 := Aside0.mk (Below.refl b w)
  clear hA
  obtain ⟨y, hY_, h⟩ := Option.bind_eq_some_iff.mp h
  have Y := Aside0.mk hY_
  clear hY_
  obtain ⟨a, hM1_, h⟩ := Option.bind_eq_some_iff.mp h
  have M1 := Aside0.mk hM1_
  clear hM1_
  obtain ⟨q, hQ_, h⟩ := Option.bind_eq_some_iff.mp h
  have Q := Aside0.mk hQ_
  clear hQ_
  go_enter Tryd.func30, Tryd.ntmps30
  go_wp2_with fail
  refine (date_digits.c4 k b s bad T 1 9999 _ HA0.out y Y.out).mono ?_
  rintro e w1 ⟨rfl, hA_, hB_⟩
  have HA1 := Aside0.mk hA_
  have HB1 := Aside0.mk (HB0.out.trans hB_)
  clear hA_ hB_ HA0 HB0
  go_wp2_with fail
  refine (date_must.calls b y.2.1 ⟨#[45]⟩ y.2.2 T _ HA1.out a M1.out).mono ?_
  rintro e w2 ⟨rfl, hA_, hB_⟩
  have HA2 := Aside0.mk hA_
  have HB2 := Aside0.mk (HB1.out.trans hB_)
  clear hA_ hB_ HA1 HB1
  go_wp2_with fail
  refine (date_run.calls b a.1 a.2 T _ HA2.out q Q.out).mono ?_
  rintro e w3 ⟨rfl, hA_, hB_⟩
  have HA3 := Aside0.mk hA_
  have HB3 := Aside0.mk (HB2.out.trans hB_)
  clear hA_ hB_ HA2 HB2
  by_cases e3 : (q : Int) = 3
  · rw [if_pos e3] at h
    obtain ⟨l, hL_, h⟩ := Option.bind_eq_some_iff.mp h
    have L := Aside0.mk hL_
    clear hL_
    obtain ⟨n, hN_, h⟩ := Option.bind_eq_some_iff.mp h
    have N := Aside0.mk hN_
    clear hN_
    obtain ⟨t, hTT_, h⟩ := Option.bind_eq_some_iff.mp h
    have TT := Aside0.mk hTT_
    clear hTT_
    obtain rfl := Option.some.inj h
    clear h
    have e3b : ((q : Int) == 3) = true := beq_iff_eq.2 e3
    obtain ⟨l0, l1, l2, l3, l4, l5, l6, l7, l8, l9, l10, l11, l12, rfl⟩ := date_ahead.shape L.out
    have N' := Aside0.mk (show date_digits.f k a.1 a.2 3 1 l12 = some n from N.out)
    clear N
    have IX := fun w' => date_ahead.twelve l0 l1 l2 l3 l4 l5 l6 l7 l8 l9 l10 l11 l12 w'
    go_wp2_with fail
    refine start_ (n := 8) (S := fun w' => True) (ds := []) #[false, false, false, false, false, false, false, false] (by kernel_rfl) rfl rfl trivial (fun hHeld => ?_)
    refine pure_ (i := 0) (N := some 21) (v := ?_) (a' := ?_) #[true, false, false, false, false, false, false, false] rfl rfl (by kernel_rfl) (fun _ _ _ h => h) (Or.inl ⟨by rfl, ?_⟩) ?_ ?_
    rotate_left
    · intro w'
      go_simp
      with_reducible rfl
    rotate_left
    · simp only [Act.put, List.setIfInBounds_toArray, List.set_cons_zero, List.set_cons_succ, i64_w, i32_w]
      rfl
    refine pure_ (i := 1) (N := some 22) (v := ?_) (a' := ?_) #[true, true, false, false, false, false, false, false] rfl rfl (by kernel_rfl) (fun _ _ _ h => h) (Or.inl ⟨by rfl, ?_⟩) ?_ ?_
    rotate_left
    · intro w'
      go_simp
      with_reducible rfl
    rotate_left
    · simp only [Act.put, List.setIfInBounds_toArray, List.set_cons_zero, List.set_cons_succ, i64_w, i32_w]
      rfl
    refine pure_ (i := 2) (N := some 23) (v := ?_) (a' := ?_) #[true, true, true, false, false, false, false, false] rfl rfl (by kernel_rfl) (fun _ _ _ h => h) (Or.inl ⟨by rfl, ?_⟩) ?_ ?_
    rotate_left
    · intro w'
      go_simp
      with_reducible rfl
    rotate_left
    · simp only [Act.put, List.setIfInBounds_toArray, List.set_cons_zero, List.set_cons_succ, i64_w, i32_w]
      rfl
    refine pure_ (i := 3) (N := some 24) (v := ?_) (a' := ?_) #[true, true, true, true, false, false, false, false] rfl rfl (by kernel_rfl) (fun _ _ _ h => h) (Or.inl ⟨by rfl, ?_⟩) ?_ ?_
    rotate_left
    · intro w'
      go_simp
      with_reducible rfl
    rotate_left
    · simp only [Act.put, List.setIfInBounds_toArray, List.set_cons_zero, List.set_cons_succ, i64_w, i32_w]
      rfl
    refine one_ (i := 4) (N := some 25) #[true, true, true, true, true, false, false, false] rfl rfl (by kernel_rfl) (by decide) (fun K hK => ?_)
    refine goes_ Tryd.func19 (by kernel_rfl) rfl #[.int .i64 y.1] (by rfl) rfl rfl (by simp only [List.map_toArray, List.map_cons, List.map_nil]; rfl) ?_
    with_reducible refine (date_ahead.calls y.1 _ _ L.out).mono ?_
    rintro e w4 ⟨rfl, hw⟩
    refine ⟨_, rfl, ?_⟩
    have HA4 := Aside0.mk (HA3.out.drew.below hw HA3.out.lt)
    have HB4 := Aside0.mk (HB3.out.drew.trans (hw.mono (Nat.le_of_lt HA3.out.lt)))
    clear hw
    refine hK.out _ _ trivial (fun hHeld => ?_)
    clear hK K
    refine norm_ (a' := ?_) ?_ ?_
    rotate_left
    · show Act.put _ (some 25) _ = _
      simp only [Act.put, List.setIfInBounds_toArray, List.set_cons_zero, List.set_cons_succ, i64_w, i32_w]
      rfl
    refine take_ (i := 5) (N := some 26) (v := ?_) (a' := ?_) #[true, true, true, true, true, true, false, false] rfl rfl (by kernel_rfl) (fun _ _ _ h => h) (Or.inl ⟨by rfl, ?_⟩) hHeld ?_ ?_
    rotate_left
    · intro w' _
      go_simp
      with_reducible rfl
    rotate_left
    · simp only [Act.put, List.setIfInBounds_toArray, List.set_cons_zero, List.set_cons_succ, i64_w, i32_w]
      rfl
    refine one_ (i := 6) (N := some 27) #[true, true, true, true, true, true, true, false] rfl rfl (by kernel_rfl) (by decide) (fun K hK => ?_)
    refine goes_ Tryd.func39 (by kernel_rfl) rfl #[.pointer (some ⟨b, 0, none⟩), .int .i64 3, .int .i64 1, .int .i64 l12] (by rfl) rfl rfl (by simp only [List.map_toArray, List.map_cons, List.map_nil]; rfl) ?_
    with_reducible refine (date_digits.c3 k b a.1 a.2 T 1 l12 _ HA4.out n N'.out).mono ?_
    rintro e w5 ⟨rfl, hA_, hB_⟩
    refine ⟨_, rfl, ?_⟩
    have HA5 := Aside0.mk hA_
    have HB5 := Aside0.mk (HB4.out.trans hB_)
    clear hA_ hB_
    refine hK.out _ _ trivial (fun hHeld => ?_)
    clear hK K
    refine norm_ (a' := ?_) ?_ ?_
    rotate_left
    · show Act.put _ (some 27) _ = _
      simp only [Act.put, List.setIfInBounds_toArray, List.set_cons_zero, List.set_cons_succ, i64_w, i32_w]
      rfl
    refine pure_ (i := 7) (N := some 4) (v := ?_) (a' := ?_) #[true, true, true, true, true, true, true, true] rfl rfl (by kernel_rfl) (fun _ _ _ h => h) (Or.inl ⟨by rfl, ?_⟩) ?_ ?_
    rotate_left
    · intro w'
      go_simp
      with_reducible rfl
    rotate_left
    · simp only [Act.put, List.setIfInBounds_toArray, List.set_cons_zero, List.set_cons_succ, i64_w, i32_w]
      rfl
    refine done_ (by kernel_rfl) ?_
    go_wp2_with fail
    refine (date_begin.calls y.1 t _ TT.out).mono ?_
    rintro e w6 ⟨rfl, hw⟩
    have HA6 := Aside0.mk (HA5.out.below hw.below HA5.out.lt)
    have HB6 := Aside0.mk (HB5.out.trans ((hw.below).mono (Nat.le_of_lt HA5.out.lt)))
    clear hw HA5 HB5
    go_wp2_with fail
    go_ret
    exact ⟨rfl, HA6.out, HB6.out⟩
  · rw [if_neg e3] at h
    obtain ⟨m, hM_, h⟩ := Option.bind_eq_some_iff.mp h
    have M := Aside0.mk hM_
    clear hM_
    obtain ⟨c, hC_, h⟩ := Option.bind_eq_some_iff.mp h
    have C := Aside0.mk hC_
    clear hC_
    obtain ⟨d, hDD_, h⟩ := Option.bind_eq_some_iff.mp h
    have DD := Aside0.mk hDD_
    clear hDD_
    obtain ⟨n, hNN_, h⟩ := Option.bind_eq_some_iff.mp h
    have NN := Aside0.mk hNN_
    clear hNN_
    obtain rfl := Option.some.inj h
    clear h
    have e3b : ((q : Int) == 3) = false := beq_eq_false_iff_ne.2 e3
    obtain ⟨n1, n2⟩ := n
    go_wp2_with fail
    refine (date_digits.c2 k b a.1 a.2 T 1 12 _ HA3.out m M.out).mono ?_
    rintro e w4 ⟨rfl, hA_, hB_⟩
    have HA4 := Aside0.mk hA_
    have HB4 := Aside0.mk (HB3.out.trans hB_)
    clear hA_ hB_ HA3 HB3
    go_wp2_with fail
    refine (date_must.calls b m.2.1 ⟨#[45]⟩ m.2.2 T _ HA4.out c C.out).mono ?_
    rintro e w5 ⟨rfl, hA_, hB_⟩
    have HA5 := Aside0.mk hA_
    have HB5 := Aside0.mk (HB4.out.trans hB_)
    clear hA_ hB_ HA4 HB4
    go_wp2_with fail
    refine (date_digits.c2 k b c.1 c.2 T 1 31 _ HA5.out d DD.out).mono ?_
    rintro e w6 ⟨rfl, hA_, hB_⟩
    have HA6 := Aside0.mk hA_
    have HB6 := Aside0.mk (HB5.out.trans hB_)
    clear hA_ hB_ HA5 HB5
    go_wp2_with fail
    refine (date_Days.calls y.1 m.1 d.1 n1 n2 _ NN.out).mono ?_
    rintro e w7 ⟨rfl, hw⟩
    have HA7 := Aside0.mk (HA6.out.below hw HA6.out.lt)
    have HB7 := Aside0.mk (HB6.out.trans ((hw).mono (Nat.le_of_lt HA6.out.lt)))
    clear hw HA6 HB6
    obtain ⟨d1, d2, d3⟩ := d
    have c0 : w7.cell? ⟨b, 0, none⟩ = some (.string _) := HA7.out.cell 0
    have c1 : w7.cell? ⟨b, 1, none⟩ = some (.bool _) := HA7.out.cell 1
    have f0 : w7.frozen? ⟨b, 0, none⟩ = false := HA7.out.frozen 0
    have f1 : w7.frozen? ⟨b, 1, none⟩ = false := HA7.out.frozen 1
    cases d3
    · by_cases e4 : n2 = 0
      · subst e4
        go_wp2_with fail
        go_ret
        refine ⟨rfl, ?_, Blk.below_self HB7.out⟩
        exact HA7.out.set 1 _
      · have e4b : (n2 != 0) = true := by simpa using e4
        have e4c : (n2 == 0) = false := by simpa using e4
        have e4d : decide (n2 ≠ 0) = true := decide_eq_true e4
        go_wp2_with fail
        go_ret
        refine ⟨rfl, ?_, Blk.below_self HB7.out⟩
        exact HA7.out.set 1 _
    · go_wp2_with fail
      go_ret
      exact ⟨rfl, HA7.out.set 1 _, Blk.below_self HB7.out⟩
set_option maxHeartbeats 4000000 in
set_option maxRecDepth 100000 in
theorem date_time.calls (k b : Nat) (s : ByteArray) (bad : Bool) (T : TypeId) (w : World) (hA : Blk.At b #[.string s, .bool bad] T w) (r : Int × ByteArray × Bool) (h : date_time.f k s bad = some r) :
    Calls Tryd.prog 33 #[.pointer (some ⟨b, 0, none⟩)] w fun e w' => e = .returned (.int .i64 r.1) ∧ Blk.At b #[.string r.2.1, .bool r.2.2] T w' ∧ Below b w w' := by
  unfold date_time.f at h
  have HA0 := Aside0.mk hA
  have HB0 := Aside0.mk (Below.refl b w)
  clear hA
  obtain ⟨y, hY_, h⟩ := Option.bind_eq_some_iff.mp h
  have Y := Aside0.mk hY_
  clear hY_
  obtain ⟨a, hM1_, h⟩ := Option.bind_eq_some_iff.mp h
  have M1 := Aside0.mk hM1_
  clear hM1_
  obtain ⟨m, hMM_, h⟩ := Option.bind_eq_some_iff.mp h
  have MM := Aside0.mk hMM_
  clear hMM_
  obtain ⟨c, hC_, h⟩ := Option.bind_eq_some_iff.mp h
  have C := Aside0.mk hC_
  clear hC_
  obtain ⟨m1, m2, m3⟩ := m
  obtain ⟨cc, c2⟩ := c
  simp only [] at h
  go_enter Tryd.func33, Tryd.ntmps33
  go_wp2_with fail
  refine (date_digits.c2 k b s bad T 0 23 _ HA0.out y Y.out).mono ?_
  rintro e w1 ⟨rfl, hA_, hB_⟩
  have HA1 := Aside0.mk hA_
  have HB1 := Aside0.mk (HB0.out.trans hB_)
  clear hA_ hB_ HA0 HB0
  go_wp2_with fail
  refine (date_must.calls b y.2.1 ⟨#[58]⟩ y.2.2 T _ HA1.out a M1.out).mono ?_
  rintro e w2 ⟨rfl, hA_, hB_⟩
  have HA2 := Aside0.mk hA_
  have HB2 := Aside0.mk (HB1.out.trans hB_)
  clear hA_ hB_ HA1 HB1
  go_wp2_with fail
  refine (date_digits.c2 k b a.1 a.2 T 0 59 _ HA2.out _ MM.out).mono ?_
  rintro e w3 ⟨rfl, hA_, hB_⟩
  have HA3 := Aside0.mk hA_
  have HB3 := Aside0.mk (HB2.out.trans hB_)
  clear hA_ hB_ HA2 HB2
  go_wp2_with fail
  refine (date_has.calls b m2 ⟨#[58]⟩ m3 T _ HA3.out _ C.out).mono ?_
  rintro e w4 ⟨rfl, hA_, hB_⟩
  have HA4 := Aside0.mk hA_
  have HB4 := Aside0.mk (HB3.out.trans hB_)
  clear hA_ hB_ HA3 HB3
  cases cc
  · rw [if_neg (by simp)] at h
    cases m3
    · rw [if_neg (by simp)] at h
      obtain ⟨p, hPP_, h⟩ := Option.bind_eq_some_iff.mp h
      have PP := Aside0.mk hPP_
      clear hPP_
      obtain rfl := Option.some.inj h
      clear h
      have c0 : w4.cell? ⟨b, 0, none⟩ = some (.string _) := HA4.out.cell 0
      have c1 : w4.cell? ⟨b, 1, none⟩ = some (.bool _) := HA4.out.cell 1
      have f0 : w4.frozen? ⟨b, 0, none⟩ = false := HA4.out.frozen 0
      have f1 : w4.frozen? ⟨b, 1, none⟩ = false := HA4.out.frozen 1
      go_wp2_with fail
      refine (strings_HasPrefix.calls c2 ⟨#[46]⟩ p _ PP.out).mono ?_
      rintro e w5 ⟨rfl, hw⟩
      have HA5 := Aside0.mk (HA4.out.below hw.below HA4.out.lt)
      have HB5 := Aside0.mk (HB4.out.trans (hw.below.mono (Nat.le_of_lt HA4.out.lt)))
      clear hw HA4 HB4 c0 c1 f0 f1
      have c0 : w5.cell? ⟨b, 0, none⟩ = some (.string _) := HA5.out.cell 0
      have c1 : w5.cell? ⟨b, 1, none⟩ = some (.bool _) := HA5.out.cell 1
      have f0 : w5.frozen? ⟨b, 0, none⟩ = false := HA5.out.frozen 0
      have f1 : w5.frozen? ⟨b, 1, none⟩ = false := HA5.out.frozen 1
      go_wp2_with fail
      go_ret
      exact ⟨rfl, HA5.out.set 1 _, Blk.below_self HB5.out⟩
    · rw [if_pos rfl] at h
      obtain rfl := Option.some.inj h
      clear h
      have c0 : w4.cell? ⟨b, 0, none⟩ = some (.string _) := HA4.out.cell 0
      have c1 : w4.cell? ⟨b, 1, none⟩ = some (.bool _) := HA4.out.cell 1
      have f0 : w4.frozen? ⟨b, 0, none⟩ = false := HA4.out.frozen 0
      have f1 : w4.frozen? ⟨b, 1, none⟩ = false := HA4.out.frozen 1
      go_wp2_with fail
      go_ret
      exact ⟨rfl, HA4.out.set 1 _, Blk.below_self HB4.out⟩
  · rw [if_pos rfl] at h
    obtain ⟨⟨x1, x2, x3⟩, hX_, h⟩ := Option.bind_eq_some_iff.mp h
    have X := Aside0.mk hX_
    clear hX_
    obtain ⟨⟨d1, d2⟩, hDD_, h⟩ := Option.bind_eq_some_iff.mp h
    have DD := Aside0.mk hDD_
    clear hDD_
    simp only [] at h
    by_cases hx : 59 < x1
    · have hx1 : (59 < x1) = True := eq_true hx
      have hm : mn x1 59 = 59 := by unfold mn; split <;> omega
      simp only [hm] at h
      go_wp2_with fail
      refine (date_digits.c2 k b c2 m3 T 0 60 _ HA4.out _ X.out).mono ?_
      rintro e w5 ⟨rfl, hA_, hB_⟩
      have HA5 := Aside0.mk hA_
      have HB5 := Aside0.mk (HB4.out.trans hB_)
      clear hA_ hB_ HA4 HB4
      go_wp2_with fail
      refine (date_has.calls b x2 ⟨#[46]⟩ x3 T _ HA5.out _ DD.out).mono ?_
      rintro e w6 ⟨rfl, hA_, hB_⟩
      have HA6 := Aside0.mk hA_
      have HB6 := Aside0.mk (HB5.out.trans hB_)
      clear hA_ hB_ HA5 HB5
      cases d1
      · rw [if_neg (by simp)] at h
        obtain rfl := Option.some.inj h
        clear h
        go_wp2_with fail
        go_ret
        exact ⟨rfl, HA6.out, HB6.out⟩
      · rw [if_pos rfl] at h
        obtain ⟨q, hQ_, h⟩ := Option.bind_eq_some_iff.mp h
        have Q := Aside0.mk hQ_
        clear hQ_
        obtain rfl := Option.some.inj h
        clear h
        have HQ := date_run.bound Q.out
        have hq1 : ((q : Int) ≤ (d2.size : Int)) = True := eq_true (by omega)
        have hq2 : (q ≤ d2.size) = True := eq_true HQ
        go_wp2_with fail
        refine (date_run.calls b d2 x3 T _ HA6.out q Q.out).mono ?_
        rintro e w7 ⟨rfl, hA_, hB_⟩
        have HA7 := Aside0.mk hA_
        have HB7 := Aside0.mk (HB6.out.trans hB_)
        clear hA_ hB_ HA6 HB6
        have c0 : w7.cell? ⟨b, 0, none⟩ = some (.string _) := HA7.out.cell 0
        have c1 : w7.cell? ⟨b, 1, none⟩ = some (.bool _) := HA7.out.cell 1
        have f0 : w7.frozen? ⟨b, 0, none⟩ = false := HA7.out.frozen 0
        have f1 : w7.frozen? ⟨b, 1, none⟩ = false := HA7.out.frozen 1
        cases x3
        · skip
          by_cases e0 : (q : Int) = 0
          · have e1 : ((q : Int) == 0) = true := beq_iff_eq.2 e0
            have e2 : decide ((q : Int) = 0) = true := decide_eq_true e0
            have hz : d2.extract 0 d2.size = d2 := date_run.whole d2
            obtain rfl : q = 0 := by omega
            go_wp2_with fail
            go_ret
            refine ⟨rfl, ?_, Blk.below_self (Blk.below_self HB7.out)⟩
            exact (HA7.out.set 1 _).set 0 _
          · have e1 : ((q : Int) == 0) = false := beq_eq_false_iff_ne.2 e0
            have e2 : decide ((q : Int) = 0) = false := decide_eq_false e0
            have e3 : decide (q = 0) = false := decide_eq_false (by omega)
            go_wp2_with fail
            go_ret
            refine ⟨rfl, ?_, Blk.below_self (Blk.below_self HB7.out)⟩
            exact (HA7.out.set 1 _).set 0 _
        · skip
          go_wp2_with fail
          go_ret
          exact ⟨rfl, (HA7.out.set 1 _).set 0 _, Blk.below_self (Blk.below_self HB7.out)⟩
    · have hx1 : (59 < x1) = False := eq_false hx
      have hm : mn x1 59 = x1 := by unfold mn; split <;> omega
      simp only [hm] at h
      go_wp2_with fail
      refine (date_digits.c2 k b c2 m3 T 0 60 _ HA4.out _ X.out).mono ?_
      rintro e w5 ⟨rfl, hA_, hB_⟩
      have HA5 := Aside0.mk hA_
      have HB5 := Aside0.mk (HB4.out.trans hB_)
      clear hA_ hB_ HA4 HB4
      go_wp2_with fail
      refine (date_has.calls b x2 ⟨#[46]⟩ x3 T _ HA5.out _ DD.out).mono ?_
      rintro e w6 ⟨rfl, hA_, hB_⟩
      have HA6 := Aside0.mk hA_
      have HB6 := Aside0.mk (HB5.out.trans hB_)
      clear hA_ hB_ HA5 HB5
      cases d1
      · rw [if_neg (by simp)] at h
        obtain rfl := Option.some.inj h
        clear h
        go_wp2_with fail
        go_ret
        exact ⟨rfl, HA6.out, HB6.out⟩
      · rw [if_pos rfl] at h
        obtain ⟨q, hQ_, h⟩ := Option.bind_eq_some_iff.mp h
        have Q := Aside0.mk hQ_
        clear hQ_
        obtain rfl := Option.some.inj h
        clear h
        have HQ := date_run.bound Q.out
        have hq1 : ((q : Int) ≤ (d2.size : Int)) = True := eq_true (by omega)
        have hq2 : (q ≤ d2.size) = True := eq_true HQ
        go_wp2_with fail
        refine (date_run.calls b d2 x3 T _ HA6.out q Q.out).mono ?_
        rintro e w7 ⟨rfl, hA_, hB_⟩
        have HA7 := Aside0.mk hA_
        have HB7 := Aside0.mk (HB6.out.trans hB_)
        clear hA_ hB_ HA6 HB6
        have c0 : w7.cell? ⟨b, 0, none⟩ = some (.string _) := HA7.out.cell 0
        have c1 : w7.cell? ⟨b, 1, none⟩ = some (.bool _) := HA7.out.cell 1
        have f0 : w7.frozen? ⟨b, 0, none⟩ = false := HA7.out.frozen 0
        have f1 : w7.frozen? ⟨b, 1, none⟩ = false := HA7.out.frozen 1
        cases x3
        · skip
          by_cases e0 : (q : Int) = 0
          · have e1 : ((q : Int) == 0) = true := beq_iff_eq.2 e0
            have e2 : decide ((q : Int) = 0) = true := decide_eq_true e0
            have hz : d2.extract 0 d2.size = d2 := date_run.whole d2
            obtain rfl : q = 0 := by omega
            go_wp2_with fail
            go_ret
            refine ⟨rfl, ?_, Blk.below_self (Blk.below_self HB7.out)⟩
            exact (HA7.out.set 1 _).set 0 _
          · have e1 : ((q : Int) == 0) = false := beq_eq_false_iff_ne.2 e0
            have e2 : decide ((q : Int) = 0) = false := decide_eq_false e0
            have e3 : decide (q = 0) = false := decide_eq_false (by omega)
            go_wp2_with fail
            go_ret
            refine ⟨rfl, ?_, Blk.below_self (Blk.below_self HB7.out)⟩
            exact (HA7.out.set 1 _).set 0 _
        · skip
          go_wp2_with fail
          go_ret
          exact ⟨rfl, (HA7.out.set 1 _).set 0 _, Blk.below_self (Blk.below_self HB7.out)⟩
set_option maxHeartbeats 4000000 in
set_option maxRecDepth 100000 in
theorem date_zone.calls (k b : Nat) (s : ByteArray) (bad : Bool) (T : TypeId) (w : World) (hA : Blk.At b #[.string s, .bool bad] T w) (r : Int × ByteArray × Bool) (h : date_zone.f k s bad = some r) :
    Calls Tryd.prog 34 #[.pointer (some ⟨b, 0, none⟩)] w fun e w' => e = .returned (.int .i64 r.1) ∧ Blk.At b #[.string r.2.1, .bool r.2.2] T w' ∧ Below b w w' := by
  unfold date_zone.f at h
  have HA0 := Aside0.mk hA
  have HB0 := Aside0.mk (Below.refl b w)
  clear hA
  obtain ⟨⟨z1, z2⟩, hZ_, h⟩ := Option.bind_eq_some_iff.mp h
  have Z := Aside0.mk hZ_
  clear hZ_
  simp only [] at h
  go_enter Tryd.func34, Tryd.ntmps34
  go_wp2_with fail
  refine (date_has.calls b s ⟨#[122]⟩ bad T _ HA0.out _ Z.out).mono ?_
  rintro e w1 ⟨rfl, hA_, hB_⟩
  have HA1 := Aside0.mk hA_
  have HB1 := Aside0.mk (HB0.out.trans hB_)
  clear hA_ hB_ HA0 HB0
  cases z1
  · rw [if_neg (by simp)] at h
    obtain ⟨⟨a1, a2⟩, hA1_, h⟩ := Option.bind_eq_some_iff.mp h
    have A1 := Aside0.mk hA1_
    clear hA1_
    simp only [] at h
    go_wp2_with fail
    refine (date_has.calls b z2 ⟨#[45]⟩ bad T _ HA1.out _ A1.out).mono ?_
    rintro e w2 ⟨rfl, hA_, hB_⟩
    have HA2 := Aside0.mk hA_
    have HB2 := Aside0.mk (HB1.out.trans hB_)
    clear hA_ hB_ HA1 HB1
    cases a1
    · rw [if_neg (by simp)] at h
      obtain ⟨⟨p1, p2⟩, hC1_, h⟩ := Option.bind_eq_some_iff.mp h
      have C1 := Aside0.mk hC1_
      clear hC1_
      simp only [] at h
      go_wp2_with fail
      refine (date_must.calls b a2 ⟨#[43]⟩ bad T _ HA2.out _ C1.out).mono ?_
      rintro e w3 ⟨rfl, hA_, hB_⟩
      have HA3 := Aside0.mk hA_
      have HB3 := Aside0.mk (HB2.out.trans hB_)
      clear hA_ hB_ HA2 HB2
      unfold date_zone.g at h
      obtain ⟨⟨h1, h2, h3⟩, hH1_, h⟩ := Option.bind_eq_some_iff.mp h
      have H1 := Aside0.mk hH1_
      clear hH1_
      obtain ⟨⟨c1_, c2⟩, hC_, h⟩ := Option.bind_eq_some_iff.mp h
      have C := Aside0.mk hC_
      clear hC_
      simp only [] at h
      go_wp2_with fail
      refine (date_digits.c2 k b p1 p2 T 0 14 _ HA3.out _ H1.out).mono ?_
      rintro e w4 ⟨rfl, hA_, hB_⟩
      have HA4 := Aside0.mk hA_
      have HB4 := Aside0.mk (HB3.out.trans hB_)
      clear hA_ hB_ HA3 HB3
      go_wp2_with fail
      refine (date_has.calls b h2 ⟨#[58]⟩ h3 T _ HA4.out _ C.out).mono ?_
      rintro e w5 ⟨rfl, hA_, hB_⟩
      have HA5 := Aside0.mk hA_
      have HB5 := Aside0.mk (HB4.out.trans hB_)
      clear hA_ hB_ HA4 HB4
      cases c1_
      · by_cases ee : c2.toList = ([] : List UInt8)
        · rw [if_neg (by simp [ee])] at h
          obtain rfl := Option.some.inj h
          clear h
          have ee1 : (c2.toList != ([] : List UInt8)) = false := by simp [ee]
          have ee2 : (c2.toList == ([] : List UInt8)) = true := by simp [ee]
          have c0 : w5.cell? ⟨b, 0, none⟩ = some (.string _) := HA5.out.cell 0
          have c1 : w5.cell? ⟨b, 1, none⟩ = some (.bool _) := HA5.out.cell 1
          have f0 : w5.frozen? ⟨b, 0, none⟩ = false := HA5.out.frozen 0
          have f1 : w5.frozen? ⟨b, 1, none⟩ = false := HA5.out.frozen 1
          go_wp2_with fail
          go_ret
          exact ⟨rfl, HA5.out, HB5.out⟩
        · rw [if_pos (by simp [ee])] at h
          have ee1 : (c2.toList != ([] : List UInt8)) = true := by simp [ee]
          have ee2 : (c2.toList == ([] : List UInt8)) = false := by simp [ee]
          obtain ⟨m, hM2_, h⟩ := Option.bind_eq_some_iff.mp h
          have M2 := Aside0.mk hM2_
          clear hM2_
          obtain rfl := Option.some.inj h
          clear h
          have c0 : w5.cell? ⟨b, 0, none⟩ = some (.string _) := HA5.out.cell 0
          have c1 : w5.cell? ⟨b, 1, none⟩ = some (.bool _) := HA5.out.cell 1
          have f0 : w5.frozen? ⟨b, 0, none⟩ = false := HA5.out.frozen 0
          have f1 : w5.frozen? ⟨b, 1, none⟩ = false := HA5.out.frozen 1
          go_wp2_with fail
          refine (date_digits.c2 k b c2 h3 T 0 59 _ HA5.out m M2.out).mono ?_
          rintro e w6 ⟨rfl, hA_, hB_⟩
          have HA6 := Aside0.mk hA_
          have HB6 := Aside0.mk (HB5.out.trans hB_)
          clear hA_ hB_ HA5 HB5
          go_wp2_with fail
          go_ret
          exact ⟨rfl, HA6.out, HB6.out⟩
      · rw [if_pos (by simp)] at h
        obtain ⟨m, hM2_, h⟩ := Option.bind_eq_some_iff.mp h
        have M2 := Aside0.mk hM2_
        clear hM2_
        obtain rfl := Option.some.inj h
        clear h
        have c0 : w5.cell? ⟨b, 0, none⟩ = some (.string _) := HA5.out.cell 0
        have c1 : w5.cell? ⟨b, 1, none⟩ = some (.bool _) := HA5.out.cell 1
        have f0 : w5.frozen? ⟨b, 0, none⟩ = false := HA5.out.frozen 0
        have f1 : w5.frozen? ⟨b, 1, none⟩ = false := HA5.out.frozen 1
        go_wp2_with fail
        refine (date_digits.c2 k b c2 h3 T 0 59 _ HA5.out m M2.out).mono ?_
        rintro e w6 ⟨rfl, hA_, hB_⟩
        have HA6 := Aside0.mk hA_
        have HB6 := Aside0.mk (HB5.out.trans hB_)
        clear hA_ hB_ HA5 HB5
        go_wp2_with fail
        go_ret
        exact ⟨rfl, HA6.out, HB6.out⟩
    · rw [if_pos rfl] at h
      unfold date_zone.g at h
      obtain ⟨⟨h1, h2, h3⟩, hH1_, h⟩ := Option.bind_eq_some_iff.mp h
      have H1 := Aside0.mk hH1_
      clear hH1_
      obtain ⟨⟨c1_, c2⟩, hC_, h⟩ := Option.bind_eq_some_iff.mp h
      have C := Aside0.mk hC_
      clear hC_
      simp only [] at h
      go_wp2_with fail
      refine (date_digits.c2 k b a2 bad T 0 14 _ HA2.out _ H1.out).mono ?_
      rintro e w3 ⟨rfl, hA_, hB_⟩
      have HA3 := Aside0.mk hA_
      have HB3 := Aside0.mk (HB2.out.trans hB_)
      clear hA_ hB_ HA2 HB2
      go_wp2_with fail
      refine (date_has.calls b h2 ⟨#[58]⟩ h3 T _ HA3.out _ C.out).mono ?_
      rintro e w4 ⟨rfl, hA_, hB_⟩
      have HA4 := Aside0.mk hA_
      have HB4 := Aside0.mk (HB3.out.trans hB_)
      clear hA_ hB_ HA3 HB3
      cases c1_
      · by_cases ee : c2.toList = ([] : List UInt8)
        · rw [if_neg (by simp [ee])] at h
          obtain rfl := Option.some.inj h
          clear h
          have ee1 : (c2.toList != ([] : List UInt8)) = false := by simp [ee]
          have ee2 : (c2.toList == ([] : List UInt8)) = true := by simp [ee]
          have c0 : w4.cell? ⟨b, 0, none⟩ = some (.string _) := HA4.out.cell 0
          have c1 : w4.cell? ⟨b, 1, none⟩ = some (.bool _) := HA4.out.cell 1
          have f0 : w4.frozen? ⟨b, 0, none⟩ = false := HA4.out.frozen 0
          have f1 : w4.frozen? ⟨b, 1, none⟩ = false := HA4.out.frozen 1
          go_wp2_with fail
          go_ret
          exact ⟨rfl, HA4.out, HB4.out⟩
        · rw [if_pos (by simp [ee])] at h
          have ee1 : (c2.toList != ([] : List UInt8)) = true := by simp [ee]
          have ee2 : (c2.toList == ([] : List UInt8)) = false := by simp [ee]
          obtain ⟨m, hM2_, h⟩ := Option.bind_eq_some_iff.mp h
          have M2 := Aside0.mk hM2_
          clear hM2_
          obtain rfl := Option.some.inj h
          clear h
          have c0 : w4.cell? ⟨b, 0, none⟩ = some (.string _) := HA4.out.cell 0
          have c1 : w4.cell? ⟨b, 1, none⟩ = some (.bool _) := HA4.out.cell 1
          have f0 : w4.frozen? ⟨b, 0, none⟩ = false := HA4.out.frozen 0
          have f1 : w4.frozen? ⟨b, 1, none⟩ = false := HA4.out.frozen 1
          go_wp2_with fail
          refine (date_digits.c2 k b c2 h3 T 0 59 _ HA4.out m M2.out).mono ?_
          rintro e w5 ⟨rfl, hA_, hB_⟩
          have HA5 := Aside0.mk hA_
          have HB5 := Aside0.mk (HB4.out.trans hB_)
          clear hA_ hB_ HA4 HB4
          go_wp2_with fail
          go_ret
          exact ⟨rfl, HA5.out, HB5.out⟩
      · rw [if_pos (by simp)] at h
        obtain ⟨m, hM2_, h⟩ := Option.bind_eq_some_iff.mp h
        have M2 := Aside0.mk hM2_
        clear hM2_
        obtain rfl := Option.some.inj h
        clear h
        have c0 : w4.cell? ⟨b, 0, none⟩ = some (.string _) := HA4.out.cell 0
        have c1 : w4.cell? ⟨b, 1, none⟩ = some (.bool _) := HA4.out.cell 1
        have f0 : w4.frozen? ⟨b, 0, none⟩ = false := HA4.out.frozen 0
        have f1 : w4.frozen? ⟨b, 1, none⟩ = false := HA4.out.frozen 1
        go_wp2_with fail
        refine (date_digits.c2 k b c2 h3 T 0 59 _ HA4.out m M2.out).mono ?_
        rintro e w5 ⟨rfl, hA_, hB_⟩
        have HA5 := Aside0.mk hA_
        have HB5 := Aside0.mk (HB4.out.trans hB_)
        clear hA_ hB_ HA4 HB4
        go_wp2_with fail
        go_ret
        exact ⟨rfl, HA5.out, HB5.out⟩
  · rw [if_pos rfl] at h
    obtain rfl := Option.some.inj h
    clear h
    go_wp2_with fail
    go_ret
    exact ⟨rfl, HA1.out, HB1.out⟩

def date_Zone.f (k : Nat) (s : ByteArray) : Option (Int × Int) := (date_zone.f k s false).bind fun z => some (if z.2.2 = true then (0, 3) else if z.2.1.toList = ([] : List UInt8) then (z.1, 0) else (0, 3))
set_option maxHeartbeats 4000000 in
set_option maxRecDepth 100000 in
theorem date_Zone.of (k : Nat) (s : ByteArray) (r : Int × Int) (w : World) (h : date_Zone.f k s = some r) :
    Calls Tryd.prog 35 #[.string s, .func (.func 34) #[] #[]] w fun e w' => e = .returned (.tuple #[.int .i64 r.1, .int .i64 r.2]) ∧ Below w.heap.size w w' := by
  unfold date_Zone.f at h
  obtain ⟨⟨z1, z2, z3⟩, hZ_, h⟩ := Option.bind_eq_some_iff.mp h
  have Z := Aside0.mk hZ_
  clear hZ_
  simp only [] at h
  have HA1 := Aside0.mk (Blk.At.new w #[.string s, .bool false] 65)
  have HB1 := Aside0.mk (below_alloc (Below.refl _ w) (.cells #[.string s, .bool false] 65))
  go_enter Tryd.func35, Tryd.ntmps35
  go_wp2_with fail
  refine (date_zone.calls k w.heap.size s false 65 _ HA1.out _ Z.out).mono ?_
  rintro e w2 ⟨rfl, hA_, hB_⟩
  have HA2 := Aside0.mk hA_
  have HB2 := Aside0.mk (HB1.out.trans hB_)
  clear hA_ hB_ HA1 HB1
  have c0 : w2.cell? ⟨w.heap.size, 0, none⟩ = some (.string z2) := HA2.out.cell 0
  have c1 : w2.cell? ⟨w.heap.size, 1, none⟩ = some (.bool z3) := HA2.out.cell 1
  cases z3
  · rw [if_neg (by simp)] at h
    by_cases ee : z2.toList = ([] : List UInt8)
    · rw [if_pos ee] at h
      obtain rfl := Option.some.inj h
      clear h
      have ee1 : (z2.toList != ([] : List UInt8)) = false := by simp [ee]
      have ee2 : (z2.toList == ([] : List UInt8)) = true := by simp [ee]
      go_wp2_with fail
      go_ret2
      exact ⟨rfl, HB2.out⟩
    · rw [if_neg ee] at h
      obtain rfl := Option.some.inj h
      clear h
      have ee1 : (z2.toList != ([] : List UInt8)) = true := by simp [ee]
      have ee2 : (z2.toList == ([] : List UInt8)) = false := by simp [ee]
      go_wp2_with fail
      go_ret2
      exact ⟨rfl, HB2.out⟩
  · rw [if_pos rfl] at h
    obtain rfl := Option.some.inj h
    clear h
    go_wp2_with fail
    go_ret2
    exact ⟨rfl, HB2.out⟩
set_option maxHeartbeats 4000000 in
set_option maxRecDepth 100000 in
theorem date_Zone.calls (k : Nat) (s : ByteArray) (r1 r2 : Int) (w : World) (h : date_Zone.f k s = some (r1, r2)) :
    Calls Tryd.prog 18 #[.string s] w fun e w' => e = .returned (.tuple #[.int .i64 r1, .int .i64 r2]) ∧ Below w.heap.size w w' := by
  have H := Aside0.mk h
  clear h
  go_enter Tryd.func18, Tryd.ntmps18
  go_wp2_with fail
  refine (date_Zone.of k s _ _ H.out).mono ?_
  rintro e w1 ⟨rfl, hw⟩
  go_wp2_with fail
  go_ret2
  exact ⟨rfl, hw⟩
set_option maxHeartbeats 4000000 in
set_option maxRecDepth 100000 in
theorem date_Parse_1.calls (k b g : Nat) (s : ByteArray) (x : Int) (T : TypeId) (w : World) (hA : Blk.At b #[.string s, .bool false] T w) (hG : Blk.At g #[.int .i64 x, .bool false, .bool false] 40 w) (hgb : g < b) (r : Int × ByteArray × Bool × Bool × Bool) (h : date_Parse_1.f k s = some r) :
    Calls Tryd.prog 29 #[.pointer (some ⟨b, 0, none⟩), .pointer (some ⟨g, 0, none⟩)] w fun e w' => e = .returned (.int .i64 r.1) ∧ Blk.At b #[.string r.2.1, .bool r.2.2.1] T w' ∧ Blk.At g #[.int .i64 x, .bool r.2.2.2.1, .bool r.2.2.2.2] 40 w' ∧ Below g w w' := by
  unfold date_Parse_1.f at h
  have HA0 := Aside0.mk hA
  have HG0 := Aside0.mk hG
  have HGB := Aside0.mk hgb
  have HB0 := Aside0.mk (Below.refl g w)
  clear hA hG hgb
  obtain ⟨⟨d1, d2, d3⟩, hDY_, h⟩ := Option.bind_eq_some_iff.mp h
  have DY := Aside0.mk hDY_
  clear hDY_
  simp only [] at h
  go_enter Tryd.func29, Tryd.ntmps29
  go_wp2_with fail
  refine (date_day.calls k b s false T _ HA0.out _ DY.out).mono ?_
  rintro e w1 ⟨rfl, hA_, hB_⟩
  have HA1 := Aside0.mk hA_
  have HG1 := Aside0.mk (HG0.out.below hB_ HGB.out)
  have HB1 := Aside0.mk (HB0.out.trans (hB_.mono (Nat.le_of_lt HGB.out)))
  clear hA_ hB_ HA0 HB0 HG0
  have c0 : w1.cell? ⟨b, 0, none⟩ = some (.string _) := HA1.out.cell 0
  have c1 : w1.cell? ⟨b, 1, none⟩ = some (.bool _) := HA1.out.cell 1
  have f0 : w1.frozen? ⟨b, 0, none⟩ = false := HA1.out.frozen 0
  have f1 : w1.frozen? ⟨b, 1, none⟩ = false := HA1.out.frozen 1
  have g1 : w1.frozen? ⟨g, 1, none⟩ = false := HG1.out.frozen 1
  have g2 : w1.frozen? ⟨g, 2, none⟩ = false := HG1.out.frozen 2
  have k1 : w1.cell? ⟨g, 1, none⟩ = some (.bool _) := HG1.out.cell 1
  have k2 : w1.cell? ⟨g, 2, none⟩ = some (.bool _) := HG1.out.cell 2
  by_cases ee : d2.toList = ([] : List UInt8)
  · rw [if_pos ee] at h
    obtain rfl := Option.some.inj h
    clear h
    have ee1 : (d2.toList != ([] : List UInt8)) = false := by simp [ee]
    have ee2 : (d2.toList == ([] : List UInt8)) = true := by simp [ee]
    go_wp2_with fail
    go_ret
    exact ⟨rfl, HA1.out, HG1.out, HB1.out⟩
  · rw [if_neg ee] at h
    have ee1 : (d2.toList != ([] : List UInt8)) = true := by simp [ee]
    have ee2 : (d2.toList == ([] : List UInt8)) = false := by simp [ee]
    obtain ⟨⟨t1, t2⟩, hTT_, h⟩ := Option.bind_eq_some_iff.mp h
    have TT := Aside0.mk hTT_
    clear hTT_
    simp only [] at h
    go_wp2_with fail
    refine (date_has.calls b d2 ⟨#[116]⟩ d3 T _ HA1.out _ TT.out).mono ?_
    rintro e w2 ⟨rfl, hA_, hB_⟩
    have HA2 := Aside0.mk hA_
    have HG2 := Aside0.mk (HG1.out.below hB_ HGB.out)
    have HB2 := Aside0.mk (HB1.out.trans (hB_.mono (Nat.le_of_lt HGB.out)))
    clear hA_ hB_ HA1 HB1 HG1
    clear c0 c1 f0 f1 g1 g2 k1 k2
    cases t1
    · simp only [Bool.false_eq_true, if_false] at h
      go_wp2_with fail
      refine (date_blanks.calls b t2 d3 T _ HA2.out).mono ?_
      rintro e w3 ⟨rfl, hA_, hB_⟩
      have HA3 := Aside0.mk hA_
      have HG3 := Aside0.mk (HG2.out.below hB_ HGB.out)
      have HB3 := Aside0.mk (HB2.out.trans (hB_.mono (Nat.le_of_lt HGB.out)))
      clear hA_ hB_ HA2 HB2 HG2
      have c0 : w3.cell? ⟨b, 0, none⟩ = some (.string _) := HA3.out.cell 0
      have c1 : w3.cell? ⟨b, 1, none⟩ = some (.bool _) := HA3.out.cell 1
      have f0 : w3.frozen? ⟨b, 0, none⟩ = false := HA3.out.frozen 0
      have f1 : w3.frozen? ⟨b, 1, none⟩ = false := HA3.out.frozen 1
      have g1 : w3.frozen? ⟨g, 1, none⟩ = false := HG3.out.frozen 1
      have g2 : w3.frozen? ⟨g, 2, none⟩ = false := HG3.out.frozen 2
      have k1 : w3.cell? ⟨g, 1, none⟩ = some (.bool _) := HG3.out.cell 1
      have k2 : w3.cell? ⟨g, 2, none⟩ = some (.bool _) := HG3.out.cell 2
      by_cases eb : (date_blanks.s t2).size < t2.size
      · rw [if_pos eb] at h
        have eb1 : decide ((date_blanks.s t2).size < t2.size) = true := decide_eq_true eb
        obtain ⟨⟨x1, x2, x3⟩, hX_, h⟩ := Option.bind_eq_some_iff.mp h
        have X := Aside0.mk hX_
        clear hX_
        simp only [] at h
        go_wp2_with fail
        have HA4 := Aside0.mk (HA3.out.set_other (g := g) (Nat.ne_of_lt HGB.out) 1 (.bool true))
        have HG4 := Aside0.mk (HG3.out.set 1 (.bool true))
        have HB4 := Aside0.mk (Blk.below_self (i := 1) (v := .bool true) HB3.out)
        clear HA3 HG3 HB3
        refine (date_time.calls k b (date_blanks.s t2) d3 T _ HA4.out _ X.out).mono ?_
        rintro e w5 ⟨rfl, hA_, hB_⟩
        have HA5 := Aside0.mk hA_
        have HG5 := Aside0.mk (HG4.out.below hB_ HGB.out)
        have HB5 := Aside0.mk (HB4.out.trans (hB_.mono (Nat.le_of_lt HGB.out)))
        clear hA_ hB_ HA4 HB4 HG4
        clear c0 c1 f0 f1 g1 g2 k1 k2
        have c0 : w5.cell? ⟨b, 0, none⟩ = some (.string _) := HA5.out.cell 0
        have c1 : w5.cell? ⟨b, 1, none⟩ = some (.bool _) := HA5.out.cell 1
        have f0 : w5.frozen? ⟨b, 0, none⟩ = false := HA5.out.frozen 0
        have f1 : w5.frozen? ⟨b, 1, none⟩ = false := HA5.out.frozen 1
        have g1 : w5.frozen? ⟨g, 1, none⟩ = false := HG5.out.frozen 1
        have g2 : w5.frozen? ⟨g, 2, none⟩ = false := HG5.out.frozen 2
        have k1 : w5.cell? ⟨g, 1, none⟩ = some (.bool _) := HG5.out.cell 1
        have k2 : w5.cell? ⟨g, 2, none⟩ = some (.bool _) := HG5.out.cell 2
        by_cases e5 : x2.toList = ([] : List UInt8)
        · rw [if_pos e5] at h
          obtain rfl := Option.some.inj h
          clear h
          have e6 : (x2.toList != ([] : List UInt8)) = false := by simp [e5]
          have e7 : (x2.toList == ([] : List UInt8)) = true := by simp [e5]
          go_wp2_with fail
          go_ret
          exact ⟨rfl, HA5.out, HG5.out, HB5.out⟩
        · rw [if_neg e5] at h
          have e6 : (x2.toList != ([] : List UInt8)) = true := by simp [e5]
          have e7 : (x2.toList == ([] : List UInt8)) = false := by simp [e5]
          obtain ⟨z, hZ_, h⟩ := Option.bind_eq_some_iff.mp h
          have Z := Aside0.mk hZ_
          clear hZ_
          obtain rfl := Option.some.inj h
          clear h
          go_wp2_with fail
          have HA6 := Aside0.mk (HA5.out.set_other (g := g) (Nat.ne_of_lt HGB.out) 2 (.bool true))
          have HG6 := Aside0.mk (HG5.out.set 2 (.bool true))
          have HB6 := Aside0.mk (Blk.below_self (i := 2) (v := .bool true) HB5.out)
          clear HA5 HG5 HB5
          refine (date_blanks.calls b x2 x3 T _ HA6.out).mono ?_
          rintro e w7 ⟨rfl, hA_, hB_⟩
          have HA7 := Aside0.mk hA_
          have HG7 := Aside0.mk (HG6.out.below hB_ HGB.out)
          have HB7 := Aside0.mk (HB6.out.trans (hB_.mono (Nat.le_of_lt HGB.out)))
          clear hA_ hB_ HA6 HB6 HG6
          go_wp2_with fail
          refine (date_zone.calls k b (date_blanks.s x2) x3 T _ HA7.out z Z.out).mono ?_
          rintro e w8 ⟨rfl, hA_, hB_⟩
          have HA8 := Aside0.mk hA_
          have HG8 := Aside0.mk (HG7.out.below hB_ HGB.out)
          have HB8 := Aside0.mk (HB7.out.trans (hB_.mono (Nat.le_of_lt HGB.out)))
          clear hA_ hB_ HA7 HB7 HG7
          go_wp2_with fail
          go_ret
          exact ⟨rfl, HA8.out, HG8.out, HB8.out⟩
      · rw [if_neg eb] at h
        have eb1 : decide ((date_blanks.s t2).size < t2.size) = false := decide_eq_false eb
        have hne1 : (g = b) = False := eq_false (Nat.ne_of_lt HGB.out)
        have hne2 : (b = g) = False := eq_false (Nat.ne_of_gt HGB.out)
        have HA4 := Aside0.mk (HA3.out.set 1 (.bool true))
        have HG4 := Aside0.mk (HG3.out.set_other (g := b) (Nat.ne_of_gt HGB.out) 1 (.bool true))
        have HB4 := Aside0.mk (show Below g w (w3.setCell ⟨b, 1, none⟩ (.bool true)) from HB3.out.setCell (Nat.le_of_lt HGB.out) _)
        clear HA3 HG3 HB3
        obtain ⟨⟨x1, x2, x3⟩, hX_, h⟩ := Option.bind_eq_some_iff.mp h
        have X := Aside0.mk hX_
        clear hX_
        simp only [] at h
        go_wp2_with fail
        have HA5 := Aside0.mk (HA4.out.set_other (g := g) (Nat.ne_of_lt HGB.out) 1 (.bool true))
        have HG5 := Aside0.mk (HG4.out.set 1 (.bool true))
        have HB5 := Aside0.mk (Blk.below_self (i := 1) (v := .bool true) HB4.out)
        clear HA4 HG4 HB4
        refine (date_time.calls k b (date_blanks.s t2) true T _ HA5.out _ X.out).mono ?_
        rintro e w6 ⟨rfl, hA_, hB_⟩
        have HA6 := Aside0.mk hA_
        have HG6 := Aside0.mk (HG5.out.below hB_ HGB.out)
        have HB6 := Aside0.mk (HB5.out.trans (hB_.mono (Nat.le_of_lt HGB.out)))
        clear hA_ hB_ HA5 HB5 HG5
        clear c0 c1 f0 f1 g1 g2 k1 k2
        have c0 : w6.cell? ⟨b, 0, none⟩ = some (.string _) := HA6.out.cell 0
        have c1 : w6.cell? ⟨b, 1, none⟩ = some (.bool _) := HA6.out.cell 1
        have f0 : w6.frozen? ⟨b, 0, none⟩ = false := HA6.out.frozen 0
        have f1 : w6.frozen? ⟨b, 1, none⟩ = false := HA6.out.frozen 1
        have g1 : w6.frozen? ⟨g, 1, none⟩ = false := HG6.out.frozen 1
        have g2 : w6.frozen? ⟨g, 2, none⟩ = false := HG6.out.frozen 2
        have k1 : w6.cell? ⟨g, 1, none⟩ = some (.bool _) := HG6.out.cell 1
        have k2 : w6.cell? ⟨g, 2, none⟩ = some (.bool _) := HG6.out.cell 2
        by_cases e5 : x2.toList = ([] : List UInt8)
        · rw [if_pos e5] at h
          obtain rfl := Option.some.inj h
          clear h
          have e6 : (x2.toList != ([] : List UInt8)) = false := by simp [e5]
          have e7 : (x2.toList == ([] : List UInt8)) = true := by simp [e5]
          go_wp2_with fail
          go_ret
          exact ⟨rfl, HA6.out, HG6.out, HB6.out⟩
        · rw [if_neg e5] at h
          have e6 : (x2.toList != ([] : List UInt8)) = true := by simp [e5]
          have e7 : (x2.toList == ([] : List UInt8)) = false := by simp [e5]
          obtain ⟨z, hZ_, h⟩ := Option.bind_eq_some_iff.mp h
          have Z := Aside0.mk hZ_
          clear hZ_
          obtain rfl := Option.some.inj h
          clear h
          go_wp2_with fail
          have HA7 := Aside0.mk (HA6.out.set_other (g := g) (Nat.ne_of_lt HGB.out) 2 (.bool true))
          have HG7 := Aside0.mk (HG6.out.set 2 (.bool true))
          have HB7 := Aside0.mk (Blk.below_self (i := 2) (v := .bool true) HB6.out)
          clear HA6 HG6 HB6
          refine (date_blanks.calls b x2 x3 T _ HA7.out).mono ?_
          rintro e w8 ⟨rfl, hA_, hB_⟩
          have HA8 := Aside0.mk hA_
          have HG8 := Aside0.mk (HG7.out.below hB_ HGB.out)
          have HB8 := Aside0.mk (HB7.out.trans (hB_.mono (Nat.le_of_lt HGB.out)))
          clear hA_ hB_ HA7 HB7 HG7
          go_wp2_with fail
          refine (date_zone.calls k b (date_blanks.s x2) x3 T _ HA8.out z Z.out).mono ?_
          rintro e w9 ⟨rfl, hA_, hB_⟩
          have HA9 := Aside0.mk hA_
          have HG9 := Aside0.mk (HG8.out.below hB_ HGB.out)
          have HB9 := Aside0.mk (HB8.out.trans (hB_.mono (Nat.le_of_lt HGB.out)))
          clear hA_ hB_ HA8 HB8 HG8
          go_wp2_with fail
          go_ret
          exact ⟨rfl, HA9.out, HG9.out, HB9.out⟩
    · simp only [if_true] at h
      have c0 : w2.cell? ⟨b, 0, none⟩ = some (.string _) := HA2.out.cell 0
      have c1 : w2.cell? ⟨b, 1, none⟩ = some (.bool _) := HA2.out.cell 1
      have f0 : w2.frozen? ⟨b, 0, none⟩ = false := HA2.out.frozen 0
      have f1 : w2.frozen? ⟨b, 1, none⟩ = false := HA2.out.frozen 1
      have g1 : w2.frozen? ⟨g, 1, none⟩ = false := HG2.out.frozen 1
      have g2 : w2.frozen? ⟨g, 2, none⟩ = false := HG2.out.frozen 2
      have k1 : w2.cell? ⟨g, 1, none⟩ = some (.bool _) := HG2.out.cell 1
      have k2 : w2.cell? ⟨g, 2, none⟩ = some (.bool _) := HG2.out.cell 2
      obtain ⟨⟨x1, x2, x3⟩, hX_, h⟩ := Option.bind_eq_some_iff.mp h
      have X := Aside0.mk hX_
      clear hX_
      simp only [] at h
      go_wp2_with fail
      have HA3 := Aside0.mk (HA2.out.set_other (g := g) (Nat.ne_of_lt HGB.out) 1 (.bool true))
      have HG3 := Aside0.mk (HG2.out.set 1 (.bool true))
      have HB3 := Aside0.mk (Blk.below_self (i := 1) (v := .bool true) HB2.out)
      clear HA2 HG2 HB2
      refine (date_time.calls k b t2 d3 T _ HA3.out _ X.out).mono ?_
      rintro e w4 ⟨rfl, hA_, hB_⟩
      have HA4 := Aside0.mk hA_
      have HG4 := Aside0.mk (HG3.out.below hB_ HGB.out)
      have HB4 := Aside0.mk (HB3.out.trans (hB_.mono (Nat.le_of_lt HGB.out)))
      clear hA_ hB_ HA3 HB3 HG3
      clear c0 c1 f0 f1 g1 g2 k1 k2
      have c0 : w4.cell? ⟨b, 0, none⟩ = some (.string _) := HA4.out.cell 0
      have c1 : w4.cell? ⟨b, 1, none⟩ = some (.bool _) := HA4.out.cell 1
      have f0 : w4.frozen? ⟨b, 0, none⟩ = false := HA4.out.frozen 0
      have f1 : w4.frozen? ⟨b, 1, none⟩ = false := HA4.out.frozen 1
      have g1 : w4.frozen? ⟨g, 1, none⟩ = false := HG4.out.frozen 1
      have g2 : w4.frozen? ⟨g, 2, none⟩ = false := HG4.out.frozen 2
      have k1 : w4.cell? ⟨g, 1, none⟩ = some (.bool _) := HG4.out.cell 1
      have k2 : w4.cell? ⟨g, 2, none⟩ = some (.bool _) := HG4.out.cell 2
      by_cases e5 : x2.toList = ([] : List UInt8)
      · rw [if_pos e5] at h
        obtain rfl := Option.some.inj h
        clear h
        have e6 : (x2.toList != ([] : List UInt8)) = false := by simp [e5]
        have e7 : (x2.toList == ([] : List UInt8)) = true := by simp [e5]
        go_wp2_with fail
        go_ret
        exact ⟨rfl, HA4.out, HG4.out, HB4.out⟩
      · rw [if_neg e5] at h
        have e6 : (x2.toList != ([] : List UInt8)) = true := by simp [e5]
        have e7 : (x2.toList == ([] : List UInt8)) = false := by simp [e5]
        obtain ⟨z, hZ_, h⟩ := Option.bind_eq_some_iff.mp h
        have Z := Aside0.mk hZ_
        clear hZ_
        obtain rfl := Option.some.inj h
        clear h
        go_wp2_with fail
        have HA5 := Aside0.mk (HA4.out.set_other (g := g) (Nat.ne_of_lt HGB.out) 2 (.bool true))
        have HG5 := Aside0.mk (HG4.out.set 2 (.bool true))
        have HB5 := Aside0.mk (Blk.below_self (i := 2) (v := .bool true) HB4.out)
        clear HA4 HG4 HB4
        refine (date_blanks.calls b x2 x3 T _ HA5.out).mono ?_
        rintro e w6 ⟨rfl, hA_, hB_⟩
        have HA6 := Aside0.mk hA_
        have HG6 := Aside0.mk (HG5.out.below hB_ HGB.out)
        have HB6 := Aside0.mk (HB5.out.trans (hB_.mono (Nat.le_of_lt HGB.out)))
        clear hA_ hB_ HA5 HB5 HG5
        go_wp2_with fail
        refine (date_zone.calls k b (date_blanks.s x2) x3 T _ HA6.out z Z.out).mono ?_
        rintro e w7 ⟨rfl, hA_, hB_⟩
        have HA7 := Aside0.mk hA_
        have HG7 := Aside0.mk (HG6.out.below hB_ HGB.out)
        have HB7 := Aside0.mk (HB6.out.trans (hB_.mono (Nat.le_of_lt HGB.out)))
        clear hA_ hB_ HA6 HB6 HG6
        go_wp2_with fail
        go_ret
        exact ⟨rfl, HA7.out, HG7.out, HB7.out⟩

theorem date_digits.mono : ∀ s bad size lo hi k, LeO (date_digits.f k s bad size lo hi) (date_digits.f (k + 1) s bad size lo hi) := by
  intro s bad size lo hi k
  unfold date_digits.f
  exact LeO.ite (LeO.refl _) (LeO.bind (ascii_Number.mono _ _ k) (fun _ => LeO.refl _))
theorem date_day.mono : ∀ s bad k, LeO (date_day.f k s bad) (date_day.f (k + 1) s bad) := by
  intro s bad k
  unfold date_day.f
  repeat' first
    | (with_reducible exact date_digits.mono _ _ _ _ _ _)
    | (with_reducible exact LeO.refl _)
    | (with_reducible refine LeO.ite ?_ ?_)
    | (with_reducible refine LeO.bind ?_ (fun _ => ?_))
theorem date_time.mono : ∀ s bad k, LeO (date_time.f k s bad) (date_time.f (k + 1) s bad) := by
  intro s bad k
  unfold date_time.f
  repeat' first
    | (with_reducible exact date_digits.mono _ _ _ _ _ _)
    | (with_reducible exact LeO.refl _)
    | (with_reducible refine LeO.ite ?_ ?_)
    | (with_reducible refine LeO.bind ?_ (fun _ => ?_))
theorem date_zone.mono_g : ∀ sg s bad k, LeO (date_zone.g k sg s bad) (date_zone.g (k + 1) sg s bad) := by
  intro sg s bad k
  unfold date_zone.g
  repeat' first
    | (with_reducible exact date_digits.mono _ _ _ _ _ _)
    | (with_reducible exact LeO.refl _)
    | (with_reducible refine LeO.ite ?_ ?_)
    | (with_reducible refine LeO.bind ?_ (fun _ => ?_))
theorem date_zone.mono : ∀ s bad k, LeO (date_zone.f k s bad) (date_zone.f (k + 1) s bad) := by
  intro s bad k
  unfold date_zone.f
  repeat' first
    | (with_reducible exact date_zone.mono_g _ _ _ _)
    | (with_reducible exact LeO.refl _)
    | (with_reducible refine LeO.ite ?_ ?_)
    | (with_reducible refine LeO.bind ?_ (fun _ => ?_))
theorem date_Parse_1.mono : ∀ s k, LeO (date_Parse_1.f k s) (date_Parse_1.f (k + 1) s) := by
  intro s k
  unfold date_Parse_1.f
  repeat' first
    | (with_reducible exact date_day.mono _ _ _)
    | (with_reducible exact date_time.mono _ _ _)
    | (with_reducible exact date_zone.mono _ _ _)
    | (with_reducible exact LeO.refl _)
    | (with_reducible refine LeO.ite ?_ ?_)
    | (with_reducible refine LeO.bind ?_ (fun _ => ?_))
theorem date_Zone.mono : ∀ s k, LeO (date_Zone.f k s) (date_Zone.f (k + 1) s) := by
  intro s k
  unfold date_Zone.f
  exact LeO.bind (date_zone.mono _ _ k) (fun _ => LeO.refl _)

end Go.Proofs.YtfoikdjffemhbaaDoor.Q
