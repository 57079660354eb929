/- A journal's small functions, walked: a number read, and laid; are two lists the same. No condition but those typed. -/
import Derived.Test.YtdlfabbhdelinaaShort
import Derived.Test.YtdlfabbhdelinaaWalk0
import Derived.Test.YtdlfabbhdelinaaDisk09

namespace Go.Proofs.Ytdlfabbhdelinaa.Q
open Go.RowKit Go.Proofs.YtdlfabbhdelinaaW.PrintWords Go.Proofs.YtdlfabbhdelinaaW.PrintLast Go.Proofs.YtdlfabbhdelinaaW.PrintMore
open Go.Proofs.Ytdlfabbhdelinaa.Dk Go.Proofs.Ytdlfabbhdelinaa.Sh
attribute [local go_sem] max2_int min2_int max_two min_two max_three min_three max_four min_four   -- for this text's walks alone
set_option linter.unusedVariables false
set_option linter.unusedSimpArgs false
set_option maxRecDepth 100000
theorem w64n {n : Nat} (h : n ≤ 1000000) : wrap64 ((n : Int) + 1) = ((n + 1 : Nat) : Int) := by
  unfold wrap64
  omega
/-- One byte more of a number. -/
def or8 (x c : Int) : Int := Go.bits .or .u32 ((x * 256) % 4294967296) (c % 4294967296)
def rd4 (l : List Int) : Nat → Int
  | 0 => 0
  | n + 1 => or8 (rd4 l n) (rd l (n : Int))
def rdN (l : List Int) : Int := rd4 l 4
set_option maxHeartbeats 1000000 in
theorem jread.calls {A : Option Addr} {n c : Nat} {l : List Int} (w : World) (hC : (Kd.int .u8).C w A n l) (hn : 4 ≤ n) (hc : n ≤ c) :
    Calls Try.prog 62 #[.slice A n c] w fun e w' => e = .returned (.int .u32 (rdN l)) ∧ w' = w := by
  obtain ⟨ad, rfl, _⟩ := hC.2.2 (by omega)
  have HX := Aside0.mk (fun (i : Nat) (hi : i < 4) => (show w.cell? (ad.add i) = some (.int .u8 (rd l (i : Int))) from by
    obtain ⟨ad', he, hx⟩ := Kd.at_int hC (i : Int) (by omega) (by omega)
    injection he with he
    subst he
    rwa [Int.toNat_natCast] at hx))
  have hc4 : 4 ≤ c := by omega
  clear hC hn hc
  go_enter Try.func62, Try.ntmps62
  go_wp2_with fail
  go_loopw [3, 9] (fun x j wr => ∃ n : Nat, n ≤ 4 ∧ x = .int .u32 (rd4 l n) ∧ j = .int .i64 n ∧ wr = w) (fun _ j _ => 4 - (intOf j).toNat)
  case atStart => exact ⟨0, by omega, rfl, rfl, rfl⟩
  case round =>
    obtain ⟨n, hn, rfl, rfl, rfl⟩ := hrel
    by_cases hlt : n < 4
    · have hx := HX.out n hlt
      have hlti : (n : Int) < 4 := by omega
      go_wp2_with fail
      go_roundw
      case rel => exact ⟨n + 1, by omega, rfl, by simp [w64n (n := n) (by omega)], trivial⟩
      case measure => simp [intOf]; omega
    · obtain rfl : n = 4 := by omega
      go_wp2_with fail
      go_ret
      exact ⟨rfl, rfl⟩
/-- A number's four bytes. -/
def be (x : Int) : List Int := [x / 16777216 % 256, x / 65536 % 256, x / 256 % 256, x % 256]
def bev (x : Int) : List Value := (be x).map (Value.int .u8)
/-- Four cells written. -/
def put4 (m o : Nat) (x : Int) (W : World) : Nat → World
  | 0 => W
  | n + 1 => (put4 m o x W n).setCell ⟨m, o + n, none⟩ (.int .u8 (rd (be x) (n : Int)))
theorem put4_at {m o : Nat} {cs : Array Value} {x : Int} {W : World} (h : Blk.At m cs 5 W) : ∀ n, ∃ cs' : Array Value, cs'.size = cs.size ∧ Blk.At m cs' 5 (put4 m o x W n)
  | 0 => ⟨cs, rfl, h⟩
  | n + 1 => by
    obtain ⟨cs', hs, hA⟩ := put4_at h n
    exact ⟨_, by rw [Array.size_setIfInBounds]; exact hs, hA.set (o + n) _⟩
set_option maxHeartbeats 1000000 in
theorem jlay.calls {m o n c : Nat} {cs : Array Value} {x : Int} (W : World) (hA : Blk.At m cs 5 W) (ho : o + 4 ≤ cs.size) (hn : 4 ≤ n) (hx : 0 ≤ x ∧ x < 4294967296) :
    Calls Try.prog 37 #[.slice (some ⟨m, o, none⟩) n c, .int .u32 x] W fun e w' => e = .returned (.tuple #[]) ∧ w' = put4 m o x W 4 := by
  have HA := Aside0.mk (put4_at (o := o) (x := x) hA)
  have HO := Aside0.mk ho
  have HX := Aside0.mk hx
  clear hA ho hx
  go_enter Try.func37, Try.ntmps37
  go_wp2_with fail
  go_loopw [5] (fun j wr => ∃ k : Nat, k ≤ 4 ∧ j = .int .i64 k ∧ Aside0 (wr = put4 m o x W k)) (fun j _ => 4 - (intOf j).toNat)
  case atStart => exact ⟨0, by omega, rfl, ⟨rfl⟩⟩
  case round =>
    obtain ⟨k, hk, rfl, HW⟩ := hrel
    obtain ⟨cs', hs, hB⟩ := HA.out k
    rw [← HW.out] at hB
    have hlt4 : 4 = k ∨ k = 0 ∨ k = 1 ∨ k = 2 ∨ k = 3 := by omega
    rcases hlt4 with rfl | rfl | rfl | rfl | rfl
    · go_wp2_with fail
      exact Go.Great.bodyPost_end0 rfl rfl ⟨rfl, HW.out⟩
    · have z : wr.frozen? ⟨m, o, none⟩ = false := hB.frozen _
      have hh : cs'[o]? = some (cs'[o]'(by have := HO.out; omega)) := Array.getElem?_eq_getElem _
      have xx : wr.cell? ⟨m, o, none⟩ = some _ := (hB.cell (o)).trans hh
      clear hB hh
      go_wp2_with fail
      refine ⟨⟨1, by omega, rfl, ⟨?_⟩⟩, by simp [intOf]⟩
      rw [HW.out]
      rfl
    · have z : wr.frozen? ⟨m, o + 1, none⟩ = false := hB.frozen _
      have hh : cs'[o + 1]? = some (cs'[o + 1]'(by have := HO.out; omega)) := Array.getElem?_eq_getElem _
      have xx : wr.cell? ⟨m, o + 1, none⟩ = some _ := (hB.cell (o + 1)).trans hh
      clear hB hh
      go_wp2_with fail
      refine ⟨⟨2, by omega, rfl, ⟨?_⟩⟩, by simp [intOf]⟩
      rw [HW.out]
      rfl
    · have z : wr.frozen? ⟨m, o + 2, none⟩ = false := hB.frozen _
      have hh : cs'[o + 2]? = some (cs'[o + 2]'(by have := HO.out; omega)) := Array.getElem?_eq_getElem _
      have xx : wr.cell? ⟨m, o + 2, none⟩ = some _ := (hB.cell (o + 2)).trans hh
      clear hB hh
      go_wp2_with fail
      refine ⟨⟨3, by omega, rfl, ⟨?_⟩⟩, by simp [intOf]⟩
      rw [HW.out]
      rfl
    · have z : wr.frozen? ⟨m, o + 3, none⟩ = false := hB.frozen _
      have hh : cs'[o + 3]? = some (cs'[o + 3]'(by have := HO.out; omega)) := Array.getElem?_eq_getElem _
      have xx : wr.cell? ⟨m, o + 3, none⟩ = some _ := (hB.cell (o + 3)).trans hh
      clear hB hh
      go_wp2_with fail
      refine ⟨⟨4, by omega, rfl, ⟨?_⟩⟩, by simp [intOf]⟩
      rw [HW.out]
      rfl
/-- Are two lists of bytes' texts the same? -/
def sameTo (l0 l1 : List (List Int)) (n : Nat) : Prop := ∀ i, i < n → strOfNums (l0.getD i []) = strOfNums (l1.getD i [])
open Classical in
noncomputable def sameN (l0 l1 : List (List Int)) : Bool := if l0.length = l1.length ∧ sameTo l0 l1 l0.length then true else false
theorem sameN_yes {l0 l1 : List (List Int)} (h : l0.length = l1.length ∧ sameTo l0 l1 l0.length) : sameN l0 l1 = true := if_pos h
theorem sameN_no {l0 l1 : List (List Int)} (h : ¬ (l0.length = l1.length ∧ sameTo l0 l1 l0.length)) : sameN l0 l1 = false := if_neg h
theorem sameN_refl (l : List (List Int)) : sameN l l = true := sameN_yes ⟨rfl, fun _ _ => rfl⟩
theorem rows_at {W : World} {A : Option Addr} {n : Nat} {l : List (List Int)} (h : (Kd.slice 5 (Kd.int .u8)).C W A n l) {i : Nat} (hi : i < l.length) : ∃ ad B cb, A = some ad ∧ W.cell? (ad.add i) = some (.slice B (l.getD i []).length cb) ∧ (l.getD i []).length ≤ cb ∧ (Kd.int .u8).C W B (l.getD i []).length (l.getD i []) := by
  obtain ⟨ad, hA, hc⟩ := h.2.2 (by have := h.1; omega)
  obtain ⟨cs, hl, hK, hcell⟩ := hc i _ (List.getElem?_eq_getElem hi)
  obtain ⟨B, cb, rfl, hb, hC⟩ := hK
  have e : l.getD i [] = l[i] := by rw [List.getD_eq_getElem?_getD, List.getElem?_eq_getElem hi]; rfl
  have hx := hcell 0 _ rfl
  rw [show i * (Kd.slice 5 (Kd.int .u8)).sz + 0 = i from by show i * 1 + 0 = i; omega] at hx
  rw [e]
  exact ⟨ad, B, cb, hA, hx, hb, hC⟩
theorem toList_inj' {a b : ByteArray} (h : a.toList = b.toList) : a = b := by
  rw [Lib.toList_data, Lib.toList_data] at h
  exact ByteArray.ext (Array.toList_inj.1 h)
set_option maxHeartbeats 4000000 in
theorem jsame.calls {A0 A1 : Option Addr} {c0 c1 : Nat} {l0 l1 : List (List Int)} (w : World) (h0 : (Kd.slice 5 (Kd.int .u8)).C w A0 l0.length l0) (h1 : (Kd.slice 5 (Kd.int .u8)).C w A1 l1.length l1) (hn : l0.length ≤ 1000000) :
    Calls Try.prog 13 #[.slice A0 l0.length c0, .slice A1 l1.length c1] w fun e w' => e = .returned (.bool (sameN l0 l1)) ∧ Drawn0 w w' := by
  have H0 := Aside0.mk h0
  have H1 := Aside0.mk h1
  have HN := Aside0.mk hn
  clear h0 h1 hn
  by_cases hl : l0.length = l1.length
  case neg =>
    have e : sameN l0 l1 = false := sameN_no (fun h => hl h.1)
    have hb : ((l0.length : Int) != (l1.length : Int)) = true := by simp; omega
    have hb2 : ((l0.length : Int) == (l1.length : Int)) = false := by simp; omega
    have hb3 : ¬ (l0.length : Int) = (l1.length : Int) := by omega
    have E := Aside0.mk e
    clear e hl
    go_enter Try.func13, Try.ntmps13
    go_wp2_with fail
    go_ret
    exact ⟨by rw [E.out]; rfl, Drawn0.refl _⟩
  have HL := Aside0.mk hl
  have hb : ((l0.length : Int) != (l1.length : Int)) = false := by simp; omega
  clear hl
  go_enter Try.func13, Try.ntmps13
  go_wp2_with fail
  go_loopw [5] (fun j wr => ∃ n : Nat, n ≤ l0.length ∧ j = .int .i64 n ∧ Aside0 (sameTo l0 l1 n) ∧ Aside0 (Drawn0 w wr)) (fun j _ => l0.length - (intOf j).toNat)
  case atStart => exact ⟨0, Nat.zero_le _, rfl, ⟨fun i hi => absurd hi (by omega)⟩, ⟨Drawn0.refl _⟩⟩
  case round =>
    obtain ⟨n, hn, rfl, HS, HD⟩ := hrel
    by_cases hlt : n < l0.length
    · obtain ⟨ad0, B0, cb0, e0, hx0, hcb0, hC0⟩ := rows_at (Kd.C_below H0.out HD.out.below) hlt
      obtain ⟨ad1, B1, cb1, e1, hx1, hcb1, hC1⟩ := rows_at (Kd.C_below H1.out HD.out.below) (show n < l1.length by rw [← HL.out]; exact hlt)
      subst e0 e1
      obtain ⟨p0, hp0⟩ : ∃ p, p = l0.getD n [] := ⟨_, rfl⟩
      obtain ⟨p1, hp1⟩ : ∃ p, p = l1.getD n [] := ⟨_, rfl⟩
      rw [← hp0] at hx0 hC0 hcb0
      rw [← hp1] at hx1 hC1 hcb1
      have HP := Aside0.mk (And.intro hp0 hp1)
      have HX := Aside0.mk (And.intro hx0 hx1)
      obtain ⟨S0, hS0⟩ : ∃ S, S = strOfNums p0 := ⟨_, rfl⟩
      obtain ⟨S1, hS1⟩ : ∃ S, S = strOfNums p1 := ⟨_, rfl⟩
      have HS0 := Aside0.mk hS0
      have HS1 := Aside0.mk hS1
      have CV := Aside0.mk (show (∀ W, Below wr.heap.size wr W → (convert 22 9 (.slice B0 p0.length cb0)).run Try.prog W = .ok (.string S0) W ∧ (convert 22 9 (.slice B1 p1.length cb1)).run Try.prog W = .ok (.string S1) W) from fun W hW => ⟨by rw [hS0]; exact Kd.C_string (P := Try.prog) Try.underlying22 Try.underlying5 Try.underlying9 (Kd.C_below hC0 hW), by rw [hS1]; exact Kd.C_string (P := Try.prog) Try.underlying22 Try.underlying5 Try.underlying9 (Kd.C_below hC1 hW)⟩)
      have hlti : decide ((n : Int) < (l0.length : Int)) = true := decide_eq_true (by omega)
      have HLT := Aside0.mk (show (n : Int) < (l1.length : Int) by have := HL.out; omega)
      have hlt1 : (n : Int) < (l1.length : Int) := HLT.out
      have hlt1n : n < l1.length := by have := HL.out; omega
      clear hx0 hx1 hC0 hC1 hp0 hp1 hS0 hS1 hcb0 hcb1
      have x0 : wr.cell? (ad0.add n) = some (.slice B0 p0.length cb0) := HX.out.1
      have x1 : wr.cell? (ad1.add n) = some (.slice B1 p1.length cb1) := HX.out.2
      by_cases hs : S0 = S1
      · subst hs
        go_wp2_with fail
        refine start_ (n := 11) (S := fun w' => w'.cell? (ad0.add n) = some (.slice B0 p0.length cb0) ∧ w'.cell? (ad1.add n) = some (.slice B1 p1.length cb1) ∧ (convert 22 9 (.slice B0 p0.length cb0)).run Try.prog w' = .ok (.string S0) w' ∧ (convert 22 9 (.slice B1 p1.length cb1)).run Try.prog w' = .ok (.string S0) w') (ds := []) (bl 11 0x0) (by kernel_rfl) rfl (by kernel_rfl) ⟨x0, x1, (CV.out _ (below_drew (Below.refl _ _))).1, (CV.out _ (below_drew (Below.refl _ _))).2⟩ (fun hHeld => ?_)
        refine pu 0 (some 17) (bl 11 0x1) ?_
        refine pu 1 (some 18) (bl 11 0x3) ?_
        refine pu 2 (some 19) (bl 11 0x7) ?_
        refine pu 5 (some 22) (bl 11 0x27) ?_
        refine pu 6 (some 23) (bl 11 0x67) ?_
        refine pu 7 (some 24) (bl 11 0xe7) ?_
        refine tk 3 (some 20) (bl 11 0xef) hHeld ?_
        refine tk 4 (some 21) (bl 11 0xff) hHeld ?_
        refine tk 8 (some 25) (bl 11 0x1ff) hHeld ?_
        refine tk 9 (some 26) (bl 11 0x3ff) hHeld ?_
        refine pu 10 (some 27) (bl 11 0x7ff) ?_
        refine done_ (by kernel_rfl) ?_
        go_wp2_with fail
        have en : wrap64 ((n : Int) + 1) = ((n + 1 : Nat) : Int) := w64n (by have := HN.out; omega)
        rw [en]
        go_roundw
        case rel =>
          refine ⟨n + 1, by omega, rfl, ⟨fun i hi => ?_⟩, ⟨HD.out.step 1⟩⟩
          by_cases e : i = n
          · subst e
            rw [← HP.out.1, ← HP.out.2, ← HS0.out, ← HS1.out]
          · exact HS.out i (by omega)
        case measure => simp [intOf]; omega
      · have e : sameN l0 l1 = false := sameN_no (fun h => hs (by rw [HS0.out, HS1.out, HP.out.1, HP.out.2]; exact h.2 n hlt))
        have hs0 : ¬ S0.toList = S1.toList := fun h => hs (toList_inj' h)
        have hs1 : (S0.toList == S1.toList) = false := by simpa using hs0
        have hs2 : (S0.toList != S1.toList) = true := by simpa using hs0
        have E := Aside0.mk e
        clear e hs
        go_wp2_with fail
        refine start_ (n := 11) (S := fun w' => w'.cell? (ad0.add n) = some (.slice B0 p0.length cb0) ∧ w'.cell? (ad1.add n) = some (.slice B1 p1.length cb1) ∧ (convert 22 9 (.slice B0 p0.length cb0)).run Try.prog w' = .ok (.string S0) w' ∧ (convert 22 9 (.slice B1 p1.length cb1)).run Try.prog w' = .ok (.string S1) w') (ds := []) (bl 11 0x0) (by kernel_rfl) rfl (by kernel_rfl) ⟨x0, x1, (CV.out _ (below_drew (Below.refl _ _))).1, (CV.out _ (below_drew (Below.refl _ _))).2⟩ (fun hHeld => ?_)
        refine pu 0 (some 17) (bl 11 0x1) ?_
        refine pu 1 (some 18) (bl 11 0x3) ?_
        refine pu 2 (some 19) (bl 11 0x7) ?_
        refine pu 5 (some 22) (bl 11 0x27) ?_
        refine pu 6 (some 23) (bl 11 0x67) ?_
        refine pu 7 (some 24) (bl 11 0xe7) ?_
        refine tk 3 (some 20) (bl 11 0xef) hHeld ?_
        refine tk 4 (some 21) (bl 11 0xff) hHeld ?_
        refine tk 8 (some 25) (bl 11 0x1ff) hHeld ?_
        refine tk 9 (some 26) (bl 11 0x3ff) hHeld ?_
        refine pu 10 (some 27) (bl 11 0x7ff) ?_
        refine done_ (by kernel_rfl) ?_
        go_wp2_with fail
        go_ret
        exact ⟨by rw [E.out]; rfl, HD.out.step 1⟩
    · obtain rfl : n = l0.length := by omega
      have e : sameN l0 l1 = true := sameN_yes ⟨HL.out, HS.out⟩
      have E := Aside0.mk e
      clear e
      go_wp2_with fail
      go_ret
      exact ⟨by rw [E.out]; rfl, HD.out⟩
end Go.Proofs.Ytdlfabbhdelinaa.Q

