/- The walk of unicode/utf8.FullRuneInString: all of it. No condition but those typed. -/
import Derived.Test.YtljlkpfiebcoeaaGreatDoorFullA
import Derived.Test.YtljlkpfiebcoeaaGreatDoorFullB
import Derived.Test.YtljlkpfiebcoeaaGreatDoorFullC
import Derived.Test.YtljlkpfiebcoeaaGreatDoorFullD
import Derived.BigRegion
import Derived.WalkKit
import Derived.ProofKit
namespace Go.Proofs.YtljlkpfiebcoeaaGreatDoor.Full
open Go Go.RowKit Go.Proofs Go.Proofs.YtljlkpfiebcoeaaGreatDoorW.PrintWords Go.Proofs.YtljlkpfiebcoeaaGreatDoorW.PrintLast Go.Proofs.YtljlkpfiebcoeaaGreatDoorW.PrintMore
set_option linter.unusedVariables false
/-! ### unicode_utf8_FullRuneInString: function 131 -/
def unicode_utf8_FullRuneInString.b (s : ByteArray) (k : Nat) : Nat := (s.get! k).toNat
def unicode_utf8_FullRuneInString.n (n x0 x1 x2 : Nat) : Bool := if n = 0 then false else if Lib.firstT x0 % 8 ≤ n then true else if 1 < n ∧ (x1 < Lib.accLo (Lib.firstT x0 / 16) ∨ Lib.accHi (Lib.firstT x0 / 16) < x1) then true else decide (2 < n ∧ (x2 < 128 ∨ 191 < x2))
def unicode_utf8_FullRuneInString.f (a0 : ByteArray) : Option (Bool) := some (unicode_utf8_FullRuneInString.n a0.size (unicode_utf8_FullRuneInString.b a0 0) (unicode_utf8_FullRuneInString.b a0 1) (unicode_utf8_FullRuneInString.b a0 2))
theorem unicode_utf8_FullRuneInString.low7 : ∀ x : Fin 256, Go.bits .and .u8 ((Lib.firstT x.val : Nat) : Int) 7 = ((Lib.firstT x.val % 8 : Nat) : Int) ∧ Lib.firstT x.val % 8 < 5 ∧ Lib.firstT x.val / 16 < 16 := by decide +kernel
theorem unicode_utf8_FullRuneInString.calls (a0 : ByteArray) (r : Bool) (w : World) (h : unicode_utf8_FullRuneInString.f a0 = some r) (hT : Lib.Utf8Tabs 1 2 w) :
    Calls Tryz.prog 131 #[.string a0] w fun e w' => e = .returned (.bool r) ∧ Below w.heap.size w w' := by
  obtain rfl := Option.some.inj h
  by_cases h0 : a0.size = 0
  · have hz : (a0.size : Int) = 0 := by omega
    have hf : unicode_utf8_FullRuneInString.n a0.size (unicode_utf8_FullRuneInString.b a0 0) (unicode_utf8_FullRuneInString.b a0 1) (unicode_utf8_FullRuneInString.b a0 2) = false := by unfold unicode_utf8_FullRuneInString.n; rw [if_pos h0]
    rw [hf]
    go_enter Tryz.func131, Tryz.ntmps131
    go_wp2
    go_ret
    exact ⟨rfl, Below.refl _ _⟩
  · obtain ⟨x0, hx0⟩ : ∃ x0, a0.get! 0 = x0 := ⟨_, rfl⟩
    obtain ⟨x1, hx1⟩ : ∃ x1, a0.get! 1 = x1 := ⟨_, rfl⟩
    obtain ⟨x2, hx2⟩ : ∃ x2, a0.get! 2 = x2 := ⟨_, rfl⟩
    have hs0 : ∀ h : 0 < a0.size, a0[0]'h = x0 := fun h => by rw [← hx0]; exact (Go.Proofs.Utf8W.get!_of_lt a0 0 h).symm
    have hs1 : ∀ h : 1 < a0.size, a0[1]'h = x1 := fun h => by rw [← hx1]; exact (Go.Proofs.Utf8W.get!_of_lt a0 1 h).symm
    have hs2 : ∀ h : 2 < a0.size, a0[2]'h = x2 := fun h => by rw [← hx2]; exact (Go.Proofs.Utf8W.get!_of_lt a0 2 h).symm
    have l0 := x0.toNat_lt
    have hb : unicode_utf8_FullRuneInString.n a0.size (unicode_utf8_FullRuneInString.b a0 0) (unicode_utf8_FullRuneInString.b a0 1) (unicode_utf8_FullRuneInString.b a0 2) = unicode_utf8_FullRuneInString.n a0.size x0.toNat x1.toNat x2.toNat := by unfold unicode_utf8_FullRuneInString.b; rw [hx0, hx1, hx2]
    rw [hb]
    clear hb
    have hc0 := hT.1 x0.toNat (by omega)
    obtain ⟨h7, h5, h16⟩ := unicode_utf8_FullRuneInString.low7 ⟨x0.toNat, by omega⟩
    simp only at h7 h5 h16
    obtain ⟨ha0, ha1⟩ := hT.2 (Lib.firstT x0.toNat / 16) h16
    unfold unicode_utf8_FullRuneInString.n
    rw [if_neg h0]
    generalize Lib.firstT x0.toNat = v at *
    have h4 : (v : Int) / 16 = ((v / 16 : Nat) : Int) := by omega
    have e0 : ((v / 16 : Nat) : Int).toNat * 2 = 2 * (v / 16) := by omega
    rw [← e0] at ha0 ha1
    generalize Lib.accLo (v / 16) = lo at *
    generalize Lib.accHi (v / 16) = hi at *
    have fin : ∀ (b c : Bool), b = c → Calls Tryz.prog 131 #[.string a0] w (fun e w' => e = .returned (.bool c) ∧ Below w.heap.size w w') → Calls Tryz.prog 131 #[.string a0] w (fun e w' => e = .returned (.bool b) ∧ Below w.heap.size w w') := fun b c e h => by rw [e]; exact h
    by_cases hge : v % 8 ≤ a0.size
    · rw [if_pos hge]
      exact unicode_utf8_FullRuneInString.ge a0 w x0 x1 x2 _ _ _ _ _ hs0 hs1 hs2 hc0 h7 h4 (by omega) (by omega) (by omega) ha0 ha1 (by omega) (by omega) (by omega)
    rw [if_neg hge]
    by_cases m1 : a0.size = 1
    · refine fin _ _ ?_ (unicode_utf8_FullRuneInString.m1 a0 w x0 x1 x2 _ _ _ _ _ hs0 hs1 hs2 hc0 h7 h4 (by omega) (by omega) (by omega) ha0 ha1 (by omega) (by omega))
      rw [if_neg (by omega), decide_eq_false (by omega)]
    by_cases m2 : a0.size = 2
    · by_cases e1 : (x1.toNat : Int) < (lo : Int)
      · refine fin _ _ ?_ (unicode_utf8_FullRuneInString.m2a a0 w x0 x1 x2 _ _ _ _ _ hs0 hs1 hs2 hc0 h7 h4 (by omega) (by omega) (by omega) ha0 ha1 (by omega) (by omega) e1)
        rw [if_pos (by omega)]
      by_cases g1 : (hi : Int) < (x1.toNat : Int)
      · refine fin _ _ ?_ (unicode_utf8_FullRuneInString.m2b a0 w x0 x1 x2 _ _ _ _ _ hs0 hs1 hs2 hc0 h7 h4 (by omega) (by omega) (by omega) ha0 ha1 (by omega) (by omega) e1 g1)
        rw [if_pos (by omega)]
      · refine fin _ _ ?_ (unicode_utf8_FullRuneInString.m2c a0 w x0 x1 x2 _ _ _ _ _ hs0 hs1 hs2 hc0 h7 h4 (by omega) (by omega) (by omega) ha0 ha1 (by omega) (by omega) e1 g1)
        rw [if_neg (by omega), decide_eq_false (by omega)]
    have m3 : a0.size = 3 := by omega
    by_cases e1 : (x1.toNat : Int) < (lo : Int)
    · refine fin _ _ ?_ (unicode_utf8_FullRuneInString.m3a a0 w x0 x1 x2 _ _ _ _ _ hs0 hs1 hs2 hc0 h7 h4 (by omega) (by omega) (by omega) ha0 ha1 (by omega) (by omega) e1)
      rw [if_pos (by omega)]
    by_cases g1 : (hi : Int) < (x1.toNat : Int)
    · refine fin _ _ ?_ (unicode_utf8_FullRuneInString.m3b a0 w x0 x1 x2 _ _ _ _ _ hs0 hs1 hs2 hc0 h7 h4 (by omega) (by omega) (by omega) ha0 ha1 (by omega) (by omega) e1 g1)
      rw [if_pos (by omega)]
    rw [if_neg (by omega)]
    by_cases e2 : (x2.toNat : Int) < 128
    · refine fin _ _ ?_ (unicode_utf8_FullRuneInString.m3c a0 w x0 x1 x2 _ _ _ _ _ hs0 hs1 hs2 hc0 h7 h4 (by omega) (by omega) (by omega) ha0 ha1 (by omega) (by omega) e1 g1 e2)
      rw [decide_eq_true (by omega)]
    by_cases g2 : (191 : Int) < (x2.toNat : Int)
    · refine fin _ _ ?_ (unicode_utf8_FullRuneInString.m3d a0 w x0 x1 x2 _ _ _ _ _ hs0 hs1 hs2 hc0 h7 h4 (by omega) (by omega) (by omega) ha0 ha1 (by omega) (by omega) e1 g1 e2 g2)
      rw [decide_eq_true (by omega)]
    · refine fin _ _ ?_ (unicode_utf8_FullRuneInString.m3e a0 w x0 x1 x2 _ _ _ _ _ hs0 hs1 hs2 hc0 h7 h4 (by omega) (by omega) (by omega) ha0 ha1 (by omega) (by omega) e1 g1 e2 g2)
      rw [decide_eq_false (by omega)]
end Go.Proofs.YtljlkpfiebcoeaaGreatDoor.Full
