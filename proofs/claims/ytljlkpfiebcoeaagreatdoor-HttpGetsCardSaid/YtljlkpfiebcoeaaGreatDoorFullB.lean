/- The walk of unicode/utf8.FullRuneInString: some of its ways. No condition but those typed. -/
import Derived.Test.YtljlkpfiebcoeaaGreatDoorShelf
import Derived.Test.YtljlkpfiebcoeaaGreatDoorMine
import Derived.BigRegion
import Derived.WalkKit
import Derived.ProofKit
namespace Go.Proofs.YtljlkpfiebcoeaaGreatDoor.Full
open Go Go.RowKit Go.Proofs Go.Proofs.YtljlkpfiebcoeaaGreatDoorW.PrintWords Go.Proofs.YtljlkpfiebcoeaaGreatDoorW.PrintLast Go.Proofs.YtljlkpfiebcoeaaGreatDoorW.PrintMore
set_option linter.unusedVariables false
set_option maxHeartbeats 4000000 in
set_option maxRecDepth 100000 in
theorem unicode_utf8_FullRuneInString.m3b (a0 : ByteArray) (w : World) (x0 x1 x2 : UInt8) (v sz idx lo hi : Int) (hs0 : ∀ h : 0 < a0.size, a0[0]'h = x0) (hs1 : ∀ h : 1 < a0.size, a0[1]'h = x1) (hs2 : ∀ h : 2 < a0.size, a0[2]'h = x2) (hc0 : w.cell? ⟨1, x0.toNat, none⟩ = some (.int .u8 v))
    (h7 : Go.bits .and .u8 v 7 = sz) (h4 : v / 16 = idx) (hi0 : 0 ≤ idx) (hi1 : idx < 16) (hsz2 : sz < 5) (ha0 : w.cell? ⟨2, idx.toNat * 2, none⟩ = some (.int .u8 lo)) (ha1 : w.cell? ⟨2, idx.toNat * 2 + 1, none⟩ = some (.int .u8 hi)) (hm : (a0.size : Int) = 3) (hsz : 3 < sz) (e1 : ¬ (x1.toNat : Int) < lo) (g1 : hi < (x1.toNat : Int)) :
    Calls Tryz.prog 131 #[.string a0] w fun e w' => e = .returned (.bool true) ∧ Below w.heap.size w w' := by
  have hz0 : (0 : Int) < (a0.size : Int) := by omega
  have hz0' : ¬ ((a0.size : Int) = 0) := by omega
  replace hs0 := hs0 (by omega)
  have l0 := x0.toNat_lt
  have q0 : (a0.size : Int) < sz := by omega
  have q1 : ¬ sz ≤ (a0.size : Int) := by omega
  have q2 : ((1 : Int) < (a0.size : Int)) := by omega
  have qq1 : ¬ ((a0.size : Int) ≤ 1) := by omega
  have q3 : ((2 : Int) < (a0.size : Int)) := by omega
  have qq2 : ¬ ((a0.size : Int) ≤ 2) := by omega
  replace hs1 := hs1 (by omega)
  replace hs2 := hs2 (by omega)
  go_enter Tryz.func131, Tryz.ntmps131
  go_wp2
  all_goals (try (go_region; go_wp2))
  all_goals (try (go_region; go_wp2))
  all_goals (go_ret; exact ⟨rfl, by repeat (first | exact Below.refl _ _ | apply below_alloc | apply pw_below_drewN | apply below_drew1)⟩)
set_option maxHeartbeats 4000000 in
set_option maxRecDepth 100000 in
theorem unicode_utf8_FullRuneInString.m2c (a0 : ByteArray) (w : World) (x0 x1 x2 : UInt8) (v sz idx lo hi : Int) (hs0 : ∀ h : 0 < a0.size, a0[0]'h = x0) (hs1 : ∀ h : 1 < a0.size, a0[1]'h = x1) (hs2 : ∀ h : 2 < a0.size, a0[2]'h = x2) (hc0 : w.cell? ⟨1, x0.toNat, none⟩ = some (.int .u8 v))
    (h7 : Go.bits .and .u8 v 7 = sz) (h4 : v / 16 = idx) (hi0 : 0 ≤ idx) (hi1 : idx < 16) (hsz2 : sz < 5) (ha0 : w.cell? ⟨2, idx.toNat * 2, none⟩ = some (.int .u8 lo)) (ha1 : w.cell? ⟨2, idx.toNat * 2 + 1, none⟩ = some (.int .u8 hi)) (hm : (a0.size : Int) = 2) (hsz : 2 < sz) (e1 : ¬ (x1.toNat : Int) < lo) (g1 : ¬ hi < (x1.toNat : Int)) :
    Calls Tryz.prog 131 #[.string a0] w fun e w' => e = .returned (.bool false) ∧ Below w.heap.size w w' := by
  have hz0 : (0 : Int) < (a0.size : Int) := by omega
  have hz0' : ¬ ((a0.size : Int) = 0) := by omega
  replace hs0 := hs0 (by omega)
  have l0 := x0.toNat_lt
  have q0 : (a0.size : Int) < sz := by omega
  have q1 : ¬ sz ≤ (a0.size : Int) := by omega
  have q2 : ((1 : Int) < (a0.size : Int)) := by omega
  have qq1 : ¬ ((a0.size : Int) ≤ 1) := by omega
  have q3 : ¬ ((2 : Int) < (a0.size : Int)) := by omega
  have qq2 : ((a0.size : Int) ≤ 2) := by omega
  replace hs1 := hs1 (by omega)
  go_enter Tryz.func131, Tryz.ntmps131
  go_wp2
  all_goals (try (go_region; go_wp2))
  all_goals (try (go_region; go_wp2))
  all_goals (go_ret; exact ⟨rfl, by repeat (first | exact Below.refl _ _ | apply below_alloc | apply pw_below_drewN | apply below_drew1)⟩)
end Go.Proofs.YtljlkpfiebcoeaaGreatDoor.Full
