/- The walks of utf.IsText (a range over a text) and utf.Signs, and the rune's decoder by the shelf. No condition but those typed. -/
import Derived.Test.YtljlkpfiebcoeaaGreatDoorShelf
import Derived.Test.YtljlkpfiebcoeaaGreatDoorMine
import Derived.Laws.IdiomStrings
import Derived.Laws.RangeAny
import Derived.WalkKit
import Derived.ProofKit
namespace Go.Proofs.YtljlkpfiebcoeaaGreatDoor.Utfs
open Go Go.RowKit Go.Proofs Go.Proofs.YtljlkpfiebcoeaaGreatDoorW.PrintWords Go.Proofs.YtljlkpfiebcoeaaGreatDoorW.PrintLast Go.Proofs.YtljlkpfiebcoeaaGreatDoorW.PrintMore
set_option linter.unusedVariables false
/-- From a place on, at most so many rounds: is each sign right, or written out as the sign that stands for none? -/
def isTextN (s : ByteArray) : Nat → Nat → Bool
  | 0, _ => true
  | b + 1, pos => if pos < s.size then (if (Utf8.decode s pos).1 = 65533 ∧ Lib.hasPrefix (s.extract pos s.size).data.toList [239, 191, 189] = false then false else isTextN s b (pos + (Utf8.decode s pos).2)) else true
theorem width_pos (s : ByteArray) (pos : Nat) (h : pos < s.size) : 1 ≤ (Utf8.decode s pos).2 := by
  by_cases ha : (s[pos]'h).toNat < 128
  · rw [decode_ascii s pos h ha]
    exact Nat.le_refl _
  · exact (decode_high s pos h (by omega)).2
theorem isTextN_end (s : ByteArray) (b pos : Nat) (h : ¬ pos < s.size) : isTextN s b pos = true := by
  cases b with
  | zero => rfl
  | succ b => simp [isTextN, h]
theorem below_iter (w : World) (s : ByteArray) (pos : Nat) : Below w.heap.size w (w.iter s pos) := below_alloc (Below.refl _ _) _
set_option maxHeartbeats 4000000 in
set_option maxRecDepth 1000000 in
theorem isText_calls (s : ByteArray) (w : World) :
    Calls Tryz.prog 119 #[.string s] w fun e w' => e = .returned (.bool (isTextN s s.size 0)) ∧ Below w.heap.size w w' := by
  go_enter Tryz.func119, Tryz.ntmps119
  go_wp2
  go_loopw [2] (fun v2 w' => ∃ (pos b : Nat), v2 = .bool false ∧ w' = w.iter s pos ∧ isTextN s b pos = isTextN s s.size 0 ∧ s.size ≤ pos + b) (fun _ w' => s.size - w'.iterPos w.heap.size)
  case atStart => exact ⟨0, s.size, rfl, rfl, rfl, by omega⟩
  case round =>
    obtain ⟨pos, b, rfl, rfl, hc, hb⟩ := hrel
    by_cases hp : pos < s.size
    · have hnx : ∀ ty, (Instr.next (.pointer (some ⟨w.heap.size, 0, none⟩)) true ty).run Tryz.prog (w.iter s pos) = _ := fun ty => run_next_any w s pos ty hp
      have hwd := width_pos s pos hp
      cases b with
      | zero => omega
      | succ b =>
        simp only [isTextN, if_pos hp] at hc
        generalize hd : Utf8.decode s pos = d at *
        obtain ⟨c, n⟩ := d
        simp only at hc hnx hwd
        by_cases h1 : c = 65533
        · have h1i : ((c : Int) == 65533) = true := by subst h1; rfl
          have h1d : decide ((c : Int) = 65533) = true := by subst h1; rfl
          have hpz : (0 : Int) ≤ (pos : Int) := by omega
          have hpl : (pos : Int) ≤ (s.size : Int) := by omega
          have hcall := fun W => Tryz.strings_HasPrefix (s.extract pos s.size) ⟨#[239, 191, 189]⟩ W
          cases hx : Lib.hasPrefix (s.extract pos s.size).data.toList [239, 191, 189] with
          | true =>
            have hx' : Lib.hasPrefix (s.extract pos s.size).data.toList (⟨#[239, 191, 189]⟩ : ByteArray).data.toList = true := hx
            simp only [hx'] at hcall
            rw [if_neg (by rw [hx]; simp)] at hc
            clear hx hx'
            have HC := Aside0.mk hc
            clear hc
            go_wp2_with (go_at_call 58; refine (hcall _).mono ?_; rintro e w' ⟨rfl, rfl⟩)
            go_roundw
            case rel => exact ⟨pos + n, b, rfl, rfl, HC.out, by omega⟩
            case measure => simp; omega
          | false =>
            have hx' : Lib.hasPrefix (s.extract pos s.size).data.toList (⟨#[239, 191, 189]⟩ : ByteArray).data.toList = false := hx
            simp only [hx'] at hcall
            rw [if_pos ⟨h1, hx⟩] at hc
            clear hx hx'
            have HC := Aside0.mk hc
            clear hc
            go_wp2_with (go_at_call 58; refine (hcall _).mono ?_; rintro e w' ⟨rfl, rfl⟩)
            go_ret
            exact ⟨by rw [← HC.out]; rfl, below_iter _ _ _⟩
        · have h1i : ((c : Int) == 65533) = false := beq_eq_false_iff_ne.mpr (by omega)
          have h1d : decide ((c : Int) = 65533) = false := decide_eq_false (by omega)
          rw [if_neg (by rintro ⟨h, _⟩; exact h1 h)] at hc
          go_wp2
          go_roundw
          case rel => exact ⟨pos + n, b, rfl, rfl, hc, by omega⟩
          case measure => simp; omega
    · have hnx : ∀ ty, (Instr.next (.pointer (some ⟨w.heap.size, 0, none⟩)) true ty).run Tryz.prog (w.iter s pos) = _ := fun ty => run_next_end w s pos ty hp
      go_wp2
      go_ret
      rw [isTextN_end s b pos hp] at hc
      exact ⟨by rw [← hc]; rfl, below_iter _ _ _⟩
end Go.Proofs.YtljlkpfiebcoeaaGreatDoor.Utfs
