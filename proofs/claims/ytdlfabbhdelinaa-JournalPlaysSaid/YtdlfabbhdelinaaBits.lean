/- Plain laws of bits: whole numbers from 0 on as bit vectors, for the sum and the mark. No condition. -/
import Derived.Laws.BitsLemmas
import Derived.RowKit
namespace Go.Proofs.Ytdlfabbhdelinaa.Plain
def poly : BitVec 32 := 0xEDB88320#32
def step (c : BitVec 32) : BitVec 32 := (c >>> 1) ^^^ (if c.getLsbD 0 then poly else 0#32)
theorem step_xor (a b : BitVec 32) : step (a ^^^ b) = step a ^^^ step b := by
  unfold step
  rw [BitVec.ushiftRight_xor_distrib, BitVec.getLsbD_xor]
  have h : ∀ p q : BitVec 32, ∀ x y : Bool, (p ^^^ q) ^^^ (if (x ^^ y) then poly else 0#32) = (p ^^^ if x then poly else 0#32) ^^^ (q ^^^ if y then poly else 0#32) := by
    intro p q x y
    cases x <;> cases y
    · simp
    · simp [BitVec.xor_assoc]
    · simp only [Bool.xor_false, if_true]
      rw [BitVec.xor_assoc, BitVec.xor_comm q, ← BitVec.xor_assoc]
      simp
    · simp only [Bool.xor_self, if_true]
      rw [BitVec.xor_assoc p poly, ← BitVec.xor_assoc poly q, BitVec.xor_comm poly q, BitVec.xor_assoc q poly]
      simp
  exact h _ _ _ _
theorem step_inj {a b : BitVec 32} (h : step a = step b) : a = b := by
  have top : ∀ c : BitVec 32, (step c).getLsbD 31 = c.getLsbD 0 := by
    intro c
    unfold step
    rw [BitVec.getLsbD_xor, BitVec.getLsbD_ushiftRight]
    cases c.getLsbD 0 <;> simp [poly]
  have h0 : a.getLsbD 0 = b.getLsbD 0 := by rw [← top a, ← top b, h]
  have h1 : a >>> 1 = b >>> 1 := by
    unfold step at h
    rw [h0] at h
    have := congrArg (· ^^^ (if b.getLsbD 0 then poly else 0#32)) h
    simpa [BitVec.xor_assoc] using this
  apply BitVec.eq_of_getLsbD_eq
  intro i hi
  cases i with
  | zero => exact h0
  | succ i =>
    have := congrArg (fun x => BitVec.getLsbD x i) h1
    simp only [BitVec.getLsbD_ushiftRight] at this
    rw [Nat.add_comm] at this
    exact this
def step4 (c : BitVec 32) : BitVec 32 := step (step (step (step c)))
def tab : List Nat := [0x00000000, 0x1DB71064, 0x3B6E20C8, 0x26D930AC, 0x76DC4190, 0x6B6B51F4, 0x4DB26158, 0x5005713C, 0xEDB88320, 0xF00F9344, 0xD6D6A3E8, 0xCB61B38C, 0x9B64C2B0, 0x86D3D2D4, 0xA00AE278, 0xBDBDF21C]
theorem tab4 : ∀ i : Fin 16, step4 (BitVec.ofNat 32 i.val) = BitVec.ofNat 32 (tab.getD i.val 0) := by decide
theorem step_low {c : BitVec 32} (h : c.getLsbD 0 = false) : step c = c >>> 1 := by
  unfold step; rw [h]; simp
theorem step4_high (c : BitVec 32) (h : ∀ i, i < 4 → c.getLsbD i = false) : step4 c = c >>> 4 := by
  unfold step4
  rw [step_low (h 0 (by omega))]
  rw [step_low (c := c >>> 1) (by rw [BitVec.getLsbD_ushiftRight]; exact h 1 (by omega)), ← BitVec.shiftRight_add]
  rw [step_low (c := c >>> (1 + 1)) (by rw [BitVec.getLsbD_ushiftRight]; exact h 2 (by omega)), ← BitVec.shiftRight_add]
  rw [step_low (c := c >>> (1 + 1 + 1)) (by rw [BitVec.getLsbD_ushiftRight]; exact h 3 (by omega)), ← BitVec.shiftRight_add]
theorem step4_eq (c : BitVec 32) : step4 c = BitVec.ofNat 32 (tab.getD (c &&& 15#32).toNat 0) ^^^ (c >>> 4) := by
  have hx : c = (c &&& 15#32) ^^^ (c &&& ~~~15#32) := by
    apply BitVec.eq_of_getLsbD_eq
    intro i hi
    rw [BitVec.getLsbD_xor, BitVec.getLsbD_and, BitVec.getLsbD_and, BitVec.getLsbD_not]
    cases c.getLsbD i <;> cases (15#32).getLsbD i <;> simp [hi]
  have h4 : step4 (c &&& ~~~15#32) = (c &&& ~~~15#32) >>> 4 := by
    apply step4_high
    intro i hi
    rw [BitVec.getLsbD_and]
    have : (~~~15#32 : BitVec 32).getLsbD i = false := by
      have : i = 0 ∨ i = 1 ∨ i = 2 ∨ i = 3 := by omega
      rcases this with rfl | rfl | rfl | rfl <;> decide
    rw [this]; simp
  have hs : (c &&& ~~~15#32) >>> 4 = c >>> 4 := by
    apply BitVec.eq_of_getLsbD_eq
    intro i hi
    rw [BitVec.getLsbD_ushiftRight, BitVec.getLsbD_ushiftRight, BitVec.getLsbD_and]
    by_cases hj : 4 + i < 32
    · have : (~~~15#32 : BitVec 32).getLsbD (4 + i) = true := by
        have : ∀ j : Fin 28, (~~~15#32 : BitVec 32).getLsbD (4 + j.val) = true := by decide
        exact this ⟨i, by omega⟩
      rw [this]; simp
    · rw [BitVec.getLsbD_of_ge _ _ (by omega)]; simp
  have hl : (c &&& 15#32).toNat < 16 := by
    rw [BitVec.toNat_and]
    exact Nat.lt_of_le_of_lt Nat.and_le_right (by decide)
  have ht := tab4 ⟨(c &&& 15#32).toNat, hl⟩
  simp only [BitVec.ofNat_toNat, BitVec.setWidth_eq] at ht
  have hxor : ∀ a b, step4 (a ^^^ b) = step4 a ^^^ step4 b := by intro a b; simp only [step4, step_xor]
  conv => lhs; rw [hx]
  rw [hxor, ht, h4, hs]
/-- One byte's eight steps, the reference's way: bit k of the byte against the lowest bit. -/
def rstep (x : BitVec 32) (k : Nat) (s : BitVec 32) : BitVec 32 := if (s ^^^ (x >>> k)).getLsbD 0 then (s >>> 1) ^^^ poly else s >>> 1
theorem rstep_eq (x : BitVec 32) (k : Nat) (s t : BitVec 32) (h : t = s ^^^ (x >>> k)) : step t = rstep x k s ^^^ (x >>> (k + 1)) := by
  subst h
  unfold step rstep
  rw [BitVec.ushiftRight_xor_distrib, ← BitVec.shiftRight_add]
  cases (s ^^^ x >>> k).getLsbD 0
  · simp
  · simp only [if_true]
    rw [BitVec.xor_assoc, BitVec.xor_assoc, BitVec.xor_comm poly]
theorem ofInt_nat32 (a : BitVec 32) : BitVec.ofInt 32 (a.toNat : Int) = a := by
  rw [BitVec.ofInt_natCast, BitVec.ofNat_toNat, BitVec.setWidth_eq]
theorem ofInt_nat64 (a : BitVec 64) : BitVec.ofInt 64 (a.toNat : Int) = a := by
  rw [BitVec.ofInt_natCast, BitVec.ofNat_toNat, BitVec.setWidth_eq]
theorem wrap_u64 (n : Int) : IntKind.u64.wrap n = n % 18446744073709551616 := by simp [IntKind.wrap, IntKind.bits, IntKind.signed]
theorem wrap32n (a : BitVec 32) : IntKind.u32.wrap (a.toNat : Int) = (a.toNat : Int) := by
  rw [IntKind.wrap_u32]
  have := a.isLt
  omega
theorem wrap64n (a : BitVec 64) : IntKind.u64.wrap (a.toNat : Int) = (a.toNat : Int) := by
  rw [wrap_u64]
  have := a.isLt
  omega
theorem xor32 (a b : BitVec 32) : Go.bits .xor .u32 (a.toNat : Int) (b.toNat : Int) = ((a ^^^ b).toNat : Int) := by
  show IntKind.u32.wrap ((BitVec.ofInt 32 (a.toNat : Int) ^^^ BitVec.ofInt 32 (b.toNat : Int)).toNat : Int) = _
  rw [ofInt_nat32, ofInt_nat32, wrap32n]
theorem xor64 (a b : BitVec 64) : Go.bits .xor .u64 (a.toNat : Int) (b.toNat : Int) = ((a ^^^ b).toNat : Int) := by
  show IntKind.u64.wrap ((BitVec.ofInt 64 (a.toNat : Int) ^^^ BitVec.ofInt 64 (b.toNat : Int)).toNat : Int) = _
  rw [ofInt_nat64, ofInt_nat64, wrap64n]
theorem and32 (a b : BitVec 32) : Go.bits .and .u32 (a.toNat : Int) (b.toNat : Int) = ((a &&& b).toNat : Int) := by
  show IntKind.u32.wrap ((BitVec.ofInt 32 (a.toNat : Int) &&& BitVec.ofInt 32 (b.toNat : Int)).toNat : Int) = _
  rw [ofInt_nat32, ofInt_nat32, wrap32n]
theorem not32 (a : BitVec 32) : Go.bits .xor .u32 4294967295 (a.toNat : Int) = ((~~~a).toNat : Int) := by
  have h := xor32 (BitVec.allOnes 32) a
  rw [show ((BitVec.allOnes 32).toNat : Int) = 4294967295 from rfl, BitVec.allOnes_xor] at h
  exact h
theorem begin64 (a : BitVec 64) : Go.bits .xor .u64 (a.toNat : Int) 14695981039346656037 = ((a ^^^ 14695981039346656037#64).toNat : Int) := by
  have h := xor64 a 14695981039346656037#64
  rwa [show ((14695981039346656037#64).toNat : Int) = 14695981039346656037 from rfl] at h
theorem shr4 (a : BitVec 32) : (Int.ofNat a.toNat) / (16 : Int) = Int.ofNat (a >>> 4).toNat := by
  show ((a.toNat : Nat) : Int) / (16 : Int) = (((a >>> 4).toNat : Nat) : Int)
  rw [BitVec.toNat_ushiftRight, Nat.shiftRight_eq_div_pow]
  omega
theorem shr4' (a : BitVec 32) : ((a.toNat : Nat) : Int) / (16 : Int) = (((a >>> 4).toNat : Nat) : Int) := shr4 a
theorem shr1 (a : BitVec 32) : (Int.ofNat a.toNat) / (2 : Int) = Int.ofNat (a >>> 1).toNat := by
  show ((a.toNat : Nat) : Int) / (2 : Int) = (((a >>> 1).toNat : Nat) : Int)
  rw [BitVec.toNat_ushiftRight, Nat.shiftRight_eq_div_pow]
  omega
theorem shr1' (a : BitVec 32) : ((a.toNat : Nat) : Int) / (2 : Int) = (((a >>> 1).toNat : Nat) : Int) := shr1 a
theorem mod32 (x : Int) : x % 4294967296 = ((BitVec.ofInt 32 x).toNat : Int) := by
  rw [BitVec.toNat_ofInt]
  show x % 4294967296 = ((x % 4294967296).toNat : Int)
  omega
theorem mod64 (x : Int) : IntKind.u64.wrap x = ((BitVec.ofInt 64 x).toNat : Int) := by
  rw [BitVec.toNat_ofInt, wrap_u64]
  show x % 18446744073709551616 = ((x % 18446744073709551616).toNat : Int)
  omega
theorem mul64 (a b : BitVec 64) : IntKind.u64.wrap ((a.toNat : Int) * (b.toNat : Int)) = ((a * b).toNat : Int) := by
  rw [BitVec.toNat_mul, wrap_u64, ← Int.natCast_mul]
  omega
theorem prime64 (a : BitVec 64) : IntKind.u64.wrap ((a.toNat : Int) * 1099511628211) = ((a * 1099511628211#64).toNat : Int) := by
  have h := mul64 a 1099511628211#64
  rwa [show ((1099511628211#64).toNat : Int) = 1099511628211 from rfl] at h
theorem low_bit (a : BitVec 32) : Go.bits .and .u32 (a.toNat : Int) 1 = if a.getLsbD 0 then 1 else 0 := by
  have h := and32 a 1#32
  rw [show ((1#32).toNat : Int) = 1 from rfl] at h
  rw [h]
  have h2 : (a &&& 1#32) = if a.getLsbD 0 then 1#32 else 0#32 := by
    apply BitVec.eq_of_getLsbD_eq
    intro i hi
    rw [BitVec.getLsbD_and]
    rcases i with _ | i
    · cases a.getLsbD 0 <;> simp
    · have : (1#32 : BitVec 32).getLsbD (i + 1) = false := by simp [BitVec.getLsbD_one]
      rw [this]
      cases a.getLsbD 0 <;> simp [BitVec.getLsbD_one]
  rw [h2]
  cases a.getLsbD 0 <;> rfl
theorem mark_inj {a b : BitVec 64} (h : a * 1099511628211#64 = b * 1099511628211#64) : a = b := by
  have h2 := congrArg (· * 0xce965057aff6957b#64) h
  simp only [BitVec.mul_assoc] at h2
  rw [show (1099511628211#64 * 0xce965057aff6957b#64 : BitVec 64) = 1#64 from by decide, BitVec.mul_one, BitVec.mul_one] at h2
  exact h2
end Go.Proofs.Ytdlfabbhdelinaa.Plain
