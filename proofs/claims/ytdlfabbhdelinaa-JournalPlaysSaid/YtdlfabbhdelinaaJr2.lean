/- A journal's frames, read again: plain laws. No condition but those typed. -/
import Derived.Test.YtdlfabbhdelinaaJw2
namespace Go.Proofs.Ytdlfabbhdelinaa.Jr
open Go.RowKit Go.Proofs.Ytdlfabbhdelinaa.P Go.Proofs.Ytdlfabbhdelinaa.Q Go.Proofs.Ytdlfabbhdelinaa.Plain Go.Proofs.YtdlfabbhdelinaaW.PrintWords Go.Proofs.YtdlfabbhdelinaaW.PrintLast Go.Proofs.YtdlfabbhdelinaaW.PrintMore
set_option linter.unusedVariables false
theorem or8_eq {x c : Int} (hx : 0 ≤ x ∧ x < 16777216) (hc : 0 ≤ c ∧ c < 256) : or8 x c = x * 256 + c := by
  obtain ⟨n, rfl⟩ := Int.eq_ofNat_of_zero_le hx.1
  obtain ⟨m, rfl⟩ := Int.eq_ofNat_of_zero_le hc.1
  have hn : n < 16777216 := by omega
  have hm : m < 256 := by omega
  unfold or8 Go.bits
  simp only []
  rw [IntKind.wrap_u32]
  have e1 : BitVec.ofInt 32 (((n : Int) * 256) % 4294967296) = BitVec.ofNat 32 (n <<< 8) := by
    rw [Nat.shiftLeft_eq, show ((n : Int) * 256) % 4294967296 = ((n * 2 ^ 8 : Nat) : Int) from by omega]
    exact BitVec.ofInt_natCast 32 (n * 2 ^ 8)
  have e2 : BitVec.ofInt 32 ((m : Int) % 4294967296) = BitVec.ofNat 32 m := by
    rw [show (m : Int) % 4294967296 = ((m : Nat) : Int) from by omega]
    exact BitVec.ofInt_natCast 32 m
  show (((BitVec.ofInt 32 (((n : Int) * 256) % 4294967296) ||| BitVec.ofInt 32 ((m : Int) % 4294967296)).toNat : Nat) : Int) % 4294967296 = _
  rw [e1, e2, BitVec.toNat_or, BitVec.toNat_ofNat, BitVec.toNat_ofNat]
  have h1 : n <<< 8 % 2 ^ 32 = n <<< 8 := Nat.mod_eq_of_lt (by rw [Nat.shiftLeft_eq]; omega)
  have h2 : m % 2 ^ 32 = m := Nat.mod_eq_of_lt (by omega)
  rw [h1, h2, ← Nat.shiftLeft_add_eq_or_of_lt (show m < 2 ^ 8 by omega), Nat.shiftLeft_eq]
  omega
theorem rdN_be {x : Int} (h : 0 ≤ x ∧ x < 4294967296) (rest : List Int) : rdN (be x ++ rest) = x := by
  have r0 : rd (be x ++ rest) 0 = x / 16777216 % 256 := rfl
  have r1 : rd (be x ++ rest) 1 = x / 65536 % 256 := rfl
  have r2 : rd (be x ++ rest) 2 = x / 256 % 256 := rfl
  have r3 : rd (be x ++ rest) 3 = x % 256 := rfl
  have e1 : rd4 (be x ++ rest) 1 = x / 16777216 := by
    show or8 0 (rd (be x ++ rest) 0) = _
    rw [r0, or8_eq (by omega) (by omega)]
    omega
  have e2 : rd4 (be x ++ rest) 2 = x / 65536 := by
    show or8 (rd4 (be x ++ rest) 1) (rd (be x ++ rest) 1) = _
    rw [e1, r1, or8_eq (by omega) (by omega)]
    omega
  have e3 : rd4 (be x ++ rest) 3 = x / 256 := by
    show or8 (rd4 (be x ++ rest) 2) (rd (be x ++ rest) 2) = _
    rw [e2, r2, or8_eq (by omega) (by omega)]
    omega
  show or8 (rd4 (be x ++ rest) 3) (rd (be x ++ rest) 3) = _
  rw [e3, r3, or8_eq (by omega) (by omega)]
  omega
theorem ok_len {r : List Int} (h : frE r = 0) : 1 ≤ r.length ∧ r.length ≤ 16384 := by
  unfold frE at h
  split at h
  · cases h
  · omega
theorem frame_shape (r rest : List Int) : frame r ++ rest = be r.length ++ (be (crcI (be r.length ++ r)) ++ (r ++ rest)) := by simp [frame]
theorem next_frame {r : List Int} (h : frE r = 0) (rest : List Int) : nextR (frame r ++ rest) = (r, true) := by
  have hl := ok_len h
  have hlen : (frame r ++ rest).length = 8 + r.length + rest.length := by rw [List.length_append, frame_len]
  have hr : rdN (frame r ++ rest) = r.length := by rw [frame_shape]; exact rdN_be (by omega) _
  have hd : (frame r ++ rest).drop 4 = be (crcI (be r.length ++ r)) ++ (r ++ rest) := by rw [frame_shape]; rfl
  have ht : (frame r ++ rest).take 4 = be r.length := by rw [frame_shape]; rfl
  have htk : ((frame r ++ rest).take (8 + r.length)).drop 8 = r := by
    rw [List.take_append_of_le_length (by rw [frame_len]; exact Nat.le_refl _), List.take_of_length_le (by rw [frame_len]; exact Nat.le_refl _)]
    have := frame_shape r []
    rw [List.append_nil, List.append_nil] at this
    rw [this]
    rfl
  rw [next_rec (by omega) (by rw [hr]; omega), hr, Int.toNat_natCast, htk, ht, hd, rdN_be (crcI_in _)]
  simp
theorem next_part {r p : List Int} (h : frE r = 0) (hp : p <+: frame r) (hn : p.length < 8 + r.length) : (nextR p).2 = false := by
  by_cases h8 : p.length < 8
  · rw [next_none h8]
  have hl := ok_len h
  obtain ⟨t, ht⟩ := hp
  have hsh := frame_shape r []
  rw [List.append_nil, List.append_nil, ← ht] at hsh
  have hp4 : p = be r.length ++ p.drop 4 := by
    have e1 : (p ++ t).take 4 = be r.length := by rw [hsh]; rfl
    rw [List.take_append_of_le_length (by omega)] at e1
    conv => lhs; rw [← List.take_append_drop 4 p, e1]
  have hr : rdN p = r.length := by rw [hp4]; exact rdN_be (by omega) _
  rw [next_bad h8 (by rw [hr]; omega)]
theorem flat_nil : flat [] = [] := rfl
theorem flat_cons (r : List Int) (l : List (List Int)) : flat (r :: l) = frame r ++ flat l := by simp [flat]
theorem flat_append (a b : List (List Int)) : flat (a ++ b) = flat a ++ flat b := by simp [flat]
theorem flat_sz (l : List (List Int)) : (flat l).length = sz l := by
  induction l with
  | nil => rfl
  | cons r l ih => rw [flat_cons, List.length_append, frame_len, ih, sz_cons]
theorem scan_flat : ∀ {l : List (List Int)}, allOk l → ∀ {p : List Int}, (nextR p).2 = false → scanF (flat l ++ p) = l
  | [], _, p, hp => by
    rw [flat_nil, List.nil_append]
    exact scan_no hp
  | r :: l, h, p, hp => by
    have hr := next_frame (h r (by simp)) (flat l ++ p)
    rw [flat_cons, List.append_assoc, scan_yes (by rw [hr]), hr]
    have hd : (frame r ++ (flat l ++ p)).drop (8 + r.length) = flat l ++ p := by
      rw [← frame_len, List.drop_append_of_le_length (Nat.le_refl _), List.drop_length, List.nil_append]
    show r :: scanF ((frame r ++ (flat l ++ p)).drop (8 + r.length)) = _
    rw [hd, scan_flat (fun x hx => h x (by simp [hx])) hp]
theorem next_nil : (nextR []).2 = false := by rw [next_none (by simp)]
theorem scan_flat0 {l : List (List Int)} (h : allOk l) : scanF (flat l) = l := by
  have := scan_flat h next_nil
  rwa [List.append_nil] at this
/-- A beginning of frames. -/
theorem part_flat : ∀ {l : List (List Int)}, allOk l → ∀ {q : List Int}, q <+: flat l → ∃ k p, k ≤ l.length ∧ q = flat (l.take k) ++ p ∧ (nextR p).2 = false
  | [], _, q, hq => by
    obtain rfl : q = [] := by simpa [flat] using hq
    exact ⟨0, [], Nat.le_refl _, rfl, next_nil⟩
  | r :: l, h, q, hq => by
    rw [flat_cons] at hq
    by_cases hl : q.length < 8 + r.length
    · have hp : q <+: frame r := by
        obtain ⟨t, ht⟩ := hq
        refine ⟨(frame r).drop q.length, ?_⟩
        have e1 : (frame r).take q.length = q := by
          have e2 : (frame r ++ flat l).take q.length = q := by rw [← ht, List.take_append_of_le_length (Nat.le_refl _), List.take_length]
          rwa [List.take_append_of_le_length (by rw [frame_len]; omega)] at e2
        conv => lhs; rw [← e1]
        rw [e1, ← e1, List.length_take, Nat.min_eq_left (by rw [frame_len]; omega), List.take_append_drop]
      exact ⟨0, q, Nat.zero_le _, by simp [flat], next_part (h r (by simp)) hp hl⟩
    · obtain ⟨t, ht⟩ := hq
      have e1 : q.take (8 + r.length) = frame r := by
        have e2 : (q ++ t).take (8 + r.length) = frame r := by rw [ht, ← frame_len, List.take_append_of_le_length (Nat.le_refl _), List.take_length]
        rwa [List.take_append_of_le_length (by omega)] at e2
      have e3 : q = frame r ++ q.drop (8 + r.length) := by conv => lhs; rw [← List.take_append_drop (8 + r.length) q, e1]
      have e4 : q.drop (8 + r.length) <+: flat l := by
        refine ⟨t, ?_⟩
        rw [e3, List.append_assoc] at ht
        exact List.append_cancel_left ht
      obtain ⟨k, p, hk, he, hn⟩ := part_flat (fun x hx => h x (by simp [hx])) e4
      refine ⟨k + 1, p, by simpa using hk, ?_, hn⟩
      rw [List.take_succ_cons, flat_cons, List.append_assoc, ← he]
      exact e3
end Go.Proofs.Ytdlfabbhdelinaa.Jr
