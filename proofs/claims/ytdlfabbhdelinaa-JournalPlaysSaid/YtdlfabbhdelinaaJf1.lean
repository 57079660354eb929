/- A journal's frames as the document tells them, plainly: its sum, its frame, the record that bytes begin with. No condition but those typed. -/
import Derived.Test.YtdlfabbhdelinaaF3
import Derived.Test.YtdlfabbhdelinaaJr2
namespace Go.Proofs.Ytdlfabbhdelinaa.Jf
open Go.RowKit Go.Proofs.Ytdlfabbhdelinaa.F Go.Proofs.Ytdlfabbhdelinaa.Q Go.Proofs.Ytdlfabbhdelinaa.Plain Go.Proofs.Ytdlfabbhdelinaa.Jr Go.Proofs.YtdlfabbhdelinaaW.PrintWords Go.Proofs.YtdlfabbhdelinaaW.PrintLast Go.Proofs.YtdlfabbhdelinaaW.PrintMore
set_option linter.unusedVariables false
/-- The reference's steps for one byte. -/
def rsteps (x : BitVec 32) : Nat → Nat → BitVec 32 → BitVec 32
  | 0, _, s => s
  | n + 1, k, s => rsteps x n (k + 1) (rstep x k s)
theorem rsteps_all (x : BitVec 32) (hx : x.toNat < 256) (s : BitVec 32) : rsteps x 8 0 s = step4 (step4 (s ^^^ x)) := by
  have hz : x >>> 8 = 0#32 := by
    apply BitVec.eq_of_toNat_eq
    rw [BitVec.toNat_ushiftRight, Nat.shiftRight_eq_div_pow]
    show x.toNat / 256 = 0
    omega
  have h0 : s ^^^ x = s ^^^ (x >>> 0) := by simp
  unfold step4
  rw [h0, rstep_eq x 0 s _ rfl, rstep_eq x 1 _ _ rfl, rstep_eq x 2 _ _ rfl, rstep_eq x 3 _ _ rfl, rstep_eq x 4 _ _ rfl, rstep_eq x 5 _ _ rfl, rstep_eq x 6 _ _ rfl, rstep_eq x 7 _ _ rfl, hz]
  simp [rsteps]
theorem shr_byte {x : Int} (h0 : 0 ≤ x) (h1 : x < 256) {k : Nat} (hk : k ≤ 8) : (shr .u8 x (k : Int)) % 4294967296 = (((b32 x) >>> k).toNat : Int) := by
  obtain ⟨a, rfl⟩ := Int.eq_ofNat_of_zero_le h0
  unfold shr b32
  rw [BitVec.ofInt_natCast, BitVec.toNat_ushiftRight, Nat.shiftRight_eq_div_pow, BitVec.toNat_ofNat, Int.toNat_natCast, show IntKind.u8.bits = 8 from rfl, Nat.min_eq_left hk]
  have h2 : a % 2 ^ 32 = a := Nat.mod_eq_of_lt (by omega)
  rw [h2]
  have h3 : a / 2 ^ k ≤ a := Nat.div_le_self _ _
  have h4 : ((a : Int) / 2 ^ k) = ((a / 2 ^ k : Nat) : Int) := by simp
  have h5 : a < 256 := by omega
  show ((a : Int) / 2 ^ k) % 4294967296 = ((a / 2 ^ k : Nat) : Int)
  rw [h4]
  generalize a / 2 ^ k = q at *
  omega
theorem rcrc_in (l : List Int) (i : Nat) (hi : i < l.length) (hx0 : 0 ≤ l[i]) (hx1 : l[i] < 256) (r : Int) (d : Nat) : ∀ (j : Nat) (s : BitVec 32), j + d = 8 →
    Ev (fun k => cringleref08_Crc.l0 k l ((rsteps (b32 l[i]) d j s).toNat : Int) (wrap64 ((i : Int) + 1))) r →
    Ev (fun k => cringleref08_Crc.l1 k l (s.toNat : Int) (i : Int) (j : Int)) r := by
  induction d with
  | zero =>
    intro j s hj h
    refine Ev.step (fun k => ?_) h
    simp only [cringleref08_Crc.l1]
    rw [if_neg (by omega)]
    rfl
  | succ d ih =>
    intro j s hj h
    refine Ev.step (f := fun k => cringleref08_Crc.l1 k l ((rstep (b32 l[i]) j s).toNat : Int) (i : Int) ((j + 1 : Nat) : Int)) (fun k => ?_) (ih (j + 1) _ (by omega) h)
    simp only [cringleref08_Crc.l1]
    rw [if_pos (by omega), if_pos (by omega), if_pos (by omega), if_pos (by omega), rd_get hi, shr_byte hx0 hx1 (by omega), xor32, low_bit, wrap_next (by omega)]
    unfold rstep
    cases (s ^^^ b32 l[i] >>> j).getLsbD 0 with
    | false =>
      simp only [Bool.false_eq_true, if_false, Int.reduceEq]
      rw [shr1']
    | true =>
      rw [if_pos rfl, if_pos rfl, if_pos rfl, shr1']
      have hp := xor32 (s >>> 1) poly
      rw [show (poly.toNat : Int) = 3988292384 from rfl] at hp
      rw [hp]
theorem rcrc_loop (l : List Int) (hn : l.length ≤ 140737488351232) (hl : ∀ x ∈ l, 0 ≤ x ∧ x < 256) (d : Nat) : ∀ (i : Nat) (s : BitVec 32), i + d = l.length →
    Ev (fun k => cringleref08_Crc.l0 k l (s.toNat : Int) (i : Int)) ((~~~(crcs s (l.drop i))).toNat : Int) := by
  induction d with
  | zero =>
    intro i s hi
    refine Ev.step (f := fun _ => some ((~~~(crcs s (l.drop i))).toNat : Int)) (fun k => ?_) (Ev.now _)
    simp only [cringleref08_Crc.l0]
    rw [if_neg (by omega), not32, List.drop_of_length_le (by omega)]
    rfl
  | succ d ih =>
    intro i s hi
    have hlt : i < l.length := by omega
    have hx := hl l[i] (List.getElem_mem hlt)
    refine Ev.step (f := fun k => cringleref08_Crc.l1 k l (s.toNat : Int) (i : Int) ((0 : Nat) : Int)) (fun k => ?_) ?_
    · simp only [cringleref08_Crc.l0]
      rw [if_pos (by omega)]
      rfl
    · refine rcrc_in l i hlt hx.1 hx.2 _ 8 0 s rfl ?_
      rw [List.drop_eq_getElem_cons hlt, wrap_next (by omega), rsteps_all _ (by unfold b32; rw [BitVec.toNat_ofInt]; show (l[i] % 4294967296).toNat < 256; omega)]
      exact ih (i + 1) _ (by omega)
theorem rcrc_ev (l : List Int) (hn : l.length ≤ 140737488351232) (hl : ∀ x ∈ l, 0 ≤ x ∧ x < 256) : Ev (fun k => cringleref08_Crc.f k l) (crcI l) :=
  rcrc_loop l hn hl l.length 0 (~~~0#32) (by omega)
/-- Bytes. -/
def Bys (l : List Int) : Prop := ∀ x ∈ l, 0 ≤ x ∧ x < 256
theorem Bys.app {a b : List Int} (ha : Bys a) (hb : Bys b) : Bys (a ++ b) := fun x hx => (List.mem_append.1 hx).elim (ha x) (hb x)
theorem Bys.drop {a : List Int} (ha : Bys a) (n : Nat) : Bys (a.drop n) := fun x hx => ha x (List.mem_of_mem_drop hx)
theorem Bys.take {a : List Int} (ha : Bys a) (n : Nat) : Bys (a.take n) := fun x hx => ha x (List.mem_of_mem_take hx)
theorem be_bys (x : Int) : Bys (be x) := fun y hy => by
  simp only [be, List.mem_cons, List.not_mem_nil, or_false] at hy
  rcases hy with rfl | rfl | rfl | rfl <;> omega
theorem frame_ev {b : List Int} (hb : Bys b) (hl : b.length ≤ 2000000) : Ev (fun k => cringleref10_Frame.f k b) ((if frE b = 0 then frame b else []), frE b) := by
  by_cases h0 : b.length = 0
  · have e : frE b = 1 := if_pos (.inl h0)
    rw [e]
    refine Ev.congr (fun k => by unfold cringleref10_Frame.f; rw [if_pos (by omega)]) ?_
    exact Ev.step (f := fun _ => some ([], 1)) (fun k => by simp [cringleref10_Frame.j0]) (Ev.now _)
  by_cases h1 : 16384 < b.length
  · have e : frE b = 1 := if_pos (.inr h1)
    rw [e]
    refine Ev.congr (fun k => by unfold cringleref10_Frame.f; rw [if_neg (by omega), decide_eq_true (by omega)]) ?_
    exact Ev.step (f := fun _ => some ([], 1)) (fun k => by simp [cringleref10_Frame.j0]) (Ev.now _)
  have e : frE b = 0 := if_neg (fun h => h.elim h0 h1)
  rw [e, if_pos rfl]
  have hd : (b.length : Int) / 16777216 = (b.length : Int) / 16777216 % 256 := by omega
  have hm : (b.length : Int) % 4294967296 = b.length := by omega
  refine Ev.congr (fun k => by unfold cringleref10_Frame.f; rw [if_neg (by omega), decide_eq_false (by omega)]) ?_
  refine Ev.step (fun k => by
    simp only [cringleref10_Frame.j0, cringleref10_four.f, Option.bind_some, Bool.false_eq_true, if_false]
    rw [if_pos (by simp), hm, if_pos (by simp; omega)]) ?_
  have hE : ([] ++ [(b.length : Int) / 16777216 % 256, (b.length : Int) / 65536 % 256, (b.length : Int) / 256 % 256, (b.length : Int) % 256] ++ b) = be b.length ++ b := rfl
  rw [hE]
  refine Ev.bind (rcrc_ev (be b.length ++ b) (by simp [be]; omega) ((be_bys _).app hb)) ?_
  refine now_of (fun k => ?_)
  rw [if_pos (by simp), if_pos (by simp; omega)]
  rfl
theorem be_inj {x y : Int} (hx : 0 ≤ x ∧ x < 4294967296) (hy : 0 ≤ y ∧ y < 4294967296) (h : be x = be y) : x = y := by
  have h1 := rdN_be hx []
  have h2 := rdN_be hy []
  rw [h] at h1
  exact h1.symm.trans h2
theorem be_rdN {b : List Int} (hb : Bys b) (hl : 4 ≤ b.length) : be (rdN b) = b.take 4 := by
  match b, hl, hb with
  | a :: c :: d :: e :: r, _, hb =>
    have ha := hb a (by simp)
    have hc := hb c (by simp)
    have hd := hb d (by simp)
    have he := hb e (by simp)
    have e1 : rd4 (a :: c :: d :: e :: r) 1 = a := by
      show or8 0 a = _
      rw [or8_eq (by omega) ha]; omega
    have e2 : rd4 (a :: c :: d :: e :: r) 2 = a * 256 + c := by
      show or8 (rd4 (a :: c :: d :: e :: r) 1) c = _
      rw [e1, or8_eq (by omega) hc]
    have e3 : rd4 (a :: c :: d :: e :: r) 3 = (a * 256 + c) * 256 + d := by
      show or8 (rd4 (a :: c :: d :: e :: r) 2) d = _
      rw [e2, or8_eq (by omega) hd]
    have e4 : rdN (a :: c :: d :: e :: r) = ((a * 256 + c) * 256 + d) * 256 + e := by
      show or8 (rd4 (a :: c :: d :: e :: r) 3) e = _
      rw [e3, or8_eq (by omega) he]
    rw [e4]
    show [_, _, _, _] = [a, c, d, e]
    congr 1
    · omega
    congr 1
    · omega
    congr 1
    · omega
    congr 1
    omega
theorem rdN_four {b : List Int} {x0 x1 x2 x3 : Int} (hb : Bys b) (h0 : b[0]? = some x0) (h1 : b[1]? = some x1) (h2 : b[2]? = some x2) (h3 : b[3]? = some x3) : rdN b = (x0 * 256 + x1) * 65536 + x2 * 256 + x3 := by
  match b with
  | a :: c :: d :: e :: r =>
    simp at h0 h1 h2 h3
    subst h0 h1 h2 h3
    have ha := hb a (by simp)
    have hc := hb c (by simp)
    have hd := hb d (by simp)
    have he := hb e (by simp)
    have e1 : rd4 (a :: c :: d :: e :: r) 1 = a := by
      show or8 0 a = _
      rw [or8_eq (by omega) ha]; omega
    have e2 : rd4 (a :: c :: d :: e :: r) 2 = a * 256 + c := by
      show or8 (rd4 (a :: c :: d :: e :: r) 1) c = _
      rw [e1, or8_eq (by omega) hc]
    have e3 : rd4 (a :: c :: d :: e :: r) 3 = (a * 256 + c) * 256 + d := by
      show or8 (rd4 (a :: c :: d :: e :: r) 2) d = _
      rw [e2, or8_eq (by omega) hd]
    show or8 (rd4 (a :: c :: d :: e :: r) 3) e = _
    rw [e3, or8_eq (by omega) he]
    omega
/-- The record stands there: as it is read, and as its frame is held against the bytes. -/
theorem next_iff {t : List Int} (hb : Bys t) (h8 : 8 < t.length) (hn : ¬ (rdN t < 1 ∨ 16384 < rdN t ∨ (t.length : Int) - 8 < rdN t)) :
    (nextR t).1 = (t.take (8 + (rdN t).toNat)).drop 8 ∧ ((nextR t).2 = true ↔ frame ((t.take (8 + (rdN t).toNat)).drop 8) = t.take (8 + (rdN t).toNat)) ∧ frE ((t.take (8 + (rdN t).toNat)).drop 8) = 0 ∧ ((t.take (8 + (rdN t).toNat)).drop 8).length = (rdN t).toNat := by
  have hr := rdN_in t
  rw [next_rec (by omega) (by omega)]
  obtain ⟨n, hn'⟩ : ∃ n, n = (rdN t).toNat := ⟨_, rfl⟩
  have hnn : rdN t = n := by omega
  rw [← hn']
  obtain ⟨r, hr'⟩ : ∃ r, r = (t.take (8 + n)).drop 8 := ⟨_, rfl⟩
  have hlen : r.length = n := by rw [hr', List.length_drop, List.length_take]; omega
  rw [← hr']
  have hfe : frE r = 0 := if_neg (by rw [hlen]; omega)
  refine ⟨rfl, ?_, hfe, hlen⟩
  show (crcI (t.take 4 ++ r) == rdN (t.drop 4)) = true ↔ _
  have hsplit : t.take (8 + n) = t.take 4 ++ ((t.drop 4).take 4 ++ r) := by
    rw [hr']
    have e1 : t.take (8 + n) = (t.take (8 + n)).take 4 ++ (t.take (8 + n)).drop 4 := (List.take_append_drop _ _).symm
    have e2 : (t.take (8 + n)).drop 4 = ((t.take (8 + n)).drop 4).take 4 ++ ((t.take (8 + n)).drop 4).drop 4 := (List.take_append_drop _ _).symm
    rw [List.drop_drop] at e2
    have h1 : (t.take (8 + n)).take 4 = t.take 4 := by rw [List.take_take, Nat.min_eq_left (by omega)]
    have h2 : ((t.take (8 + n)).drop 4).take 4 = (t.drop 4).take 4 := by rw [List.drop_take, List.take_take, Nat.min_eq_left (by omega)]
    exact e1.trans (congr (congrArg HAppend.hAppend h1) (e2.trans (congrArg (· ++ _) h2)))
  have h4 : be (r.length : Int) = t.take 4 := by rw [hlen, ← hnn]; exact be_rdN hb (by omega)
  have h44 : be (rdN (t.drop 4)) = (t.drop 4).take 4 := be_rdN (hb.drop 4) (by rw [List.length_drop]; omega)
  unfold frame
  rw [hsplit, h4, ← h44, List.append_assoc]
  constructor
  · intro h
    rw [beq_iff_eq.1 h]
  · intro h
    have h := List.append_cancel_left h
    have h := List.append_cancel_right h
    exact beq_iff_eq.2 (be_inj (crcI_in _) (rdN_in _) h)
theorem next_far {t : List Int} (h : ¬ 8 < t.length) : (nextR t).2 = false := by
  by_cases h8 : t.length < 8
  · rw [next_none h8]
  · have hr := rdN_in t
    rw [next_bad h8 (by omega)]
theorem next_not {t : List Int} (h8 : 8 < t.length) (hn : rdN t < 1 ∨ 16384 < rdN t ∨ (t.length : Int) - 8 < rdN t) : (nextR t).2 = false := by
  have hr := rdN_in t
  rw [next_bad (by omega) (by omega)]
end Go.Proofs.Ytdlfabbhdelinaa.Jf
