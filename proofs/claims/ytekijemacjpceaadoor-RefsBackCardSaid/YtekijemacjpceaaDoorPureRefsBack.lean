/- The pure statement of RefsBack. No condition. -/
import Derived.Test.YtekijemacjpceaaDoorSayRefsBack
import Derived.Test.YtekijemacjpceaaDoorConn
namespace Go.Proofs.YtekijemacjpceaaDoor.Pure
open Go.RowKit Go.Proofs.YtekijemacjpceaaDoor.Q Go.Proofs.YtekijemacjpceaaDoorW.PrintWords Go.Proofs.YtekijemacjpceaaDoorW.PrintLast Go.Proofs.YtekijemacjpceaaDoorW.PrintMore Go.Proofs.YtekijemacjpceaaDoor.Plain
open Go.Proofs.YtekijemacjpceaaDoor.U8 (B nxt spec encB items text mend signs Right)
open Go.Proofs.YtekijemacjpceaaDoor.Rf
set_option linter.unusedVariables false
/-- No byte that the place would not bear. -/
def clean (attr : Bool) (b : UInt8) : Prop := if attr = true then b ≠ 34 else (b ≠ 60 ∧ b ≠ 62)
instance (attr : Bool) (b : UInt8) : Decidable (clean attr b) := by unfold clean; infer_instance
theorem encC_clean (attr : Bool) (c : UInt8) : ∀ b ∈ encC attr c, clean attr b := by
  unfold encC
  split
  · cases attr <;> decide
  · split
    · rename_i h; rw [h.2]; decide
    · split
      · rename_i h; rw [h.2]; decide
      · split
        · rename_i h; rw [h.2]; decide
        · split
          · cases attr <;> decide
          · rename_i h1 h2 h3 h4 h5
            intro b hb
            rw [List.mem_singleton] at hb
            subst hb
            unfold clean
            cases attr with
            | true => exact fun e => h4 ⟨e, rfl⟩
            | false => exact ⟨fun e => h2 ⟨e, rfl⟩, fun e => h3 ⟨e, rfl⟩⟩
theorem encL_clean (attr : Bool) : ∀ (l : List UInt8) (t : Bool), ∀ b ∈ encL attr t l, clean attr b := by
  intro l
  induction l with
  | nil => intro t b hb; cases t <;> simp [encL] at hb
  | cons c r ih =>
    intro t b hb
    cases t with
    | true => rw [encL] at hb; exact ih false b hb
    | false =>
      rw [encL] at hb
      split at hb
      · rcases List.mem_append.1 hb with h | h
        · have : ∀ a : Bool, ∀ x ∈ nbspE, clean a x := by decide
          exact this attr b h
        · exact ih true b h
      · rcases List.mem_append.1 hb with h | h
        · exact encC_clean attr c b h
        · exact ih false b h
theorem back_loop (s : ByteArray) (attr : Bool) (hs : s.size ≤ 1500) (d : Nat) : ∀ i : Nat, i + d = (encL attr false (D s)).length → (encL attr false (D s)).length ≤ 10000 → Ev (fun k => cringlelaw11_RefsBack.l0 k s attr (strOf (encL attr false (D s))) ((strOf (encL attr false (D s))).size : Int) (i : Int)) true := by
  induction d with
  | zero =>
    intro i hi hl
    refine Ev.step (fun k => by simp only [cringlelaw11_RefsBack.l0]; rw [if_neg (by rw [strOf_size]; omega)]) ?_
    have hd : ∀ a : Bool, strOf (dec a (D (strOf (encL attr false (D s))))) = s := fun a => by
      rw [D_str, dec_enc a attr (D s) false, if_neg (by simp), str_D]
    have h1 := Decode_ev (strOf (encL attr false (D s))) attr (by rw [strOf_size]; omega)
    have h2 := Decode_ev (strOf (encL attr false (D s))) (!attr) (by rw [strOf_size]; omega)
    rw [hd] at h1 h2
    refine Ev.bind h1 ?_
    refine Ev.congr (fun k => if_pos rfl) ?_
    refine Ev.bind h2 ?_
    refine Ev.congr (fun k => if_pos rfl) ?_
    exact alive_then
  | succ d ih =>
    intro i hi hl
    have hlt : i < (D (strOf (encL attr false (D s)))).length := by rw [D_str]; omega
    have hc := encL_clean attr (D s) false ((D (strOf (encL attr false (D s))))[i]'hlt) (List.getElem_mem hlt)
    have hb := bt_get (strOf (encL attr false (D s))) i hlt
    have hrec := ih (i + 1) (by omega) hl
    refine Ev.step (fun k => by simp only [cringlelaw11_RefsBack.l0]; rw [if_pos (by rw [strOf_size]; omega), if_pos (by omega), if_pos (by rw [strOf_size]; omega), hb, next (by omega)]) ?_
    generalize (D (strOf (encL attr false (D s))))[i]'hlt = c at *
    have hn : ∀ x : Nat, x < 256 → ((c.toNat : Nat) : Int) = (x : Int) → c = x.toUInt8 := fun x hx e => UInt8.toNat_inj.1 (by rw [U8.nat_byte hx]; omega)
    unfold clean at hc
    cases hA : attr with
    | true =>
      rw [hA] at hc hrec
      rw [if_pos rfl] at hc
      refine Ev.congr (fun k => if_neg (fun e => hc (hn 34 (by omega) e))) ?_
      by_cases h60 : ((c.toNat : Nat) : Int) = 60
      · refine Ev.congr (fun k => (if_pos h60).trans (if_pos rfl)) ?_
        exact hrec
      · refine Ev.congr (fun k => if_neg h60) ?_
        by_cases h62 : ((c.toNat : Nat) : Int) = 62
        · refine Ev.congr (fun k => (if_pos h62).trans (if_pos rfl)) ?_
          exact hrec
        · refine Ev.congr (fun k => if_neg h62) ?_
          exact hrec
    | false =>
      rw [hA] at hc hrec
      rw [if_neg (by simp)] at hc
      have h60 : ¬ ((c.toNat : Nat) : Int) = 60 := fun e => hc.1 (hn 60 (by omega) e)
      have h62 : ¬ ((c.toNat : Nat) : Int) = 62 := fun e => hc.2 (hn 62 (by omega) e)
      by_cases h34 : ((c.toNat : Nat) : Int) = 34
      · refine Ev.congr (fun k => (if_pos h34).trans ((if_neg (by simp)).trans ((if_neg h60).trans (if_neg h62)))) ?_
        exact hrec
      · refine Ev.congr (fun k => (if_neg h34).trans ((if_neg h60).trans (if_neg h62))) ?_
        exact hrec
theorem encL_len (attr : Bool) : ∀ (l : List UInt8) (t : Bool), (encL attr t l).length ≤ 6 * l.length := by
  intro l
  induction l with
  | nil => intro t; cases t <;> simp [encL]
  | cons c r ih =>
    intro t
    have h0 := ih false
    have h1 := ih true
    have h2 := encC_len attr c
    cases t with
    | true => rw [encL, List.length_cons]; omega
    | false =>
      rw [encL, List.length_cons]
      split
      · rw [List.length_append, show nbspE.length = 6 from rfl]; omega
      · rw [List.length_append]; omega
theorem RefsBack : Say.RefsBack := by
  intro s attr hs
  refine Ev.rounds (g := fun k => cringlelaw11_RefsBack.f k s attr) ?_
  unfold cringlelaw11_RefsBack.f
  rw [long_eq]
  refine Ev.bind (Ev.now _) ?_
  by_cases h : 1500 < s.size
  · refine Ev.congr (fun k => if_pos (decide_eq_true h)) ?_
    exact alive_then
  · refine Ev.congr (fun k => if_neg (by simpa using h)) ?_
    rw [Encode_eq s attr (by omega)]
    refine Ev.bind (Ev.now _) ?_
    have hl := encL_len attr (D s) false
    rw [D_len] at hl
    exact back_loop s attr (by omega) (encL attr false (D s)).length 0 (by omega) (by omega)
end Go.Proofs.YtekijemacjpceaaDoor.Pure
