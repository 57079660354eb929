/- The walks of utf.IsText (a range over a text) and utf.Signs, and the rune's decoder by the shelf. No condition but those typed. -/
import Derived.Test.YtmaeodkdddbhoaaDoorShelf
import Derived.Test.YtmaeodkdddbhoaaDoorMine
import Derived.Laws.IdiomStrings
import Derived.Laws.RangeAny
import Derived.WalkKit
import Derived.ProofKit
namespace Go.Proofs.YtmaeodkdddbhoaaDoor.Utfs
open Go Go.RowKit Go.Proofs Go.Proofs.YtmaeodkdddbhoaaDoorW.PrintWords Go.Proofs.YtmaeodkdddbhoaaDoorW.PrintLast Go.Proofs.YtmaeodkdddbhoaaDoorW.PrintMore
set_option linter.unusedVariables false
/-- From a place on, at most so many rounds: is each sign right, or written out as the sign that stands for none? -/
def isTextN (s : ByteArray) : Nat → Nat → Bool
  | 0, _ => true
  | b + 1, pos => if pos < s.size then (if (Utf8.decode s pos).1 = 65533 ∧ Lib.hasPrefix (s.extract pos s.size).data.toList [239, 191, 189] = false then false else isTextN s b (pos + (Utf8.decode s pos).2)) else true
theorem width_pos (s : ByteArray) (pos : Nat) (h : pos < s.size) : 1 ≤ (Utf8.decode s pos).2 := by
  by_cases ha : (s[pos]'h).toNat < 128
  · rw [decode_ascii s pos h ha]
    exact Nat.le_refl _
  · exact (decode_high s pos h (by omega)).2
theorem isTextN_end (s : ByteArray) (b pos : Nat) (h : ¬ pos < s.size) : isTextN s b pos = true := by
  cases b with
  | zero => rfl
  | succ b => simp [isTextN, h]
theorem below_iter (w : World) (s : ByteArray) (pos : Nat) : Below w.heap.size w (w.iter s pos) := below_alloc (Below.refl _ _) _
set_option maxHeartbeats 4000000 in
set_option maxRecDepth 1000000 in
theorem isText_calls (s : ByteArray) (w : World) :
    Calls Tryd.prog 18 #[.string s] w fun e w' => e = .returned (.bool (isTextN s s.size 0)) ∧ Below w.heap.size w w' := by
  go_enter Tryd.func18, Tryd.ntmps18
  go_wp2
  go_loopw [2] (fun v2 w' => ∃ (pos b : Nat), v2 = .bool false ∧ w' = w.iter s pos ∧ isTextN s b pos = isTextN s s.size 0 ∧ s.size ≤ pos + b) (fun _ w' => s.size - w'.iterPos w.heap.size)
  case atStart => exact ⟨0, s.size, rfl, rfl, rfl, by omega⟩
  case round =>
    obtain ⟨pos, b, rfl, rfl, hc, hb⟩ := hrel
    by_cases hp : pos < s.size
    · have hnx : ∀ ty, (Instr.next (.pointer (some ⟨w.heap.size, 0, none⟩)) true ty).run Tryd.prog (w.iter s pos) = _ := fun ty => run_next_any w s pos ty hp
      have hwd := width_pos s pos hp
      cases b with
      | zero => omega
      | succ b =>
        simp only [isTextN, if_pos hp] at hc
        generalize hd : Utf8.decode s pos = d at *
        obtain ⟨c, n⟩ := d
        simp only at hc hnx hwd
        by_cases h1 : c = 65533
        · have h1i : ((c : Int) == 65533) = true := by subst h1; rfl
          have h1d : decide ((c : Int) = 65533) = true := by subst h1; rfl
          have hpz : (0 : Int) ≤ (pos : Int) := by omega
          have hpl : (pos : Int) ≤ (s.size : Int) := by omega
          have hcall := fun W => Tryd.strings_HasPrefix (s.extract pos s.size) ⟨#[239, 191, 189]⟩ W
          cases hx : Lib.hasPrefix (s.extract pos s.size).data.toList [239, 191, 189] with
          | true =>
            have hx' : Lib.hasPrefix (s.extract pos s.size).data.toList (⟨#[239, 191, 189]⟩ : ByteArray).data.toList = true := hx
            simp only [hx'] at hcall
            rw [if_neg (by rw [hx]; simp)] at hc
            clear hx hx'
            have HC := Aside0.mk hc
            clear hc
            go_wp2_with (go_at_call 32; refine (hcall _).mono ?_; rintro e w' ⟨rfl, rfl⟩)
            go_roundw
            case rel => exact ⟨pos + n, b, rfl, rfl, HC.out, by omega⟩
            case measure => simp; omega
          | false =>
            have hx' : Lib.hasPrefix (s.extract pos s.size).data.toList (⟨#[239, 191, 189]⟩ : ByteArray).data.toList = false := hx
            simp only [hx'] at hcall
            rw [if_pos ⟨h1, hx⟩] at hc
            clear hx hx'
            have HC := Aside0.mk hc
            clear hc
            go_wp2_with (go_at_call 32; refine (hcall _).mono ?_; rintro e w' ⟨rfl, rfl⟩)
            go_ret
            exact ⟨by rw [← HC.out]; rfl, below_iter _ _ _⟩
        · have h1i : ((c : Int) == 65533) = false := beq_eq_false_iff_ne.mpr (by omega)
          have h1d : decide ((c : Int) = 65533) = false := decide_eq_false (by omega)
          rw [if_neg (by rintro ⟨h, _⟩; exact h1 h)] at hc
          go_wp2
          go_roundw
          case rel => exact ⟨pos + n, b, rfl, rfl, hc, by omega⟩
          case measure => simp; omega
    · have hnx : ∀ ty, (Instr.next (.pointer (some ⟨w.heap.size, 0, none⟩)) true ty).run Tryd.prog (w.iter s pos) = _ := fun ty => run_next_end w s pos ty hp
      go_wp2
      go_ret
      rw [isTextN_end s b pos hp] at hc
      exact ⟨by rw [← hc]; rfl, below_iter _ _ _⟩
/-- A row of whole numbers that lies in a block of its own. -/
theorem R_ints_block {W : World} {base g e cap : Nat} {ok : Nat → Prop} {k : IntKind} {xs : List Int} {cur : Array Value} (hb : base ≤ g) (h : W.heap[g]? = some (.cells cur e (0, 0))) (hn : xs.length ≤ cap) (hm : cap ≤ maxLen) (hs : cur.size = cap) (hc : cur.toList.take xs.length = xs.map (Value.int k)) (hok : ok g) :
    Kd.R (Kd.int k) e W base ok (.slice (some ⟨g, 0, none⟩) xs.length cap) xs := by
  refine ⟨fun q hq => ?_, xs.map (Value.int k), ⟨by show (xs.map (Value.int k)).length = xs.length * 1; simp, .inr ⟨g, cap, cur, rfl, hb, h, hn, hm, by show cur.size = cap * 1; omega, ?_⟩⟩, ?_⟩
  · have : q = g := by simpa [Value.ownBlock] using hq.symm
    subst this
    exact hok
  · show cur.toList.take (xs.length * 1) = _
    rw [Nat.mul_one, hc]
  · refine ⟨by show (xs.map (Value.int k)).length = xs.length * 1; simp, fun j p hj => ?_⟩
    show ((xs.map (Value.int k)).drop (j * 1)).take 1 = [Value.int k p]
    have hlt : j < xs.length := (List.getElem?_eq_some_iff.1 hj).1
    have hp : xs[j] = p := (List.getElem?_eq_some_iff.1 hj).2
    rw [Nat.mul_one, ← List.map_drop, List.drop_eq_getElem_cons hlt, hp]
    rfl
/-- A text's signs, from a place on. -/
def runesN (s : ByteArray) : Nat → Nat → List Int
  | 0, _ => []
  | b + 1, pos => if pos < s.size then ((Utf8.decode s pos).1 : Int) :: runesN s b (pos + (Utf8.decode s pos).2) else []
theorem runesFrom_eq (s : ByteArray) : ∀ (b pos : Nat) (acc : Array Value), (Conv.runesFrom s b pos acc).toList = acc.toList ++ (runesN s b pos).map (Value.int .i32) := by
  intro b
  induction b with
  | zero => intro pos acc; simp [Conv.runesFrom, runesN]
  | succ b ih =>
    intro pos acc
    unfold Conv.runesFrom runesN
    by_cases h : pos < s.size
    · rw [if_pos h, if_pos h, ih]
      simp
    · rw [if_neg h, if_neg h]
      simp
theorem runesN_length (s : ByteArray) : ∀ (b pos : Nat), (runesN s b pos).length ≤ b := by
  intro b
  induction b with
  | zero => intro pos; simp [runesN]
  | succ b ih =>
    intro pos
    unfold runesN
    split
    · have := ih (pos + (Utf8.decode s pos).2); simp; omega
    · simp
/-- What utf.Signs answers. -/
def signsF (s : ByteArray) : Option (List Int × Int) := if s.size ≤ 70368744177664 then (if isTextN s s.size 0 = true then some (runesN s s.size 0, 0) else some ([], 9)) else none
set_option maxHeartbeats 4000000 in
set_option maxRecDepth 1000000 in
theorem signs_calls (s : ByteArray) (r1 : List Int) (r2 : Int) (w : World) (h : signsF s = some (r1, r2)) :
    Calls Tryd.prog 19 #[.string s] w fun e w' => ∃ v0_ : Value, e = .returned (.tuple #[v0_, .int .i64 r2]) ∧ Kd.R (Kd.int .i32) 21 w' w.heap.size (fun _ => True) v0_ r1 ∧ Below w.heap.size w w' := by
  unfold signsF at h
  by_cases hs : s.size ≤ 70368744177664
  case neg => rw [if_neg hs] at h; cases h
  rw [if_pos hs] at h
  have hcall := fun W => isText_calls s W
  cases hx : isTextN s s.size 0 with
  | false =>
    rw [hx, if_neg (by simp)] at h
    obtain ⟨rfl, rfl⟩ := Prod.mk.inj (Option.some.inj h)
    rw [hx] at hcall
    clear hx h
    go_enter Tryd.func19, Tryd.ntmps19
    go_wp2_with (go_at_call 18; refine (hcall _).mono ?_; rintro e w' ⟨rfl, hb⟩)
    go_ret2
    exact ⟨_, rfl, Kd.R_nil _ _ _ _ _, hb⟩
  | true =>
    rw [hx, if_pos rfl] at h
    obtain ⟨rfl, rfl⟩ := Prod.mk.inj (Option.some.inj h)
    rw [hx] at hcall
    clear hx h
    have hl : (Conv.runesFrom s s.size 0 #[]).toList = (runesN s s.size 0).map (Value.int .i32) := by rw [runesFrom_eq]; rfl
    have hsz : (Conv.runesFrom s s.size 0 #[]).size = (runesN s s.size 0).length := by rw [← Array.length_toList, hl, List.length_map]
    have hle := runesN_length s s.size 0
    have hconv := fun (W : World) => run_runes_of_string (P := Tryd.prog) W 9 23 21 s Tryd.underlying9 Tryd.underlying23 Tryd.underlying21 (by omega)
    rw [hsz] at hconv
    generalize Conv.runesFrom s s.size 0 #[] = cs at *
    generalize runesN s s.size 0 = rs at *
    go_enter Tryd.func19, Tryd.ntmps19
    go_wp2_with (go_at_call 18; refine (hcall _).mono ?_; rintro e w' ⟨rfl, hb⟩)
    go_ret2
    refine ⟨_, rfl, ?_, ?_⟩
    · refine R_ints_block (cur := cs ++ Array.replicate (grownCap w' rs.length 0 21 - rs.length) (.int .i32 0)) hb.size ?_ (grownCap_ge _ _ _ _) (grownCap_le_maxLen _ _ _ _ (by unfold maxLen; omega)) ?_ ?_ trivial
      · exact heap_new _ _ rfl
      · have := grownCap_ge w' rs.length 0 21
        simp [hsz]
        omega
      · rw [Array.toList_append, List.take_append_of_le_length (by simp [hsz]), hl, List.take_of_length_le (by simp)]
    · exact below_alloc (below_drew1 hb) _
end Go.Proofs.YtmaeodkdddbhoaaDoor.Utfs
