/- A reader's functions, walked: tokens, the first line, a field, those. No condition but those typed. -/
import Derived.Test.YtljlkpfiebcoeaaGreatDoorHw1
namespace Go.Proofs.YtljlkpfiebcoeaaGreatDoor.H
open Go.RowKit Go.Sort Go.Shelf Go.Proofs.YtljlkpfiebcoeaaGreatDoor.Q Go.Proofs.YtljlkpfiebcoeaaGreatDoorW.PrintWords Go.Proofs.YtljlkpfiebcoeaaGreatDoorW.PrintLast Go.Proofs.YtljlkpfiebcoeaaGreatDoorW.PrintMore
attribute [local go_sem] max2_int min2_int max_two min_two max_three min_three max_four min_four   -- for this text's walks alone
set_option linter.unusedVariables false
set_option linter.unusedSimpArgs false
set_option maxRecDepth 100000
/-! ### Kinds of bytes; all (55), isToken (31), line (30) -/
/-- What the function F tells of a byte. -/
def Pb (F : Nat) (p : UInt8 → Bool) : Prop := ∀ (c : UInt8) (W : World), Calls Tryz.prog F #[.int .u8 c.toNat] W fun e w' => e = .returned (.bool (p c)) ∧ Below W.heap.size W w'
def tokB (c : UInt8) : Bool := (http_isToken_1.f (c.toNat : Int)).getD false
def greatB (c : UInt8) : Bool := (http_reader_first_1.f (c.toNat : Int)).getD false
def shownB (c : UInt8) : Bool := (http_reader_first_2.f (c.toNat : Int)).getD false
def mayB (c : UInt8) : Bool := (http_reader_field_1.f (c.toNat : Int)).getD false
theorem by_byte (f : Int → Option Bool) (h : ∀ n : Fin 256, (f ((UInt8.ofNat n.val).toNat : Int)).isSome = true) (c : UInt8) : f (c.toNat : Int) = some ((f (c.toNat : Int)).getD false) := by
  have h1 := h ⟨c.toNat, c.toNat_lt⟩
  have e : (UInt8.ofNat c.toNat) = c := by simp
  simp only [e] at h1
  cases hf : f (c.toNat : Int) with
  | none => rw [hf] at h1; cases h1
  | some b => rfl
theorem tok_eq (c : UInt8) : http_isToken_1.f (c.toNat : Int) = some (tokB c) := by_byte _ (by decide +kernel) c
theorem great_eq (c : UInt8) : http_reader_first_1.f (c.toNat : Int) = some (greatB c) := by_byte _ (by decide +kernel) c
theorem shown_eq (c : UInt8) : http_reader_first_2.f (c.toNat : Int) = some (shownB c) := by_byte _ (by decide +kernel) c
theorem may_eq (c : UInt8) : http_reader_field_1.f (c.toNat : Int) = some (mayB c) := by_byte _ (by decide +kernel) c
theorem below_D0 {w w' : World} (h : Drawn0 w w') : Below w.heap.size w w' := by
  obtain ⟨nd, rfl⟩ := h
  exact pw_below_drewN (Below.refl _ _) nd
theorem tok_Pb : Pb 77 tokB := fun c W => (http_isToken_1.calls _ _ W (tok_eq c)).mono fun e w' h => ⟨h.1, below_D0 h.2⟩
theorem great_Pb : Pb 59 greatB := fun c W => (http_reader_first_1.calls _ _ W (great_eq c)).mono fun e w' h => ⟨h.1, below_D0 h.2⟩
theorem shown_Pb : Pb 60 shownB := fun c W => (http_reader_first_2.calls _ _ W (shown_eq c)).mono fun e w' h => ⟨h.1, below_D0 h.2⟩
theorem may_Pb : Pb 63 mayB := fun c W => (http_reader_field_1.calls _ _ W (may_eq c)).mono fun e w' h => ⟨h.1, below_D0 h.2⟩
def allB (p : UInt8 → Bool) (s : ByteArray) : Bool := s.data.toList.all p
set_option maxHeartbeats 2000000 in
theorem p_all.calls {F : Nat} {p : UInt8 → Bool} (hF : Pb F p) (en : ∀ (args : Array Value) (w : World), (callFunc F args).run Tryz.prog w = .ok (.enter F args) w) (s : ByteArray) (hs : s.size ≤ 1000000000000) (w : World) :
    Calls Tryz.prog 61 #[.string s, .func (.func F) #[] #[]] w fun e w' => e = .returned (.bool (allB p s)) ∧ Below w.heap.size w w' := by
  have hsz : s.data.toList.length = s.size := by rw [Array.length_toList]; rfl
  have HSZ := Aside0.mk hsz
  have HF := Aside0.mk hF
  have HS := Aside0.mk hs
  clear hsz hF hs
  go_enter Tryz.func61, Tryz.ntmps61
  go_wp2_with fail
  go_loopw [8] (fun j wr => ∃ n : Nat, n ≤ s.size ∧ j = .int .i64 n ∧ Aside0 (∀ c ∈ s.data.toList.take n, p c = true) ∧ Aside0 (Below w.heap.size w wr)) (fun j _ => s.size - (intOf j).toNat)
  case atStart => exact ⟨0, Nat.zero_le _, rfl, ⟨by simp⟩, ⟨Below.refl _ _⟩⟩
  case round =>
    obtain ⟨n, hn, rfl, HA, HB⟩ := hrel
    by_cases hlt : n < s.size
    · have hl : n < s.data.toList.length := by rw [HSZ.out]; exact hlt
      have hcall := HF.out s[n] wr
      have HC := Aside0.mk (show s.data.toList.take (n + 1) = s.data.toList.take n ++ [s[n]] from List.take_succ_eq_append_getElem hl)
      have HCL := Aside0.mk (show s[n] ∈ s.data.toList from List.getElem_mem hl)
      obtain ⟨c, hc⟩ : ∃ c, c = s[n] := ⟨_, rfl⟩
      rw [← hc] at hcall HC HCL
      replace hc := hc.symm
      have hw := w_succ (i := n) (by have := HS.out; omega)
      go_wp2_with fail
      refine hcall.mono ?_
      rintro e w1 ⟨rfl, hb⟩
      have HB1 := Aside0.mk (below_step HB.out hb)
      clear hb hcall HB
      cases hp : p c with
      | true =>
        go_wp2_with fail
        rw [hw]
        go_roundw
        case rel => exact ⟨n + 1, hlt, rfl, ⟨fun k hk => by
          rw [HC.out] at hk
          rcases List.mem_append.1 hk with hk | hk
          · exact HA.out k hk
          · rw [List.mem_singleton.1 hk]; exact hp⟩, HB1⟩
        case measure =>
          simp only [intOf, Int.toNat_natCast]
          omega
      | false =>
        go_wp2_with fail
        go_ret
        exact ⟨by
          have : allB p s = false := by
            unfold allB
            rw [List.all_eq_false]
            exact ⟨c, HCL.out, by rw [hp]; simp⟩
          rw [this]; rfl, HB1.out⟩
    · obtain rfl : n = s.size := by omega
      go_wp2_with fail
      go_ret
      exact ⟨by
        have : allB p s = true := by
          unfold allB
          rw [List.all_eq_true]
          have h := HA.out
          rw [← HSZ.out, List.take_length] at h
          exact h
        rw [this]; rfl, HB.out⟩
/-- Is a text a token? -/
def isTokB (s : ByteArray) : Bool := !s.toList.isEmpty && decide (s.size ≤ 256) && allB tokB s
set_option maxHeartbeats 2000000 in
theorem p_isToken.calls (s : ByteArray) (hs : s.size ≤ 1000000000000) (w : World) :
    Calls Tryz.prog 57 #[.string s] w fun e w' => e = .returned (.bool (isTokB s)) ∧ Below w.heap.size w w' := by
  have hall := p_all.calls tok_Pb (enters_of Tryz.func77 (by kernel_rfl) rfl) s hs w
  cases h1 : s.toList.isEmpty with
  | true =>
    have HE := Aside0.mk (show isTokB s = false from by unfold isTokB; rw [h1]; rfl)
    clear hall
    go_enter Tryz.func57, Tryz.ntmps57
    go_wp2_with fail
    go_ret
    exact ⟨by rw [HE.out]; rfl, Below.refl _ _⟩
  | false =>
    by_cases h2 : s.size ≤ 256
    · have HE := Aside0.mk (show isTokB s = allB tokB s from by unfold isTokB; rw [h1, decide_eq_true h2]; rfl)
      have h2' : decide ((s.size : Int) ≤ 256) = true := decide_eq_true (by omega)
      clear h2
      go_enter Tryz.func57, Tryz.ntmps57
      go_wp2_with fail
      refine hall.mono ?_
      rintro e w1 ⟨rfl, hb⟩
      cases hb1 : allB tokB s with
      | true =>
        rw [hb1] at HE
        go_wp2_with fail
        go_ret
        exact ⟨by rw [HE.out]; rfl, hb⟩
      | false =>
        rw [hb1] at HE
        go_wp2_with fail
        go_ret
        exact ⟨by rw [HE.out]; rfl, hb⟩
    · have HE := Aside0.mk (show isTokB s = false from by unfold isTokB; rw [h1, decide_eq_false h2]; rfl)
      have h2' : decide ((s.size : Int) ≤ 256) = false := decide_eq_false (by omega)
      clear h2 hall
      go_enter Tryz.func57, Tryz.ntmps57
      go_wp2_with fail
      go_ret
      exact ⟨by rw [HE.out]; rfl, Below.refl _ _⟩
/-! ### A reader: its block, what its calls turn; line (30) -/
def tyIn (ts : List Nat) : Obj → Prop
  | .cells _ t _ => t ∈ ts
  | _ => False
/-- Nothing has turned but blocks of these types. -/
def Kf (ts : List Nat) (w w' : World) : Prop := ∀ (i : Nat) (o : Obj), w.heap[i]? = some o → ¬ tyIn ts o → w'.heap[i]? = some o
theorem Kf.refl (ts : List Nat) (w : World) : Kf ts w w := fun _ _ h _ => h
theorem Kf.trans {ts : List Nat} {a b c : World} (h : Kf ts a b) (k : Kf ts b c) : Kf ts a c := fun i o hi ho => k i o (h i o hi ho) ho
theorem Kf.mono {ts us : List Nat} {a b : World} (h : Kf ts a b) (hs : ∀ t ∈ ts, t ∈ us) : Kf us a b := fun i o hi ho => h i o hi fun k => ho (by
  cases o with
  | cells cs t fr => exact hs _ k
  | _ => exact k)
theorem Kf.of_below {ts : List Nat} {w w' : World} (h : Below w.heap.size w w') : Kf ts w w' := fun i o hi _ => (h.block i (Array.getElem?_eq_some_iff.1 hi).1).trans hi
theorem Kf.call {ts : List Nat} {a b c : World} (h : Kf ts a b) (k : Below b.heap.size b c) : Kf ts a c := h.trans (.of_below k)
theorem Kf.setCell {ts : List Nat} {w : World} {b j t : Nat} {cs : Array Value} (h : Blk.At b cs t w) (ht : t ∈ ts) (v : Value) : Kf ts w (w.setCell ⟨b, j, none⟩ v) := fun i o hi ho => (Below.heap_setCell _ _ _ _ (fun e => by
  have e : i = b := e
  have h : w.heap[b]? = some (.cells cs t (0, 0)) := h
  rw [e, h] at hi
  cases hi
  exact ho ht)).trans hi
theorem Kf.at {ts : List Nat} {w w' : World} {b t : Nat} {cs : Array Value} (hk : Kf ts w w') (h : Blk.At b cs t w) (ht : t ∉ ts) : Blk.At b cs t w' := hk b _ h ht
theorem Kf.R {ts : List Nat} {w w' : World} (hk : Kf ts w w') {α : Type} {d : Kd α} {e base : Nat} {ok : Nat → Prop} {v : Value} {xs : List α} (h : d.R e w base ok v xs) (ht : ∀ q, q ∈ e :: d.E → q ∉ ts) : d.R e w' base ok v xs :=
  Kd.R_mono (Kd.R_move (Kd.R_bound h) (fun k hk2 => by
    obtain ⟨_, _, _, q, hq, cells, hc⟩ := hk2
    rw [hc]
    exact hk k _ hc (ht q hq))) (fun _ hk2 => hk2.1)
/-- A reader at block g; w0: where its caller came in. -/
structure Rd (w0 : World) (g : Nat) (s m p : ByteArray) (vq vf : Value) (bd : ByteArray) (vm : Value) (tg : ByteArray) (w : World) : Prop where
  tabs : Tabs w0
  below : Below w0.heap.size w0 w
  ge : w0.heap.size ≤ g
  at_ : Blk.At g #[.string s, .string m, .string p, vq, vf, .string bd, vm, .string tg] 62 w
section
variable {w0 : World} {g : Nat} {s m p : ByteArray} {vq vf : Value} {bd : ByteArray} {vm : Value} {tg : ByteArray} {w w' : World}
theorem Rd.tab (h : Rd w0 g s m p vq vf bd vm tg w) : Tabs w := h.tabs.below h.below
theorem Rd.call (h : Rd w0 g s m p vq vf bd vm tg w) (hb : Below w.heap.size w w') : Rd w0 g s m p vq vf bd vm tg w' := ⟨h.tabs, below_step h.below hb, h.ge, h.at_.below hb h.at_.lt⟩
theorem Rd.set_s (h : Rd w0 g s m p vq vf bd vm tg w) (x : ByteArray) : Rd w0 g x m p vq vf bd vm tg (w.setCell ⟨g, 0, none⟩ (.string x)) := ⟨h.tabs, h.below.setCell (p := ⟨g, 0, none⟩) h.ge _, h.ge, h.at_.set 0 _⟩
theorem Rd.set_m (h : Rd w0 g s m p vq vf bd vm tg w) (x : ByteArray) : Rd w0 g s x p vq vf bd vm tg (w.setCell ⟨g, 1, none⟩ (.string x)) := ⟨h.tabs, h.below.setCell (p := ⟨g, 1, none⟩) h.ge _, h.ge, h.at_.set 1 _⟩
theorem Rd.set_p (h : Rd w0 g s m p vq vf bd vm tg w) (x : ByteArray) : Rd w0 g s m x vq vf bd vm tg (w.setCell ⟨g, 2, none⟩ (.string x)) := ⟨h.tabs, h.below.setCell (p := ⟨g, 2, none⟩) h.ge _, h.ge, h.at_.set 2 _⟩
theorem Rd.set_q (h : Rd w0 g s m p vq vf bd vm tg w) (x : Value) : Rd w0 g s m p x vf bd vm tg (w.setCell ⟨g, 3, none⟩ x) := ⟨h.tabs, h.below.setCell (p := ⟨g, 3, none⟩) h.ge _, h.ge, h.at_.set 3 _⟩
theorem Rd.set_f (h : Rd w0 g s m p vq vf bd vm tg w) (x : Value) : Rd w0 g s m p vq x bd vm tg (w.setCell ⟨g, 4, none⟩ x) := ⟨h.tabs, h.below.setCell (p := ⟨g, 4, none⟩) h.ge _, h.ge, h.at_.set 4 _⟩
theorem Rd.set_b (h : Rd w0 g s m p vq vf bd vm tg w) (x : ByteArray) : Rd w0 g s m p vq vf x vm tg (w.setCell ⟨g, 5, none⟩ (.string x)) := ⟨h.tabs, h.below.setCell (p := ⟨g, 5, none⟩) h.ge _, h.ge, h.at_.set 5 _⟩
theorem Rd.set_v (h : Rd w0 g s m p vq vf bd vm tg w) (x : Value) : Rd w0 g s m p vq vf bd x tg (w.setCell ⟨g, 6, none⟩ x) := ⟨h.tabs, h.below.setCell (p := ⟨g, 6, none⟩) h.ge _, h.ge, h.at_.set 6 _⟩
theorem Rd.set_t (h : Rd w0 g s m p vq vf bd vm tg w) (x : ByteArray) : Rd w0 g s m p vq vf bd vm x (w.setCell ⟨g, 7, none⟩ (.string x)) := ⟨h.tabs, h.below.setCell (p := ⟨g, 7, none⟩) h.ge _, h.ge, h.at_.set 7 _⟩
/-- A text cut at another one. -/
def cutB (s sep : ByteArray) : ByteArray × ByteArray × Bool := (⟨(Lib.cut s.data.toList sep.data.toList).1.toArray⟩, ⟨(Lib.cut s.data.toList sep.data.toList).2.1.toArray⟩, (Lib.cut s.data.toList sep.data.toList).2.2)
theorem p_Cut.calls (hT : Tabs w) (s sep : ByteArray) (hs : s.size ≤ 1000000000) : Calls Tryz.prog 23 #[.string s, .string sep] w fun e w' => e = .returned (.tuple #[.string (cutB s sep).1, .string (cutB s sep).2.1, .bool (cutB s sep).2.2]) ∧ Below w.heap.size w w' :=
  strings_Cut.calls s sep _ _ _ w (by unfold strings_Cut.f; rw [if_pos (by omega)]; rfl) ⟨hT⟩
def crlf : ByteArray := ⟨#[13, 10]⟩
theorem r_line.calls (h : Rd w0 g s m p vq vf bd vm tg w) (hs : s.size ≤ 1000000000) :
    Calls Tryz.prog 56 #[.pointer (some ⟨g, 0, none⟩)] w fun e w' => e = .returned (.string (cutB s crlf).1) ∧ Rd w0 g (cutB s crlf).2.1 m p vq vf bd vm tg w' ∧ Kf [62] w w' := by
  have c0 : w.cell? ⟨g, 0, none⟩ = some (.string s) := h.at_.cell 0
  have hc := p_Cut.calls h.tab s crlf hs
  obtain ⟨⟨a, r, ok⟩, hcut⟩ : ∃ c, c = cutB s crlf := ⟨_, rfl⟩
  rw [← hcut] at hc ⊢
  have H := Aside0.mk h
  clear h hcut
  go_enter Tryz.func56, Tryz.ntmps56
  go_wp2_with fail
  refine hc.mono ?_
  rintro e w1 ⟨rfl, hb⟩
  have H1 := Aside0.mk (H.out.call hb)
  have HK := Aside0.mk (Kf.of_below (ts := [62]) hb)
  have f0 := H1.out.at_.frozen 0
  have c0 : w1.cell? ⟨g, 0, none⟩ = some (.string s) := H1.out.at_.cell 0
  clear hb hc
  go_wp2_with fail
  go_ret
  exact ⟨rfl, H1.out.set_s r, HK.out.trans (Kf.setCell H1.out.at_ (by simp) _)⟩
end
/-! ### first (12) -/
theorem take_size (l : List UInt8) (n : Nat) : (⟨(l.take n).toArray⟩ : ByteArray).size ≤ l.length := by
  show (l.take n).toArray.size ≤ _
  rw [List.size_toArray, List.length_take]
  omega
theorem data_len (s : ByteArray) : s.data.toList.length = s.size := by rw [Array.length_toList]; rfl
theorem cutB_le (s sep : ByteArray) : (cutB s sep).1.size ≤ s.size ∧ (cutB s sep).2.1.size ≤ s.size := by
  unfold cutB Lib.cut
  split
  · refine ⟨?_, ?_⟩
    · have := take_size s.data.toList (Lib.index s.data.toList sep.data.toList).toNat
      rw [data_len] at this
      exact this
    · show (List.drop _ _).toArray.size ≤ _
      rw [List.size_toArray, List.length_drop, data_len]
      omega
  · refine ⟨?_, Nat.zero_le _⟩
    show s.data.toList.toArray.size ≤ _
    rw [List.size_toArray, data_len]
    exact Nat.le_refl _
theorem splitB_sizes (sep : ByteArray) : ∀ (k : Nat) (s x : ByteArray), x ∈ Lib.splitB sep 0 k s → x.size ≤ s.size
  | 0, s, x, h => by
    rw [Lib.splitB_zero, List.mem_singleton] at h
    rw [h]
    exact Nat.le_refl _
  | k + 1, s, x, h => by
    unfold Lib.splitB at h
    split at h
    · rw [List.mem_singleton] at h
      rw [h]
      exact Nat.le_refl _
    · rcases List.mem_cons.1 h with h | h
      · rw [h, ByteArray.size_extract]
        omega
      · have := splitB_sizes sep k _ x h
        rw [ByteArray.size_extract] at this
        omega
def spc : ByteArray := ⟨#[32]⟩
def lsB (s : ByteArray) : List ByteArray := Lib.splitB spc 0 (Lib.countB s spc) s
def slash : ByteArray := ⟨#[47]⟩
def httpv : ByteArray := ⟨#[72, 84, 84, 80, 47, 49, 46, 49]⟩
theorem httpv_list : httpv.toList = [72, 84, 84, 80, 47, 49, 46, 49] := by decide +kernel
def prefB (s p : ByteArray) : Bool := decide (p.size ≤ s.size) && ((s.extract 0 p.size).toList == p.toList)
theorem prefB_eq (s p : ByteArray) : strings_HasPrefix.f s p = some (prefB s p) := by
  unfold strings_HasPrefix.f stringslite_HasPrefix.f prefB
  by_cases h : p.size ≤ s.size
  · rw [if_pos (by omega), if_pos (by omega), if_pos (by omega)]
    simp [h]
  · rw [if_neg (by omega)]
    simp [h]
/-- A first line's method, target, and what is left. -/
def firstL (l : List ByteArray) : Option (ByteArray × ByteArray) :=
  match l with
  | [m, t, v] => if v.toList = httpv.toList ∧ isTokB m = true ∧ t.size ≤ 4096 ∧ prefB t slash = true ∧ allB greatB m = true ∧ allB shownB t = true then some (m, t) else none
  | _ => none
theorem firstL_not {l : List ByteArray} (h : l.length ≠ 3) : firstL l = none := by
  unfold firstL
  split
  · exact absurd rfl h
  · rfl
section
variable {w0 : World} {g : Nat} {s m p : ByteArray} {vq vf : Value} {bd : ByteArray} {vm : Value} {tg : ByteArray} {w w' : World}
theorem p_Split.calls (hT : Tabs w) (s : ByteArray) (hs : s.size ≤ 1000000000) : Calls Tryz.prog 55 #[.string s, .string spc] w fun e w' => ∃ v, e = .returned v ∧ Kd.R Kd.string 9 w' w.heap.size (fun _ => True) v (lsB s) ∧ Below w.heap.size w w' :=
  strings_Split.calls s spc _ w (by unfold strings_Split.f; rw [if_pos (by omega), if_pos (by decide)]; rfl) ⟨hT⟩
theorem p_HasPrefix.calls (s p : ByteArray) (w : World) : Calls Tryz.prog 58 #[.string s, .string p] w fun e w' => e = .returned (.bool (prefB s p)) ∧ Below w.heap.size w w' :=
  (strings_HasPrefix.calls s p _ w (prefB_eq s p)).mono fun e w' h => ⟨h.1, below_D0 h.2⟩
set_option maxHeartbeats 4000000 in
theorem r_first.calls (h : Rd w0 g s m p vq vf bd vm tg w) (hs : s.size ≤ 1000000000) :
    Calls Tryz.prog 24 #[.pointer (some ⟨g, 0, none⟩)] w fun e w' => ∃ b s' m' tg', e = .returned (.bool b) ∧ Rd w0 g s' m' p vq vf bd vm tg' w' ∧ Kf [62] w w' ∧ (b = true → s' = (cutB s crlf).2.1 ∧ firstL (lsB (cutB s crlf).1) = some (m', tg')) ∧ (b = false → firstL (lsB (cutB s crlf).1) = none) := by
  have hl := r_line.calls h hs
  obtain ⟨⟨a, r, ok⟩, hcut⟩ : ∃ c, c = cutB s crlf := ⟨_, rfl⟩
  have ha : a.size ≤ 1000000000 := by have := (cutB_le s crlf).1; rw [← hcut] at this; exact Nat.le_trans this hs
  rw [← hcut] at hl ⊢
  have hsp := fun (W : World) (hT : Tabs W) => p_Split.calls hT a ha
  have HSZ := Aside0.mk (fun x (hx : x ∈ lsB a) => Nat.le_trans (splitB_sizes spc _ a x hx) ha)
  clear h hcut hs ha
  show Calls Tryz.prog 24 #[.pointer (some ⟨g, 0, none⟩)] w fun e w' => ∃ b s' m' tg', e = .returned (.bool b) ∧ Rd w0 g s' m' p vq vf bd vm tg' w' ∧ Kf [62] w w' ∧ (b = true → s' = r ∧ firstL (lsB a) = some (m', tg')) ∧ (b = false → firstL (lsB a) = none)
  generalize lsB a = l at hsp HSZ ⊢
  go_enter Tryz.func24, Tryz.ntmps24
  go_wp2_with fail
  refine hl.mono ?_
  rintro e w1 ⟨rfl, h1, k1⟩
  replace hsp := hsp _ h1.tab
  have H1 := Aside0.mk h1
  have K1 := Aside0.mk k1
  clear h1 k1 hl
  go_wp2_with fail
  refine hsp.mono ?_
  rintro e w2 ⟨v, rfl, hR, hb⟩
  have H2 := Aside0.mk (H1.out.call hb)
  have K2 := Aside0.mk (K1.out.call hb)
  obtain ⟨A, c, rfl⟩ := Kd.R_slice hR
  clear hb hsp H1 K1
  by_cases h3 : l.length = 3
  · obtain ⟨x, y, z, rfl⟩ : ∃ x y z, l = [x, y, z] := by
      match l, h3 with
      | [x, y, z], _ => exact ⟨x, y, z, rfl⟩
    obtain ⟨L, cap, e1, -, hLlt, cells, hcells⟩ := Kd.R_form hR (by simp)
    obtain ⟨rfl, rfl⟩ : A = some ⟨L, 0, none⟩ ∧ c = cap := by
      injection e1 with e1 _ e2
      exact ⟨e1, e2⟩
    obtain ⟨ad, e2, hcs⟩ := Kd.C_strings_cells (Kd.R_reads' hR).2.2 (by simp)
    obtain rfl : ad = ⟨L, 0, none⟩ := (Option.some.inj e2).symm
    have HLc := Aside0.mk (show Blk.At L cells 9 w2 from hcells)
    have k0 : w2.cell? ⟨L, 0, none⟩ = some (.string x) := hcs 0 _ rfl
    have k1 : w2.cell? ⟨L, 1, none⟩ = some (.string y) := hcs 1 _ rfl
    have k2 : w2.cell? ⟨L, 2, none⟩ = some (.string z) := hcs 2 _ rfl
    have HX := Aside0.mk (HSZ.out x (by simp))
    have HY := Aside0.mk (HSZ.out y (by simp))
    clear hR e1 hLlt hcells e2 hcs h3 HSZ
    rw [show [x, y, z].length = 3 from rfl]
    by_cases hz : z.toList = httpv.toList
    · have hz' : (z.toList == [72, 84, 84, 80, 47, 49, 46, 49]) = true := beq_iff_eq.2 (hz.trans httpv_list)
      have hz'' : (z.toList != [72, 84, 84, 80, 47, 49, 46, 49]) = false := by rw [bne, hz']; rfl
      have hit := p_isToken.calls x (Nat.le_trans HX.out (by decide)) w2
      have HZ := Aside0.mk hz
      clear hz
      go_wp2_with fail
      refine hit.mono ?_
      rintro e w3 ⟨rfl, hb⟩
      have H3 := Aside0.mk (H2.out.call hb)
      have K3 := Aside0.mk (K2.out.call hb)
      have HLc3 := Aside0.mk (HLc.out.below hb HLc.out.lt)
      replace k0 := pw_cell_below hb k0
      replace k1 := pw_cell_below hb k1
      clear k2 hb hit HLc H2 K2
      cases ht : isTokB x with
      | false =>
        have HN := Aside0.mk (show firstL [x, y, z] = none from if_neg (fun h => by rw [ht] at h; cases h.2.1))
        go_wp2_with fail
        go_ret
        exact ⟨false, _, _, _, rfl, H3.out, K3.out, (fun h => by cases h), fun _ => HN.out⟩
      | true =>
        by_cases h4 : y.size ≤ 4096
        · have h4' : decide ((y.size : Int) > 4096) = false := decide_eq_false (by omega)
          have hpf := p_HasPrefix.calls y slash w3
          have H4 := Aside0.mk h4
          clear h4
          unfold slash at hpf
          go_wp2_with fail
          refine hpf.mono ?_
          rintro e w4 ⟨rfl, hb⟩
          have H4' := Aside0.mk (H3.out.call hb)
          have K4 := Aside0.mk (K3.out.call hb)
          have HLc4 := Aside0.mk (HLc3.out.below hb HLc3.out.lt)
          replace k0 := pw_cell_below hb k0
          replace k1 := pw_cell_below hb k1
          clear hb hpf HLc3 H3 K3
          have HPF := Aside0.mk (show prefB y slash = prefB y ⟨#[47]⟩ from rfl)
          cases hp : prefB y ⟨#[47]⟩ with
          | false =>
            have HN := Aside0.mk (show firstL [x, y, z] = none from if_neg (fun h => by have := h.2.2.2.1; rw [HPF.out, hp] at this; cases this))
            go_wp2_with fail
            go_ret
            exact ⟨false, _, _, _, rfl, H4'.out, K4.out, (fun h => by cases h), fun _ => HN.out⟩
          | true =>
            rw [hp] at HPF
            have HNG := Aside0.mk (show L ≠ g from fun e => by
              have h1 := HLc4.out
              have h2 := H4'.out.at_
              unfold Blk.At at h1 h2
              rw [e, h2] at h1
              injection h1 with h1
              injection h1 with _ h1
              cases h1)
            have f1 := H4'.out.at_.frozen 1
            have f7 := H4'.out.at_.frozen 7
            have c1 : w4.cell? ⟨g, 1, none⟩ = some (.string m) := H4'.out.at_.cell 1
            have c7 : w4.cell? ⟨g, 7, none⟩ = some (.string tg) := H4'.out.at_.cell 7
            have c7' : (w4.setCell ⟨g, 1, none⟩ (.string x)).cell? ⟨g, 7, none⟩ = some (.string tg) := (H4'.out.set_m x).at_.cell 7
            have f7' : (w4.setCell ⟨g, 1, none⟩ (.string x)).frozen? ⟨g, 7, none⟩ = false := (H4'.out.set_m x).at_.frozen 7
            go_wp2_with fail
            refine start_ (n := 15) (S := fun w' => w'.cell? ⟨L, 0, none⟩ = some (.string x) ∧ w'.cell? ⟨L, 1, none⟩ = some (.string y)) (ds := []) #[false, false, false, false, false, false, false, false, false, false, false, false, false, false, false] (by kernel_rfl) rfl rfl ⟨k0, k1⟩ (fun hHeld => ?_)
            refine pure_ (i := 0) (N := some 41) (v := ?_) (a' := ?_) #[true, false, false, false, false, false, false, false, false, false, false, false, false, false, false] rfl rfl (by kernel_rfl) (fun _ _ _ h => h) (Or.inl ⟨by rfl, ?_⟩) ?_ ?_
            rotate_left
            · intro w'
              go_simp
              with_reducible rfl
            rotate_left
            · simp only [Act.put, List.setIfInBounds_toArray, List.set_cons_zero, List.set_cons_succ, i64_w, i32_w]
              rfl
            refine pure_ (i := 1) (N := some 42) (v := ?_) (a' := ?_) #[true, true, false, false, false, false, false, false, false, false, false, false, false, false, false] rfl rfl (by kernel_rfl) (fun _ _ _ h => h) (Or.inl ⟨by rfl, ?_⟩) ?_ ?_
            rotate_left
            · intro w'
              go_simp
              with_reducible rfl
            rotate_left
            · simp only [Act.put, List.setIfInBounds_toArray, List.set_cons_zero, List.set_cons_succ, i64_w, i32_w]
              rfl
            refine pure_ (i := 2) (N := some 43) (v := ?_) (a' := ?_) #[true, true, true, false, false, false, false, false, false, false, false, false, false, false, false] rfl rfl (by kernel_rfl) (fun _ _ _ h => h) (Or.inl ⟨by rfl, ?_⟩) ?_ ?_
            rotate_left
            · intro w'
              go_simp
              with_reducible rfl
            rotate_left
            · simp only [Act.put, List.setIfInBounds_toArray, List.set_cons_zero, List.set_cons_succ, i64_w, i32_w]
              rfl
            refine pure_ (i := 3) (N := some 44) (v := ?_) (a' := ?_) #[true, true, true, true, false, false, false, false, false, false, false, false, false, false, false] rfl rfl (by kernel_rfl) (fun _ _ _ h => h) (Or.inl ⟨by rfl, ?_⟩) ?_ ?_
            rotate_left
            · intro w'
              go_simp
              with_reducible rfl
            rotate_left
            · simp only [Act.put, List.setIfInBounds_toArray, List.set_cons_zero, List.set_cons_succ, i64_w, i32_w]
              rfl
            refine pure_ (i := 5) (N := some 46) (v := ?_) (a' := ?_) #[true, true, true, true, false, true, false, false, false, false, false, false, false, false, false] rfl rfl (by kernel_rfl) (fun _ _ _ h => h) (Or.inl ⟨by rfl, ?_⟩) ?_ ?_
            rotate_left
            · intro w'
              go_simp
              with_reducible rfl
            rotate_left
            · simp only [Act.put, List.setIfInBounds_toArray, List.set_cons_zero, List.set_cons_succ, i64_w, i32_w]
              rfl
            refine pure_ (i := 6) (N := some 47) (v := ?_) (a' := ?_) #[true, true, true, true, false, true, true, false, false, false, false, false, false, false, false] rfl rfl (by kernel_rfl) (fun _ _ _ h => h) (Or.inl ⟨by rfl, ?_⟩) ?_ ?_
            rotate_left
            · intro w'
              go_simp
              with_reducible rfl
            rotate_left
            · simp only [Act.put, List.setIfInBounds_toArray, List.set_cons_zero, List.set_cons_succ, i64_w, i32_w]
              rfl
            refine take_ (i := 4) (N := some 45) (v := ?_) (a' := ?_) #[true, true, true, true, true, true, true, false, false, false, false, false, false, false, false] rfl rfl (by kernel_rfl) (fun _ _ _ h => h) (Or.inl ⟨by rfl, ?_⟩) hHeld ?_ ?_
            rotate_left
            · rintro w' ⟨s0, s1⟩
              go_simp
              with_reducible rfl
            rotate_left
            · simp only [Act.put, List.setIfInBounds_toArray, List.set_cons_zero, List.set_cons_succ, i64_w, i32_w]
              rfl
            refine take_ (i := 7) (N := some 48) (v := ?_) (a' := ?_) #[true, true, true, true, true, true, true, true, false, false, false, false, false, false, false] rfl rfl (by kernel_rfl) (fun _ _ _ h => h) (Or.inl ⟨by rfl, ?_⟩) hHeld ?_ ?_
            rotate_left
            · rintro w' ⟨s0, s1⟩
              go_simp
              with_reducible rfl
            rotate_left
            · simp only [Act.put, List.setIfInBounds_toArray, List.set_cons_zero, List.set_cons_succ, i64_w, i32_w]
              rfl
            refine pure_ (i := 8) (N := some 49) (v := ?_) (a' := ?_) #[true, true, true, true, true, true, true, true, true, false, false, false, false, false, false] rfl rfl (by kernel_rfl) (fun _ _ _ h => h) (Or.inl ⟨by rfl, ?_⟩) ?_ ?_
            rotate_left
            · intro w'
              go_simp
              with_reducible rfl
            rotate_left
            · simp only [Act.put, List.setIfInBounds_toArray, List.set_cons_zero, List.set_cons_succ, i64_w, i32_w]
              rfl
            refine pure_ (i := 9) (N := some 50) (v := ?_) (a' := ?_) #[true, true, true, true, true, true, true, true, true, true, false, false, false, false, false] rfl rfl (by kernel_rfl) (fun _ _ _ h => h) (Or.inl ⟨by rfl, ?_⟩) ?_ ?_
            rotate_left
            · intro w'
              go_simp
              with_reducible rfl
            rotate_left
            · simp only [Act.put, List.setIfInBounds_toArray, List.set_cons_zero, List.set_cons_succ, i64_w, i32_w]
              rfl
            refine pure_ (i := 10) (N := some 51) (v := ?_) (a' := ?_) #[true, true, true, true, true, true, true, true, true, true, true, false, false, false, false] rfl rfl (by kernel_rfl) (fun _ _ _ h => h) (Or.inl ⟨by rfl, ?_⟩) ?_ ?_
            rotate_left
            · intro w'
              go_simp
              with_reducible rfl
            rotate_left
            · simp only [Act.put, List.setIfInBounds_toArray, List.set_cons_zero, List.set_cons_succ, i64_w, i32_w]
              rfl
            refine one_ (i := 11) (N := none) #[true, true, true, true, true, true, true, true, true, true, true, true, false, false, false] rfl rfl (by kernel_rfl) (by decide) (fun K hK => ?_)
            refine skip_ (w1 := ?_) (by rfl) rfl ?_ ?_
            rotate_left
            · go_simp
              rfl
            refine hK.out _ _ ⟨((HLc4.out.set_other HNG.out.symm 1 (.string x)).cell 0).trans ((HLc4.out.cell 0).symm.trans k0), ((HLc4.out.set_other HNG.out.symm 1 (.string x)).cell 1).trans ((HLc4.out.cell 1).symm.trans k1)⟩ (fun hHeld => ?_)
            clear hK K
            refine pure_ (i := 12) (N := some 52) (v := ?_) (a' := ?_) #[true, true, true, true, true, true, true, true, true, true, true, true, true, false, false] rfl rfl (by kernel_rfl) (fun _ _ _ h => h) (Or.inl ⟨by rfl, ?_⟩) ?_ ?_
            rotate_left
            · intro w'
              go_simp
              with_reducible rfl
            rotate_left
            · simp only [Act.put, List.setIfInBounds_toArray, List.set_cons_zero, List.set_cons_succ, i64_w, i32_w]
              rfl
            refine pure_ (i := 13) (N := some 53) (v := ?_) (a' := ?_) #[true, true, true, true, true, true, true, true, true, true, true, true, true, true, false] rfl rfl (by kernel_rfl) (fun _ _ _ h => h) (Or.inl ⟨by rfl, ?_⟩) ?_ ?_
            rotate_left
            · intro w'
              go_simp
              with_reducible rfl
            rotate_left
            · simp only [Act.put, List.setIfInBounds_toArray, List.set_cons_zero, List.set_cons_succ, i64_w, i32_w]
              rfl
            refine one_ (i := 14) (N := none) #[true, true, true, true, true, true, true, true, true, true, true, true, true, true, true] rfl rfl (by kernel_rfl) (by decide) (fun K hK => ?_)
            refine skip_ (w1 := ?_) (by rfl) rfl ?_ ?_
            rotate_left
            · go_simp
              rfl
            refine hK.out _ _ ⟨(((HLc4.out.set_other HNG.out.symm 1 (.string x)).set_other HNG.out.symm 7 (.string y)).cell 0).trans ((HLc4.out.cell 0).symm.trans k0), (((HLc4.out.set_other HNG.out.symm 1 (.string x)).set_other HNG.out.symm 7 (.string y)).cell 1).trans ((HLc4.out.cell 1).symm.trans k1)⟩ (fun hHeld => ?_)
            clear hK K
            refine done_ (by kernel_rfl) ?_
            have H5 : Rd w0 g r x p vq vf bd vm y ((w4.setCell ⟨g, 1, none⟩ (.string x)).setCell ⟨g, 7, none⟩ (.string y)).drew := ((H4'.out.set_m x).set_t y).call (below_drew (Below.refl _ _))
            have K5 : Kf [62] w ((w4.setCell ⟨g, 1, none⟩ (.string x)).setCell ⟨g, 7, none⟩ (.string y)).drew := ((K4.out.trans (Kf.setCell H4'.out.at_ (by simp) (j := 1) (.string x))).trans (Kf.setCell (H4'.out.set_m x).at_ (by simp) (j := 7) (.string y))).call (below_drew (Below.refl _ _))
            generalize ((w4.setCell ⟨g, 1, none⟩ (.string x)).setCell ⟨g, 7, none⟩ (.string y)).drew = w5 at H5 K5 hHeld ⊢
            replace H5 := Aside0.mk H5
            replace K5 := Aside0.mk K5
            clear k0 k1 f1 f7 c1 c7 c7' f7' HNG HLc4 H4' K4
            obtain ⟨k0, k1⟩ := hHeld
            have hal := p_all.calls great_Pb (enters_of Tryz.func59 (by kernel_rfl) rfl) x (Nat.le_trans HX.out (by decide)) w5
            go_wp2_with fail
            refine hal.mono ?_
            rintro e w6 ⟨rfl, hb⟩
            have H6 := Aside0.mk (H5.out.call hb)
            have K6 := Aside0.mk (K5.out.call hb)
            replace k1 := pw_cell_below hb k1
            clear hb hal H5 K5 k0
            cases hg : allB greatB x with
            | false =>
              have HN := Aside0.mk (show firstL [x, y, z] = none from if_neg (fun h => by have := h.2.2.2.2.1; rw [hg] at this; cases this))
              go_wp2_with fail
              go_ret
              exact ⟨false, _, _, _, rfl, H6.out, K6.out, (fun h => by cases h), fun _ => HN.out⟩
            | true =>
              have hal := p_all.calls shown_Pb (enters_of Tryz.func60 (by kernel_rfl) rfl) y (Nat.le_trans HY.out (by decide)) w6
              go_wp2_with fail
              refine hal.mono ?_
              rintro e w7 ⟨rfl, hb⟩
              have H7 := Aside0.mk (H6.out.call hb)
              have K7 := Aside0.mk (K6.out.call hb)
              clear hb hal H6 K6 k1
              cases hs : allB shownB y with
              | false =>
                have HN := Aside0.mk (show firstL [x, y, z] = none from if_neg (fun h => by have := h.2.2.2.2.2; rw [hs] at this; cases this))
                go_wp2_with fail
                go_ret
                exact ⟨false, _, _, _, rfl, H7.out, K7.out, (fun h => by cases h), fun _ => HN.out⟩
              | true =>
                have HN := Aside0.mk (show firstL [x, y, z] = some (x, y) from if_pos ⟨HZ.out, ht, H4.out, HPF.out, hg, hs⟩)
                go_wp2_with fail
                go_ret
                exact ⟨true, _, _, _, rfl, H7.out, K7.out, fun _ => ⟨rfl, HN.out⟩, fun h => by cases h⟩
        · have h4' : decide ((y.size : Int) > 4096) = true := decide_eq_true (by omega)
          have HN := Aside0.mk (show firstL [x, y, z] = none from if_neg (fun h => h4 h.2.2.1))
          clear h4
          go_wp2_with fail
          go_ret
          exact ⟨false, _, _, _, rfl, H3.out, K3.out, (fun h => by cases h), fun _ => HN.out⟩
    · have HN := Aside0.mk (show firstL [x, y, z] = none from if_neg (fun h => hz h.1))
      have hz' : (z.toList == [72, 84, 84, 80, 47, 49, 46, 49]) = false := beq_eq_false_iff_ne.2 (fun h => hz (h.trans httpv_list.symm))
      have hz'' : (z.toList != [72, 84, 84, 80, 47, 49, 46, 49]) = true := by rw [bne, hz']; rfl
      clear hz
      go_wp2_with fail
      go_ret
      exact ⟨false, _, _, _, rfl, H2.out, K2.out, (fun h => by cases h), fun _ => HN.out⟩
  · have HN := Aside0.mk (firstL_not h3)
    have h3' : ((l.length : Int) == 3) = false := beq_eq_false_iff_ne.2 (by omega)
    have h3'' : ((l.length : Int) != 3) = true := by rw [bne, h3']; rfl
    clear h3 hR HSZ
    go_wp2_with fail
    go_ret
    exact ⟨false, _, _, _, rfl, H2.out, K2.out, (fun h => by cases h), fun _ => HN.out⟩
end
/-! ### field (13) -/
theorem info33 : (Tryz.prog.info? 67).map (fun i => (i.zero, i.size, i.bytes)) = some (some (.agg #[(.string ⟨#[]⟩), (.string ⟨#[]⟩)]), 2, 32) := by kernel_rfl
theorem Kf.grown {ts : List Nat} {W w1 : World} {row : Option Nat} (hg : W.grownBy w1 row) {t : Nat} (ht : t ∈ ts) (hrow : ∀ k, row = some k → ∃ cells, W.heap[k]? = some (.cells cells t (0, 0))) : Kf ts W w1 := fun i o hi ho => (hg.block i (Array.getElem?_eq_some_iff.1 hi).1 (fun e => by
  obtain ⟨cells, hc⟩ := hrow i e.symm
  rw [hc] at hi
  cases hi
  exact ho ht)).trans hi
def blanks : ByteArray := ⟨#[9, 10, 12, 13, 32]⟩
def trimB (s : ByteArray) : ByteArray := ⟨(Lib.trimS s.data.toList [9, 10, 12, 13, 32]).toArray⟩
def lowB (s : ByteArray) : ByteArray := ⟨(s.data.toList.map ascii_lowB).toArray⟩
theorem p_Lower.calls (s : ByteArray) (hs : s.size ≤ 1000000000) (w : World) : Calls Tryz.prog 39 #[.string s] w fun e w' => e = .returned (.string (lowB s)) ∧ Below w.heap.size w w' :=
  ascii_Lower.calls s _ w (by unfold ascii_Lower.f; rw [if_pos (by omega)]; rfl)
theorem p_Trim.calls (s : ByteArray) (hs : s.size ≤ 1000000000) (w : World) : Calls Tryz.prog 62 #[.string s] w fun e w' => e = .returned (.string (trimB s)) ∧ Below w.heap.size w w' :=
  (ascii_Trim.calls s _ w (by
    unfold ascii_Trim.f strings_Trim.f
    rw [if_pos (by omega), if_pos (by decide), if_pos (by decide)]
    rfl)).mono fun e w' h => ⟨h.1, by first | exact h.2 | exact below_D0 h.2⟩
def colon : ByteArray := ⟨#[58]⟩
/-- A line's field. -/
def fieldL (l : ByteArray) : Option S67 := if (cutB l colon).2.2 = true ∧ isTokB (cutB l colon).1 = true ∧ allB mayB (trimB (cutB l colon).2.1) = true then some ⟨lowB (cutB l colon).1, trimB (cutB l colon).2.1⟩ else none
/-- What field leaves. -/
def FieldIs (has : Bool) (nm tv : ByteArray) (b : Bool) (fs fs' : List S67) : Prop := (b = true → ∃ f, (if has = true ∧ isTokB nm = true ∧ allB mayB tv = true then some (⟨lowB nm, tv⟩ : S67) else none) = some f ∧ fs' = fs ++ [f]) ∧ (b = false → (if has = true ∧ isTokB nm = true ∧ allB mayB tv = true then some (⟨lowB nm, tv⟩ : S67) else none) = none)
theorem FieldIs.no {has : Bool} {nm tv : ByteArray} {fs fs' : List S67} (h : ¬ (has = true ∧ isTokB nm = true ∧ allB mayB tv = true)) : FieldIs has nm tv false fs fs' := ⟨fun e => Bool.noConfusion e, fun _ => if_neg h⟩
theorem FieldIs.yes {nm tv : ByteArray} {fs : List S67} (h1 : isTokB nm = true) (h2 : allB mayB tv = true) : FieldIs true nm tv true fs (fs ++ [⟨lowB nm, tv⟩]) := ⟨fun _ => ⟨_, if_pos ⟨rfl, h1, h2⟩, rfl⟩, fun h => by cases h⟩
theorem trimB_le (s : ByteArray) : (trimB s).size ≤ s.size := by
  unfold trimB
  show (Lib.trimS _ _).toArray.size ≤ _
  rw [List.size_toArray, ← data_len]
  unfold Lib.trimS Lib.trimLeftS Lib.trimRightS
  refine Nat.le_trans (List.dropWhile_suffix _).sublist.length_le ?_
  rw [List.length_reverse]
  have := (List.dropWhile_suffix (l := s.data.toList.reverse) (fun x => List.contains [9, 10, 12, 13, 32] x)).sublist.length_le
  rw [List.length_reverse] at this
  exact this
section
variable {w0 : World} {g : Nat} {s m p : ByteArray} {vq vf : Value} {bd : ByteArray} {vm : Value} {tg : ByteArray} {w w' : World}
theorem Rd.grown {W w1 : World} (h : Rd w0 g s m p vq vf bd vm tg W) {row : Option Nat} (hg : W.grownBy w1 row) (hb : Below w0.heap.size W w1) (hrow : ∀ k, row = some k → ∃ cells, W.heap[k]? = some (.cells cells 67 (0, 0))) : Rd w0 g s m p vq vf bd vm tg w1 := ⟨h.tabs, h.below.trans hb, h.ge, Kf.at (Kf.grown (ts := [67]) hg (by simp) hrow) h.at_ (by simp)⟩
set_option maxHeartbeats 4000000 in
theorem r_field.calls {fs : List S67} (h : Rd w0 g s m p vq vf bd vm tg w) (hR : Kd.R k67 67 w w0.heap.size (fun _ => True) vf fs) (hs : s.size ≤ 1000000000) (hn : fs.length ≤ 1000000) :
    Calls Tryz.prog 25 #[.pointer (some ⟨g, 0, none⟩)] w fun e w' => ∃ b vf' fs', e = .returned (.bool b) ∧ Rd w0 g (cutB s crlf).2.1 m p vq vf' bd vm tg w' ∧ Kd.R k67 67 w' w0.heap.size (fun _ => True) vf' fs' ∧ Kf [62, 67] w w' ∧ (b = true → ∃ f, fieldL (cutB s crlf).1 = some f ∧ fs' = fs ++ [f]) ∧ (b = false → fieldL (cutB s crlf).1 = none) := by
  have hl := r_line.calls h hs
  obtain ⟨⟨a, r, ok⟩, hcut⟩ : ∃ c, c = cutB s crlf := ⟨_, rfl⟩
  have ha : a.size ≤ 1000000000 := by have := (cutB_le s crlf).1; rw [← hcut] at this; exact Nat.le_trans this hs
  rw [← hcut] at hl ⊢
  show Calls Tryz.prog 25 #[.pointer (some ⟨g, 0, none⟩)] w fun e w' => ∃ b vf' fs', e = .returned (.bool b) ∧ Rd w0 g r m p vq vf' bd vm tg w' ∧ Kd.R k67 67 w' w0.heap.size (fun _ => True) vf' fs' ∧ Kf [62, 67] w w' ∧ (b = true → ∃ f, fieldL a = some f ∧ fs' = fs ++ [f]) ∧ (b = false → fieldL a = none)
  unfold fieldL
  have hct := fun (W : World) (hT : Tabs W) => p_Cut.calls hT a colon ha
  have hsz := cutB_le a colon
  obtain ⟨⟨nm, va, has⟩, hcut2⟩ : ∃ c, c = cutB a colon := ⟨_, rfl⟩
  rw [← hcut2] at hct hsz ⊢
  have HNM := Aside0.mk (Nat.le_trans hsz.1 ha)
  have htr := p_Trim.calls va (Nat.le_trans hsz.2 ha)
  have HTV := Aside0.mk (Nat.le_trans (trimB_le va) (Nat.le_trans hsz.2 ha))
  show Calls Tryz.prog 25 #[.pointer (some ⟨g, 0, none⟩)] w fun e w' => ∃ b vf' fs', e = .returned (.bool b) ∧ Rd w0 g r m p vq vf' bd vm tg w' ∧ Kd.R k67 67 w' w0.heap.size (fun _ => True) vf' fs' ∧ Kf [62, 67] w w' ∧ FieldIs has nm (trimB va) b fs fs'
  have HLO := Aside0.mk (p_Lower.calls nm (Nat.le_trans hsz.1 ha))
  have HR := Aside0.mk hR
  have HN := Aside0.mk hn
  generalize trimB va = tv at htr HTV ⊢
  clear h hcut hcut2 hs ha hsz hR hn
  unfold colon at hct
  go_enter Tryz.func25, Tryz.ntmps25
  go_wp2_with fail
  refine hl.mono ?_
  rintro e w1 ⟨rfl, h1, k1⟩
  replace hct := hct _ h1.tab
  have H1 := Aside0.mk h1
  have K1 := Aside0.mk k1
  clear h1 k1 hl
  go_wp2_with fail
  refine hct.mono ?_
  rintro e w2 ⟨rfl, hb⟩
  have H2 := Aside0.mk (H1.out.call hb)
  have K2 := Aside0.mk (K1.out.call hb)
  clear hb hct H1 K1
  go_wp2_with fail
  refine (htr _).mono ?_
  rintro e w3 ⟨rfl, hb⟩
  have H3 := Aside0.mk (H2.out.call hb)
  have K3 := Aside0.mk (K2.out.call hb)
  clear hb htr H2 K2
  have HR3 := Aside0.mk (K3.out.R HR.out (by intro q hq; rw [List.mem_singleton.1 hq]; simp))
  have c4 : w3.cell? ⟨g, 4, none⟩ = some vf := H3.out.at_.cell 4
  go_wp2_with fail
  refine start_ (n := 16) (S := fun w' => w'.cell? ⟨g, 4, none⟩ = some vf) (ds := [15]) #[false, false, false, false, false, false, false, false, false, false, false, false, false, false, false, false] (by kernel_rfl) rfl rfl (c4) (fun hHeld => ?_)
  refine pure_ (i := 0) (N := some 18) (v := ?_) (a' := ?_) #[true, false, false, false, false, false, false, false, false, false, false, false, false, false, false, false] rfl rfl (by kernel_rfl) (fun _ _ _ h => h) (Or.inl ⟨by rfl, ?_⟩) ?_ ?_
  rotate_left
  · intro w'
    go_simp
    with_reducible rfl
  rotate_left
  · simp only [Act.put, List.setIfInBounds_toArray, List.set_cons_zero, List.set_cons_succ, i64_w, i32_w]
    rfl
  refine pure_ (i := 1) (N := some 19) (v := ?_) (a' := ?_) #[true, true, false, false, false, false, false, false, false, false, false, false, false, false, false, false] rfl rfl (by kernel_rfl) (fun _ _ _ h => h) (Or.inl ⟨by rfl, ?_⟩) ?_ ?_
  rotate_left
  · intro w'
    go_simp
    with_reducible rfl
  rotate_left
  · simp only [Act.put, List.setIfInBounds_toArray, List.set_cons_zero, List.set_cons_succ, i64_w, i32_w]
    rfl
  refine pure_ (i := 2) (N := some 20) (v := ?_) (a' := ?_) #[true, true, true, false, false, false, false, false, false, false, false, false, false, false, false, false] rfl rfl (by kernel_rfl) (fun _ _ _ h => h) (Or.inl ⟨by rfl, ?_⟩) ?_ ?_
  rotate_left
  · intro w'
    go_simp
    with_reducible rfl
  rotate_left
  · simp only [Act.put, List.setIfInBounds_toArray, List.set_cons_zero, List.set_cons_succ, i64_w, i32_w]
    rfl
  refine pure_ (i := 3) (N := some 21) (v := ?_) (a' := ?_) #[true, true, true, true, false, false, false, false, false, false, false, false, false, false, false, false] rfl rfl (by kernel_rfl) (fun _ _ _ h => h) (Or.inl ⟨by rfl, ?_⟩) ?_ ?_
  rotate_left
  · intro w'
    go_simp
    with_reducible rfl
  rotate_left
  · simp only [Act.put, List.setIfInBounds_toArray, List.set_cons_zero, List.set_cons_succ, i64_w, i32_w]
    rfl
  refine pure_ (i := 4) (N := some 22) (v := ?_) (a' := ?_) #[true, true, true, true, true, false, false, false, false, false, false, false, false, false, false, false] rfl rfl (by kernel_rfl) (fun _ _ _ h => h) (Or.inl ⟨by rfl, ?_⟩) ?_ ?_
  rotate_left
  · intro w'
    go_simp
    with_reducible rfl
  rotate_left
  · simp only [Act.put, List.setIfInBounds_toArray, List.set_cons_zero, List.set_cons_succ, i64_w, i32_w]
    rfl
  refine pure_ (i := 6) (N := some 24) (v := ?_) (a' := ?_) #[true, true, true, true, true, false, true, false, false, false, false, false, false, false, false, false] rfl rfl (by kernel_rfl) (fun _ _ _ h => h) (Or.inl ⟨by rfl, ?_⟩) ?_ ?_
  rotate_left
  · intro w'
    go_simp
    with_reducible rfl
  rotate_left
  · simp only [Act.put, List.setIfInBounds_toArray, List.set_cons_zero, List.set_cons_succ, i64_w, i32_w]
    rfl
  refine pure_ (i := 8) (N := some 26) (v := ?_) (a' := ?_) #[true, true, true, true, true, false, true, false, true, false, false, false, false, false, false, false] rfl rfl (by kernel_rfl) (fun _ _ _ h => h) (Or.inl ⟨by rfl, ?_⟩) ?_ ?_
  rotate_left
  · intro w'
    go_simp
    with_reducible rfl
  rotate_left
  · simp only [Act.put, List.setIfInBounds_toArray, List.set_cons_zero, List.set_cons_succ, i64_w, i32_w]
    rfl
  refine take_ (i := 5) (N := some 23) (v := ?_) (a' := ?_) #[true, true, true, true, true, true, true, false, true, false, false, false, false, false, false, false] rfl rfl (by kernel_rfl) (fun _ _ _ h => h) (Or.inl ⟨by rfl, ?_⟩) hHeld ?_ ?_
  rotate_left
  · intro w' s0
    go_simp
    with_reducible rfl
  rotate_left
  · simp only [Act.put, List.setIfInBounds_toArray, List.set_cons_zero, List.set_cons_succ, i64_w, i32_w]
    rfl
  refine one_ (i := 7) (N := some 25) #[true, true, true, true, true, true, true, true, true, false, false, false, false, false, false, false] rfl rfl (by kernel_rfl) (by decide) (fun K hK => ?_)
  refine goes_ Tryz.func39 (by kernel_rfl) rfl #[.string nm] (by rfl) rfl rfl (by simp only [List.map_toArray, List.map_cons, List.map_nil]; rfl) ?_
  with_reducible refine (HLO.out _).mono ?_
  rintro e w4 ⟨rfl, hb_⟩
  refine ⟨_, rfl, ?_⟩
  have H4 := Aside0.mk ((H3.out.call (below_drew (Below.refl _ w3))).call hb_)
  have K4 := Aside0.mk ((K3.out.call (below_drew (Below.refl _ w3))).call hb_)
  have HR4 := Aside0.mk (Kd.R_below (Kd.R_drew HR3.out) hb_)
  clear hb_
  refine hK.out _ _ (H4.out.at_.cell 4) (fun hHeld => ?_)
  clear hK K
  refine norm_ (a' := ?_) ?_ ?_
  rotate_left
  · show Act.put _ (some 25) _ = _
    simp only [Act.put, List.setIfInBounds_toArray, List.set_cons_zero, List.set_cons_succ, i64_w, i32_w]
    rfl
  refine pure_ (i := 9) (N := some 27) (v := ?_) (a' := ?_) #[true, true, true, true, true, true, true, true, true, true, false, false, false, false, false, false] rfl rfl (by kernel_rfl) (fun _ _ _ h => h) (Or.inl ⟨by rfl, ?_⟩) ?_ ?_
  rotate_left
  · intro w'
    go_simp
    with_reducible rfl
  rotate_left
  · simp only [Act.put, List.setIfInBounds_toArray, List.set_cons_zero, List.set_cons_succ, i64_w, i32_w]
    rfl
  refine one_ (i := 10) (N := some 28) #[true, true, true, true, true, true, true, true, true, true, true, false, false, false, false, false] rfl rfl (by kernel_rfl) (by decide) (fun K hK => ?_)
  refine value_ (w1 := ?_) (v := ?_) (by rfl) rfl ?_ ?_
  rotate_left 2
  · go_simp
    constructor
    · rfl
    · rfl
  refine hK.out _ _ ((H4.out.at_.alloc _).cell 4) (fun hHeld => ?_)
  clear hK K
  refine norm_ (a' := ?_) ?_ ?_
  rotate_left
  · show Act.put _ (some 28) _ = _
    simp only [Act.put, List.setIfInBounds_toArray, List.set_cons_zero, List.set_cons_succ, i64_w, i32_w]
    rfl
  refine one_ (i := 11) (N := some 29) #[true, true, true, true, true, true, true, true, true, true, true, true, false, false, false, false] rfl rfl (by kernel_rfl) (by decide) (fun K hK => ?_)
  refine Kd.R_append_step k67 (w0 := w4) w0.heap.size (by rfl) _ _ 24 67 (.agg #[.string ⟨#[]⟩, .string ⟨#[]⟩]) 32 rfl Tryz.underlying24 info33 rfl (by decide) (by decide) vf fs ⟨lowB nm, tv⟩ [.string (lowB nm), .string tv] (fun _ => True) (fun _ => False) rfl rfl (k67_mkM _ _ _ _) (fun _ h => h.elim) (fun _ _ => trivial) HR4.out (Below.refl _ _) H4.out.below.size (by have := HN.out; omega) ?_
  intro v5 w5 ho5 hb5 hg5 hat5
  obtain ⟨A5, c5, rfl⟩ := Kd.R_slice ho5
  have HRW := Aside0.mk (Kd.R_typed HR4.out)
  have H5 := Aside0.mk (H4.out.grown hg5 hb5 HRW.out)
  have K5 := Aside0.mk ((K4.out.mono (us := [62, 67]) (by simp)).trans (Kf.grown (ts := [62, 67]) (t := 67) hg5 (by simp) HRW.out))
  have HR5 := Aside0.mk ho5
  have g4 := H5.out.at_.frozen 4
  have d4 : w5.cell? ⟨g, 4, none⟩ = some vf := H5.out.at_.cell 4
  clear ho5 hb5 hg5 hat5
  refine hK.out _ _ (H5.out.at_.cell 4) (fun hHeld => ?_)
  clear hK K
  refine norm_ (a' := ?_) ?_ ?_
  rotate_left
  · show Act.put _ (some 29) _ = _
    simp only [Act.put, List.setIfInBounds_toArray, List.set_cons_zero, List.set_cons_succ, i64_w, i32_w]
    rfl
  refine pure_ (i := 12) (N := some 30) (v := ?_) (a' := ?_) #[true, true, true, true, true, true, true, true, true, true, true, true, true, false, false, false] rfl rfl (by kernel_rfl) (fun _ _ _ h => h) (Or.inl ⟨by rfl, ?_⟩) ?_ ?_
  rotate_left
  · intro w'
    go_simp
    with_reducible rfl
  rotate_left
  · simp only [Act.put, List.setIfInBounds_toArray, List.set_cons_zero, List.set_cons_succ, i64_w, i32_w]
    rfl
  refine pure_ (i := 13) (N := some 31) (v := ?_) (a' := ?_) #[true, true, true, true, true, true, true, true, true, true, true, true, true, true, false, false] rfl rfl (by kernel_rfl) (fun _ _ _ h => h) (Or.inl ⟨by rfl, ?_⟩) ?_ ?_
  rotate_left
  · intro w'
    go_simp
    with_reducible rfl
  rotate_left
  · simp only [Act.put, List.setIfInBounds_toArray, List.set_cons_zero, List.set_cons_succ, i64_w, i32_w]
    rfl
  refine pure_ (i := 14) (N := some 32) (v := ?_) (a' := ?_) #[true, true, true, true, true, true, true, true, true, true, true, true, true, true, true, false] rfl rfl (by kernel_rfl) (fun _ _ _ h => h) (Or.inl ⟨by rfl, ?_⟩) ?_ ?_
  rotate_left
  · intro w'
    go_simp
    with_reducible rfl
  rotate_left
  · simp only [Act.put, List.setIfInBounds_toArray, List.set_cons_zero, List.set_cons_succ, i64_w, i32_w]
    rfl
  refine last_ (i := 15) (N := none) #[true, true, true, true, true, true, true, true, true, true, true, true, true, true, true, true] rfl rfl (by kernel_rfl) (by decide) (fun K hK => ?_)
  refine skip_ (w1 := ?_) (by rfl) rfl ?_ ?_
  rotate_left
  · go_simp
    rfl
  refine hK.out _ _ ?_
  clear hK K
  refine done_ (by kernel_rfl) ?_
  clear hHeld d4 g4 c4 H3 K3 HR3 H4 K4 HR4 HRW
  rw [show (fs ++ [(⟨lowB nm, tv⟩ : S67)]).length = fs.length + 1 from by rw [List.length_append]; rfl] at HR5
  have H6 : Rd w0 g r m p vq (.slice A5 (fs.length + 1) c5) bd vm tg (w5.setCell ⟨g, 4, none⟩ (.slice A5 (fs.length + 1) c5)) := H5.out.set_f _
  have K6 : Kf [62, 67] w (w5.setCell ⟨g, 4, none⟩ (.slice A5 (fs.length + 1) c5)) := K5.out.trans (Kf.setCell H5.out.at_ (by simp) _)
  have HR6 : Kd.R k67 67 (w5.setCell ⟨g, 4, none⟩ (.slice A5 (fs.length + 1) c5)) w0.heap.size (fun _ => True) (.slice A5 (fs.length + 1) c5) (fs ++ [(⟨lowB nm, tv⟩ : S67)]) := Kd.R_set HR5.out H5.out.at_ (by intro q hq; rw [List.mem_singleton.1 hq]; decide) _ _
  generalize w5.setCell ⟨g, 4, none⟩ (.slice A5 (fs.length + 1) c5) = w6 at H6 K6 HR6 ⊢
  replace H6 := Aside0.mk H6
  replace K6 := Aside0.mk K6
  replace HR6 := Aside0.mk HR6
  clear H5 K5 HR5
  cases has with
  | false =>
    have HNO := Aside0.mk (FieldIs.no (has := false) (nm := nm) (tv := tv) (fs := fs) (fs' := fs ++ [(⟨lowB nm, tv⟩ : S67)]) (fun h => by cases h.1))
    go_wp2_with fail
    go_ret
    exact ⟨false, _, _, rfl, H6.out, HR6.out, K6.out, HNO.out⟩
  | true =>
    have hit := p_isToken.calls nm (Nat.le_trans HNM.out (by decide)) w6
    go_wp2_with fail
    refine hit.mono ?_
    rintro e w7 ⟨rfl, hb⟩
    have H7 := Aside0.mk (H6.out.call hb)
    have K7 := Aside0.mk (K6.out.call hb)
    have HR7 := Aside0.mk (Kd.R_below HR6.out hb)
    clear hb hit H6 K6 HR6
    cases ht : isTokB nm with
    | false =>
      have HNO := Aside0.mk (FieldIs.no (has := true) (nm := nm) (tv := tv) (fs := fs) (fs' := fs ++ [(⟨lowB nm, tv⟩ : S67)]) (fun h => by rw [ht] at h; cases h.2.1))
      go_wp2_with fail
      go_ret
      exact ⟨false, _, _, rfl, H7.out, HR7.out, K7.out, HNO.out⟩
    | true =>
      have hal := p_all.calls may_Pb (enters_of Tryz.func63 (by kernel_rfl) rfl) tv (Nat.le_trans HTV.out (by decide)) w7
      go_wp2_with fail
      refine hal.mono ?_
      rintro e w8 ⟨rfl, hb⟩
      have H8 := Aside0.mk (H7.out.call hb)
      have K8 := Aside0.mk (K7.out.call hb)
      have HR8 := Aside0.mk (Kd.R_below HR7.out hb)
      clear hb hal H7 K7 HR7
      cases hm : allB mayB tv with
      | false =>
        have HNO := Aside0.mk (FieldIs.no (has := true) (nm := nm) (tv := tv) (fs := fs) (fs' := fs ++ [(⟨lowB nm, tv⟩ : S67)]) (fun h => by rw [hm] at h; cases h.2.2))
        go_wp2_with fail
        go_ret
        exact ⟨false, _, _, rfl, H8.out, HR8.out, K8.out, HNO.out⟩
      | true =>
        have HYE := Aside0.mk (FieldIs.yes (fs := fs) ht hm)
        go_wp2_with fail
        go_ret
        exact ⟨true, _, _, rfl, H8.out, HR8.out, K8.out, HYE.out⟩
end
/-! ### those (56), size (39), body (14) -/
def isF (nm : ByteArray) (f : S67) : Bool := f.f0.toList == nm.toList
/-- The values of all fields of a name. -/
def thoseB (fs : List S67) (nm : ByteArray) : List ByteArray := (fs.filter (isF nm)).map (·.f1)
theorem thoseB_take {fs : List S67} {nm : ByteArray} {n : Nat} (h : n < fs.length) : thoseB (fs.take (n + 1)) nm = if isF nm fs[n] = true then thoseB (fs.take n) nm ++ [fs[n].f1] else thoseB (fs.take n) nm := by
  unfold thoseB
  rw [List.take_succ_eq_append_getElem h, List.filter_append, List.map_append]
  split
  · rename_i h1
    rw [List.filter_cons_of_pos h1]
    rfl
  · rename_i h1
    rw [List.filter_cons_of_neg h1]
    simp
theorem thoseB_len (fs : List S67) (nm : ByteArray) (n : Nat) : (thoseB (fs.take n) nm).length ≤ fs.length := by
  unfold thoseB
  rw [List.length_map]
  refine Nat.le_trans (List.length_filter_le _ _) ?_
  rw [List.length_take]
  omega
section
variable {w0 : World} {g : Nat} {s m p : ByteArray} {vq vf : Value} {bd : ByteArray} {vm : Value} {tg : ByteArray} {w w' : World}
set_option maxHeartbeats 4000000 in
theorem r_those.calls {A : Option Addr} {c : Nat} {fs : List S67} (h : Rd w0 g s m p vq (.slice A fs.length c) bd vm tg w) (hC : Kd.C k67 w A fs.length fs) (hn : fs.length ≤ 1000000) (nm : ByteArray) :
    Calls Tryz.prog 83 #[.pointer (some ⟨g, 0, none⟩), .string nm] w fun e w' => ∃ v, e = .returned v ∧ Kd.R Kd.string 9 w' w.heap.size (fun _ => True) v (thoseB fs nm) ∧ Below w.heap.size w w' := by
  have c4 : w.cell? ⟨g, 4, none⟩ = some (.slice A fs.length c) := h.at_.cell 4
  have HC := Aside0.mk hC
  have HN := Aside0.mk hn
  clear h hC hn
  go_enter Tryz.func83, Tryz.ntmps83
  go_wp2_with fail
  clear c4
  go_loopw [14, 5] (fun j v wr => ∃ n : Nat, n ≤ fs.length ∧ j = .int .i64 n ∧ Aside0 (Kd.R Kd.string 9 wr w.heap.size (fun _ => True) v (thoseB (fs.take n) nm)) ∧ Aside0 (Below w.heap.size w wr)) (fun j _ _ => fs.length - (intOf j).toNat)
  case atStart => exact ⟨0, Nat.zero_le _, rfl, ⟨Kd.R_nil _ _ _ _ _⟩, ⟨Below.refl _ _⟩⟩
  case round =>
    obtain ⟨n, hn, rfl, HL, HB⟩ := hrel
    by_cases hlt : n < fs.length
    · obtain ⟨ad, rfl, hc0, hc1⟩ := at_T67 (Kd.C_below HC.out HB.out) (n : Int) (Int.natCast_nonneg _) (by omega)
      have HI := Aside0.mk (thoseB_take (nm := nm) hlt)
      have HLEN := Aside0.mk (show ((thoseB (fs.take n) nm).length + 1) * 16 ≤ 140737488355328 from by
        have h1 := thoseB_len fs nm n
        have h2 := HN.out
        omega)
      rw [Int.toNat_natCast] at hc0 hc1
      rw [show rd_T67 fs (n : Int) = fs[n] from by simp [rd_T67, hlt]] at hc0 hc1
      obtain ⟨f, hf⟩ : ∃ f, f = fs[n] := ⟨_, rfl⟩
      rw [← hf] at HI hc0 hc1
      have en := w_succ (i := n) (by have := HN.out; omega)
      obtain ⟨WR, hWR⟩ : ∃ W, W = wr.alloc (.cells #[.string f.f0, .string f.f1] 67) := ⟨_, rfl⟩
      have HL1 := Aside0.mk (show Kd.R Kd.string 9 WR w.heap.size (fun _ => True) _ _ from hWR ▸ Kd.R_alloc HL.out (.cells #[.string f.f0, .string f.f1] 67))
      have HB1 := Aside0.mk (show Below w.heap.size w WR from hWR ▸ below_alloc HB.out (.cells #[.string f.f0, .string f.f1] 67))
      have hat := hWR ▸ Blk.At.new wr #[.string f.f0, .string f.f1] 67
      have k0 : WR.cell? ⟨wr.heap.size, 0, none⟩ = some (.string f.f0) := hat.cell 0
      have k1 : WR.cell? ⟨wr.heap.size, 1, none⟩ = some (.string f.f1) := hat.cell 1
      clear hat
      replace hWR := hWR.symm
      have HLT := Aside0.mk hlt
      clear hf HB HL
      unfold isF at HI
      cases hq : f.f0.toList == nm.toList with
      | false =>
        rw [hq] at HI
        go_wp2_with fail
        rw [en]
        go_roundw
        case rel => exact ⟨n + 1, HLT.out, rfl, ⟨by rw [HI.out]; exact HL1.out⟩, HB1⟩
        case measure =>
          simp only [intOf, Int.toNat_natCast]
          have := HLT.out
          omega
      | true =>
        rw [hq] at HI
        go_wp2_with (at_builtin; refine Kd.R_append Kd.string (w0 := w) w.heap.size rfl (.tmp 22) (.tmp 25) 49 9 (.string ⟨#[]⟩) 16 rfl Tryz.underlying49 info9 rfl (by decide) (by decide) u5 (thoseB (fs.take n) nm) f.f1 [.string f.f1] (fun _ => True) (fun k => some k ≠ u5.ownBlock) rfl rfl rfl (fun k hk => ⟨trivial, hk⟩) (fun _ _ => trivial) HL1.out HB1.out HB1.out.size HLEN.out ?_; intro v1 w5 ho hb hg hat; have HO5 := Aside0.mk ho; have HB5 := Aside0.mk hb; clear ho hb hg hat)
        rw [en]
        go_roundw
        case rel => exact ⟨n + 1, HLT.out, rfl, ⟨by rw [HI.out]; exact HO5.out⟩, HB5⟩
        case measure =>
          simp only [intOf, Int.toNat_natCast]
          have := HLT.out
          omega
    · obtain rfl : n = fs.length := by omega
      rw [List.take_length] at HL
      go_wp2_with fail
      go_ret
      exact ⟨_, rfl, HL.out, HB.out⟩
end
end Go.Proofs.YtljlkpfiebcoeaaGreatDoor.H
