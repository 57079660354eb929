/- A request's and a response's functions, walked: a builder within a writer, clean, line, Write. No condition but those typed. -/
import Derived.Test.YtljlkpfiebcoeaaGreatDoorWalk0
import Derived.Test.YtljlkpfiebcoeaaGreatDoorBlocks
import Derived.Test.YtljlkpfiebcoeaaGreatDoorShelf
import Derived.Test.YtljlkpfiebcoeaaGreatDoorQ
import Derived.Shelf.Strings.Builder1
namespace Go.Proofs.YtljlkpfiebcoeaaGreatDoor.H
open Go.RowKit Go.Sort Go.Shelf Go.Proofs.YtljlkpfiebcoeaaGreatDoor.Q Go.Proofs.YtljlkpfiebcoeaaGreatDoorW.PrintWords Go.Proofs.YtljlkpfiebcoeaaGreatDoorW.PrintLast Go.Proofs.YtljlkpfiebcoeaaGreatDoorW.PrintMore
attribute [local go_sem] max2_int min2_int max_two min_two max_three min_three max_four min_four   -- for this text's walks alone
set_option linter.unusedVariables false
set_option linter.unusedSimpArgs false
set_option maxRecDepth 100000
/-! ### A builder that lies in a writer -/
theorem size52 : (Tryz.prog.info? 71).map (·.size) = some 2 := by kernel_rfl
theorem lies54 : liesAt Tryz.prog Tryz.prog.depth 73 (2 / Tryz.prog.cellsOf 73) 0 71 1 = true := by kernel_rfl
theorem b_check_used {b : Nat} {w : World} (h0 : w.cell? ⟨b, 0, none⟩ = some (.pointer (some ⟨b, 0, none⟩))) :
    Calls Tryz.prog 68 #[.pointer (some ⟨b, 0, none⟩)] w fun e w' => e = .returned (.tuple #[]) ∧ w' = w := by
  obtain ⟨j, hj, _⟩ := Option.map_eq_some_iff.1 size52
  go_enter Tryz.func68, Tryz.ntmps68
  go_wp2_with fail
  rw [Lib.run_neq_ptr_same w _ Tryz.underlying68 hj]
  go_wp2_with fail
  go_end0
  exact ⟨rfl, rfl⟩
theorem b_check_fresh {b : Nat} {w : World} (h0 : w.cell? ⟨b, 0, none⟩ = some (.pointer none)) (hsh : w.shape? b = some (73, 2)) (hfz : w.frozen? ⟨b, 0, none⟩ = false) :
    Calls Tryz.prog 68 #[.pointer (some ⟨b, 0, none⟩)] w fun e w' => e = .returned (.tuple #[]) ∧ w' = w.setCell ⟨b, 0, none⟩ (.pointer (some ⟨b, 0, none⟩)) := by
  obtain ⟨j, hj, hjs⟩ := Option.map_eq_some_iff.1 size52
  go_enter Tryz.func68, Tryz.ntmps68
  go_wp2_with fail
  rw [Lib.run_to_unsafe w ⟨b, 0, none⟩ Tryz.underlying68 Tryz.underlying124 hj (by rw [hjs]; decide) hsh (Nat.zero_lt_succ 1)]
  simp only [Result.andThen]
  rw [Oper.upon_value]
  go_wp2_with fail
  rw [run_callFunc_extern Tryz.func90 (by kernel_rfl) (by kernel_rfl) (by kernel_rfl) (e := Extern.AbiNoEscape.same) (by kernel_rfl)]
  rw [Lib.run_noEscape]
  simp only [Result.andThen]
  rw [Oper.upon_value]
  go_wp2_with fail
  rw [Lib.run_from_unsafe w ⟨b, 0, none⟩ Tryz.underlying124 Tryz.underlying68 hj hsh lies54]
  simp only [Result.andThen]
  rw [Oper.upon_value]
  go_wp2_with fail
  go_end0
  exact ⟨rfl, rfl⟩
/-- A writer that holds these bytes. -/
def Wr (B b : Nat) (s : ByteArray) (w : World) : Prop := Lib.IsBuilder 73 5 B b (Lib.strCells s) w ∧ B ≤ w.heap.size
theorem Wr.new (w : World) : Wr w.heap.size w.heap.size ⟨#[]⟩ (w.alloc (.cells #[.pointer none, .slice none 0 0] 73)) := ⟨Lib.fresh_isBuilder _ _ w, by rw [show ∀ o, (w.alloc o).heap.size = w.heap.size + 1 from fun o => Array.size_push _]; omega⟩
theorem builder_below {B b : Nat} {p : Value} {bs : List Value} {w w' : World} (hp : Lib.BuilderAt 73 5 B b p bs w) (hb : Below w.heap.size w w') : Lib.BuilderAt 73 5 B b p bs w' := by
  have hlt := hp.lt
  obtain ⟨hB, v, hbk, hown, hne⟩ := hp
  exact ⟨hB, v, (hb.block b hlt).trans hbk, own_move hown (fun k hk => hb.block k (hown.lt k hk).2), hne⟩
theorem Wr.below {B b : Nat} {s : ByteArray} {w w' : World} (h : Wr B b s w) (hb : Below w.heap.size w w') : Wr B b s w' := by
  refine ⟨?_, Nat.le_trans h.2 hb.size⟩
  rcases h.1 with h | h
  · exact .inl (builder_below h hb)
  · exact .inr (builder_below h hb)
/-- What builders hold. -/
def bk : Obj → Prop
  | .cells _ t _ => t = 73 ∨ t = 5
  | _ => False
/-- Nothing has turned but what builders hold. -/
def Kb (w w' : World) : Prop := ∀ (i : Nat) (o : Obj), w.heap[i]? = some o → ¬ bk o → w'.heap[i]? = some o
theorem Kb.refl (w : World) : Kb w w := fun _ _ h _ => h
theorem Kb.trans {a b c : World} (h : Kb a b) (k : Kb b c) : Kb a c := fun i o hi ho => k i o (h i o hi ho) ho
theorem Kb.of_below {w w' : World} (h : Below w.heap.size w w') : Kb w w' := fun i o hi _ => (h.block i (Array.getElem?_eq_some_iff.1 hi).1).trans hi
theorem Kb.setCell {w : World} {b j : Nat} {cs : Array Value} (h : w.heap[b]? = some (.cells cs 73 (0, 0))) (v : Value) : Kb w (w.setCell ⟨b, j, none⟩ v) := fun i o hi ho => (Below.heap_setCell _ _ _ _ (fun e => by
  have e : i = b := e
  rw [e, h] at hi
  cases hi
  exact ho (.inl rfl))).trans hi
theorem b_check {B b : Nat} {bs : List Value} {w : World} (h : Lib.IsBuilder 73 5 B b bs w) :
    Calls Tryz.prog 68 #[.pointer (some ⟨b, 0, none⟩)] w fun e w' => e = .returned (.tuple #[]) ∧ (Lib.BuilderAt 73 5 B b (.pointer (some ⟨b, 0, none⟩)) bs w' ∧ Below B w w' ∧ Kb w w') := by
  rcases h with h | h
  · refine (b_check_fresh h.cell0 h.shape h.frozen0).mono ?_
    rintro e w' ⟨rfl, rfl⟩
    obtain ⟨hB, v, hbk, hr⟩ := h
    exact ⟨rfl, Lib.BuilderAt.used ⟨hB, v, hbk, hr⟩ _, (Below.refl B w).setCell (p := ⟨b, 0, none⟩) hB _, Kb.setCell hbk _⟩
  · refine (b_check_used h.cell0).mono ?_
    rintro e w' ⟨rfl, rfl⟩
    exact ⟨rfl, h, Below.refl B _, Kb.refl _⟩
theorem info5 : (Tryz.prog.info? 5).map (fun i => (i.zero, i.size, i.bytes)) = some (some (.int .u8 0), 1, 1) := by kernel_rfl
theorem strCells_cat (a b : ByteArray) : Lib.strCells a ++ Lib.strCells b = Lib.strCells (a ++ b) := by
  simp [Lib.strCells]
set_option maxHeartbeats 2000000 in
theorem b_WriteString {B b : Nat} {t : ByteArray} {w : World} (h : Wr B b t w) {s : ByteArray} (hlen : t.size + s.size ≤ 140737488355328) :
    Calls Tryz.prog 35 #[.pointer (some ⟨b, 0, none⟩), .string s] w fun e w' => e = .returned (.tuple #[.int .i64 s.size, .nilIface]) ∧ Wr B b (t ++ s) w' ∧ Below B w w' ∧ Kb w w' := by
  obtain ⟨i0, hi, hz0, hz1, hz2⟩ := info_parts info5
  have hBw := h.2
  have hck := b_check h.1
  have htl : (Lib.strCells t).length = t.size := Lib.strCells_length t
  go_enter Tryz.func35, Tryz.ntmps35
  go_wp2_with fail
  refine hck.mono ?_
  rintro e w1 ⟨rfl, h1, hb1, hk1⟩
  obtain ⟨hB, v, hbk, hown, hne⟩ := h1
  have c0 : w1.cell? ⟨b, 0, none⟩ = some (.pointer (some ⟨b, 0, none⟩)) := by rw [Lib.cell_of_heap hbk]; rfl
  have c1 : w1.cell? ⟨b, 1, none⟩ = some v := by rw [Lib.cell_of_heap hbk]; rfl
  go_wp2_with (at_builtin; refine Lib.wpList_append_own_string _ rfl _ _ 69 9 rfl B 5 i0 Tryz.underlying69 Tryz.underlying9 hi hz0 hz1 hz2 _ _ _ rfl hown s rfl ?c3 ?c4 ?c5 ?_)
  case c3 => rw [htl]; unfold maxLen; omega
  case c4 => rw [htl]; omega
  case c5 => have := hb1.size; omega
  intro v' w2 hown' hgrow _
  have hlt : b < w1.heap.size := by
    rcases Nat.lt_or_ge b w1.heap.size with h' | h'
    · exact h'
    · simp [Array.getElem?_eq_none h'] at hbk
  have hb2 : w2.heap[b]? = some (.cells #[.pointer (some ⟨b, 0, none⟩), v] 73 (0, 0)) := by
    rw [hgrow.block b hlt (fun e => hne e.symm)]
    exact hbk
  have d0 : w2.cell? ⟨b, 0, none⟩ = some (.pointer (some ⟨b, 0, none⟩)) := by rw [Lib.cell_of_heap hb2]; rfl
  have d1 : w2.cell? ⟨b, 1, none⟩ = some v := by rw [Lib.cell_of_heap hb2]; rfl
  have f1 : w2.frozen? ⟨b, 1, none⟩ = false := Lib.frozen_of_heap hb2 1
  obtain ⟨ao, n', cap, rfl⟩ : ∃ ao n' cap, v' = .slice ao n' cap := by
    rcases hown'.2 with ⟨hv, _⟩ | ⟨g, cap, cur, hv, _⟩
    · exact ⟨_, _, _, hv⟩
    · exact ⟨_, _, _, hv⟩
  have HR := Aside0.mk (show Lib.BuilderAt 73 5 B b (.pointer (some ⟨b, 0, none⟩)) (Lib.strCells (t ++ s)) (w2.setCell ⟨b, 1, none⟩ (.slice ao n' cap)) from by
    refine Lib.BuilderAt.put (T := 73) (e := 5) hB hb2 (bs' := Lib.strCells (t ++ s)) ?_ (by decide)
    rw [← strCells_cat]
    simpa [Lib.strCells_length] using hown')
  have HB := Aside0.mk ((hb1.grown hgrow (by have := hb1.size; omega) (fun k hk => (hown.lt k hk).1)).setCell (p := ⟨b, 1, none⟩) hB (.slice ao n' cap))
  have HKB := Aside0.mk (show Kb w (w2.setCell ⟨b, 1, none⟩ (.slice ao n' cap)) from (hk1.trans fun i o hi ho => (hgrow.block i (Array.getElem?_eq_some_iff.1 hi).1 (fun e => by
    rcases hown.2 with ⟨hv, _⟩ | ⟨g, cap, cur, hv, _, hc, _⟩
    · rw [hv] at e; cases e
    · rw [hv] at e
      cases e
      rw [hc] at hi
      cases hi
      exact ho (.inr rfl))).trans hi).trans (Kb.setCell hb2 _))
  have HS := Aside0.mk hBw
  clear hown hown' hgrow hbk hb1 hck h hne hb2 htl hk1
  go_wp2_with fail
  go_ret2
  exact ⟨rfl, ⟨.inr HR.out, Nat.le_trans HS.out HB.out.size⟩, HB.out, HKB.out⟩
theorem strCells_byteCells (s : ByteArray) : Lib.strCells s = Lib.byteCells s.data.toList := by
  simp [Lib.strCells, Lib.byteCells]
set_option maxHeartbeats 2000000 in
theorem b_String {B b : Nat} {t : ByteArray} {w : World} (h : Wr B b t w) (h0 : t.data.toList ≠ []) :
    Calls Tryz.prog 36 #[.pointer (some ⟨b, 0, none⟩)] w fun e w' => e = .returned (.string t) ∧ Below B w w' := by
  obtain ⟨p, hB, v, hbk, hown, hne⟩ : ∃ p, Lib.BuilderAt 73 5 B b p (Lib.byteCells t.data.toList) w := by
    have h1 := h.1
    rw [strCells_byteCells] at h1
    rcases h1 with h | h
    · exact ⟨_, h⟩
    · exact ⟨_, h⟩
  obtain ⟨l, hl⟩ : ∃ l, l = t.data.toList := ⟨_, rfl⟩
  have ht : (⟨l.toArray⟩ : ByteArray) = t := by rw [hl]
  rw [← hl] at hown h0
  have hl0 : l.length ≠ 0 := by simpa using h0
  rw [Lib.byteCells_length] at hown
  obtain ⟨g, cap, cur, rfl, hbg, hg, hnc, hcm, hcs, htake⟩ : ∃ g cap cur, v = .slice (some ⟨g, 0, none⟩) l.length cap ∧ B ≤ g ∧ w.heap[g]? = some (.cells cur 5 (0, 0)) ∧ l.length ≤ cap ∧ cap ≤ maxLen ∧ cur.size = cap * 1 ∧ cur.toList.take (l.length * 1) = Lib.byteCells l := by
    rcases hown.2 with ⟨_, hz⟩ | ⟨g, cap, cur, hv, r⟩
    · exact absurd hz hl0
    · exact ⟨g, cap, cur, hv, r⟩
  have c1 : w.drew.cell? ⟨b, 1, none⟩ = some (.slice (some ⟨g, 0, none⟩) l.length cap) := by
    have : w.drew.heap[b]? = some (.cells #[p, .slice (some ⟨g, 0, none⟩) l.length cap] 73 (0, 0)) := hbk
    rw [Lib.cell_of_heap this]; rfl
  have hSD : (Builtin.unsafeSliceData_ #[69] 108 #[.slice (some ⟨g, 0, none⟩) l.length cap]).run Tryz.prog w.drew = .ok (.pointer (some ⟨g, 0, none⟩)) w.drew :=
    Lib.run_unsafeSliceData_row _ _ _ _ _ _ (by omega)
  have hUS : (Builtin.unsafeString_ #[108, 3] 9 #[.pointer (some ⟨g, 0, none⟩), .int .i64 l.length]).run Tryz.prog w.drew = .ok (.string ⟨l.toArray⟩) (w.drew.freeze ⟨g, 0, none⟩ l.length) := by
    refine Lib.run_unsafeString_row w.drew 108 3 9 5 Tryz.underlying108 (by kernel_rfl) g cur.size (by have hg' : w.drew.heap[g]? = some (.cells cur 5 (0, 0)) := hg; simp [World.shape?, hg']) l h0 (by omega) (by unfold maxLen at hcm; omega) ?_
    intro j x hx
    have := hown.cells (g := g) rfl j (.int .u8 x.toNat) (by simp [Lib.byteCells, hx])
    exact this
  rw [ht] at hUS
  have HBG := Aside0.mk hbg
  clear hown hbk hne hbg hg hnc hcm hcs htake h hl ht h0 hl0
  go_enter Tryz.func36, Tryz.ntmps36
  go_wp2_with fail
  go_region
  all_goals (go_wp2_with fail; go_ret; exact ⟨rfl, Lib.below_freeze (Below.drew (Below.refl B w)) (p := ⟨g, 0, none⟩) HBG.out _⟩)
/-! ### clean: function 19; a writer's line: function 16 -/
def cleanB (c : UInt8) : UInt8 := if c < 32 ∨ c = 127 then 32 else c
def cleanS (s : ByteArray) : ByteArray := ⟨(s.data.toList.map cleanB).toArray⟩
/-- The first n bytes are clean. -/
def cleanP (l : List UInt8) (n : Nat) : List UInt8 := (l.take n).map cleanB ++ l.drop n
theorem cleanP_length (l : List UInt8) (n : Nat) : (cleanP l n).length = l.length := by simp [cleanP]; omega
theorem cleanP_at (l : List UInt8) {n : Nat} (h : n < l.length) : (cleanP l n)[n]'(by rw [cleanP_length]; exact h) = l[n] := by
  unfold cleanP
  rw [List.getElem_append_right (by rw [List.length_map, List.length_take]; omega)]
  simp [Nat.min_eq_left (Nat.le_of_lt h)]
theorem cleanP_succ (l : List UInt8) {n : Nat} (h : n < l.length) : (cleanP l n).set n (cleanB l[n]) = cleanP l (n + 1) := by
  unfold cleanP
  rw [List.set_append_right _ _ (by rw [List.length_map, List.length_take]; omega), List.take_succ_eq_append_getElem h, List.map_append, List.append_assoc]
  congr 1
  rw [List.length_map, List.length_take, Nat.min_eq_left (Nat.le_of_lt h), Nat.sub_self, List.drop_eq_getElem_cons h]
  rfl
theorem cleanP_same (l : List UInt8) {n : Nat} (h : n < l.length) (hc : cleanB l[n] = l[n]) : cleanP l (n + 1) = cleanP l n := by
  rw [← cleanP_succ l h, hc]
  rw [show l[n] = (cleanP l n)[n]'(by rw [cleanP_length]; exact h) from (cleanP_at l h).symm]
  exact List.set_getElem_self _
set_option maxHeartbeats 2000000 in
theorem p_clean.calls (a0 : ByteArray) (w : World) (hmax : a0.size ≤ 140737488355328) :
    Calls Tryz.prog 53 #[.string a0] w fun e w' => e = .returned (.string (cleanS a0)) ∧ Below w.heap.size w w' := by
  have hconv := fun (W : World) (s : ByteArray) => Lib.run_convert_string_bytes (P := Tryz.prog) W 9 69 5 s Tryz.underlying9 Tryz.underlying69 Tryz.underlying5
  have hsz : a0.data.toList.length = a0.size := by rw [Array.length_toList]; rfl
  have HSZ := Aside0.mk hsz
  clear hsz
  go_enter Tryz.func53, Tryz.ntmps53
  go_wp2
  go_loopw [10] (fun j wr => ∃ n : Nat, n ≤ a0.size ∧ j = .int .i64 n ∧ Aside0 (MarkedBytes wr w.heap.size 5 (cleanP a0.data.toList n)) ∧ Aside0 (Below w.heap.size w wr)) (fun j _ => a0.size - (intOf j).toNat)
  case atStart =>
    refine ⟨0, Nat.zero_le _, rfl, ⟨?_⟩, ⟨Kd.below_bytesWorld (Below.refl _ _) (Nat.le_refl _)⟩⟩
    have := MarkedBytes.of_conv w 5 a0
    simpa [cleanP] using this
  case round =>
    obtain ⟨n, hn, rfl, HM, HB⟩ := hrel
    by_cases hlt : n < a0.size
    · have hl : n < a0.data.toList.length := by rw [HSZ.out]; exact hlt
      have hp : n < (cleanP a0.data.toList n).length := by rw [cleanP_length]; exact hl
      have hcell := HM.out.cell hp
      have hfz := HM.out.unfrozen hp
      rw [cleanP_at _ hl] at hcell
      obtain ⟨c, hc⟩ : ∃ c : UInt8, c = a0.data.toList[n] := ⟨_, rfl⟩
      rw [← hc] at hcell
      have HC := Aside0.mk (show cleanP a0.data.toList (n + 1) = (cleanP a0.data.toList n).set n (cleanB c) from by rw [hc]; exact (cleanP_succ _ hl).symm)
      have HE := Aside0.mk (show cleanB c = c → cleanP a0.data.toList (n + 1) = cleanP a0.data.toList n from by rw [hc]; exact cleanP_same _ hl)
      clear hc
      have HL := Aside0.mk hl
      have HP := Aside0.mk hp
      clear hl hp
      by_cases h32 : (c.toNat : Int) < 32
      · have hcb := Aside0.mk (show cleanB c = 32 from if_pos (.inl (show c.toNat < 32 from by omega)))
        replace h32 : decide ((c.toNat : Int) < 32) = true := decide_eq_true h32
        go_wp2
        go_roundw
        case rel =>
          refine ⟨n + 1, by omega, by go_num, ⟨?_⟩, ⟨?_⟩⟩
          · rw [HC.out, hcb.out]
            exact HM.out.set HP.out 32
          · exact below_set HB.out (Nat.le_refl _)
        case measure => simp [intOf]; omega
      · have h32' : ¬ c < 32 := fun h => h32 (by have : c.toNat < 32 := h; omega)
        by_cases h127 : (c.toNat : Int) = 127
        · have hcb := Aside0.mk (show cleanB c = 32 from if_pos (.inr (UInt8.toNat_inj.1 (show c.toNat = 127 from by omega))))
          replace h32 : decide ((c.toNat : Int) < 32) = false := decide_eq_false h32
          replace h127 : ((c.toNat : Int) == 127) = true := beq_iff_eq.2 h127
          clear h32'
          go_wp2
          go_roundw
          case rel =>
            refine ⟨n + 1, by omega, by go_num, ⟨?_⟩, ⟨?_⟩⟩
            · rw [HC.out, hcb.out]
              exact HM.out.set HP.out 32
            · exact below_set HB.out (Nat.le_refl _)
          case measure => simp [intOf]; omega
        · have hcb := Aside0.mk (show cleanB c = c from if_neg (by
            rintro (h | h)
            · exact h32' h
            · exact h127 (by rw [h]; rfl)))
          replace h32 : decide ((c.toNat : Int) < 32) = false := decide_eq_false h32
          replace h127 : ((c.toNat : Int) == 127) = false := beq_eq_false_iff_ne.2 h127
          clear h32'
          go_wp2
          go_roundw
          case rel =>
            refine ⟨n + 1, by omega, by go_num, ⟨?_⟩, ⟨?_⟩⟩
            · rw [HE.out hcb.out]
              exact HM.out
            · exact HB.out
          case measure => simp [intOf]; omega
    · have hback : (convert 69 9 (.slice (some ⟨w.heap.size, 0, none⟩) a0.size (grownCap w a0.size 0 5))).run Tryz.prog wr = .ok (.string (cleanS a0)) wr := by
        have hn2 : n = a0.data.toList.length := by rw [HSZ.out]; omega
        have h1 := HM.out.conv_back Tryz.underlying69 Tryz.underlying5 Tryz.underlying9 (grownCap w a0.size 0 5)
        rw [cleanP_length, HSZ.out] at h1
        rw [h1]
        unfold cleanP cleanS
        rw [hn2, List.take_length, List.drop_length, List.append_nil]
      go_wp2
      go_ret
      exact ⟨rfl, HB.out⟩
theorem w_succ {i : Nat} (h : i ≤ 4611686018427387904) : wrap64 ((i : Int) + 1) = ((i + 1 : Nat) : Int) := by
  unfold wrap64
  omega
/-- Texts joined. -/
def catB : List ByteArray → ByteArray
  | [] => ⟨#[]⟩
  | s :: r => s ++ catB r
theorem catB_snoc (l : List ByteArray) (s : ByteArray) : catB (l ++ [s]) = catB l ++ s := by
  induction l with
  | nil => show s ++ ByteArray.empty = ByteArray.empty ++ s; simp
  | cons x r ih => show x ++ catB (r ++ [s]) = (x ++ catB r) ++ s; rw [ih, ByteArray.append_assoc]
theorem catB_take {l : List ByteArray} {n : Nat} (h : n < l.length) : catB (l.take (n + 1)) = catB (l.take n) ++ l[n] := by
  rw [List.take_succ_eq_append_getElem h, catB_snoc]
theorem catB_le (l : List ByteArray) (n : Nat) : (catB (l.take n)).size ≤ (catB l).size := by
  induction l generalizing n with
  | nil => simp
  | cons x r ih =>
    cases n with
    | zero => exact Nat.zero_le _
    | succ n =>
      show (x ++ catB (r.take n)).size ≤ (x ++ catB r).size
      rw [ByteArray.size_append, ByteArray.size_append]
      have := ih n
      omega
/-- The parts of a line, as they lie in memory. -/
def Ps (ss : List ByteArray) (A : Option Addr) (w : World) : Prop := ss = [] ∨ ∃ g, A = some ⟨g, 0, none⟩ ∧ Blk.At g (ss.map Value.string).toArray 9 w
theorem Ps.kb {ss : List ByteArray} {A : Option Addr} {w w' : World} (h : Ps ss A w) (hk : Kb w w') : Ps ss A w' := by
  rcases h with h | ⟨g, e, h⟩
  · exact .inl h
  · exact .inr ⟨g, e, hk g _ h (by simp [bk])⟩
theorem Ps.at {ss : List ByteArray} {A : Option Addr} {w : World} (h : Ps ss A w) {n : Nat} (hn : n < ss.length) : ∃ g, A = some ⟨g, 0, none⟩ ∧ w.cell? ⟨g, n, none⟩ = some (.string ss[n]) := by
  rcases h with h | ⟨g, e, h⟩
  · subst h; simp at hn
  · exact ⟨g, e, by rw [h.cell]; simp [hn]⟩
set_option maxHeartbeats 4000000 in
theorem w_line {B b : Nat} {t : ByteArray} {w : World} (h : Wr B b t w) {ss : List ByteArray} {A : Option Addr} {c : Nat} (hp : Ps ss A w) (hlen : t.size + (catB ss).size + 2 ≤ 140737488355328) (hn : ss.length ≤ 1000000) :
    Calls Tryz.prog 32 #[.pointer (some ⟨b, 0, none⟩), .slice A ss.length c] w fun e w' => e = .returned (.tuple #[]) ∧ Wr B b (t ++ catB ss ++ ⟨#[13, 10]⟩) w' ∧ Below B w w' ∧ Kb w w' := by
  have HL := Aside0.mk hlen
  have HN := Aside0.mk hn
  have HW := Aside0.mk h
  have HP := Aside0.mk hp
  clear h hp hlen hn
  go_enter Tryz.func32, Tryz.ntmps32
  go_wp2_with fail
  go_loopw [8] (fun j wr => ∃ i : Nat, i ≤ ss.length ∧ j = .int .i64 i ∧ Aside0 (Wr B b (t ++ catB (ss.take i)) wr) ∧ Aside0 (Below B w wr) ∧ Aside0 (Kb w wr)) (fun j _ => ss.length - (intOf j).toNat)
  case atStart => exact ⟨0, Nat.zero_le _, rfl, ⟨by rw [List.take_zero]; show Wr B b (t ++ ByteArray.empty) w; rw [ByteArray.append_empty]; exact HW.out⟩, ⟨Below.refl _ _⟩, ⟨Kb.refl _⟩⟩
  case round =>
    obtain ⟨i, hi, rfl, HR, HB, HK⟩ := hrel
    by_cases hlt : i < ss.length
    · obtain ⟨g, rfl, hc⟩ := (HP.out.kb HK.out).at hlt
      have hws := b_WriteString HR.out (s := ss[i]) (by
        rw [ByteArray.size_append]
        have h1 := catB_le ss (i + 1)
        rw [catB_take hlt, ByteArray.size_append] at h1
        have := HL.out
        omega)
      have HI := Aside0.mk (show t ++ catB (ss.take i) ++ ss[i] = t ++ catB (ss.take (i + 1)) from by rw [catB_take hlt, ByteArray.append_assoc])
      obtain ⟨s, hs⟩ : ∃ s, s = ss[i] := ⟨_, rfl⟩
      rw [← hs] at hc hws HI
      clear hs
      go_wp2_with fail
      refine hws.mono ?_
      rintro e w1 ⟨rfl, h1, hb1, hk1⟩
      rw [HI.out] at h1
      have H1 := Aside0.mk h1
      have HB1 := Aside0.mk (Below.trans HB.out hb1)
      have HK1 := Aside0.mk (Kb.trans HK.out hk1)
      clear h1 hb1 hk1 hws HR HB HK HI
      go_wp2_with fail
      go_roundw
      case rel => exact ⟨i + 1, by omega, by rw [w_succ (by have := HN.out; omega)], H1, HB1, HK1⟩
      case measure =>
        rw [w_succ (by have := HN.out; omega)]
        simp only [intOf, Int.toNat_natCast]
        omega
    · obtain rfl : i = ss.length := by omega
      rw [List.take_length] at HR
      have hws := b_WriteString HR.out (s := ⟨#[13, 10]⟩) (by
        rw [ByteArray.size_append]
        have := HL.out
        show t.size + (catB ss).size + 2 ≤ _
        omega)
      clear HR
      go_wp2_with fail
      refine hws.mono ?_
      rintro e w1 ⟨rfl, h1, hb1, hk1⟩
      go_wp2_with fail
      go_end0
      exact ⟨rfl, h1, Below.trans HB.out hb1, Kb.trans HK.out hk1⟩
/-! ### Write: function 7 -/
theorem w_line4 {B b : Nat} {t : ByteArray} {w : World} (h : Wr B b t w) {g c : Nat} {s1 s2 s3 s4 : ByteArray} (hp : Blk.At g #[.string s1, .string s2, .string s3, .string s4] 9 w) (hlen : t.size + (catB [s1, s2, s3, s4]).size + 2 ≤ 140737488355328) :
    Calls Tryz.prog 32 #[.pointer (some ⟨b, 0, none⟩), .slice (some ⟨g, 0, none⟩) 4 c] w fun e w' => e = .returned (.tuple #[]) ∧ Wr B b (t ++ catB [s1, s2, s3, s4] ++ ⟨#[13, 10]⟩) w' ∧ Below B w w' ∧ Kb w w' := w_line h (ss := [s1, s2, s3, s4]) (.inr ⟨g, rfl, hp⟩) hlen (show 4 ≤ 1000000 by decide)
theorem w_line3 {B b : Nat} {t : ByteArray} {w : World} (h : Wr B b t w) {g c : Nat} {s1 s2 s3 : ByteArray} (hp : Blk.At g #[.string s1, .string s2, .string s3] 9 w) (hlen : t.size + (catB [s1, s2, s3]).size + 2 ≤ 140737488355328) :
    Calls Tryz.prog 32 #[.pointer (some ⟨b, 0, none⟩), .slice (some ⟨g, 0, none⟩) 3 c] w fun e w' => e = .returned (.tuple #[]) ∧ Wr B b (t ++ catB [s1, s2, s3] ++ ⟨#[13, 10]⟩) w' ∧ Below B w w' ∧ Kb w w' := w_line h (ss := [s1, s2, s3]) (.inr ⟨g, rfl, hp⟩) hlen (show 3 ≤ 1000000 by decide)
theorem w_line2 {B b : Nat} {t : ByteArray} {w : World} (h : Wr B b t w) {g c : Nat} {s1 s2 : ByteArray} (hp : Blk.At g #[.string s1, .string s2] 9 w) (hlen : t.size + (catB [s1, s2]).size + 2 ≤ 140737488355328) :
    Calls Tryz.prog 32 #[.pointer (some ⟨b, 0, none⟩), .slice (some ⟨g, 0, none⟩) 2 c] w fun e w' => e = .returned (.tuple #[]) ∧ Wr B b (t ++ catB [s1, s2] ++ ⟨#[13, 10]⟩) w' ∧ Below B w w' ∧ Kb w w' := w_line h (ss := [s1, s2]) (.inr ⟨g, rfl, hp⟩) hlen (show 2 ≤ 1000000 by decide)
theorem w_line0 {B b : Nat} {t : ByteArray} {w : World} (h : Wr B b t w) (hlen : t.size + (catB []).size + 2 ≤ 140737488355328) :
    Calls Tryz.prog 32 #[.pointer (some ⟨b, 0, none⟩), .slice none 0 0] w fun e w' => e = .returned (.tuple #[]) ∧ Wr B b (t ++ catB [] ++ ⟨#[13, 10]⟩) w' ∧ Below B w w' ∧ Kb w w' := w_line h (ss := []) (.inl rfl) hlen (show 0 ≤ 1000000 by decide)
/-- A line behind what was written. -/
def lnB (t : ByteArray) (ss : List ByteArray) : ByteArray := t ++ catB ss ++ ⟨#[13, 10]⟩
theorem lnB_size (t : ByteArray) (ss : List ByteArray) : (lnB t ss).size = t.size + (catB ss).size + 2 := by
  unfold lnB
  rw [ByteArray.size_append, ByteArray.size_append]
  rfl
/-- The fields' lines behind what was written. -/
def fldB (t : ByteArray) (fs : List S67) : ByteArray := fs.foldl (fun t f => lnB t [f.f0, ⟨#[58, 32]⟩, cleanS f.f1]) t
theorem fldB_take {t : ByteArray} {fs : List S67} {n : Nat} (h : n < fs.length) : fldB t (fs.take (n + 1)) = lnB (fldB t (fs.take n)) [fs[n].f0, ⟨#[58, 32]⟩, cleanS fs[n].f1] := by
  unfold fldB
  rw [List.take_succ_eq_append_getElem h, List.foldl_append]
  rfl
theorem cleanS_size (s : ByteArray) : (cleanS s).size = s.size := by
  show ((s.data.toList.map cleanB).toArray).size = s.size
  rw [List.size_toArray, List.length_map, Array.length_toList]
  rfl
/-- A response's bytes; pd, rs, tx: its status, what it says, its body's length. -/
def hdB (pd rs typ : ByteArray) : ByteArray := if typ.toList = [] then lnB ⟨#[]⟩ [⟨#[72, 84, 84, 80, 47, 49, 46, 49, 32]⟩, pd, ⟨#[32]⟩, rs] else lnB (lnB ⟨#[]⟩ [⟨#[72, 84, 84, 80, 47, 49, 46, 49, 32]⟩, pd, ⟨#[32]⟩, rs]) [⟨#[67, 111, 110, 116, 101, 110, 116, 45, 84, 121, 112, 101, 58, 32]⟩, cleanS typ]
def wrB (pd rs tx typ : ByteArray) (fs : List S67) (body : ByteArray) : ByteArray := lnB (lnB (fldB (hdB pd rs typ) fs) [⟨#[67, 111, 110, 116, 101, 110, 116, 45, 76, 101, 110, 103, 116, 104, 58, 32]⟩, tx]) [] ++ body
structure Fits (pd rs tx typ : ByteArray) (fs : List S67) (body : ByteArray) : Prop where
  pd : pd.size ≤ 100
  rs : rs.size ≤ 100
  tx : tx.size ≤ 100
  typ : typ.size ≤ 6000
  body : body.size ≤ 6000
  len : fs.length ≤ 100
  fs : ∀ i (h : i < fs.length), fs[i].f0.size ≤ 6000 ∧ fs[i].f1.size ≤ 6000
theorem fit_max {n : Nat} (h : n ≤ 5000000) : n + 2 ≤ 140737488355328 := by omega
section
variable {pd rs tx typ body : ByteArray} {fs : List S67}
theorem Fits.l1 (h : Fits pd rs tx typ fs body) : (lnB ⟨#[]⟩ [⟨#[72, 84, 84, 80, 47, 49, 46, 49, 32]⟩, pd, ⟨#[32]⟩, rs]).size ≤ 300 := by
  have h1 := h.pd
  have h2 := h.rs
  rw [lnB_size]
  simp only [catB, ByteArray.size_append]
  show 0 + (9 + (pd.size + (1 + (rs.size + 0)))) + 2 ≤ 300
  omega
theorem Fits.c1 (h : Fits pd rs tx typ fs body) : (⟨#[]⟩ : ByteArray).size + (catB [⟨#[72, 84, 84, 80, 47, 49, 46, 49, 32]⟩, pd, ⟨#[32]⟩, rs]).size + 2 ≤ 140737488355328 := by
  have := h.l1
  rw [lnB_size] at this
  omega
theorem Fits.c2 (h : Fits pd rs tx typ fs body) : (lnB ⟨#[]⟩ [⟨#[72, 84, 84, 80, 47, 49, 46, 49, 32]⟩, pd, ⟨#[32]⟩, rs]).size + (catB [⟨#[67, 111, 110, 116, 101, 110, 116, 45, 84, 121, 112, 101, 58, 32]⟩, cleanS typ]).size + 2 ≤ 140737488355328 := by
  have h1 := h.l1
  have h2 := h.typ
  simp only [catB, ByteArray.size_append, cleanS_size]
  show _ + (14 + (typ.size + 0)) + 2 ≤ _
  omega
theorem Fits.l2 (h : Fits pd rs tx typ fs body) : (hdB pd rs typ).size ≤ 7000 := by
  have h1 := h.l1
  unfold hdB
  split
  · omega
  · have h2 := h.typ
    rw [lnB_size]
    simp only [catB, ByteArray.size_append, cleanS_size]
    show _ + (14 + (typ.size + 0)) + 2 ≤ _
    omega
theorem Fits.l3 (h : Fits pd rs tx typ fs body) (n : Nat) (hn : n ≤ fs.length) : (fldB (hdB pd rs typ) (fs.take n)).size ≤ 7000 + n * 13000 := by
  induction n with
  | zero => exact h.l2
  | succ n ih =>
    have hlt : n < fs.length := by omega
    have := ih (by omega)
    have h2 := h.fs n hlt
    rw [fldB_take hlt, lnB_size]
    simp only [catB, ByteArray.size_append, cleanS_size]
    show _ + (_ + (2 + (_ + 0))) + 2 ≤ _
    omega
theorem Fits.c3 (h : Fits pd rs tx typ fs body) {n : Nat} (hn : n < fs.length) : (fldB (hdB pd rs typ) (fs.take n)).size + (catB [fs[n].f0, ⟨#[58, 32]⟩, cleanS fs[n].f1]).size + 2 ≤ 140737488355328 := by
  have h1 := h.l3 (n + 1) hn
  rw [fldB_take hn, lnB_size] at h1
  have := h.len
  omega
theorem Fits.l4 (h : Fits pd rs tx typ fs body) : (fldB (hdB pd rs typ) fs).size ≤ 2000000 := by
  have h1 := h.l3 fs.length (Nat.le_refl _)
  rw [List.take_length] at h1
  have := h.len
  omega
theorem Fits.c4 (h : Fits pd rs tx typ fs body) : (fldB (hdB pd rs typ) fs).size + (catB [⟨#[67, 111, 110, 116, 101, 110, 116, 45, 76, 101, 110, 103, 116, 104, 58, 32]⟩, tx]).size + 2 ≤ 140737488355328 := by
  have h1 := h.l4
  have h2 := h.tx
  simp only [catB, ByteArray.size_append]
  show _ + (16 + (tx.size + 0)) + 2 ≤ _
  omega
theorem Fits.l5 (h : Fits pd rs tx typ fs body) : (lnB (fldB (hdB pd rs typ) fs) [⟨#[67, 111, 110, 116, 101, 110, 116, 45, 76, 101, 110, 103, 116, 104, 58, 32]⟩, tx]).size ≤ 3000000 := by
  have h1 := h.l4
  have h2 := h.tx
  rw [lnB_size]
  simp only [catB, ByteArray.size_append]
  show _ + (16 + (tx.size + 0)) + 2 ≤ _
  omega
theorem Fits.c5 (h : Fits pd rs tx typ fs body) : (lnB (fldB (hdB pd rs typ) fs) [⟨#[67, 111, 110, 116, 101, 110, 116, 45, 76, 101, 110, 103, 116, 104, 58, 32]⟩, tx]).size + (catB []).size + 2 ≤ 140737488355328 := by
  have h1 := h.l5
  show _ + 0 + 2 ≤ _
  omega
theorem Fits.c6 (h : Fits pd rs tx typ fs body) : (lnB (lnB (fldB (hdB pd rs typ) fs) [⟨#[67, 111, 110, 116, 101, 110, 116, 45, 76, 101, 110, 103, 116, 104, 58, 32]⟩, tx]) []).size + body.size ≤ 140737488355328 := by
  have h1 := h.l5
  have h2 := h.body
  rw [lnB_size]
  show _ + 0 + 2 + _ ≤ _
  omega
end
/-- Further on, with nothing turned below b. -/
def Nx (b : Nat) (w w' : World) : Prop := b ≤ w.heap.size ∧ Below b w w'
theorem Nx.refl {b : Nat} {w : World} (h : b ≤ w.heap.size) : Nx b w w := ⟨h, Below.refl _ _⟩
theorem Nx.size {b : Nat} {w W : World} (h : Nx b w W) : b ≤ W.heap.size := Nat.le_trans h.1 h.2.size
theorem Nx.own {b : Nat} {w W W' : World} (h : Nx b w W) (k : Below b W W') : Nx b w W' := ⟨h.1, h.2.trans k⟩
theorem Nx.call {b : Nat} {w W W' : World} (h : Nx b w W) (k : Below W.heap.size W W') : Nx b w W' := h.own (k.mono h.size)
theorem Nx.alloc {b : Nat} {w W : World} (h : Nx b w W) (o : Obj) : Nx b w (W.alloc o) := h.call (below_alloc (Below.refl _ _) o)
theorem Nx.drew {b : Nat} {w W : World} (h : Nx b w W) : Nx b w W.drew := h.call (below_drew (Below.refl _ _))
theorem Nx.set {b : Nat} {w W : World} (h : Nx b w W) {p : Addr} (hp : b ≤ p.block) (v : Value) : Nx b w (W.setCell p v) := h.own ((Below.refl _ _).setCell hp v)
theorem Nx.cell {b : Nat} {w W : World} (h : Nx b w W) {p : Addr} {v : Value} (hc : w.cell? p = some v) (hp : p.block < b) : W.cell? p = some v := (h.2.cell hp).trans hc
theorem Nx.at {b : Nat} {w W : World} (h : Nx b w W) {g : Nat} {cs : Array Value} {t : TypeId} (hc : Blk.At g cs t w) (hg : g < b) : Blk.At g cs t W := hc.below h.2 hg
theorem lnB_some (t : ByteArray) (ss : List ByteArray) (s : ByteArray) : (lnB t ss ++ s).data.toList ≠ [] := by
  intro h
  have h1 : (lnB t ss ++ s).size = 0 := by
    show (lnB t ss ++ s).data.size = 0
    rw [← Array.length_toList, h]
    rfl
  rw [ByteArray.size_append, lnB_size] at h1
  omega
set_option maxHeartbeats 8000000 in
theorem p_Write.calls {st : Int} {pd rs tx typ body : ByteArray} {fs : List S67} {A : Option Addr} {c k1 k2 : Nat} {w : World} (hpd : ascii_Pad.f k1 st 3 = some pd) (hrs : http_Reason.f st = some rs) (htx : ascii_Text.f k2 (body.size : Int) = some tx) (hf : Fits pd rs tx typ fs body) (hC : Kd.C k67 w A fs.length fs) :
    Calls Tryz.prog 22 #[.agg #[.int .i64 st, .string typ, .slice A fs.length c, .string body]] w fun e w' => e = .returned (.string (wrB pd rs tx typ fs body)) ∧ Below w.heap.size w w' := by
  obtain ⟨W1, hW1⟩ : ∃ W, W = w.alloc (.cells #[.int .i64 st, .string typ, .slice A fs.length c, .string body] 55) := ⟨_, rfl⟩
  obtain ⟨W2, hW2⟩ : ∃ W, W = W1.alloc (.cells #[.pointer none, .slice none 0 0] 73) := ⟨_, rfl⟩
  have HP2 := Aside0.mk (show Blk.At w.heap.size #[.int .i64 st, .string typ, .slice A fs.length c, .string body] 55 W2 from by rw [hW2, hW1]; exact (Blk.At.new w _ _).alloc _)
  have HWr2 := Aside0.mk (show Wr W1.heap.size W1.heap.size ⟨#[]⟩ W2 from by rw [hW2]; exact Wr.new W1)
  have HBW := Aside0.mk (show Below w.heap.size w W2 from by rw [hW2, hW1]; exact below_alloc (below_alloc (Below.refl _ _) _) _)
  have HS1 := Aside0.mk (show w.heap.size < W1.heap.size from by rw [hW1]; exact Nat.lt_of_lt_of_eq (Nat.lt_succ_self _) (Array.size_push _).symm)
  replace hW1 := hW1.symm
  replace hW2 := hW2.symm
  have HPD := Aside0.mk (fun W => ascii_Pad.calls k1 st 3 pd W hpd)
  have HRS := Aside0.mk (fun W => (http_Reason.calls st rs W hrs).mono (fun e w' h => show e = Ending.returned (Value.string rs) ∧ Below W.heap.size W w' from ⟨h.1, by obtain ⟨_, nd, rfl⟩ := h; exact pw_below_drewN (Below.refl _ _) nd⟩))
  have HTX := Aside0.mk (fun W => ascii_Text.calls k2 (body.size : Int) tx W htx)
  have HF := Aside0.mk hf
  have HC := Aside0.mk hC
  clear hpd hrs htx hf hC
  have HN2 := Aside0.mk (show Nx W1.heap.size W2 W2 from Nx.refl (by rw [← hW2]; exact (below_alloc (Below.refl _ W1) _).size))
  have c0 : W2.cell? ⟨w.heap.size, 0, none⟩ = some (.int .i64 st) := HP2.out.cell 0
  go_enter Tryz.func22, Tryz.ntmps22
  go_wp2_with fail
  refine start_ (n := 8) (S := fun w' => w'.cell? ⟨w.heap.size, 0, none⟩ = some (.int .i64 st)) (ds := []) #[false, false, false, false, false, false, false, false] (by kernel_rfl) rfl rfl (c0) (fun hHeld => ?_)
  refine pure_ (i := 0) (N := some 6) (v := ?_) (a' := ?_) #[true, false, false, false, false, false, false, false] rfl rfl (by kernel_rfl) (fun _ _ _ h => h) (Or.inl ⟨by rfl, ?_⟩) ?_ ?_
  rotate_left
  · intro w'
    go_simp
    with_reducible rfl
  rotate_left
  · simp only [Act.put, List.setIfInBounds_toArray, List.set_cons_zero, List.set_cons_succ, i64_w, i32_w]
    rfl
  refine pure_ (i := 3) (N := some 9) (v := ?_) (a' := ?_) #[true, false, false, true, false, false, false, false] rfl rfl (by kernel_rfl) (fun _ _ _ h => h) (Or.inl ⟨by rfl, ?_⟩) ?_ ?_
  rotate_left
  · intro w'
    go_simp
    with_reducible rfl
  rotate_left
  · simp only [Act.put, List.setIfInBounds_toArray, List.set_cons_zero, List.set_cons_succ, i64_w, i32_w]
    rfl
  refine take_ (i := 1) (N := some 7) (v := ?_) (a' := ?_) #[true, true, false, true, false, false, false, false] rfl rfl (by kernel_rfl) (fun _ _ _ h => h) (Or.inl ⟨by rfl, ?_⟩) hHeld ?_ ?_
  rotate_left
  · intro w' s0
    go_simp
    with_reducible rfl
  rotate_left
  · simp only [Act.put, List.setIfInBounds_toArray, List.set_cons_zero, List.set_cons_succ, i64_w, i32_w]
    rfl
  refine take_ (i := 4) (N := some 10) (v := ?_) (a' := ?_) #[true, true, false, true, true, false, false, false] rfl rfl (by kernel_rfl) (fun _ _ _ h => h) (Or.inl ⟨by rfl, ?_⟩) hHeld ?_ ?_
  rotate_left
  · intro w' s0
    go_simp
    with_reducible rfl
  rotate_left
  · simp only [Act.put, List.setIfInBounds_toArray, List.set_cons_zero, List.set_cons_succ, i64_w, i32_w]
    rfl
  refine one_ (i := 2) (N := some 8) #[true, true, true, true, true, false, false, false] rfl rfl (by kernel_rfl) (by decide) (fun K hK => ?_)
  refine goes_ Tryz.func51 (by kernel_rfl) rfl #[.int .i64 st, .int .i64 3] (by rfl) rfl rfl (by simp only [List.map_toArray, List.map_cons, List.map_nil]; rfl) ?_
  with_reducible refine (HPD.out _).mono ?_
  rintro e w3 ⟨rfl, hb_⟩
  refine ⟨_, rfl, ?_⟩
  have HN3 := Aside0.mk (HN2.out.drew.call hb_)
  have HW3 := Aside0.mk ((HWr2.out.below (below_drew (Below.refl _ W2))).below hb_)
  clear hb_
  refine hK.out _ _ (HN3.out.cell c0 HS1.out) (fun hHeld => ?_)
  clear hK K
  refine norm_ (a' := ?_) ?_ ?_
  rotate_left
  · show Act.put _ (some 8) _ = _
    simp only [Act.put, List.setIfInBounds_toArray, List.set_cons_zero, List.set_cons_succ, i64_w, i32_w]
    rfl
  refine one_ (i := 5) (N := some 11) #[true, true, true, true, true, true, false, false] rfl rfl (by kernel_rfl) (by decide) (fun K hK => ?_)
  refine goes_ Tryz.func52 (by kernel_rfl) rfl #[.int .i64 st] (by rfl) rfl rfl (by simp only [List.map_toArray, List.map_cons, List.map_nil]; rfl) ?_
  with_reducible refine (HRS.out _).mono ?_
  rintro e w5 ⟨rfl, hb_⟩
  refine ⟨_, rfl, ?_⟩
  have HN5 := Aside0.mk (HN3.out.call hb_)
  have HW5 := Aside0.mk (HW3.out.below hb_)
  clear hb_
  refine hK.out _ _ (HN5.out.cell c0 HS1.out) (fun hHeld => ?_)
  clear hK K
  refine norm_ (a' := ?_) ?_ ?_
  rotate_left
  · show Act.put _ (some 11) _ = _
    simp only [Act.put, List.setIfInBounds_toArray, List.set_cons_zero, List.set_cons_succ, i64_w, i32_w]
    rfl
  refine one_ (i := 6) (N := some 12) #[true, true, true, true, true, true, true, false] rfl rfl (by kernel_rfl) (by decide) (fun K hK => ?_)
  refine value_ (w1 := ?_) (v := ?_) (by rfl) rfl ?_ ?_
  rotate_left 2
  · go_simp
    constructor
    · rfl
    · rfl
  refine hK.out _ _ ((HN5.out.alloc _).cell c0 HS1.out) (fun hHeld => ?_)
  clear hK K
  refine norm_ (a' := ?_) ?_ ?_
  rotate_left
  · show Act.put _ (some 12) _ = _
    simp only [Act.put, List.setIfInBounds_toArray, List.set_cons_zero, List.set_cons_succ, i64_w, i32_w]
    rfl
  refine one_ (i := 7) (N := some 13) #[true, true, true, true, true, true, true, true] rfl rfl (by kernel_rfl) (by decide) (fun K hK => ?_)
  refine goes_ Tryz.func32 (by kernel_rfl) rfl #[.pointer (some ⟨W1.heap.size, 0, none⟩), .slice (some ⟨w5.heap.size, 0, none⟩) 4 4] (by rfl) rfl rfl (by simp only [List.map_toArray, List.map_cons, List.map_nil]; rfl) ?_
  with_reducible refine (w_line4 (HW5.out.below (below_alloc (Below.refl _ w5) _)) (Blk.At.new w5 _ _) HF.out.c1).mono ?_
  rintro e w7 ⟨rfl, hw_, hb_, _⟩
  refine ⟨_, rfl, ?_⟩
  have HN7 := Aside0.mk ((HN5.out.alloc _).own hb_)
  have HW7 := Aside0.mk hw_
  clear hb_ hw_
  refine hK.out _ _ (HN7.out.cell c0 HS1.out) (fun hHeld => ?_)
  clear hK K
  refine norm_ (a' := ?_) ?_ ?_
  rotate_left
  · show Act.put _ (some 13) _ = _
    simp only [Act.put, List.setIfInBounds_toArray, List.set_cons_zero, List.set_cons_succ, i64_w, i32_w]
    rfl
  refine done_ (by kernel_rfl) ?_
  clear hHeld
  by_cases ht : typ.toList = []
  · have HNX := HN7
    have HWX := Aside0.mk (show Wr W1.heap.size W1.heap.size (hdB pd rs typ) w7 from by unfold hdB; rw [if_pos ht]; exact HW7.out)
    have c1 : w7.cell? ⟨w.heap.size, 1, none⟩ = some (.string typ) := HN7.out.cell (HP2.out.cell 1) HS1.out
    replace ht : typ.toList.isEmpty = true := by rw [ht]; rfl
    have cF : w7.cell? ⟨w.heap.size, 2, none⟩ = some (.slice A fs.length c) := HNX.out.cell (HP2.out.cell 2) HS1.out
    clear HN3 HW3 HN5 HW5 HN7 HW7 HWr2
    go_wp2_with fail
    clear cF
    go_loopw [25] (fun j wr => ∃ i : Nat, i ≤ fs.length ∧ j = .int .i64 i ∧ Aside0 (Nx W1.heap.size W2 wr) ∧ Aside0 (Wr W1.heap.size W1.heap.size (fldB (hdB pd rs typ) (fs.take i)) wr)) (fun j _ => fs.length - (intOf j).toNat)
    case atStart => exact ⟨0, Nat.zero_le _, rfl, HNX, HWX⟩
    case round =>
      clear HNX HWX
      obtain ⟨i, hi, rfl, HN, HW⟩ := hrel
      by_cases hlt : i < fs.length
      · obtain ⟨ad, rfl, hc0, hc1⟩ := at_T67 (Kd.C_below HC.out (HBW.out.trans (HN.out.2.mono (Nat.le_of_lt HS1.out)))) (i : Int) (Int.natCast_nonneg _) (by omega)
        have HI := Aside0.mk (fldB_take (t := hdB pd rs typ) hlt)
        have HFT := Aside0.mk (HF.out.c3 hlt)
        have hfs := Nat.le_trans (HF.out.fs i hlt).2 (show 6000 ≤ 140737488355328 by decide)
        rw [Int.toNat_natCast] at hc0 hc1
        rw [show rd_T67 fs (i : Int) = fs[i] from by simp [rd_T67, hlt]] at hc0 hc1
        obtain ⟨f, hf⟩ : ∃ f, f = fs[i] := ⟨_, rfl⟩
        rw [← hf] at HI HFT hc0 hc1 hfs
        clear hf
        have HFS := Aside0.mk hfs
        clear hfs
        obtain ⟨WR, hWR⟩ : ∃ W, W = wr.alloc (.cells #[.string f.f0, .string f.f1] 67) := ⟨_, rfl⟩
        have HFB := Aside0.mk (show Blk.At wr.heap.size #[.string f.f0, .string f.f1] 67 WR from by rw [hWR]; exact Blk.At.new wr _ _)
        have HNR := Aside0.mk (show Nx W1.heap.size W2 WR from by rw [hWR]; exact HN.out.alloc _)
        have HWR := Aside0.mk (show Wr W1.heap.size W1.heap.size (fldB (hdB pd rs typ) (fs.take i)) WR from HW.out.below (by rw [hWR]; exact below_alloc (Below.refl _ _) _))
        have k0 : WR.cell? ⟨wr.heap.size, 0, none⟩ = some (.string f.f0) := HFB.out.cell 0
        have k1 : WR.cell? ⟨wr.heap.size, 1, none⟩ = some (.string f.f1) := HFB.out.cell 1
        replace hWR := hWR.symm
        clear HN HW
        go_wp2_with fail
        refine start_ (n := 7) (S := fun w' => w'.cell? ⟨wr.heap.size, 0, none⟩ = some (.string f.f0) ∧ w'.cell? ⟨wr.heap.size, 1, none⟩ = some (.string f.f1)) (ds := []) #[false, false, false, false, false, false, false] (by kernel_rfl) rfl rfl ⟨k0, k1⟩ (fun hHeld => ?_)
        refine pure_ (i := 0) (N := some 29) (v := ?_) (a' := ?_) #[true, false, false, false, false, false, false] rfl rfl (by kernel_rfl) (fun _ _ _ h => h) (Or.inl ⟨by rfl, ?_⟩) ?_ ?_
        rotate_left
        · intro w'
          go_simp
          with_reducible rfl
        rotate_left
        · simp only [Act.put, List.setIfInBounds_toArray, List.set_cons_zero, List.set_cons_succ, i64_w, i32_w]
          rfl
        refine pure_ (i := 2) (N := some 31) (v := ?_) (a' := ?_) #[true, false, true, false, false, false, false] rfl rfl (by kernel_rfl) (fun _ _ _ h => h) (Or.inl ⟨by rfl, ?_⟩) ?_ ?_
        rotate_left
        · intro w'
          go_simp
          with_reducible rfl
        rotate_left
        · simp only [Act.put, List.setIfInBounds_toArray, List.set_cons_zero, List.set_cons_succ, i64_w, i32_w]
          rfl
        refine take_ (i := 1) (N := some 30) (v := ?_) (a' := ?_) #[true, true, true, false, false, false, false] rfl rfl (by kernel_rfl) (fun _ _ _ h => h) (Or.inl ⟨by rfl, ?_⟩) hHeld ?_ ?_
        rotate_left
        · rintro w' ⟨s0, s1⟩
          go_simp
          with_reducible rfl
        rotate_left
        · simp only [Act.put, List.setIfInBounds_toArray, List.set_cons_zero, List.set_cons_succ, i64_w, i32_w]
          rfl
        refine take_ (i := 3) (N := some 32) (v := ?_) (a' := ?_) #[true, true, true, true, false, false, false] rfl rfl (by kernel_rfl) (fun _ _ _ h => h) (Or.inl ⟨by rfl, ?_⟩) hHeld ?_ ?_
        rotate_left
        · rintro w' ⟨s0, s1⟩
          go_simp
          with_reducible rfl
        rotate_left
        · simp only [Act.put, List.setIfInBounds_toArray, List.set_cons_zero, List.set_cons_succ, i64_w, i32_w]
          rfl
        refine one_ (i := 4) (N := some 33) #[true, true, true, true, true, false, false] rfl rfl (by kernel_rfl) (by decide) (fun K hK => ?_)
        refine goes_ Tryz.func53 (by kernel_rfl) rfl #[.string f.f1] (by rfl) rfl rfl (by simp only [List.map_toArray, List.map_cons, List.map_nil]; rfl) ?_
        with_reducible refine (p_clean.calls f.f1 _ HFS.out).mono ?_
        rintro e w10 ⟨rfl, hb_⟩
        refine ⟨_, rfl, ?_⟩
        have HN10 := Aside0.mk (HNR.out.drew.call hb_)
        have HW10 := Aside0.mk ((HWR.out.below (below_drew (Below.refl _ WR))).below hb_)
        have HF10 := Aside0.mk (HFB.out.below ((below_drew (Below.refl WR.heap.size WR)).trans hb_) HFB.out.lt)
        clear hb_
        refine hK.out _ _ ⟨HF10.out.cell 0, HF10.out.cell 1⟩ (fun hHeld => ?_)
        clear hK K
        refine norm_ (a' := ?_) ?_ ?_
        rotate_left
        · show Act.put _ (some 33) _ = _
          simp only [Act.put, List.setIfInBounds_toArray, List.set_cons_zero, List.set_cons_succ, i64_w, i32_w]
          rfl
        refine one_ (i := 5) (N := some 34) #[true, true, true, true, true, true, false] rfl rfl (by kernel_rfl) (by decide) (fun K hK => ?_)
        refine value_ (w1 := ?_) (v := ?_) (by rfl) rfl ?_ ?_
        rotate_left 2
        · go_simp
          constructor
          · rfl
          · rfl
        refine hK.out _ _ ⟨(HF10.out.alloc _).cell 0, (HF10.out.alloc _).cell 1⟩ (fun hHeld => ?_)
        clear hK K
        refine norm_ (a' := ?_) ?_ ?_
        rotate_left
        · show Act.put _ (some 34) _ = _
          simp only [Act.put, List.setIfInBounds_toArray, List.set_cons_zero, List.set_cons_succ, i64_w, i32_w]
          rfl
        refine one_ (i := 6) (N := some 35) #[true, true, true, true, true, true, true] rfl rfl (by kernel_rfl) (by decide) (fun K hK => ?_)
        refine goes_ Tryz.func32 (by kernel_rfl) rfl #[.pointer (some ⟨W1.heap.size, 0, none⟩), .slice (some ⟨w10.heap.size, 0, none⟩) 3 3] (by rfl) rfl rfl (by simp only [List.map_toArray, List.map_cons, List.map_nil]; rfl) ?_
        with_reducible refine (w_line3 (HW10.out.below (below_alloc (Below.refl _ w10) _)) (Blk.At.new w10 _ _) HFT.out).mono ?_
        rintro e w11 ⟨rfl, hw_, hb_, hk_⟩
        refine ⟨_, rfl, ?_⟩
        have HN11 := Aside0.mk ((HN10.out.alloc _).own hb_)
        have HW11 := Aside0.mk hw_
        have HF11 := Aside0.mk (show Blk.At wr.heap.size #[.string f.f0, .string f.f1] 67 w11 from hk_ _ _ (HF10.out.alloc _) (by simp [bk]))
        clear hb_ hw_ hk_
        refine hK.out _ _ ⟨HF11.out.cell 0, HF11.out.cell 1⟩ (fun hHeld => ?_)
        clear hK K
        refine norm_ (a' := ?_) ?_ ?_
        rotate_left
        · show Act.put _ (some 35) _ = _
          simp only [Act.put, List.setIfInBounds_toArray, List.set_cons_zero, List.set_cons_succ, i64_w, i32_w]
          rfl
        refine done_ (by kernel_rfl) ?_
        clear hHeld
        have HWN := Aside0.mk (show Wr W1.heap.size W1.heap.size (fldB (hdB pd rs typ) (fs.take (i + 1))) w11 from by rw [HI.out]; exact HW11.out)
        clear HN10 HW10 HF10 HW11 HF11
        go_wp2_with fail
        go_roundw
        case rel => exact ⟨i + 1, by omega, by rw [w_succ (by have := HF.out.len; omega)], HN11, HWN⟩
        case measure =>
          rw [w_succ (by have := HF.out.len; omega)]
          simp only [intOf, Int.toNat_natCast]
          omega
      · obtain rfl : i = fs.length := by omega
        rw [List.take_length] at HW
        have c3 : wr.cell? ⟨w.heap.size, 3, none⟩ = some (.string body) := HN.out.cell (HP2.out.cell 3) HS1.out
        go_wp2_with fail
        refine (HTX.out _).mono ?_
        rintro e w12 ⟨rfl, hb_⟩
        have hwl := w_line2 ((HW.out.below hb_).below (below_alloc (Below.refl _ w12) (.cells #[.string ⟨#[67, 111, 110, 116, 101, 110, 116, 45, 76, 101, 110, 103, 116, 104, 58, 32]⟩, .string tx] 9))) (c := 2) (Blk.At.new w12 _ _) HF.out.c4
        have HN12 := Aside0.mk ((HN.out.call hb_).alloc (.cells #[.string ⟨#[67, 111, 110, 116, 101, 110, 116, 45, 76, 101, 110, 103, 116, 104, 58, 32]⟩, .string tx] 9))
        clear hb_ HW
        go_wp2_with fail
        refine hwl.mono ?_
        rintro e w13 ⟨rfl, hw_, hb_, _⟩
        have HN13 := Aside0.mk (HN12.out.own hb_)
        have hwl := w_line0 hw_ HF.out.c5
        clear hb_ hw_
        go_wp2_with fail
        refine hwl.mono ?_
        rintro e w14 ⟨rfl, hw_, hb_, _⟩
        have HN14 := Aside0.mk (HN13.out.own hb_)
        have hws := b_WriteString hw_ (s := body) HF.out.c6
        have c4 : w14.cell? ⟨w.heap.size, 3, none⟩ = some (.string body) := HN14.out.cell (HP2.out.cell 3) HS1.out
        clear hb_ hw_ hwl
        go_wp2_with fail
        refine hws.mono ?_
        rintro e w15 ⟨rfl, hw_, hb_, _⟩
        have HN15 := Aside0.mk (HN14.out.own hb_)
        have hst := b_String hw_ (lnB_some _ _ _)
        clear hb_ hw_ hws
        go_wp2_with fail
        refine hst.mono ?_
        rintro e w16 ⟨rfl, hb_⟩
        have HN16 := Aside0.mk (HN15.out.own hb_)
        clear hb_
        go_wp2_with fail
        go_ret
        exact ⟨rfl, HBW.out.trans (HN16.out.2.mono (Nat.le_of_lt HS1.out))⟩

  · have HE := Aside0.mk (show hdB pd rs typ = lnB (lnB ⟨#[]⟩ [⟨#[72, 84, 84, 80, 47, 49, 46, 49, 32]⟩, pd, ⟨#[32]⟩, rs]) [⟨#[67, 111, 110, 116, 101, 110, 116, 45, 84, 121, 112, 101, 58, 32]⟩, cleanS typ] from by unfold hdB; rw [if_neg ht])
    have c1 : w7.cell? ⟨w.heap.size, 1, none⟩ = some (.string typ) := HN7.out.cell (HP2.out.cell 1) HS1.out
    replace ht : typ.toList.isEmpty = false := by rw [List.isEmpty_eq_false_iff]; exact ht
    have hcl := p_clean.calls typ w7 (Nat.le_trans HF.out.typ (by decide))
    clear HN3 HW3 HN5 HW5 HWr2
    go_wp2_with fail
    refine hcl.mono ?_
    rintro e w8 ⟨rfl, hb_⟩
    have hwl := w_line2 ((HW7.out.below hb_).below (below_alloc (Below.refl _ w8) (.cells #[.string ⟨#[67, 111, 110, 116, 101, 110, 116, 45, 84, 121, 112, 101, 58, 32]⟩, .string (cleanS typ)] 9))) (c := 2) (Blk.At.new w8 _ _) HF.out.c2
    have HN8 := Aside0.mk ((HN7.out.call hb_).alloc (.cells #[.string ⟨#[67, 111, 110, 116, 101, 110, 116, 45, 84, 121, 112, 101, 58, 32]⟩, .string (cleanS typ)] 9))
    clear hb_ HN7 HW7 hcl
    go_wp2_with fail
    refine hwl.mono ?_
    rintro e w9 ⟨rfl, hw_, hb_, _⟩
    have HNX := Aside0.mk (HN8.out.own hb_)
    have HWX := Aside0.mk (show Wr W1.heap.size W1.heap.size (hdB pd rs typ) w9 from by rw [HE.out]; exact hw_)
    clear hb_ hw_ HN8 hwl HE
    have cF : w9.cell? ⟨w.heap.size, 2, none⟩ = some (.slice A fs.length c) := HNX.out.cell (HP2.out.cell 2) HS1.out
    go_wp2_with fail
    clear cF
    go_loopw [25] (fun j wr => ∃ i : Nat, i ≤ fs.length ∧ j = .int .i64 i ∧ Aside0 (Nx W1.heap.size W2 wr) ∧ Aside0 (Wr W1.heap.size W1.heap.size (fldB (hdB pd rs typ) (fs.take i)) wr)) (fun j _ => fs.length - (intOf j).toNat)
    case atStart => exact ⟨0, Nat.zero_le _, rfl, HNX, HWX⟩
    case round =>
      clear HNX HWX
      obtain ⟨i, hi, rfl, HN, HW⟩ := hrel
      by_cases hlt : i < fs.length
      · obtain ⟨ad, rfl, hc0, hc1⟩ := at_T67 (Kd.C_below HC.out (HBW.out.trans (HN.out.2.mono (Nat.le_of_lt HS1.out)))) (i : Int) (Int.natCast_nonneg _) (by omega)
        have HI := Aside0.mk (fldB_take (t := hdB pd rs typ) hlt)
        have HFT := Aside0.mk (HF.out.c3 hlt)
        have hfs := Nat.le_trans (HF.out.fs i hlt).2 (show 6000 ≤ 140737488355328 by decide)
        rw [Int.toNat_natCast] at hc0 hc1
        rw [show rd_T67 fs (i : Int) = fs[i] from by simp [rd_T67, hlt]] at hc0 hc1
        obtain ⟨f, hf⟩ : ∃ f, f = fs[i] := ⟨_, rfl⟩
        rw [← hf] at HI HFT hc0 hc1 hfs
        clear hf
        have HFS := Aside0.mk hfs
        clear hfs
        obtain ⟨WR, hWR⟩ : ∃ W, W = wr.alloc (.cells #[.string f.f0, .string f.f1] 67) := ⟨_, rfl⟩
        have HFB := Aside0.mk (show Blk.At wr.heap.size #[.string f.f0, .string f.f1] 67 WR from by rw [hWR]; exact Blk.At.new wr _ _)
        have HNR := Aside0.mk (show Nx W1.heap.size W2 WR from by rw [hWR]; exact HN.out.alloc _)
        have HWR := Aside0.mk (show Wr W1.heap.size W1.heap.size (fldB (hdB pd rs typ) (fs.take i)) WR from HW.out.below (by rw [hWR]; exact below_alloc (Below.refl _ _) _))
        have k0 : WR.cell? ⟨wr.heap.size, 0, none⟩ = some (.string f.f0) := HFB.out.cell 0
        have k1 : WR.cell? ⟨wr.heap.size, 1, none⟩ = some (.string f.f1) := HFB.out.cell 1
        replace hWR := hWR.symm
        clear HN HW
        go_wp2_with fail
        refine start_ (n := 7) (S := fun w' => w'.cell? ⟨wr.heap.size, 0, none⟩ = some (.string f.f0) ∧ w'.cell? ⟨wr.heap.size, 1, none⟩ = some (.string f.f1)) (ds := []) #[false, false, false, false, false, false, false] (by kernel_rfl) rfl rfl ⟨k0, k1⟩ (fun hHeld => ?_)
        refine pure_ (i := 0) (N := some 29) (v := ?_) (a' := ?_) #[true, false, false, false, false, false, false] rfl rfl (by kernel_rfl) (fun _ _ _ h => h) (Or.inl ⟨by rfl, ?_⟩) ?_ ?_
        rotate_left
        · intro w'
          go_simp
          with_reducible rfl
        rotate_left
        · simp only [Act.put, List.setIfInBounds_toArray, List.set_cons_zero, List.set_cons_succ, i64_w, i32_w]
          rfl
        refine pure_ (i := 2) (N := some 31) (v := ?_) (a' := ?_) #[true, false, true, false, false, false, false] rfl rfl (by kernel_rfl) (fun _ _ _ h => h) (Or.inl ⟨by rfl, ?_⟩) ?_ ?_
        rotate_left
        · intro w'
          go_simp
          with_reducible rfl
        rotate_left
        · simp only [Act.put, List.setIfInBounds_toArray, List.set_cons_zero, List.set_cons_succ, i64_w, i32_w]
          rfl
        refine take_ (i := 1) (N := some 30) (v := ?_) (a' := ?_) #[true, true, true, false, false, false, false] rfl rfl (by kernel_rfl) (fun _ _ _ h => h) (Or.inl ⟨by rfl, ?_⟩) hHeld ?_ ?_
        rotate_left
        · rintro w' ⟨s0, s1⟩
          go_simp
          with_reducible rfl
        rotate_left
        · simp only [Act.put, List.setIfInBounds_toArray, List.set_cons_zero, List.set_cons_succ, i64_w, i32_w]
          rfl
        refine take_ (i := 3) (N := some 32) (v := ?_) (a' := ?_) #[true, true, true, true, false, false, false] rfl rfl (by kernel_rfl) (fun _ _ _ h => h) (Or.inl ⟨by rfl, ?_⟩) hHeld ?_ ?_
        rotate_left
        · rintro w' ⟨s0, s1⟩
          go_simp
          with_reducible rfl
        rotate_left
        · simp only [Act.put, List.setIfInBounds_toArray, List.set_cons_zero, List.set_cons_succ, i64_w, i32_w]
          rfl
        refine one_ (i := 4) (N := some 33) #[true, true, true, true, true, false, false] rfl rfl (by kernel_rfl) (by decide) (fun K hK => ?_)
        refine goes_ Tryz.func53 (by kernel_rfl) rfl #[.string f.f1] (by rfl) rfl rfl (by simp only [List.map_toArray, List.map_cons, List.map_nil]; rfl) ?_
        with_reducible refine (p_clean.calls f.f1 _ HFS.out).mono ?_
        rintro e w10 ⟨rfl, hb_⟩
        refine ⟨_, rfl, ?_⟩
        have HN10 := Aside0.mk (HNR.out.drew.call hb_)
        have HW10 := Aside0.mk ((HWR.out.below (below_drew (Below.refl _ WR))).below hb_)
        have HF10 := Aside0.mk (HFB.out.below ((below_drew (Below.refl WR.heap.size WR)).trans hb_) HFB.out.lt)
        clear hb_
        refine hK.out _ _ ⟨HF10.out.cell 0, HF10.out.cell 1⟩ (fun hHeld => ?_)
        clear hK K
        refine norm_ (a' := ?_) ?_ ?_
        rotate_left
        · show Act.put _ (some 33) _ = _
          simp only [Act.put, List.setIfInBounds_toArray, List.set_cons_zero, List.set_cons_succ, i64_w, i32_w]
          rfl
        refine one_ (i := 5) (N := some 34) #[true, true, true, true, true, true, false] rfl rfl (by kernel_rfl) (by decide) (fun K hK => ?_)
        refine value_ (w1 := ?_) (v := ?_) (by rfl) rfl ?_ ?_
        rotate_left 2
        · go_simp
          constructor
          · rfl
          · rfl
        refine hK.out _ _ ⟨(HF10.out.alloc _).cell 0, (HF10.out.alloc _).cell 1⟩ (fun hHeld => ?_)
        clear hK K
        refine norm_ (a' := ?_) ?_ ?_
        rotate_left
        · show Act.put _ (some 34) _ = _
          simp only [Act.put, List.setIfInBounds_toArray, List.set_cons_zero, List.set_cons_succ, i64_w, i32_w]
          rfl
        refine one_ (i := 6) (N := some 35) #[true, true, true, true, true, true, true] rfl rfl (by kernel_rfl) (by decide) (fun K hK => ?_)
        refine goes_ Tryz.func32 (by kernel_rfl) rfl #[.pointer (some ⟨W1.heap.size, 0, none⟩), .slice (some ⟨w10.heap.size, 0, none⟩) 3 3] (by rfl) rfl rfl (by simp only [List.map_toArray, List.map_cons, List.map_nil]; rfl) ?_
        with_reducible refine (w_line3 (HW10.out.below (below_alloc (Below.refl _ w10) _)) (Blk.At.new w10 _ _) HFT.out).mono ?_
        rintro e w11 ⟨rfl, hw_, hb_, hk_⟩
        refine ⟨_, rfl, ?_⟩
        have HN11 := Aside0.mk ((HN10.out.alloc _).own hb_)
        have HW11 := Aside0.mk hw_
        have HF11 := Aside0.mk (show Blk.At wr.heap.size #[.string f.f0, .string f.f1] 67 w11 from hk_ _ _ (HF10.out.alloc _) (by simp [bk]))
        clear hb_ hw_ hk_
        refine hK.out _ _ ⟨HF11.out.cell 0, HF11.out.cell 1⟩ (fun hHeld => ?_)
        clear hK K
        refine norm_ (a' := ?_) ?_ ?_
        rotate_left
        · show Act.put _ (some 35) _ = _
          simp only [Act.put, List.setIfInBounds_toArray, List.set_cons_zero, List.set_cons_succ, i64_w, i32_w]
          rfl
        refine done_ (by kernel_rfl) ?_
        clear hHeld
        have HWN := Aside0.mk (show Wr W1.heap.size W1.heap.size (fldB (hdB pd rs typ) (fs.take (i + 1))) w11 from by rw [HI.out]; exact HW11.out)
        clear HN10 HW10 HF10 HW11 HF11
        go_wp2_with fail
        go_roundw
        case rel => exact ⟨i + 1, by omega, by rw [w_succ (by have := HF.out.len; omega)], HN11, HWN⟩
        case measure =>
          rw [w_succ (by have := HF.out.len; omega)]
          simp only [intOf, Int.toNat_natCast]
          omega
      · obtain rfl : i = fs.length := by omega
        rw [List.take_length] at HW
        have c3 : wr.cell? ⟨w.heap.size, 3, none⟩ = some (.string body) := HN.out.cell (HP2.out.cell 3) HS1.out
        go_wp2_with fail
        refine (HTX.out _).mono ?_
        rintro e w12 ⟨rfl, hb_⟩
        have hwl := w_line2 ((HW.out.below hb_).below (below_alloc (Below.refl _ w12) (.cells #[.string ⟨#[67, 111, 110, 116, 101, 110, 116, 45, 76, 101, 110, 103, 116, 104, 58, 32]⟩, .string tx] 9))) (c := 2) (Blk.At.new w12 _ _) HF.out.c4
        have HN12 := Aside0.mk ((HN.out.call hb_).alloc (.cells #[.string ⟨#[67, 111, 110, 116, 101, 110, 116, 45, 76, 101, 110, 103, 116, 104, 58, 32]⟩, .string tx] 9))
        clear hb_ HW
        go_wp2_with fail
        refine hwl.mono ?_
        rintro e w13 ⟨rfl, hw_, hb_, _⟩
        have HN13 := Aside0.mk (HN12.out.own hb_)
        have hwl := w_line0 hw_ HF.out.c5
        clear hb_ hw_
        go_wp2_with fail
        refine hwl.mono ?_
        rintro e w14 ⟨rfl, hw_, hb_, _⟩
        have HN14 := Aside0.mk (HN13.out.own hb_)
        have hws := b_WriteString hw_ (s := body) HF.out.c6
        have c4 : w14.cell? ⟨w.heap.size, 3, none⟩ = some (.string body) := HN14.out.cell (HP2.out.cell 3) HS1.out
        clear hb_ hw_ hwl
        go_wp2_with fail
        refine hws.mono ?_
        rintro e w15 ⟨rfl, hw_, hb_, _⟩
        have HN15 := Aside0.mk (HN14.out.own hb_)
        have hst := b_String hw_ (lnB_some _ _ _)
        clear hb_ hw_ hws
        go_wp2_with fail
        refine hst.mono ?_
        rintro e w16 ⟨rfl, hb_⟩
        have HN16 := Aside0.mk (HN15.out.own hb_)
        clear hb_
        go_wp2_with fail
        go_ret
        exact ⟨rfl, HBW.out.trans (HN16.out.2.mono (Nat.le_of_lt HS1.out))⟩

end Go.Proofs.YtljlkpfiebcoeaaGreatDoor.H
