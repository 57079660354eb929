/- A journal's functions, walked: Scan, Frame, the machine's calls, Open, frames. No condition but those typed. -/
import Derived.Test.YtdlfabbhdelinaaShort
import Derived.Test.YtdlfabbhdelinaaWalk0
import Derived.Test.YtdlfabbhdelinaaDisk09
import Derived.Test.YtdlfabbhdelinaaJd3
import Derived.Test.YtdlfabbhdelinaaJw1
import Derived.Test.YtdlfabbhdelinaaJr1
import Derived.Outline
namespace Go.Proofs.Ytdlfabbhdelinaa.Q
open Go.RowKit Go.Proofs.YtdlfabbhdelinaaW.PrintWords Go.Proofs.YtdlfabbhdelinaaW.PrintLast Go.Proofs.YtdlfabbhdelinaaW.PrintMore
open Go.Proofs.Ytdlfabbhdelinaa.Dk Go.Proofs.Ytdlfabbhdelinaa.Sh
attribute [local go_sem] max2_int min2_int max_two min_two max_three min_three max_four min_four   -- for this text's walks alone
set_option linter.unusedVariables false
set_option linter.unusedSimpArgs false
set_option maxRecDepth 100000
theorem info22 : (Try.prog.info? 22).map (fun i => (i.zero, i.size, i.bytes)) = some (some (.slice none 0 0), 1, 24) := by kernel_rfl
/-- A list of byte lists of the call's own. -/
abbrev Rs (base : Nat) (ok : Nat → Prop) (w : World) (v : Value) (xs : List (List Int)) : Prop := Kd.R (Kd.slice 5 (Kd.int .u8)) 22 w base ok v xs
theorem R_base_less {ok ok' : Nat → Prop} {w : World} {base b' : Nat} {v : Value} {xs : List Int} (h : Kd.R (Kd.int .u8) 5 w base ok v xs) (hb : b' ≤ base) (hok : ∀ k, v.ownBlock = some k → ok' k) : Kd.R (Kd.int .u8) 5 w b' ok' v xs := Kd.R_of_own (own_less (Kd.own_of_R h) hb) hok
set_option maxHeartbeats 4000000 in
theorem jScan.calls {ok : Nat → Prop} {v : Value} {b : List Int} {w : World} (hb : Vb ok w v b) (hl : b.length ≤ 2000000) :
    Calls Try.prog 11 #[v] w fun e w' => ∃ v', e = .returned (.tuple #[v', .int .i64 (Jr.sz (Jr.scanF b) : Nat)]) ∧ Rs w.heap.size (fun _ => True) w' v' (Jr.scanF b) ∧ Below w.heap.size w w' := by
  obtain ⟨A, c, rfl⟩ := Kd.V_slice hb
  have HV := Aside0.mk hb
  have HL := Aside0.mk hl
  clear hb hl
  go_enter Try.func11, Try.ntmps11
  go_wp2_with fail
  go_loopw [4, 5] (fun ul j wr => ∃ (vl : Value) (a : Nat) (done : List (List Int)), vl = ul ∧ a ≤ b.length ∧ j = .int .i64 a ∧ Aside0 (a = Jr.sz done ∧ Jr.scanF b = done ++ Jr.scanF (b.drop a)) ∧ Aside0 (Rs w.heap.size (fun _ => True) wr vl done) ∧ Aside0 (Below w.heap.size w wr) ∧ Aside0 (done.length ≤ a)) (fun _ j _ => b.length - (intOf j).toNat)
  case atStart => exact ⟨_, 0, [], rfl, Nat.zero_le _, rfl, ⟨rfl, rfl⟩, ⟨Kd.R_nil _ _ _ _ _⟩, ⟨Below.refl _ _⟩, ⟨Nat.le_refl _⟩⟩
  case round =>
    obtain ⟨vl, a, done, hvl, ha, rfl, HS, HO, HB, HD⟩ := hrel
    subst hvl
    obtain ⟨A', hcut, hVt⟩ := V_cut (w := wr) (Kd.V_below HV.out HB.out) (m := (a : Int)) (by omega) (by omega)
    rw [Int.toNat_natCast] at hcut hVt
    obtain ⟨t, ht⟩ : ∃ t, t = b.drop a := ⟨_, rfl⟩
    have htl : t.length = b.length - a := by rw [ht, List.length_drop]
    rw [← ht] at hcut hVt
    obtain ⟨kk, hk⟩ := Ev.rounds (Jr.next_ev t (by have := HL.out; omega))
    have HN := Aside0.mk (P.journal_next.calls kk ok A' (c - a) t (Jr.nextR t).1 (Jr.nextR t).2 wr hVt hk)
    have hshort := Jr.next_short t
    have HT := Aside0.mk (And.intro ht (And.intro htl hshort))
    have HNL := Aside0.mk (fun h => Jr.next_len (b := t) h)
    have HNO := Aside0.mk (fun h => Jr.scan_no (b := t) h)
    have HYES := Aside0.mk (fun h => Jr.scan_yes (b := t) h)
    obtain ⟨r, hr⟩ : ∃ r, r = (Jr.nextR t).1 := ⟨_, rfl⟩
    obtain ⟨q, hq⟩ : ∃ q, q = (Jr.nextR t).2 := ⟨_, rfl⟩
    rw [← hr, ← hq] at HN
    rw [← hr, ← hq] at HNL HYES
    rw [← hq] at HNO
    rw [← hr] at HT
    clear hVt hk ht htl hshort hr hq
    go_wp2_with fail
    refine HN.out.mono ?_
    rintro e w1 ⟨v1, rfl, hv1, hb1⟩
    obtain ⟨A1, c1, rfl⟩ := Kd.V_slice hv1
    have HV1 := Aside0.mk hv1
    have HB1 := Aside0.mk (HB.out.trans (hb1.mono HB.out.size))
    have HO1 := Aside0.mk (Kd.R_below HO.out hb1)
    clear hv1 hb1 HN hcut
    cases q with
    | false =>
      obtain ⟨Al, cl, rfl⟩ := Kd.R_slice HO1.out
      go_wp2_with fail
      go_ret2
      have e0 := HS.out.2
      rw [← HT.out.1, HNO.out (by first | rfl | trivial), List.append_nil] at e0
      rw [e0]
      exact ⟨_, by rw [← HS.out.1]; rfl, HO1.out, HB1.out⟩
    | true =>
      have hr1 := HNL.out (by first | rfl | trivial)
      have hw1 : wrap64 (8 + (r.length : Int)) = 8 + (r.length : Int) := by unfold wrap64; omega
      have hw2 : wrap64 ((a : Int) + (8 + (r.length : Int))) = ((a + (8 + r.length) : Nat) : Int) := by have := HL.out; unfold wrap64; omega
      have HR1 := Aside0.mk hr1
      clear hr1
      go_wp2_with fail
      refine (bytes_Clone.calls (xs := r) HV1.out (by have := HR1.out; omega)).mono ?_
      rintro e w2 ⟨v2, rfl, ho2, hb2⟩
      obtain ⟨A2, c2, rfl⟩ := Kd.R_slice ho2
      have HB2 := Aside0.mk (HB1.out.trans (hb2.mono HB1.out.size))
      have HO2 := Aside0.mk (Kd.R_below HO1.out hb2)
      have hne : ∀ k, (Value.slice A2 r.length c2).ownBlock = some k → some k ≠ vl.ownBlock := fun k hk he => by
        have h1 := Kd.R_base ho2 k hk
        have h2 := Kd.R_lt HO1.out k he.symm
        omega
      have HM := Aside0.mk (Kd.M_row (R_base_less (b' := w.heap.size) ho2 HB1.out.size hne))
      have HLEN := Aside0.mk (show (done.length + 1) * 24 ≤ 140737488355328 by have h1 := HD.out; have h2 := HL.out; omega)
      clear ho2 hb2 hne
      go_wp2_with (at_builtin; refine Kd.R_append (Kd.slice 5 (Kd.int .u8)) (w0 := w) w.heap.size rfl (.tmp 19) (.tmp 22) 29 22 (.slice none 0 0) 24 rfl Try.underlying29 info22 rfl (by decide) (by decide) vl done r [.slice A2 r.length c2] (fun _ => True) (fun k => some k ≠ vl.ownBlock) rfl rfl HM.out (fun k hk => ⟨trivial, hk⟩) (fun _ _ => trivial) HO2.out HB2.out HB2.out.size HLEN.out ?_; intro v3 w3 ho3 hb3 hg3 hat3)
      have HO3 := Aside0.mk ho3
      have HB3 := Aside0.mk hb3
      clear ho3 hb3 hg3 hat3
      go_wp2_with fail
      rw [hw2]
      go_roundw
      case rel =>
        have h1 := HR1.out
        have h2 := HT.out
        refine ⟨_, a + (8 + r.length), done ++ [r], rfl, by omega, rfl, ⟨by rw [Jr.sz_append, Jr.sz_one, ← HS.out.1], ?_⟩, HO3, HB3, ⟨by rw [List.length_append, List.length_singleton]; have := HD.out; omega⟩⟩
        rw [HS.out.2, ← HT.out.1, HYES.out (by first | rfl | trivial), HT.out.1, List.drop_drop, List.append_assoc]
        rfl
      case measure =>
        have h1 := HR1.out
        have h2 := HT.out
        simp [intOf]
        omega
theorem fills_in {b : Nat} {t : TypeId} : ∀ (vs pre old tail : List Value) (w : World), old.length = vs.length → Blk.At b (pre ++ (old ++ tail)).toArray t w → Blk.At b (pre ++ (vs ++ tail)).toArray t (Blk.fill b pre.length vs w)
  | [], pre, old, tail, w, hl, h => by
    obtain rfl : old = [] := List.eq_nil_of_length_eq_zero hl
    exact h
  | v :: vs, pre, [], tail, w, hl, h => by simp at hl
  | v :: vs, pre, r0 :: old, tail, w, hl, h => by
    have h1 := h.set pre.length v
    have e : (pre ++ (r0 :: old ++ tail)).toArray.setIfInBounds pre.length v = ((pre ++ [v]) ++ (old ++ tail)).toArray := by
      rw [List.setIfInBounds_toArray, List.set_append_right _ _ (Nat.le_refl _), Nat.sub_self]
      simp
    rw [e] at h1
    have h2 := fills_in vs (pre ++ [v]) old tail _ (by simpa using hl) h1
    rw [List.length_append, List.length_singleton] at h2
    rw [show pre ++ (v :: vs ++ tail) = pre ++ [v] ++ (vs ++ tail) from by simp]
    exact h2
theorem be_len (x : Int) : (be x).length = 4 := rfl
theorem put4_fill0 (m : Nat) (x : Int) (W : World) : put4 m 0 x W 4 = Blk.fill m 0 (nums .u8 (be x)) W := rfl
theorem put4_fill4 (m : Nat) (x : Int) (W : World) : put4 m 4 x W 4 = Blk.fill m 4 (nums .u8 (be x)) W := rfl
theorem made_list (n : Nat) : (madeCells (Value.int .u8 0).cells n) = (nums .u8 (List.replicate n 0)).toArray := by
  apply Array.toList_inj.1
  apply List.ext_getElem
  · simp [nums, madeCells]
  · intro i h1 h2
    simp [nums, madeCells, Nat.mod_one, Value.cells]
def frE (b : List Int) : Int := if b.length = 0 ∨ 16384 < b.length then 1 else 0
def frame (b : List Int) : List Int := be b.length ++ be (Jr.crcI (be b.length ++ b)) ++ b
theorem C_two {W : World} {g : Nat} {A0 A1 : Option Addr} {c0 c1 : Nat} {x0 x1 : List Int} (h : Blk.At g #[.slice A0 x0.length c0, .slice A1 x1.length c1] 22 W) (hc0 : x0.length ≤ c0) (hc1 : x1.length ≤ c1) (h0 : (Kd.int .u8).C W A0 x0.length x0) (h1 : (Kd.int .u8).C W A1 x1.length x1) : (Kd.slice 5 (Kd.int .u8)).C W (some ⟨g, 0, none⟩) ([x0, x1] : List (List Int)).length [x0, x1] := by
  refine Kd.C_slices_block (t := 5) h (fun j p hj => ?_) (by simp)
  rcases j with _ | _ | j
  · obtain rfl : x0 = p := by simpa using hj
    exact ⟨A0, c0, rfl, hc0, h0⟩
  · obtain rfl : x1 = p := by simpa using hj
    exact ⟨A1, c1, rfl, hc1, h1⟩
  · simp at hj
theorem crc_call {W : World} {g : Nat} {A0 A1 : Option Addr} {c0 c1 : Nat} {x0 x1 : List Int} (h : Blk.At g #[.slice A0 x0.length c0, .slice A1 x1.length c1] 22 W) (hc0 : x0.length ≤ c0) (hc1 : x1.length ≤ c1) (h0 : (Kd.int .u8).C W A0 x0.length x0) (h1 : (Kd.int .u8).C W A1 x1.length x1) (hl : x0.length ≤ 100000 ∧ x1.length ≤ 100000) :
    Calls Try.prog 38 #[.slice (some ⟨g, 0, none⟩) 2 2] W fun e w' => e = .returned (.int .u32 (Jr.crcI (x0 ++ x1))) ∧ Below W.heap.size W w' := by
  obtain ⟨kk, hk⟩ := Ev.rounds (Plain.crc_all [x0, x1] (by simp) (fun p hp => by
    simp only [List.mem_cons, List.not_mem_nil, or_false] at hp
    rcases hp with rfl | rfl <;> omega))
  have e : Jr.crcI (x0 ++ x1) = ((Plain.cst 0#32 [x0, x1].flatten).toNat : Int) := by simp [Jr.crcI]
  rw [e]
  exact P.sum_Crc.calls kk (some ⟨g, 0, none⟩) 2 [x0, x1] _ W (C_two h hc0 hc1 h0 h1) (Nat.le_refl _) hk
set_option maxHeartbeats 4000000 in
theorem jFrame.calls {ok : Nat → Prop} {v : Value} {b : List Int} {w : World} (hb : Vb ok w v b) :
    Calls Try.prog 9 #[v] w fun e w' => ∃ v', e = .returned (.tuple #[v', .int .i64 (frE b)]) ∧ Rb w.heap.size w' v' (if frE b = 0 then frame b else []) ∧ Below w.heap.size w w' := by
  obtain ⟨A, c, rfl⟩ := Kd.V_slice hb
  have HV := Aside0.mk hb
  clear hb
  by_cases h0 : b.length = 0
  · have e : frE b = 1 := if_pos (.inl h0)
    have hb0 : ((b.length : Int) == 0) = true := beq_iff_eq.mpr (by omega)
    rw [e]
    clear e h0
    go_enter Try.func9, Try.ntmps9
    go_wp2_with fail
    go_ret2
    exact ⟨_, rfl, Kd.R_nil _ _ _ _ _, Below.refl _ _⟩
  have hb0 : ((b.length : Int) == 0) = false := beq_eq_false_iff_ne.mpr (by omega)
  have hb0' : ¬ (b.length : Int) = 0 := by omega
  by_cases h1 : 16384 < b.length
  · have e : frE b = 1 := if_pos (.inr h1)
    have hb1 : decide ((b.length : Int) > 16384) = true := decide_eq_true (by omega)
    have hb1' : (16384 : Int) < (b.length : Int) := by omega
    rw [e]
    clear e h0 h1
    go_enter Try.func9, Try.ntmps9
    go_wp2_with fail
    go_ret2
    exact ⟨_, rfl, Kd.R_nil _ _ _ _ _, Below.refl _ _⟩
  have e : frE b = 0 := if_neg (fun h => h.elim h0 h1)
  have hb1 : decide ((b.length : Int) > 16384) = false := decide_eq_false (by omega)
  have HL := Aside0.mk (show 1 ≤ b.length ∧ b.length ≤ 16384 by omega)
  rw [e, if_pos rfl]
  clear e h0 h1
  obtain ⟨n, hn⟩ : ∃ n, n = b.length := ⟨_, rfl⟩
  have HN := Aside0.mk hn
  have hlen : (b.length : Int) = (n : Int) := by rw [hn]
  have hw8 : wrap64 (8 + (b.length : Int)) = 8 + (b.length : Int) := by have := HL.out; unfold wrap64; omega
  have hmk : ∀ W : World, (Instr.makeSlice 22 (.int .i64 8) (.int .i64 (8 + (b.length : Int)))).run Try.prog W = .ok (.slice (some ⟨W.heap.size, 0, none⟩) 8 (8 + b.length)) (W.alloc (.cells (nums .u8 (List.replicate (8 + b.length) 0)).toArray 5)) := fun W => by
    obtain ⟨i0, hi, hzz⟩ := Option.map_eq_some_iff.1 info5
    simp only [Prod.mk.injEq] at hzz
    obtain ⟨hz0, hz1, hz2⟩ := hzz
    have := run_make (P := Try.prog) W 22 5 i0 (.int .u8 0) Try.underlying22 hi hz0 .i64 .i64 8 (8 + (b.length : Int)) (by omega) (by omega) (by rw [hz2]; have := HL.out; omega) (by have := HL.out; omega)
    rw [hz1, Nat.mul_one, show (8 + (b.length : Int)).toNat = 8 + b.length from by omega, made_list] at this
    exact this
  have hw32 : IntKind.u32.wrap (b.length : Int) = (b.length : Int) := by have := HL.out; rw [IntKind.wrap_u32]; omega
  have hw32m : (b.length : Int) % 4294967296 = (b.length : Int) := by have := HL.out; omega
  clear hn hlen
  go_enter Try.func9, Try.ntmps9
  go_wp2_with fail
  obtain ⟨m, hm⟩ : ∃ m, m = w.heap.size := ⟨_, rfl⟩
  rw [← hm]
  have HM := Aside0.mk hm
  have hA1 := heap_new w (.cells (nums .u8 (List.replicate (8 + b.length) 0)).toArray 5) hm
  have HB1 := Aside0.mk (below_alloc (Below.refl w.heap.size w) (.cells (nums .u8 (List.replicate (8 + b.length) 0)).toArray 5))
  have hrep : nums .u8 (List.replicate (8 + b.length) 0) = [] ++ (nums .u8 (List.replicate 4 0) ++ (nums .u8 (List.replicate 4 0) ++ nums .u8 (List.replicate b.length 0))) := by
    rw [← nums_append, ← nums_append, List.nil_append, List.replicate_append_replicate, List.replicate_append_replicate]
    congr 2
    omega
  have HA1 := Aside0.mk (show Blk.At m (nums .u8 (List.replicate (8 + b.length) 0)).toArray 5 (w.alloc (.cells (nums .u8 (List.replicate (8 + b.length) 0)).toArray 5)) from hA1)
  generalize w.alloc (.cells (nums .u8 (List.replicate (8 + b.length) 0)).toArray 5) = W1 at HA1 HB1 ⊢
  clear hA1 hmk hm
  have hl1 := jlay.calls (o := 0) (n := 8) (c := 8 + b.length) (x := (b.length : Int)) W1 HA1.out (by simp [nums]; omega) (by omega) (by have := HL.out; omega)
  rw [hrep] at HA1
  have HL1 := Aside0.mk hl1
  clear hl1 hrep
  refine HL1.out.mono ?_
  rintro e W2 ⟨rfl, hW2⟩
  rw [put4_fill0] at hW2
  have HA2 := Aside0.mk (show Blk.At m ([] ++ (nums .u8 (be b.length) ++ (nums .u8 (List.replicate 4 0) ++ nums .u8 (List.replicate b.length 0)))).toArray 5 W2 from by rw [hW2]; exact fills_in (nums .u8 (be b.length)) [] _ _ W1 (by simp [nums, be_len]) HA1.out)
  have HB2 := Aside0.mk (show Below w.heap.size w W2 by rw [hW2]; exact Blk.below_fill (by rw [HM.out]; exact Nat.le_refl _) _ _ _ HB1.out)
  rw [List.nil_append] at HA2
  clear hW2 HL1 HA1 HB1
  have hVb := Kd.V_below HV.out HB2.out
  obtain ⟨_, hcb, _⟩ := Kd.V_reads' HV.out
  have HCB := Aside0.mk hcb
  have hC4 : (Kd.int .u8).C W2 (some ⟨m, 0, none⟩) (be b.length).length (be b.length) := Kd.C_ints_block (k := .u8) (xs := be b.length) HA2.out (by simp [nums]) (by rw [be_len]; decide)
  have HC4 := Aside0.mk hC4
  have HVB := Aside0.mk hVb
  have hb3 := below_drew (below_alloc (Below.refl W2.heap.size W2) (.cells #[.slice (some ⟨m, 0, none⟩) 4 (8 + b.length), .slice A b.length c] 22))
  have hg3 : Blk.At W2.drew.heap.size #[.slice (some ⟨m, 0, none⟩) 4 (8 + b.length), .slice A b.length c] 22 (W2.alloc (.cells #[.slice (some ⟨m, 0, none⟩) 4 (8 + b.length), .slice A b.length c] 22)).drew := heap_new W2 (.cells #[.slice (some ⟨m, 0, none⟩) 4 (8 + b.length), .slice A b.length c] 22) rfl
  obtain ⟨cr, hcr⟩ : ∃ cr, cr = Jr.crcI (be b.length ++ b) := ⟨_, rfl⟩
  have HCR := Aside0.mk hcr
  have hcrc := crc_call (g := W2.drew.heap.size) (x0 := be b.length) (c0 := 8 + b.length) hg3 (by rw [be_len]; omega) hcb (Kd.C_below hC4 hb3) (Kd.V_reads' (Kd.V_below hVb hb3)).2.2 (by rw [be_len]; have := HL.out; omega)
  rw [← hcr] at hcrc
  have HCRC := Aside0.mk hcrc
  have HB3 := Aside0.mk hb3
  have hcr2 : 0 ≤ cr ∧ cr < 4294967296 := by rw [hcr]; exact Jr.crcI_in _
  have HCR2 := Aside0.mk hcr2
  have hcap : (4 : Int) ≤ 8 + (b.length : Int) := by omega
  have hcap2 : ¬ 8 + b.length = 4 := by omega
  have hcap3 : 8 + b.length - 4 = 4 + b.length := by omega
  clear hVb hcb hC4 hb3 hg3 hcr hcrc hcr2
  go_wp2_with fail
  refine start_ (n := 8) (S := fun w' => True) (ds := []) (bl 8 0x0) (by kernel_rfl) rfl (by kernel_rfl) trivial (fun hHeld => ?_)
  refine pu 0 (some 22) (bl 8 0x1) ?_
  refine pu 1 (some 23) (bl 8 0x3) ?_
  refine pu 2 (some 24) (bl 8 0x7) ?_
  refine pu 3 (some 25) (bl 8 0xf) ?_
  refine pu 4 (some 26) (bl 8 0x1f) ?_
  refine one_ (i := 5) (N := some 27) (bl 8 0x3f) rfl rfl (by kernel_rfl) (by decide) (fun K hK => ?_)
  refine value_ (w1 := ?_) (v := ?_) (by rfl) rfl ?_ ?_
  rotate_left 2
  · go_simp
    constructor
    · rfl
    · rfl
  refine hK.out _ _ trivial (fun hHeld => ?_)
  clear hK K
  refine norm_ (a' := ?_) ?_ ?_
  rotate_left
  · show Act.put _ (some 27) _ = _
    simp only [Act.put, List.setIfInBounds_toArray, List.set_cons_zero, List.set_cons_succ, i64_w, i32_w]
    rfl
  refine one_ (i := 6) (N := some 28) (bl 8 0x7f) rfl rfl (by kernel_rfl) (by decide) (fun K hK => ?_)
  refine goes_ Try.func38 (by kernel_rfl) rfl #[.slice (some ⟨W2.drew.heap.size, 0, none⟩) 2 2] (by rfl) rfl rfl (by simp only [List.map_toArray, List.map_cons, List.map_nil]; rfl) ?_
  with_reducible refine (HCRC.out).mono ?_
  rintro e W4 ⟨rfl, hb_⟩
  refine ⟨_, rfl, ?_⟩
  have HB4 := Aside0.mk (HB3.out.trans (hb_.mono HB3.out.size))
  have HA4 := Aside0.mk (HA2.out.below HB4.out HA2.out.lt)
  clear hb_
  refine hK.out _ _ trivial (fun hHeld => ?_)
  clear hK K
  refine norm_ (a' := ?_) ?_ ?_
  rotate_left
  · show Act.put _ (some 28) _ = _
    simp only [Act.put, List.setIfInBounds_toArray, List.set_cons_zero, List.set_cons_succ, i64_w, i32_w]
    rfl
  refine one_ (i := 7) (N := some 29) (bl 8 0xff) rfl rfl (by kernel_rfl) (by decide) (fun K hK => ?_)
  refine goes_ Try.func37 (by kernel_rfl) rfl #[.slice (some ⟨m, 4, none⟩) 4 (4 + b.length), .int .u32 cr] (by rfl) rfl rfl (by simp only [List.map_toArray, List.map_cons, List.map_nil]; rfl) ?_
  with_reducible refine (jlay.calls (o := 4) (n := 4) (c := 4 + b.length) (x := cr) W4 HA4.out (by simp [nums, be_len]; omega) (by omega) HCR2.out).mono ?_
  rintro e W5 ⟨rfl, hW_⟩
  refine ⟨_, rfl, ?_⟩
  have HW5 := Aside0.mk hW_
  clear hW_
  refine hK.out _ _ trivial (fun hHeld => ?_)
  clear hK K
  refine norm_ (a' := ?_) ?_ ?_
  rotate_left
  · show Act.put _ (some 29) _ = _
    simp only [Act.put, List.setIfInBounds_toArray, List.set_cons_zero, List.set_cons_succ, i64_w, i32_w]
    rfl
  refine done_ (by kernel_rfl) ?_
  have HA5 := Aside0.mk (show Blk.At m (nums .u8 (be b.length) ++ (nums .u8 (be cr) ++ nums .u8 (List.replicate b.length 0))).toArray 5 W5 from by
    rw [HW5.out, put4_fill4]
    exact fills_in (nums .u8 (be cr)) (nums .u8 (be b.length)) _ _ W4 (by simp [nums, be_len]) HA4.out)
  have HB5 := Aside0.mk (show Below w.heap.size w W5 by rw [HW5.out, put4_fill4]; exact Blk.below_fill (by rw [HM.out]; exact Nat.le_refl _) _ _ _ (HB2.out.trans (HB4.out.mono HB2.out.size)))
  have HV5 := Aside0.mk (show (Kd.int .u8).C W5 A b.length b from (Kd.V_reads' (Kd.V_below HV.out HB5.out)).2.2)
  have HO5 := Aside0.mk (show Kd.R (Kd.int .u8) 5 W5 w.heap.size (fun _ => True) (.slice (some ⟨m, 0, none⟩) 8 (8 + b.length)) (be b.length ++ be cr) from Kd.R_of_own ⟨by simp [encs, be_len], .inr ⟨m, 8 + b.length, _, rfl, by rw [HM.out]; exact Nat.le_refl _, HA5.out, by simp [be_len], by have := HL.out; unfold maxLen; omega, by simp [nums, be_len]; omega, by simp [nums, be_len, encs, List.take_append]; rfl⟩⟩ (fun _ _ => trivial))
  clear HA2 HB2 HC4 HVB HCRC HB3 HB4 HA4 HW5 hcap hcap2 hcap3
  go_wp2_with (at_builtin; refine Kd.R_append_row (Value.int .u8) 0 (w0 := w) w.heap.size rfl _ _ 22 5 (.int .u8 0) 1 rfl Try.underlying22 info5 rfl (by decide) (.slice (some ⟨m, 0, none⟩) 8 (8 + b.length)) (be b.length ++ be cr) b A b.length c (fun _ => True) rfl rfl (fun _ _ => trivial) HO5.out HV5.out HB5.out HB5.out.size (by have := HL.out; simp [be_len]; omega) ?_; intro v1 w1 ho hb hg hat)
  obtain ⟨Az, cz, rfl⟩ := Kd.R_slice ho
  have HO6 := Aside0.mk ho
  have HB6 := Aside0.mk hb
  clear ho hb hg hat
  go_wp2_with fail
  go_ret2
  refine ⟨_, rfl, ?_, HB6.out⟩
  have := HO6.out
  rw [HCR.out] at this ⊢
  exact this
/-- What a call of the machine turns: blocks of S and new ones; S' is the machine's behind it. -/
structure Mv (S S' : Nat → Prop) (w w' : World) : Prop where
  os : w'.os = w.os
  tape : w'.tape = w.tape
  output : w'.output = w.output
  size : w.heap.size ≤ w'.heap.size
  keep : ∀ k, k < w.heap.size → ¬ S k → w'.heap[k]? = w.heap[k]?
  grow : ∀ k, S' k → S k ∨ w.heap.size ≤ k
namespace Mv
variable {S S' S'' : Nat → Prop} {w w0 w1 w2 : World} {B : Nat}
theorem refl (S : Nat → Prop) (w : World) : Mv S S w w := ⟨rfl, rfl, rfl, Nat.le_refl _, fun _ _ _ => rfl, fun _ h => .inl h⟩
theorem trans (h : Mv S S' w w1) (k : Mv S' S'' w1 w2) : Mv S S'' w w2 :=
  ⟨k.os.trans h.os, k.tape.trans h.tape, k.output.trans h.output, Nat.le_trans h.size k.size, fun i hi hs => (k.keep i (Nat.lt_of_lt_of_le hi h.size) (fun h' => (h.grow i h').elim hs (fun hh => by omega))).trans (h.keep i hi hs),
    fun i hi => (k.grow i hi).elim (h.grow i) (fun hh => .inr (Nat.le_trans h.size hh))⟩
theorem of_below (S : Nat → Prop) (h : Below w.heap.size w w1) : Mv S S w w1 := ⟨h.os, h.tape, h.output, h.size, fun i hi _ => h.block i hi, fun _ h => .inl h⟩
theorem then_below (h : Mv S S' w w1) (k : Below w1.heap.size w1 w2) : Mv S S' w w2 := h.trans (of_below S' k)
theorem of_tn {g : Nat} (T : Tn g w w1) (hg : S g) : Mv S (fun k => S k ∨ (w.heap.size ≤ k ∧ k < w1.heap.size)) w w1 :=
  ⟨T.os, T.tape, T.output, T.size, fun i hi hs => T.block i hi (fun e => hs (e ▸ hg)), fun i hi => hi.imp id (fun h => h.1)⟩
theorem base (h : Mv S S' w w1) (k : Below B w0 w) (hS : ∀ k, S k → B ≤ k) (hB : B ≤ w.heap.size) : Below B w0 w1 :=
  k.trans ⟨h.os, h.tape, h.output, h.size, fun i hi => h.keep i (Nat.lt_of_lt_of_le hi hB) (fun hs => by have := hS i hs; omega)⟩
theorem above (h : Mv S S' w w1) (hS : ∀ k, S k → B ≤ k) (hB : B ≤ w.heap.size) : ∀ k, S' k → B ≤ k := fun k hk => (h.grow k hk).elim (hS k) (fun hh => Nat.le_trans hB hh)
end Mv
theorem at_apart {g : Nat} {ok : Nat → Prop} {d : D} {w w1 : World} (h : At g ok d w) (hs : w.heap.size ≤ w1.heap.size) (hg : w1.heap[g]? = w.heap[g]?) (hm : ∀ k, ok k → k < w.heap.size → w1.heap[k]? = w.heap[k]?) : At g (fun k => ok k ∧ (k < w.heap.size ∨ w1.heap.size ≤ k)) d w1 := by
  obtain ⟨v0, v1, v2, v3, hA, h0, h1, h2, h3⟩ := h.ex
  have m : ∀ {v xs}, Vb ok w v xs → Vb (fun k => ok k ∧ (k < w.heap.size ∨ w1.heap.size ≤ k)) w1 v xs := fun hv => Kd.V_mono (Kd.V_step (Kd.V_bound hv) (fun k hk hl => hm k hk.1 hl)) (fun k hk => ⟨hk.1, .inl hk.2⟩)
  exact ⟨fun hk => h.nok hk.1, fun k hk => ⟨h.fresh k (Nat.le_trans hs hk), .inr hk⟩, v0, v1, v2, v3, hg.trans hA, m h0, m h1, m h2, m h3⟩
/-- A disk within the machine. -/
structure Dn (S : Nat → Prop) (g : Nat) (d : D) (W : World) : Prop where
  ex : ∃ ok, At g ok d W ∧ ∀ k, ok k → k < W.heap.size → S k
  sg : S g
  lim : ∀ k, S k → k < W.heap.size
namespace Dn
variable {S : Nat → Prop} {g : Nat} {d d' : D} {W W1 : World}
theorem below (h : Dn S g d W) (hb : Below W.heap.size W W1) : Dn S g d W1 := by
  obtain ⟨ok, hA, hok⟩ := h.ex
  exact ⟨⟨_, at_skip hA hb, fun k hk hl => hok k hk.1 (hk.2.elim id (fun hh => by omega))⟩, h.sg, fun k hk => Nat.lt_of_lt_of_le (h.lim k hk) hb.size⟩
theorem act (h : Dn S g d W) {f : FuncId} {args : Array Value} {r : Value} (hc : ∀ ok, At g ok d W → Calls Try.prog f args W fun e w' => e = .returned r ∧ At g ok d' w' ∧ Tn g W w') :
    Calls Try.prog f args W fun e w' => e = .returned r ∧ ∃ S', Dn S' g d' w' ∧ Mv S S' W w' := by
  obtain ⟨ok, hA, hok⟩ := h.ex
  refine (hc ok hA).mono ?_
  rintro e w' ⟨he, hA', hT⟩
  refine ⟨he, _, ⟨⟨ok, hA', fun k hk hl => ?_⟩, .inl h.sg, fun k hk => ?_⟩, Mv.of_tn hT h.sg⟩
  · by_cases hlt : k < W.heap.size
    · exact .inl (hok k hk hlt)
    · exact .inr ⟨by omega, hl⟩
  · exact hk.elim (fun hh => Nat.lt_of_lt_of_le (h.lim k hh) hT.size) (fun hh => hh.2)
theorem new {B : Nat} (hA : At W.heap.size (fun k => W.heap.size < k) d W1) (hb : Below W.heap.size W W1) : Dn (fun k => W.heap.size ≤ k ∧ k < W1.heap.size) W.heap.size d W1 ∧ Mv (fun _ => False) (fun k => W.heap.size ≤ k ∧ k < W1.heap.size) W W1 :=
  ⟨⟨⟨_, hA, fun k hk hl => ⟨Nat.le_of_lt hk, hl⟩⟩, ⟨Nat.le_refl _, hA.lt⟩, fun k hk => hk.2⟩, ⟨hb.os, hb.tape, hb.output, hb.size, fun i hi _ => hb.block i hi, fun i hi => .inr hi.1⟩⟩
end Dn
/-- What acts leave and answer. -/
def apE (f : Int) (b : List Int) (d : D) : Int := gateE d f (actE (room1 d b.length) d)
def apD (f : Int) (b : List Int) (d : D) : D := gateD d f (actD (room1 d b.length) (app (bi f) b) d)
def syE (f : Int) (d : D) : Int := gateE d f (actE 0 d)
def syD (f : Int) (d : D) : D := gateD d f (actD 0 (syn (bi f)) d)
def trE (f n : Int) (d : D) : Int := gateE d f (actE (troom n (d.fl (bi f))) d)
def trD (f n : Int) (d : D) : D := gateD d f (actD (troom n (d.fl (bi f))) (tru (bi f) n) d)
def swE (f : Int) (d : D) : Int := gateE d f (actE 0 d)
def swD (f : Int) (d : D) : D := gateD d f (actD 0 (swi f) d)
theorem good_apD {d : D} (h : Good d) (f : Int) (b : List Int) : Good (apD f b d) := good_gate h (good_act h (fun hm f o hg => good_app hg _ hm))
theorem good_syD {d : D} (h : Good d) (f : Int) : Good (syD f d) := good_gate h (good_act h (fun _ f o hg => good_put hg _ (flok_syn (flok hg _))))
theorem good_trD {d : D} (h : Good d) (f n : Int) : Good (trD f n d) := good_gate h (good_act h (fun hm f o hg => good_tru hg _ (by rw [fl_same]; exact hm)))
theorem good_swD {d : D} (h : Good d) (f : Int) : Good (swD f d) := good_gate h (good_act h (fun _ f o hg => good_fl hg rfl rfl rfl hg.fuse))
section
variable {S : Nat → Prop} {g : Nat} {d : D} {W : World}
theorem dn_Append (h : Dn S g d W) (hg : Good d) (f : Int) {okb : Nat → Prop} {bv : Value} {b : List Int} (hb : Vb okb W bv b) (hbg : ¬ okb g) :
    Calls Try.prog 46 #[.pointer (some ⟨g, 0, none⟩), .int .i64 f, bv] W fun e w' => e = .returned (.int .i64 (apE f b d)) ∧ ∃ S', Dn S' g (apD f b d) w' ∧ Mv S S' W w' := h.act (fun ok hA => disk_Append.all hA hg f hb hbg)
theorem dn_Sync (h : Dn S g d W) (hg : Good d) (f : Int) :
    Calls Try.prog 47 #[.pointer (some ⟨g, 0, none⟩), .int .i64 f] W fun e w' => e = .returned (.int .i64 (syE f d)) ∧ ∃ S', Dn S' g (syD f d) w' ∧ Mv S S' W w' := h.act (fun ok hA => disk_Sync.all hA hg f)
theorem dn_Truncate (h : Dn S g d W) (hg : Good d) (f n : Int) :
    Calls Try.prog 52 #[.pointer (some ⟨g, 0, none⟩), .int .i64 f, .int .i64 n] W fun e w' => e = .returned (.int .i64 (trE f n d)) ∧ ∃ S', Dn S' g (trD f n d) w' ∧ Mv S S' W w' := h.act (fun ok hA => disk_Truncate.all hA hg f n)
theorem dn_Switch (h : Dn S g d W) (hg : Good d) (f : Int) :
    Calls Try.prog 51 #[.pointer (some ⟨g, 0, none⟩), .int .i64 f] W fun e w' => e = .returned (.int .i64 (swE f d)) ∧ ∃ S', Dn S' g (swD f d) w' ∧ Mv S S' W w' := h.act (fun ok hA => disk_Switch.all hA hg f)
theorem dn_Read (h : Dn S g d W) (hg : Good d) (i : Bool) :
    Calls Try.prog 35 #[.pointer (some ⟨g, 0, none⟩), .int .i64 (iv i)] W fun e w' => ∃ A c, e = .returned (.tuple #[.slice A (rdL d i).length c, .int .i64 (rdE d)]) ∧ Rb W.heap.size w' (.slice A (rdL d i).length c) (rdL d i) ∧ Below W.heap.size W w' := by
  obtain ⟨ok, hA, _⟩ := h.ex
  have := disk_Read.all hA hg (iv i)
  rw [fe_iv, bi_iv] at this
  refine this.mono ?_
  rintro e w' ⟨v', h1, h2, h3⟩
  have h4 : Rb W.heap.size w' v' (rdL d i) := by
    unfold rdL
    unfold rdE at h2
    cases ho : d.off
    · rw [ho] at h2; exact h2
    · rw [ho] at h2; exact h2
  obtain ⟨A, c, rfl⟩ := Kd.R_slice h4
  exact ⟨A, c, h1, h4, h3⟩
theorem dn_Root (h : Dn S g d W) (hg : Good d) :
    Calls Try.prog 34 #[.pointer (some ⟨g, 0, none⟩)] W fun e w' => e = .returned (.tuple #[.int .i64 (rtV d), .int .i64 (rdE d)]) ∧ w' = W := by
  obtain ⟨ok, hA, _⟩ := h.ex
  exact disk_Root.at hA hg.room.pos
theorem dn_On (h : Dn S g d W) (hg : Good d) : Calls Try.prog 23 #[.pointer (some ⟨g, 0, none⟩)] W fun e w' => e = .returned (.bool (!d.off)) ∧ w' = W := by
  obtain ⟨ok, hA, _⟩ := h.ex
  exact disk_On.calls hA hg.room.pos
def leftN (d : D) : Int := d.room - d.a.now.length - d.b.now.length
theorem dn_Left (h : Dn S g d W) (hg : Good d) : Calls Try.prog 50 #[.pointer (some ⟨g, 0, none⟩)] W fun e w' => e = .returned (.int .i64 (leftN d)) ∧ Below W.heap.size W w' := by
  obtain ⟨ok, hA, _⟩ := h.ex
  exact disk_Left.calls hA hg.room
theorem dn_Arm (h : Dn S g d W) (hg : Good d) (n : Int) (b : Bool) :
    Calls Try.prog 21 #[.pointer (some ⟨g, 0, none⟩), .int .i64 n, .bool b] W fun e w' => e = .returned (.tuple #[]) ∧ ∃ S', Dn S' g (armD n b d) w' ∧ Mv S S' W w' := h.act (fun ok hA => disk_Arm.all hA hg n b)
def offD (d : D) : D := { d with off := true, fuse := -1 }
theorem dn_Fail (h : Dn S g d W) (hg : Good d) :
    Calls Try.prog 22 #[.pointer (some ⟨g, 0, none⟩)] W fun e w' => e = .returned (.tuple #[]) ∧ ∃ S', Dn S' g (offD d) w' ∧ Mv S S' W w' := h.act (fun ok hA => disk_Fail.calls hA hg.room.pos)
theorem dn_Start (h : Dn S g d W) (hg : Good d) (k0 k1 : Int) (c0 c1 : Bool) :
    Calls Try.prog 24 #[.pointer (some ⟨g, 0, none⟩), .agg #[.int .i64 k0, .int .i64 k1, .bool c0, .bool c1]] W fun e w' => e = .returned (.int .i64 (startE d)) ∧ ∃ S', Dn S' g (startD k0 k1 c0 c1 d) w' ∧ Mv S S' W w' := h.act (fun ok hA => disk_Start.all hA hg k0 k1 c0 c1)
end
theorem good_offD {d : D} (h : Good d) : Good (offD d) := good_fl h rfl rfl rfl ⟨by show (-1 : Int) ≤ -1; decide, by show (-1 : Int) < 9223372036854775808; decide⟩
/-- A file is cut, and synced, if it has more bytes. -/
def trimE (f has n : Int) (d : D) : Int := if has = n then 0 else if trE f n d ≠ 0 then trE f n d else syE f (trD f n d)
def trimD (f has n : Int) (d : D) : D := if has = n then d else if trE f n d ≠ 0 then trD f n d else syD f (trD f n d)
theorem good_trimD {d : D} (h : Good d) (f has n : Int) : Good (trimD f has n d) := by
  unfold trimD
  split
  · exact h
  split
  · exact good_trD h f n
  · exact good_syD (good_trD h f n) f
set_option maxHeartbeats 1000000 in
theorem jtrim.calls {S : Nat → Prop} {g : Nat} {d : D} {W : World} (h : Dn S g d W) (hg : Good d) (f has n : Int) :
    Calls Try.prog 43 #[.pointer (some ⟨g, 0, none⟩), .int .i64 f, .int .i64 has, .int .i64 n] W fun e w' => e = .returned (.int .i64 (trimE f has n d)) ∧ ∃ S', Dn S' g (trimD f has n d) w' ∧ Mv S S' W w' := by
  have H := Aside0.mk h
  have HG := Aside0.mk hg
  clear h hg
  unfold trimE trimD
  by_cases h0 : has = n
  · rw [if_pos h0, if_pos h0]
    have hb : (has == n) = true := beq_iff_eq.mpr h0
    clear h0
    go_enter Try.func43, Try.ntmps43
    go_wp2_with fail
    go_ret
    exact ⟨rfl, S, H.out, Mv.refl _ _⟩
  have hb : (has == n) = false := beq_eq_false_iff_ne.mpr h0
  rw [if_neg h0, if_neg h0]
  clear h0
  by_cases h1 : trE f n d ≠ 0
  · rw [if_pos h1, if_pos h1]
    have HT := Aside0.mk (dn_Truncate H.out HG.out f n)
    obtain ⟨E, hE⟩ : ∃ E, E = trE f n d := ⟨_, rfl⟩
    rw [← hE] at HT h1 ⊢
    have hb1 : (E != 0) = true := bne_iff_ne.mpr h1
    clear h1 hE
    go_enter Try.func43, Try.ntmps43
    go_wp2_with fail
    refine HT.out.mono ?_
    rintro e w1 ⟨rfl, hD⟩
    have HD := Aside0.mk hD
    clear hD
    go_wp2_with fail
    go_ret
    exact ⟨rfl, HD.out⟩
  · have HT := Aside0.mk (dn_Truncate H.out HG.out f n)
    have h1' : trE f n d = 0 := by simpa using h1
    rw [if_neg h1, if_neg h1]
    rw [h1'] at HT
    clear h1 h1'
    go_enter Try.func43, Try.ntmps43
    go_wp2_with fail
    refine HT.out.mono ?_
    rintro e w1 ⟨rfl, S1, hD, hM⟩
    have HM := Aside0.mk hM
    have HY := Aside0.mk (dn_Sync hD (good_trD HG.out f n) f)
    clear hD hM
    go_wp2_with fail
    refine HY.out.mono ?_
    rintro e w2 ⟨rfl, S2, hD, hM⟩
    have HD2 := Aside0.mk hD
    have HM2 := Aside0.mk (HM.out.trans hM)
    clear hD hM
    go_wp2_with fail
    go_ret
    exact ⟨rfl, S2, HD2.out, HM2.out⟩
theorem row_mv {α : Type} {dk : Kd α} {e base : Nat} {S S' : Nat → Prop} {v : Value} {xs : List α} {W W' : World} (h : dk.R e W base (fun k => ¬ S k) v xs) (M : Mv S S' W W') : dk.R e W' base (fun k => ¬ S' k) v xs := by
  have h1 := Kd.R_step (Kd.R_bound h) (w1 := W') (fun k hk hl => M.keep k hl hk.1)
  exact Kd.R_mono h1 (fun k hk hs => (M.grow k hs).elim hk.1 (fun hh => by have := hk.2.2.1; omega))
theorem row_new {α : Type} {dk : Kd α} {e base : Nat} {S : Nat → Prop} {v : Value} {xs : List α} {W' : World} (h : dk.R e W' base (fun _ => True) v xs) (hS : ∀ k, S k → k < base) : dk.R e W' base (fun k => ¬ S k) v xs :=
  Kd.R_mono (Kd.R_bound h) (fun k hk hs => by have := hS k hs; have := hk.2.1; omega)
/-- A journal: which file lives, its group, how many. -/
structure J where
  live : Bool
  group : List Int
  many : Int
structure Jo (ok : Nat → Prop) (gv : Value) (S : Nat → Prop) (g jb : Nat) (d : D) (j : J) (W : World) : Prop where
  at_ : At g ok d W
  ok_ : ∀ k, ok k → k < W.heap.size → S k
  blk : Blk.At jb #[.pointer (some ⟨g, 0, none⟩), .int .i64 (iv j.live), gv, .int .i64 j.many] 57 W
  grp : W.ownsRow 0 5 1 gv j.group.length (nums .u8 j.group)
  far : ∀ k, gv.ownBlock = some k → S k ∧ ¬ ok k ∧ k ≠ g ∧ k ≠ jb
  nj : ¬ ok jb
  sg : S g
  sj : S jb
  ne : jb ≠ g
  lim : ∀ k, S k → k < W.heap.size
/-- A journal within the machine. -/
def Jn (S : Nat → Prop) (g jb : Nat) (d : D) (j : J) (W : World) : Prop := ∃ ok gv, Jo ok gv S g jb d j W
/-- What Open leaves of a disk that has the power, and no fuse. -/
def tcD (i : Bool) (n : Int) (d : D) : D := if ((d.fl i).now.length : Int) = n then d else syn i (tru i n d)
theorem fe_calm {d : D} (ho : d.off = false) (i : Bool) : fe d (iv i) = 0 := fe_on ho i
theorem trim_calm {d : D} (ho : d.off = false) (hz : d.fuse = -1) (i : Bool) {n : Int} (h0 : 0 ≤ n) (h1 : n ≤ (d.fl i).now.length) : trimE (iv i) ((d.fl i).now.length : Int) n d = 0 ∧ trimD (iv i) ((d.fl i).now.length : Int) n d = tcD i n d := by
  have hf := fe_calm ho i
  have ht : troom n (d.fl i) = 0 := if_neg (by omega)
  have e1 : trE (iv i) n d = 0 := by
    unfold trE gateE actE
    rw [hf, bi_iv, ht, if_neg (by decide), if_neg (by decide), if_neg (by omega)]
  have e2 : trD (iv i) n d = tru i n d := by
    unfold trD gateD
    rw [hf, bi_iv, ht, if_neg (by decide), actD_calm hz, if_neg (by decide)]
  have ho2 : (tru i n d).off = false := (off_tru i n d).trans ho
  have hz2 : (tru i n d).fuse = -1 := (fuse_tru i n d).trans hz
  have e3 : syE (iv i) (tru i n d) = 0 := by
    unfold syE gateE actE
    rw [fe_calm ho2 i, if_neg (by decide), if_neg (by decide), if_neg (by omega)]
  have e4 : syD (iv i) (tru i n d) = syn i (tru i n d) := by
    unfold syD gateD
    rw [fe_calm ho2 i, bi_iv, if_neg (by decide), actD_calm hz2, if_neg (by decide)]
  unfold trimE trimD tcD
  by_cases h : ((d.fl i).now.length : Int) = n
  · rw [if_pos h, if_pos h, if_pos h]
    exact ⟨rfl, rfl⟩
  · rw [if_neg h, if_neg h, if_neg h, e1, e2, if_neg (by decide), if_neg (by decide)]
    exact ⟨e3, e4⟩
theorem tc_off (i : Bool) (n : Int) (d : D) : (tcD i n d).off = d.off ∧ (tcD i n d).fuse = d.fuse ∧ (tcD i n d).root = d.root := by
  unfold tcD
  split
  · exact ⟨rfl, rfl, rfl⟩
  · cases i <;> exact ⟨rfl, rfl, rfl⟩
def openD (i : Bool) (d : D) : D := tcD (!i) 0 (tcD i ((Jr.sz (Jr.scanF (d.fl i).now) : Nat) : Int) d)
theorem sz_le (b : List Int) : Jr.sz (Jr.scanF b) ≤ b.length := by
  obtain ⟨n, hn⟩ : ∃ n, n = b.length := ⟨_, rfl⟩
  rw [← hn]
  induction n using Nat.strongRecOn generalizing b with
  | _ n ih =>
    cases h : (Jr.nextR b).2
    · rw [Jr.scan_no h]; exact Nat.zero_le _
    · have hl := Jr.next_len h
      rw [Jr.scan_yes h, Jr.sz_cons]
      have := ih (n - (8 + (Jr.nextR b).1.length)) (by omega) (b.drop (8 + (Jr.nextR b).1.length)) (by rw [List.length_drop]; omega)
      omega
theorem rd_calm {d : D} (ho : d.off = false) (i : Bool) : rdL d i = (d.fl i).now ∧ rdE d = 0 ∧ rtV d = d.root := by
  unfold rdL rdE rtV
  rw [ho]
  exact ⟨rfl, rfl, rfl⟩
theorem iv_not (i : Bool) : wrap64 (1 - iv i) = iv (!i) := by cases i <;> (unfold iv wrap64; decide)
set_option maxHeartbeats 4000000 in
theorem jOpen.calls {S : Nat → Prop} {g : Nat} {d : D} {W : World} (h : Dn S g d W) (hg : Good d) (ho : d.off = false) (hz : d.fuse = -1) (i : Bool) (hr : d.root = iv i) :
    Calls Try.prog 16 #[.pointer (some ⟨g, 0, none⟩)] W fun e w' => ∃ jb A c S', e = .returned (.tuple #[.pointer (some ⟨jb, 0, none⟩), .slice A (Jr.scanF (d.fl i).now).length c, .int .i64 0]) ∧ Jn S' g jb (openD i d) ⟨i, [], 0⟩ w' ∧ Mv S S' W w' ∧ Rs W.heap.size (fun k => ¬ S' k) w' (.slice A (Jr.scanF (d.fl i).now).length c) (Jr.scanF (d.fl i).now) := by
  have H := Aside0.mk h
  have HG := Aside0.mk hg
  have HO := Aside0.mk ho
  have HZ := Aside0.mk hz
  have hrt := dn_Root h hg
  rw [(rd_calm ho i).2.1, (rd_calm ho i).2.2, hr] at hrt
  have HRT := Aside0.mk hrt
  have hrd := dn_Read h hg i
  rw [(rd_calm ho i).1, (rd_calm ho i).2.1] at hrd
  have HRD := Aside0.mk hrd
  have hwi := iv_not i
  clear h hg ho hz hr hrt hrd
  go_enter Try.func16, Try.ntmps16
  go_wp2_with fail
  refine HRT.out.mono ?_
  rintro e w1 ⟨rfl, rfl⟩
  go_wp2_with fail
  refine HRD.out.mono ?_
  rintro e w2 ⟨A2, c2, rfl, ho2, hb2⟩
  have HD2 := Aside0.mk (H.out.below hb2)
  have HB2 := Aside0.mk hb2
  have HB2S := Aside0.mk hb2.size
  have hlen : (d.fl i).now.length ≤ 2000000 := by have := (flok HG.out i).now; omega
  have HSC := Aside0.mk (jScan.calls (V_own (ok := fun _ => True) ho2 (fun _ _ => trivial)) hlen)
  clear ho2 hb2 hlen
  go_wp2_with fail
  refine HSC.out.mono ?_
  rintro e w3 ⟨v3, rfl, hR, hb3⟩
  obtain ⟨A3, c3, rfl⟩ := Kd.R_slice hR
  have HD3 := Aside0.mk (HD2.out.below hb3)
  have HB3 := Aside0.mk (HB2.out.trans (hb3.mono HB2.out.size))
  have HR3 := Aside0.mk (row_new (S := S) hR (fun k hk => HD2.out.lim k hk))
  have hsz := sz_le (d.fl i).now
  have htc := trim_calm HO.out HZ.out i (n := (Jr.sz (Jr.scanF (d.fl i).now) : Nat)) (by omega) (by omega)
  have htr := jtrim.calls HD3.out HG.out (iv i) ((d.fl i).now.length : Int) ((Jr.sz (Jr.scanF (d.fl i).now) : Nat) : Int)
  have HG1 := Aside0.mk (show Good (tcD i ((Jr.sz (Jr.scanF (d.fl i).now) : Nat) : Int) d) by rw [← htc.2]; exact good_trimD HG.out _ _ _)
  rw [htc.1, htc.2] at htr
  have hoff := tc_off i ((Jr.sz (Jr.scanF (d.fl i).now) : Nat) : Int) d
  have HODE := Aside0.mk (show openD i d = tcD (!i) 0 (tcD i ((Jr.sz (Jr.scanF (d.fl i).now) : Nat) : Int) d) from rfl)
  obtain ⟨d1, hd1⟩ : ∃ d1, d1 = tcD i ((Jr.sz (Jr.scanF (d.fl i).now) : Nat) : Int) d := ⟨_, rfl⟩
  rw [← hd1] at htr hoff HG1 HODE
  have HTR := Aside0.mk htr
  have HOF := Aside0.mk (And.intro (hoff.1.trans HO.out) (hoff.2.1.trans HZ.out))
  clear hR hb3 hsz htc htr hoff hd1 HSC HRD
  go_wp2_with fail
  refine HTR.out.mono ?_
  rintro e w4 ⟨rfl, S4, hD, hM⟩
  have HD4 := Aside0.mk hD
  have HM4 := Aside0.mk ((Mv.of_below S HB3.out).trans hM)
  have HR4 := Aside0.mk (row_mv HR3.out hM)
  have hrd := dn_Read hD HG1.out (!i)
  rw [(rd_calm HOF.out.1 (!i)).1, (rd_calm HOF.out.1 (!i)).2.1] at hrd
  have HRD := Aside0.mk hrd
  clear hD hM hrd HTR HR3 HD3 HB3 HD2 HB2
  go_wp2_with fail
  rw [hwi]
  refine HRD.out.mono ?_
  rintro e w5 ⟨A5, c5, rfl, ho5, hb5⟩
  have HD5 := Aside0.mk (HD4.out.below hb5)
  have HM5 := Aside0.mk (HM4.out.then_below hb5)
  have HR5 := Aside0.mk (Kd.R_below HR4.out hb5)
  have htc := trim_calm HOF.out.1 HOF.out.2 (!i) (n := 0) (by omega) (by omega)
  have htr := jtrim.calls HD5.out HG1.out (iv (!i)) ((d1.fl (!i)).now.length : Int) 0
  rw [htc.1, htc.2, ← HODE.out] at htr
  have HTR := Aside0.mk htr
  clear ho5 hb5 htc htr HRD HD4 HM4 HR4
  go_wp2_with fail
  rw [hwi]
  refine HTR.out.mono ?_
  rintro e w6 ⟨rfl, S6, hD, hM⟩
  have HD6 := Aside0.mk hD
  have HM6 := Aside0.mk (HM5.out.trans hM)
  have HR6 := Aside0.mk (row_mv HR5.out hM)
  clear hD hM HTR HD5 HM5 HR5
  go_wp2_with fail
  go_ret3
  have hb7 := below_alloc (Below.refl w6.heap.size w6) (.cells #[.pointer (some ⟨g, 0, none⟩), .int .i64 (iv i), .slice none 0 0, .int .i64 0] 57)
  obtain ⟨ok6, hA6, hok6⟩ := HD6.out.ex
  have hsz7 := size_alloc w6 (.cells #[.pointer (some ⟨g, 0, none⟩), .int .i64 (iv i), .slice none 0 0, .int .i64 0] 57)
  have hg6 := HD6.out.lim g HD6.out.sg
  refine ⟨w6.heap.size, A3, c3, fun k => S6 k ∨ k = w6.heap.size, rfl, ⟨_, .slice none 0 0, at_skip hA6 hb7, fun k hk hl => ?_, Blk.At.new w6 _ 57, own_nil _ _ _ _, fun k hk => by simp [Value.ownBlock] at hk, fun hk => by have := hk.2; omega, .inl HD6.out.sg, .inr rfl, by omega, fun k hk => ?_⟩, HM6.out.trans ⟨rfl, rfl, rfl, hb7.size, fun k hk _ => hb7.block k hk, fun k hk => hk.imp id (fun hh => by omega)⟩, ?_⟩
  · rw [hsz7] at hl
    by_cases hlt : k < w6.heap.size
    · exact .inl (hok6 k hk.1 hlt)
    · exact .inr (by omega)
  · rw [hsz7]
    rcases hk with hk | hk
    · have := HD6.out.lim k hk; omega
    · omega
  · exact Kd.R_lower (Kd.R_below (Kd.R_mono (Kd.R_bound HR6.out) (fun k hk hs => hs.elim hk.1 (fun e => by have := hk.2.2.1; omega))) hb7) HB2S.out
namespace Jo
variable {ok : Nat → Prop} {gv : Value} {S : Nat → Prop} {g jb : Nat} {d d' : D} {j : J} {W W1 : World}
theorem dn (h : Jo ok gv S g jb d j W) : Dn S g d W := ⟨⟨ok, h.at_, h.ok_⟩, h.sg, h.lim⟩
theorem below (h : Jo ok gv S g jb d j W) (hb : Below W.heap.size W W1) : Jo (fun k => ok k ∧ (k < W.heap.size ∨ W1.heap.size ≤ k)) gv S g jb d j W1 :=
  ⟨at_skip h.at_ hb, fun k hk hl => h.ok_ k hk.1 (hk.2.elim id (fun hh => by omega)), h.blk.below hb h.blk.lt, pw_own_below h.grp hb, fun k hk => ⟨(h.far k hk).1, fun hh => (h.far k hk).2.1 hh.1, (h.far k hk).2.2⟩, fun hh => h.nj hh.1, h.sg, h.sj, h.ne, fun k hk => Nat.lt_of_lt_of_le (h.lim k hk) hb.size⟩
theorem tn (h : Jo ok gv S g jb d j W) (T : Tn g W W1) (hA : At g ok d' W1) : Jo ok gv (fun k => S k ∨ (W.heap.size ≤ k ∧ k < W1.heap.size)) g jb d' j W1 :=
  ⟨hA, fun k hk hl => (Nat.lt_or_ge k W.heap.size).elim (fun hh => .inl (h.ok_ k hk hh)) (fun hh => .inr ⟨hh, hl⟩), blk_tn h.blk T h.ne, own_other h.grp T.grown (Classical.or_iff_not_imp_left.2 (fun _ e => (h.far g e).2.2.1 rfl)),
    fun k hk => ⟨.inl (h.far k hk).1, (h.far k hk).2⟩, h.nj, .inl h.sg, .inl h.sj, h.ne, fun k hk => hk.elim (fun hh => Nat.lt_of_lt_of_le (h.lim k hh) T.size) (fun hh => hh.2)⟩
theorem c0 (h : Jo ok gv S g jb d j W) : W.cell? ⟨jb, 0, none⟩ = some (.pointer (some ⟨g, 0, none⟩)) := h.blk.cell 0
theorem c1 (h : Jo ok gv S g jb d j W) : W.cell? ⟨jb, 1, none⟩ = some (.int .i64 (iv j.live)) := h.blk.cell 1
theorem c2 (h : Jo ok gv S g jb d j W) : W.cell? ⟨jb, 2, none⟩ = some gv := h.blk.cell 2
theorem c3 (h : Jo ok gv S g jb d j W) : W.cell? ⟨jb, 3, none⟩ = some (.int .i64 j.many) := h.blk.cell 3
theorem view (h : Jo ok gv S g jb d j W) : Vb (fun k => k ≠ g) W gv j.group :=
  Kd.R_V (base := 0) (Kd.R_of_own (enc := Value.int .u8) (h1 := fun _ => rfl) h.grp (fun k hk => (h.far k hk).2.2.1))
theorem slice (h : Jo ok gv S g jb d j W) : ∃ A c, gv = .slice A j.group.length c := own_slice h.grp
/-- Cells of the journal's own written. -/
theorem setLive (h : Jo ok gv S g jb d j W) (i : Bool) : Jo ok gv S g jb d { j with live := i } (W.setCell ⟨jb, 1, none⟩ (.int .i64 (iv i))) :=
  ⟨h.at_.far h.ne h.nj _, fun k hk hl => h.ok_ k hk (by simpa [World.setCell] using hl), h.blk.set 1 _, own_setCell h.grp (fun e => (h.far jb e.symm).2.2.2 rfl) _, h.far, h.nj, h.sg, h.sj, h.ne, fun k hk => by simpa [World.setCell] using h.lim k hk⟩
theorem setMany (h : Jo ok gv S g jb d j W) (n : Int) : Jo ok gv S g jb d { j with many := n } (W.setCell ⟨jb, 3, none⟩ (.int .i64 n)) :=
  ⟨h.at_.far h.ne h.nj _, fun k hk hl => h.ok_ k hk (by simpa [World.setCell] using hl), h.blk.set 3 _, own_setCell h.grp (fun e => (h.far jb e.symm).2.2.2 rfl) _, h.far, h.nj, h.sg, h.sj, h.ne, fun k hk => by simpa [World.setCell] using h.lim k hk⟩
theorem setNil (h : Jo ok gv S g jb d j W) : Jo ok (.slice none 0 0) S g jb d { j with group := [] } (W.setCell ⟨jb, 2, none⟩ (.slice none 0 0)) :=
  ⟨h.at_.far h.ne h.nj _, fun k hk hl => h.ok_ k hk (by simpa [World.setCell] using hl), h.blk.set 2 _, own_nil _ _ _ _, fun k hk => by simp [Value.ownBlock] at hk, h.nj, h.sg, h.sj, h.ne, fun k hk => by simpa [World.setCell] using h.lim k hk⟩
end Jo
theorem mv_set {S : Nat → Prop} {W : World} {jb i : Nat} {v : Value} (h : S jb) : Mv S S W (W.setCell ⟨jb, i, none⟩ v) :=
  ⟨rfl, rfl, rfl, by simp [World.setCell], fun k _ hs => Below.heap_setCell _ _ _ _ (fun e => hs (e ▸ h)), fun _ hk => .inl hk⟩
theorem Jn.dn {S : Nat → Prop} {g jb : Nat} {d : D} {j : J} {W : World} (h : Jn S g jb d j W) : Dn S g d W := by
  obtain ⟨ok, gv, h⟩ := h
  exact h.dn
theorem Jn.below {S : Nat → Prop} {g jb : Nat} {d : D} {j : J} {W W1 : World} (h : Jn S g jb d j W) (hb : Below W.heap.size W W1) : Jn S g jb d j W1 := by
  obtain ⟨ok, gv, h⟩ := h
  exact ⟨_, gv, h.below hb⟩
theorem Jo.act {ok : Nat → Prop} {gv : Value} {S : Nat → Prop} {g jb : Nat} {d d' : D} {j : J} {W : World} (h : Jo ok gv S g jb d j W) {f : FuncId} {args : Array Value} {r : Value} (hc : At g ok d W → Calls Try.prog f args W fun e w' => e = .returned r ∧ At g ok d' w' ∧ Tn g W w') :
    Calls Try.prog f args W fun e w' => e = .returned r ∧ ∃ S', Jo ok gv S' g jb d' j w' ∧ Mv S S' W w' := by
  refine (hc h.at_).mono ?_
  rintro e w' ⟨he, hA', hT⟩
  exact ⟨he, _, h.tn hT hA', Mv.of_tn hT h.sg⟩
theorem Jn.act {S : Nat → Prop} {g jb : Nat} {d d' : D} {j : J} {W : World} (h : Jn S g jb d j W) {f : FuncId} {args : Array Value} {r : Value} (hc : ∀ ok, At g ok d W → Calls Try.prog f args W fun e w' => e = .returned r ∧ At g ok d' w' ∧ Tn g W w') :
    Calls Try.prog f args W fun e w' => e = .returned r ∧ ∃ S', Jn S' g jb d' j w' ∧ Mv S S' W w' := by
  obtain ⟨ok, gv, h⟩ := h
  refine (h.act (hc ok)).mono ?_
  rintro e w' ⟨he, S', hJ, hM⟩
  exact ⟨he, S', ⟨ok, gv, hJ⟩, hM⟩
/-- A journal that nobody opened. -/
def Jdead (v : Value) (W : World) : Prop := v = .pointer none ∨ ∃ b, v = .pointer (some ⟨b, 0, none⟩) ∧ W.cell? ⟨b, 0, none⟩ = some (.pointer none)
theorem jok.calls {jb g : Nat} {W : World} (h : W.cell? ⟨jb, 0, none⟩ = some (.pointer (some ⟨g, 0, none⟩))) :
    Calls Try.prog 44 #[.pointer (some ⟨jb, 0, none⟩)] W fun e w' => e = .returned (.bool true) ∧ w' = W := by
  go_enter Try.func44, Try.ntmps44
  go_wp2_with fail
  go_ret
  exact ⟨rfl, rfl⟩
theorem jok.dead {v : Value} {W : World} (h : Jdead v W) : Calls Try.prog 44 #[v] W fun e w' => e = .returned (.bool false) ∧ w' = W := by
  rcases h with rfl | ⟨b, rfl, hx⟩
  · go_enter Try.func44, Try.ntmps44
    go_wp2_with fail
    go_ret
    exact ⟨rfl, rfl⟩
  · go_enter Try.func44, Try.ntmps44
    go_wp2_with fail
    go_ret
    exact ⟨rfl, rfl⟩
/-- Records' frames. -/
def flat (l : List (List Int)) : List Int := (l.map frame).flatten
def allOk (l : List (List Int)) : Prop := ∀ r ∈ l, frE r = 0
open Classical in
noncomputable def frsE (l : List (List Int)) (ahead : Int) (d : D) : Int := if allOk l then (if leftN d < ahead + ((flat l).length : Int) then 11 else 0) else 1
noncomputable def frsL (l : List (List Int)) (ahead : Int) (d : D) : List Int := if frsE l ahead d = 0 then flat l else []
theorem frE_cases (r : List Int) : frE r = 0 ∨ frE r = 1 := by
  unfold frE
  split <;> simp
theorem frame_len (b : List Int) : (frame b).length = 8 + b.length := by simp [frame, be_len]; omega
theorem flat_len {l : List (List Int)} (h : allOk l) : (flat l).length ≤ l.length * 16392 := by
  induction l with
  | nil => simp [flat]
  | cons r l ih =>
    have h1 := ih (fun x hx => h x (by simp [hx]))
    have h2 : r.length ≤ 16384 := by
      have := h r (by simp)
      unfold frE at this
      split at this
      · cases this
      · omega
    have h3 : (flat (r :: l)).length = 8 + r.length + (flat l).length := by simp [flat, frame_len]
    rw [h3, List.length_cons, Nat.succ_mul]
    omega
set_option maxHeartbeats 4000000 in
theorem jframes.calls {S : Nat → Prop} {g jb : Nat} {d : D} {j : J} {W : World} (h : Jn S g jb d j W) (hg : Good d) {A : Option Addr} {c : Nat} {l : List (List Int)} (hC : (Kd.slice 5 (Kd.int .u8)).C W A l.length l) (hl : l.length ≤ 1000) (ahead : Int) (ha : 0 ≤ ahead ∧ ahead ≤ 1099511627776) :
    Calls Try.prog 45 #[.pointer (some ⟨jb, 0, none⟩), .slice A l.length c, .int .i64 ahead] W fun e w' => ∃ v, e = .returned (.tuple #[v, .int .i64 (frsE l ahead d)]) ∧ Rb W.heap.size w' v (frsL l ahead d) ∧ Below W.heap.size W w' := by
  have H := Aside0.mk h
  have HG := Aside0.mk hg
  have HC := Aside0.mk hC
  have HL := Aside0.mk hl
  have HA := Aside0.mk ha
  clear h hg hC hl ha
  go_enter Try.func45, Try.ntmps45
  go_wp2_with fail
  go_loopw [8, 15] (fun uo jj wr => ∃ (vo : Value) (n : Nat), vo = uo ∧ n ≤ l.length ∧ jj = .int .i64 n ∧ Aside0 (allOk (l.take n)) ∧ Aside0 (Rb W.heap.size wr vo (flat (l.take n))) ∧ Aside0 (Below W.heap.size W wr)) (fun _ jj _ => l.length - (intOf jj).toNat)
  case atStart => exact ⟨_, 0, rfl, Nat.zero_le _, rfl, ⟨fun r hr => by simp at hr⟩, ⟨Kd.R_nil _ _ _ _ _⟩, ⟨Below.refl _ _⟩⟩
  case round =>
    obtain ⟨vo, n, hvo, hn, rfl, HK, HO, HB⟩ := hrel
    subst hvo
    obtain ⟨Ao, co, rfl⟩ := Kd.R_slice HO.out
    by_cases hlt : n < l.length
    · obtain ⟨ad, B, cb, e0, hx, hcb, hCb⟩ := rows_at (Kd.C_below HC.out HB.out) hlt
      subst e0
      obtain ⟨r, hr⟩ : ∃ r, r = l.getD n [] := ⟨_, rfl⟩
      rw [← hr] at hx hcb hCb
      have htake : l.take (n + 1) = l.take n ++ [r] := by rw [List.take_succ_eq_append_getElem hlt, hr, List.getD_eq_getElem?_getD, List.getElem?_eq_getElem hlt]; rfl
      have hmem : r ∈ l := by rw [hr, List.getD_eq_getElem?_getD, List.getElem?_eq_getElem hlt]; exact List.getElem_mem hlt
      have HFR := Aside0.mk (jFrame.calls (V_arg hCb hcb))
      have HTK := Aside0.mk htake
      have HMEM := Aside0.mk hmem
      have en : wrap64 ((n : Int) + 1) = ((n + 1 : Nat) : Int) := w64n (by have := HL.out; omega)
      obtain ⟨E, hE⟩ : ∃ E, E = frE r := ⟨_, rfl⟩
      have HE := Aside0.mk hE
      rw [← hE] at HFR
      clear hr hcb hCb htake hmem hE
      go_wp2_with fail
      refine HFR.out.mono ?_
      rintro e w1 ⟨v1, rfl, hR, hb⟩
      have HB1 := Aside0.mk (HB.out.trans (hb.mono HB.out.size))
      have HO1 := Aside0.mk (Kd.R_below HO.out hb)
      obtain ⟨A1, c1, rfl⟩ := Kd.R_slice hR
      have HR := Aside0.mk hR
      clear hb hR HFR hx
      by_cases hE0 : E = 0
      case neg =>
        have hEb : (E != 0) = true := bne_iff_ne.mpr hE0
        have hE1 : E = 1 := by rw [HE.out] at hE0 ⊢; exact (frE_cases r).elim (fun h => absurd h hE0) id
        have e1 : frsE l ahead d = 1 := if_neg (fun h => hE0 (by rw [HE.out]; exact h r HMEM.out))
        have HF := Aside0.mk e1
        subst hE1
        clear e1 hE0
        go_wp2_with fail
        go_ret2
        refine ⟨_, by rw [HF.out]; rfl, ?_, HB1.out⟩
        unfold frsL
        rw [HF.out, if_neg (by decide)]
        exact Kd.R_nil _ _ _ _ _
      have hEb : (E != 0) = false := bne_eq_false_iff_eq.mpr hE0
      have HE0 := Aside0.mk hE0
      have HR2 := Aside0.mk (show Rb w1.heap.size w1 (.slice none 0 0) [] ∧ (Kd.int .u8).C w1 A1 (if E = 0 then frame r else []).length (if E = 0 then frame r else []) from ⟨Kd.R_nil _ _ _ _ _, by have := (Kd.R_reads' HR.out).2.2; exact this⟩)
      rw [if_pos hE0] at HR2 HR ⊢
      have HLN := Aside0.mk (show ((flat (l.take n)).length + (frame r).length) * 1 ≤ 140737488355328 from by
        have h1 := flat_len HK.out
        have h2 : r.length ≤ 16384 := by
          have := HE.out.symm.trans hE0
          unfold frE at this
          split at this
          · cases this
          · omega
        rw [List.length_take] at h1
        rw [frame_len]
        have := HL.out
        omega)
      clear hE0
      go_wp2_with (at_builtin; refine Kd.R_append_row (Value.int .u8) 0 (w0 := W) W.heap.size rfl _ _ 22 5 (.int .u8 0) 1 rfl Try.underlying22 info5 rfl (by decide) (.slice Ao (flat (l.take n)).length co) (flat (l.take n)) (frame r) A1 (frame r).length c1 (fun _ => True) rfl rfl (fun _ _ => trivial) HO1.out HR2.out.2 HB1.out HB1.out.size (by have := HLN.out; omega) ?_; intro v2 w2 ho2 hb2 hg2 hat2)
      have HO2 := Aside0.mk ho2
      have HB2 := Aside0.mk hb2
      clear ho2 hb2 hg2 hat2
      go_wp2_with fail
      rw [en]
      go_roundw
      case rel =>
        refine ⟨_, n + 1, rfl, by omega, rfl, ⟨fun x hx => ?_⟩, ⟨?_⟩, HB2⟩
        · rw [HTK.out] at hx
          rcases List.mem_append.1 hx with hx | hx
          · exact HK.out x hx
          · rw [List.mem_singleton.1 hx, ← HE.out, HE0.out]
        · have := HO2.out
          rw [HTK.out, show flat (l.take n ++ [r]) = flat (l.take n) ++ frame r from by simp [flat]]
          exact this
      case measure => simp [intOf]; omega
    · obtain rfl : n = l.length := by omega
      rw [List.take_length] at HK HO ⊢
      obtain ⟨ok, gv, hJ⟩ := H.out
      have x0 := pw_cell_below HB.out hJ.c0
      have HLF := Aside0.mk (dn_Left (H.out.dn.below HB.out) HG.out)
      have HFE := Aside0.mk (show frsE l ahead d = (if leftN d < ahead + ((flat l).length : Int) then 11 else 0) from if_pos HK.out)
      have hfl := flat_len HK.out
      have hw : wrap64 (ahead + ((flat l).length : Int)) = ahead + ((flat l).length : Int) := by have := HA.out; have := HL.out; unfold wrap64; omega
      clear hJ hfl
      go_wp2_with fail
      refine HLF.out.mono ?_
      rintro e w1 ⟨rfl, hb⟩
      have HB1 := Aside0.mk (HB.out.trans (hb.mono HB.out.size))
      have HO1 := Aside0.mk (Kd.R_below HO.out hb)
      clear hb
      rw [hw]
      by_cases hf : leftN d < ahead + ((flat l).length : Int)
      · have hfb : decide (ahead + ((flat l).length : Int) > leftN d) = true := decide_eq_true hf
        rw [if_pos hf] at HFE
        clear hf
        go_wp2_with fail
        go_ret2
        refine ⟨_, by rw [HFE.out]; rfl, ?_, HB1.out⟩
        unfold frsL
        rw [HFE.out, if_neg (by decide)]
        exact Kd.R_nil _ _ _ _ _
      · have hfb : decide (ahead + ((flat l).length : Int) > leftN d) = false := decide_eq_false hf
        rw [if_neg hf] at HFE
        clear hf
        go_wp2_with fail
        go_ret2
        refine ⟨_, by rw [HFE.out]; rfl, ?_, HB1.out⟩
        unfold frsL
        rw [HFE.out, if_pos rfl]
        exact HO1.out
end Go.Proofs.Ytdlfabbhdelinaa.Q
