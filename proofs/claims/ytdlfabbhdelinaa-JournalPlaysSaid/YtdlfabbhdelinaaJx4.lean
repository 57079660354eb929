/- The document's journal, walked: its machine, frames, Add, Commit, Snapshot, what would be done. No condition but those typed. -/
import Derived.Test.YtdlfabbhdelinaaShort
import Derived.Test.YtdlfabbhdelinaaWalk0
import Derived.Test.YtdlfabbhdelinaaDisk09
import Derived.Test.YtdlfabbhdelinaaJx2
import Derived.Test.YtdlfabbhdelinaaJw8
import Derived.Outline
namespace Go.Proofs.Ytdlfabbhdelinaa.Q
open Go.RowKit Go.Proofs.YtdlfabbhdelinaaW.PrintWords Go.Proofs.YtdlfabbhdelinaaW.PrintLast Go.Proofs.YtdlfabbhdelinaaW.PrintMore
open Go.Proofs.Ytdlfabbhdelinaa.Dk Go.Proofs.Ytdlfabbhdelinaa.Sh
attribute [local go_sem] max2_int min2_int max_two min_two max_three min_three max_four min_four   -- for this text's walks alone
set_option linter.unusedVariables false
set_option linter.unusedSimpArgs false
set_option maxRecDepth 100000
/-- The same, however long. -/
theorem frame_evL {b : List Int} (hb : Jf.Bys b) : Ev (fun k => F.cringleref10_Frame.f k b) ((if frE b = 0 then frame b else []), frE b) := by
  by_cases h : b.length ≤ 2000000
  · exact Jf.frame_ev hb h
  · have e : frE b = 1 := if_pos (.inr (by omega))
    rw [e]
    refine Ev.congr (fun k => by unfold F.cringleref10_Frame.f; rw [if_neg (by omega), decide_eq_true (by omega)]) ?_
    exact Ev.step (f := fun _ => some ([], 1)) (fun k => by simp [F.cringleref10_Frame.j0]) (Ev.now _)
/-- The document's disk and journal within their machine: blocks T. -/
structure Rj (ok : Nat → Prop) (gv : Value) (T : Nat → Prop) (g kb : Nat) (d : D) (j : J) (W : World) : Prop where
  at_ : Dr.At g ok d W
  ok_ : ∀ k, ok k → k < W.heap.size → T k
  blk : Blk.At kb #[.pointer (some ⟨g, 0, none⟩), gv, .int .i64 j.many] 70 W
  view : Vb ok W gv j.group
  nk : ¬ ok kb
  sg : T g
  sk : T kb
  ne : kb ≠ g
  lim : ∀ k, T k → k < W.heap.size
def Rn (T : Nat → Prop) (g kb : Nat) (d : D) (j : J) (W : World) : Prop := ∃ ok gv, Rj ok gv T g kb d j W
namespace Rj
variable {ok : Nat → Prop} {gv : Value} {T : Nat → Prop} {g kb : Nat} {d d' : D} {j : J} {W W1 : World}
theorem below (h : Rj ok gv T g kb d j W) (hb : Below W.heap.size W W1) : Rj (fun k => ok k ∧ (k < W.heap.size ∨ W1.heap.size ≤ k)) gv T g kb d j W1 :=
  ⟨h.at_.skip hb, fun k hk hl => h.ok_ k hk.1 (hk.2.elim id (fun hh => by omega)), h.blk.below hb h.blk.lt, Kd.V_mono (Kd.V_below (Kd.V_bound h.view) hb) (fun k hk => ⟨hk.1, .inl hk.2⟩), fun hh => h.nk hh.1, h.sg, h.sk, h.ne, fun k hk => Nat.lt_of_lt_of_le (h.lim k hk) hb.size⟩
theorem tn (h : Rj ok gv T g kb d j W) (hT : Tn g W W1) (hA : Dr.At g ok d' W1) : Rj ok gv (fun k => T k ∨ (W.heap.size ≤ k ∧ k < W1.heap.size)) g kb d' j W1 :=
  ⟨hA, fun k hk hl => (Nat.lt_or_ge k W.heap.size).elim (fun hh => .inl (h.ok_ k hk hh)) (fun hh => .inr ⟨hh, hl⟩), blk_tn h.blk hT h.ne, V_tn h.view h.at_.nok hT, h.nk, .inl h.sg, .inl h.sk, h.ne, fun k hk => hk.elim (fun hh => Nat.lt_of_lt_of_le (h.lim k hh) hT.size) (fun hh => hh.2)⟩
theorem c0 (h : Rj ok gv T g kb d j W) : W.cell? ⟨kb, 0, none⟩ = some (.pointer (some ⟨g, 0, none⟩)) := h.blk.cell 0
theorem c1 (h : Rj ok gv T g kb d j W) : W.cell? ⟨kb, 1, none⟩ = some gv := h.blk.cell 1
theorem c2 (h : Rj ok gv T g kb d j W) : W.cell? ⟨kb, 2, none⟩ = some (.int .i64 j.many) := h.blk.cell 2
theorem act (h : Rj ok gv T g kb d j W) {f : FuncId} {args : Array Value} {r : Value} (hc : Dr.At g ok d W → Calls Try.prog f args W fun e w' => e = .returned r ∧ Dr.At g ok d' w' ∧ Tn g W w') :
    Calls Try.prog f args W fun e w' => e = .returned r ∧ ∃ T', Rj ok gv T' g kb d' j w' ∧ Mv T T' W w' := by
  refine (hc h.at_).mono ?_
  rintro e w' ⟨he, hA', hT⟩
  exact ⟨he, _, h.tn hT hA', Mv.of_tn hT h.sg⟩
/-- Another's blocks have turned. -/
theorem back {S S' : Nat → Prop} (h : Rj ok gv T g kb d j W) (m : Mv S S' W W1) (hd : ∀ k, S k → T k → False) : Rj (fun k => ok k ∧ (k < W.heap.size ∨ W1.heap.size ≤ k)) gv T g kb d j W1 := by
  have hk : ∀ k, T k → W1.heap[k]? = W.heap[k]? := fun k hk => m.keep k (h.lim k hk) (fun hs => hd k hs hk)
  refine ⟨h.at_.apart m.size (hk g h.sg) (fun k hk2 hl => hk k (h.ok_ k hk2 hl)), fun k hk hl => h.ok_ k hk.1 (hk.2.elim id (fun hh => by omega)), (hk kb h.sk).trans h.blk, ?_, fun hh => h.nk hh.1, h.sg, h.sk, h.ne, fun k hk => Nat.lt_of_lt_of_le (h.lim k hk) m.size⟩
  exact Kd.V_mono (Kd.V_step (Kd.V_bound h.view) (fun k hk2 hl => hk k (h.ok_ k hk2.1 hl))) (fun k hk => ⟨hk.1, .inl hk.2⟩)
theorem setGroup (h : Rj ok gv T g kb d j W) {v : Value} {x : List Int} (hv : Vb ok W v x) : Rj ok v T g kb d ⟨j.live, x, j.many⟩ (W.setCell ⟨kb, 1, none⟩ v) :=
  ⟨h.at_.far h.ne h.nk _, fun k hk hl => h.ok_ k hk (by simpa [World.setCell] using hl), h.blk.set 1 v, V_tn hv h.nk ((Tn.refl kb W).set_own 1 v), h.nk, h.sg, h.sk, h.ne, fun k hk => by simpa [World.setCell] using h.lim k hk⟩
theorem setMany (h : Rj ok gv T g kb d j W) (n : Int) : Rj ok gv T g kb d ⟨j.live, j.group, n⟩ (W.setCell ⟨kb, 2, none⟩ (.int .i64 n)) :=
  ⟨h.at_.far h.ne h.nk _, fun k hk hl => h.ok_ k hk (by simpa [World.setCell] using hl), h.blk.set 2 _, V_tn h.view h.nk ((Tn.refl kb W).set_own 2 _), h.nk, h.sg, h.sk, h.ne, fun k hk => by simpa [World.setCell] using h.lim k hk⟩
end Rj
theorem Rn.below {T : Nat → Prop} {g kb : Nat} {d : D} {j : J} {W W1 : World} (h : Rn T g kb d j W) (hb : Below W.heap.size W W1) : Rn T g kb d j W1 := by
  obtain ⟨ok, gv, h⟩ := h
  exact ⟨_, gv, h.below hb⟩
theorem Rn.act {T : Nat → Prop} {g kb : Nat} {d d' : D} {j : J} {W : World} (h : Rn T g kb d j W) {f : FuncId} {args : Array Value} {r : Value} (hc : ∀ ok, Dr.At g ok d W → Calls Try.prog f args W fun e w' => e = .returned r ∧ Dr.At g ok d' w' ∧ Tn g W w') :
    Calls Try.prog f args W fun e w' => e = .returned r ∧ ∃ T', Rn T' g kb d' j w' ∧ Mv T T' W w' := by
  obtain ⟨ok, gv, h⟩ := h
  refine (h.act (hc ok)).mono ?_
  rintro e w' ⟨he, T', hJ, hM⟩
  exact ⟨he, T', ⟨ok, gv, hJ⟩, hM⟩
theorem Rn.back {S S' T : Nat → Prop} {g kb : Nat} {d : D} {j : J} {W W1 : World} (h : Rn T g kb d j W) (m : Mv S S' W W1) (hd : ∀ k, S k → T k → False) : Rn T g kb d j W1 := by
  obtain ⟨ok, gv, h⟩ := h
  exact ⟨_, gv, h.back m hd⟩
def allBys (l : List (List Int)) : Prop := ∀ r ∈ l, Jf.Bys r
open Classical in
noncomputable def okB (l : List (List Int)) : Bool := if allOk l then true else false
set_option maxHeartbeats 4000000 in
theorem rframes.calls {W : World} {A : Option Addr} {c : Nat} {l : List (List Int)} (hC : (Kd.slice 5 (Kd.int .u8)).C W A l.length l) (hl : l.length ≤ 1000) (hby : allBys l) :
    Calls Try.prog 74 #[.slice A l.length c] W fun e w' => ∃ v, e = .returned (.tuple #[v, .bool (okB l)]) ∧ Rb W.heap.size w' v (if okB l = true then flat l else []) ∧ Below W.heap.size W w' := by
  have HC := Aside0.mk hC
  have HL := Aside0.mk hl
  have HBY := Aside0.mk hby
  clear hC hl hby
  obtain ⟨OB, hOB⟩ : ∃ OB, OB = okB l := ⟨_, rfl⟩
  obtain ⟨fl, hfl⟩ : ∃ fl, fl = (if okB l = true then flat l else []) := ⟨_, rfl⟩
  have HOB := Aside0.mk hOB
  have HFL := Aside0.mk hfl
  rw [← hfl, ← hOB]
  clear hOB hfl
  go_enter Try.func74, Try.ntmps74
  go_wp2_with fail
  go_loopw [4, 5] (fun uo jj wr => ∃ (vo : Value) (n : Nat), vo = uo ∧ n ≤ l.length ∧ jj = .int .i64 n ∧ Aside0 (allOk (l.take n)) ∧ Aside0 (Rb W.heap.size wr vo (flat (l.take n))) ∧ Aside0 (Below W.heap.size W wr)) (fun _ jj _ => l.length - (intOf jj).toNat)
  case atStart => exact ⟨_, 0, rfl, Nat.zero_le _, rfl, ⟨fun r hr => by simp at hr⟩, ⟨Kd.R_nil _ _ _ _ _⟩, ⟨Below.refl _ _⟩⟩
  case round =>
    obtain ⟨vo, n, hvo, hn, rfl, HK, HO, HB⟩ := hrel
    subst hvo
    obtain ⟨Ao, co, rfl⟩ := Kd.R_slice HO.out
    by_cases hlt : n < l.length
    · obtain ⟨ad, B, cb, e0, hx, hcb, hCb⟩ := rows_at (Kd.C_below HC.out HB.out) hlt
      subst e0
      obtain ⟨r, hr⟩ : ∃ r, r = l.getD n [] := ⟨_, rfl⟩
      rw [← hr] at hx hcb hCb
      have htake : l.take (n + 1) = l.take n ++ [r] := by rw [List.take_succ_eq_append_getElem hlt, hr, List.getD_eq_getElem?_getD, List.getElem?_eq_getElem hlt]; rfl
      have hmem : r ∈ l := by rw [hr, List.getD_eq_getElem?_getD, List.getElem?_eq_getElem hlt]; exact List.getElem_mem hlt
      obtain ⟨E, hE⟩ : ∃ E, E = frE r := ⟨_, rfl⟩
      have hrl : r.length ≤ 2000000 ∨ 2000000 < r.length := by omega
      obtain ⟨kk, hkk⟩ := Ev.rounds (frame_evL (HBY.out r hmem))
      rw [← hE] at hkk
      have HFR := Aside0.mk (F.cringleref10_Frame.calls kk B cb r _ _ wr hCb hcb hkk)
      have HTK := Aside0.mk htake
      have HMEM := Aside0.mk hmem
      have en : wrap64 ((n : Int) + 1) = ((n + 1 : Nat) : Int) := w64n (by have := HL.out; omega)
      have HE := Aside0.mk hE
      have hlti : decide ((n : Int) < (l.length : Int)) = true := decide_eq_true (by omega)
      clear hr hcb hCb htake hmem hE hkk hrl
      go_wp2_with fail
      refine HFR.out.mono ?_
      rintro e w1 ⟨v1, rfl, hR, hb⟩
      have HB1 := Aside0.mk (HB.out.trans (hb.mono HB.out.size))
      have HO1 := Aside0.mk (Kd.R_below HO.out hb)
      obtain ⟨A1, c1, rfl⟩ := Kd.R_slice hR
      have HR := Aside0.mk hR
      clear hb hR HFR hx
      by_cases hE0 : E = 0
      case neg =>
        have hEb : (E != 0) = true := bne_iff_ne.mpr hE0
        have e1 : okB l = false := if_neg (fun h => hE0 (by rw [HE.out]; exact h r HMEM.out))
        have HF := Aside0.mk e1
        rw [if_neg hE0] at HR ⊢
        clear e1 hE0
        go_wp2_with fail
        go_ret2
        refine ⟨_, by rw [HOB.out, HF.out]; rfl, ?_, HB1.out⟩
        rw [HFL.out, HF.out, if_neg (by decide)]
        exact Kd.R_nil _ _ _ _ _
      have hEb : (E != 0) = false := bne_eq_false_iff_eq.mpr hE0
      have HE0 := Aside0.mk hE0
      rw [if_pos hE0] at HR ⊢
      have HR2 := Aside0.mk (show (Kd.int .u8).C w1 A1 (frame r).length (frame r) from (Kd.R_reads' HR.out).2.2)
      have HLN := Aside0.mk (show ((flat (l.take n)).length + (frame r).length) * 1 ≤ 140737488355328 from by
        have h1 := flat_len HK.out
        have h2 := (Jr.ok_len (HE.out.symm.trans hE0)).2
        rw [List.length_take] at h1
        rw [frame_len]
        have := HL.out
        omega)
      clear hE0
      go_wp2_with (at_builtin; refine Kd.R_append_row (Value.int .u8) 0 (w0 := W) W.heap.size rfl _ _ 22 5 (.int .u8 0) 1 rfl Try.underlying22 info5 rfl (by decide) (.slice Ao (flat (l.take n)).length co) (flat (l.take n)) (frame r) A1 (frame r).length c1 (fun _ => True) rfl rfl (fun _ _ => trivial) HO1.out HR2.out HB1.out HB1.out.size (by have := HLN.out; omega) ?_; intro v2 w2 ho2 hb2 hg2 hat2)
      have HO2 := Aside0.mk ho2
      have HB2 := Aside0.mk hb2
      clear ho2 hb2 hg2 hat2
      go_wp2_with fail
      rw [en]
      go_roundw
      case rel =>
        refine ⟨_, n + 1, rfl, by omega, rfl, ⟨fun x hx => ?_⟩, ⟨?_⟩, HB2⟩
        · rw [HTK.out] at hx
          rcases List.mem_append.1 hx with hx | hx
          · exact HK.out x hx
          · rw [List.mem_singleton.1 hx, ← HE.out, HE0.out]
        · have := HO2.out
          rw [HTK.out, show flat (l.take n ++ [r]) = flat (l.take n) ++ frame r from by simp [flat]]
          exact this
      case measure => simp [intOf]; omega
    · obtain rfl : n = l.length := by omega
      rw [List.take_length] at HK HO ⊢
      have e1 : okB l = true := if_pos HK.out
      have HF := Aside0.mk e1
      have hlti : decide ((l.length : Int) < (l.length : Int)) = false := decide_eq_false (by omega)
      clear e1
      go_wp2_with fail
      go_ret2
      refine ⟨_, by rw [HOB.out, HF.out]; rfl, ?_, HB.out⟩
      rw [HFL.out, HF.out, if_pos rfl]
      exact HO.out
theorem Rj.relive {ok : Nat → Prop} {gv : Value} {T : Nat → Prop} {g kb : Nat} {d : D} {j : J} {W : World} (h : Rj ok gv T g kb d j W) (i : Bool) : Rj ok gv T g kb d ⟨i, j.group, j.many⟩ W := ⟨h.at_, h.ok_, h.blk, h.view, h.nk, h.sg, h.sk, h.ne, h.lim⟩
theorem okB_yes {l : List (List Int)} (h : okB l = true) : allOk l := by
  unfold okB at h
  split at h
  · assumption
  · cases h
theorem okB_no {l : List (List Int)} (h : okB l = false) : ¬ allOk l := fun hh => by
  unfold okB at h
  rw [if_pos hh] at h
  cases h
theorem flat_most {l : List (List Int)} (h : allOk l) (hl : l.length ≤ 1000) : (flat l).length ≤ 16392000 := by
  have := flat_len h
  omega
theorem w_grp {a b : Nat} (h : a ≤ 2000000) (k : b ≤ 16392000) : wrap64 ((a : Int) + (b : Int)) = (a : Int) + (b : Int) := by unfold wrap64; omega
theorem w_many {m : Int} {n : Nat} (h : 0 ≤ m ∧ m ≤ 1000000) (k : n ≤ 1000) : wrap64 (m + (n : Int)) = m + (n : Int) := by unfold wrap64; omega
set_option maxHeartbeats 4000000 in
theorem rAdd.calls {T : Nat → Prop} {g kb : Nat} {d : D} {j : J} {W : World} (h : Rn T g kb d j W) (hg : Good d) (hj : Jk j) {A : Option Addr} {c : Nat} {l : List (List Int)} (hC : (Kd.slice 5 (Kd.int .u8)).C W A l.length l) (hl : l.length ≤ 1000) (hby : allBys l) :
    Calls Try.prog 57 #[.pointer (some ⟨kb, 0, none⟩), .slice A l.length c] W fun e w' => e = .returned (.int .i64 (frsE l (j.group.length : Int) d)) ∧ ∃ T', Rn T' g kb d (addJ l d j) w' ∧ Mv T T' W w' := by
  have HN := Aside0.mk h
  have HG := Aside0.mk hg
  have HJ := Aside0.mk hj
  have HL := Aside0.mk hl
  have HF := Aside0.mk (rframes.calls (c := c) hC hl hby)
  obtain ⟨E, hE⟩ : ∃ E, E = frsE l (j.group.length : Int) d := ⟨_, rfl⟩
  obtain ⟨j2, hj2⟩ : ∃ j2, j2 = addJ l d j := ⟨_, rfl⟩
  rw [← hE, ← hj2]
  have HE := Aside0.mk hE
  have HJ2 := Aside0.mk hj2
  clear h hg hj hl hC hby hE hj2
  cases hok : okB l
  case false =>
    have hna := okB_no hok
    rw [hok] at HF
    rw [if_neg (by decide)] at HF
    have e1 : E = 1 := HE.out.trans (if_neg hna)
    have e2 : j = j2 := (HJ2.out.trans (if_neg (by rw [← HE.out, e1]; decide))).symm
    subst e1 e2
    clear hok hna
    go_enter Try.func57, Try.ntmps57
    go_wp2_with fail
    refine HF.out.mono ?_
    rintro e w1 ⟨v, rfl, hR, hb⟩
    have HB := Aside0.mk hb
    clear hR hb HF
    go_wp2_with fail
    go_ret
    exact ⟨rfl, T, HN.out.below HB.out, Mv.of_below T HB.out⟩
  have hall := okB_yes hok
  rw [hok] at HF
  rw [if_pos rfl] at HF
  have HFL := Aside0.mk (flat_most hall HL.out)
  obtain ⟨fs, hfs⟩ : ∃ fs, fs = flat l := ⟨_, rfl⟩
  rw [← hfs] at HF HFL
  have hE1 : E = if leftN d < (j.group.length : Int) + (fs.length : Int) then 11 else 0 := by rw [HE.out, hfs]; exact if_pos hall
  have HE1 := Aside0.mk hE1
  have HFS := Aside0.mk hfs
  have hw := w_grp HJ.out.grp HFL.out
  clear hok hall hfs hE1
  go_enter Try.func57, Try.ntmps57
  go_wp2_with fail
  refine HF.out.mono ?_
  rintro e w1 ⟨v, rfl, hR, hb⟩
  obtain ⟨Av, cv, rfl⟩ := Kd.R_slice hR
  have HR := Aside0.mk hR
  have HB := Aside0.mk hb
  obtain ⟨ok, gv, ho⟩ := HN.out.below hb
  obtain ⟨Ag, cg, rfl⟩ := Kd.V_slice ho.view
  have x0 := ho.c0
  have x1 := ho.c1
  have HO := Aside0.mk ho
  have HLF := Aside0.mk (rLeft.calls (w := w1.drew) (ho.at_.below (below_drew (Below.refl _ _))) HG.out.room)
  obtain ⟨lf, hlf⟩ : ∃ lf, lf = leftN d := ⟨_, rfl⟩
  rw [← hlf] at HLF HE1
  clear hR hb ho HF hlf
  have REGPOINT : True := trivial
  by_cases hc : lf < (j.group.length : Int) + (fs.length : Int)
  · have hcb : decide ((j.group.length : Int) + (fs.length : Int) > lf) = true := decide_eq_true hc
    have hcb2 : decide (lf < (j.group.length : Int) + (fs.length : Int)) = true := decide_eq_true hc
    have e1 : E = 11 := HE1.out.trans (if_pos hc)
    have e2 : j = j2 := (HJ2.out.trans (if_neg (by rw [← HE.out, e1]; decide))).symm
    subst e1 e2
    clear hc
    go_wp2_with fail
    refine start_ (n := 15) (S := fun w' => w'.cell? ⟨kb, 0, none⟩ = some (.pointer (some ⟨g, 0, none⟩)) ∧ w'.cell? ⟨kb, 1, none⟩ = some (.slice Ag j.group.length cg)) (ds := []) (bl 15 0x0) (by kernel_rfl) rfl (by kernel_rfl) ⟨x0, x1⟩ (fun hHeld => ?_)
    refine pu 0 (some 16) (bl 15 0x1) ?_
    refine pu 1 (some 17) (bl 15 0x3) ?_
    refine pu 2 (some 18) (bl 15 0x7) ?_
    refine pu 5 (some 21) (bl 15 0x27) ?_
    refine pu 6 (some 22) (bl 15 0x67) ?_
    refine pu 8 (some 24) (bl 15 0x167) ?_
    refine pu 9 (some 25) (bl 15 0x367) ?_
    refine pu 10 (some 26) (bl 15 0x767) ?_
    refine tk 3 (some 19) (bl 15 0x76f) hHeld ?_
    refine pu 4 (some 20) (bl 15 0x77f) ?_
    refine pu 7 (some 23) (bl 15 0x7ff) ?_
    refine tk 11 (some 27) (bl 15 0xfff) hHeld ?_
    refine one_ (i := 12) (N := some 28) (bl 15 0x1fff) rfl rfl (by kernel_rfl) (by decide) (fun K hK => ?_)
    refine goes_ Try.func36 (by kernel_rfl) rfl #[.pointer (some ⟨g, 0, none⟩)] (by rfl) rfl rfl (by simp only [List.map_toArray, List.map_cons, List.map_nil]; rfl) ?_
    with_reducible refine (HLF.out).mono ?_
    rintro e w3 ⟨rfl, rfl⟩
    refine ⟨_, rfl, ?_⟩
    refine hK.out _ _ ⟨x0, x1⟩ (fun hHeld => ?_)
    clear hK K
    refine norm_ (a' := ?_) ?_ ?_
    rotate_left
    · show Act.put _ (some 28) _ = _
      simp only [Act.put, List.setIfInBounds_toArray, List.set_cons_zero, List.set_cons_succ, i64_w, i32_w]
      rfl
    refine pu 13 (some 29) (bl 15 0x3fff) ?_
    refine pu 14 (some 15) (bl 15 0x7fff) ?_
    refine done_ (by kernel_rfl) ?_
    go_wp2_with fail
    go_ret
    have hbb := (HB.out.trans ((below_drew (Below.refl _ w1)).trans (below_drew (Below.refl _ _)) |>.mono HB.out.size))
    exact ⟨rfl, T, HN.out.below hbb, Mv.of_below T hbb⟩
  have hcb : decide ((j.group.length : Int) + (fs.length : Int) > lf) = false := decide_eq_false hc
  have hcb2 : decide (lf < (j.group.length : Int) + (fs.length : Int)) = false := decide_eq_false hc
  have e1 : E = 0 := HE1.out.trans (if_neg hc)
  have e2 : j2 = ⟨j.live, j.group ++ fs, j.many + l.length⟩ := HJ2.out.trans (by rw [HFS.out]; exact if_pos (by rw [← HE.out, e1]))
  have HJ22 := Aside0.mk e2
  subst e1
  clear hc e2
  have hwm := w_many HJ.out.many HL.out
  have HOd := Aside0.mk (HO.out.below ((below_drew (Below.refl _ w1)).trans (below_drew (Below.refl _ _))))
  have HVW := Aside0.mk (Kd.V_below HO.out.view ((below_drew (Below.refl _ w1)).trans (below_drew (Below.refl _ _))))
  have HRd := Aside0.mk (Kd.R_below HR.out ((below_drew (Below.refl _ w1)).trans (below_drew (Below.refl _ _))))
  have HLS := Aside0.mk (show (j.group.length + fs.length) * 1 ≤ 140737488355328 by have := HJ.out.grp; have := HFL.out; omega)
  have HBd := Aside0.mk (show Below w1.heap.size w1 w1.drew.drew from (below_drew (Below.refl _ w1)).trans (below_drew (Below.refl _ _)))
  go_wp2_with fail
  refine start_ (n := 15) (S := fun w' => w'.cell? ⟨kb, 0, none⟩ = some (.pointer (some ⟨g, 0, none⟩)) ∧ w'.cell? ⟨kb, 1, none⟩ = some (.slice Ag j.group.length cg)) (ds := []) (bl 15 0x0) (by kernel_rfl) rfl (by kernel_rfl) ⟨x0, x1⟩ (fun hHeld => ?_)
  refine pu 0 (some 16) (bl 15 0x1) ?_
  refine pu 1 (some 17) (bl 15 0x3) ?_
  refine pu 2 (some 18) (bl 15 0x7) ?_
  refine pu 5 (some 21) (bl 15 0x27) ?_
  refine pu 6 (some 22) (bl 15 0x67) ?_
  refine pu 8 (some 24) (bl 15 0x167) ?_
  refine pu 9 (some 25) (bl 15 0x367) ?_
  refine pu 10 (some 26) (bl 15 0x767) ?_
  refine tk 3 (some 19) (bl 15 0x76f) hHeld ?_
  refine pu 4 (some 20) (bl 15 0x77f) ?_
  refine pu 7 (some 23) (bl 15 0x7ff) ?_
  refine tk 11 (some 27) (bl 15 0xfff) hHeld ?_
  refine one_ (i := 12) (N := some 28) (bl 15 0x1fff) rfl rfl (by kernel_rfl) (by decide) (fun K hK => ?_)
  refine goes_ Try.func36 (by kernel_rfl) rfl #[.pointer (some ⟨g, 0, none⟩)] (by rfl) rfl rfl (by simp only [List.map_toArray, List.map_cons, List.map_nil]; rfl) ?_
  with_reducible refine (HLF.out).mono ?_
  rintro e w3 ⟨rfl, rfl⟩
  refine ⟨_, rfl, ?_⟩
  refine hK.out _ _ ⟨x0, x1⟩ (fun hHeld => ?_)
  clear hK K
  refine norm_ (a' := ?_) ?_ ?_
  rotate_left
  · show Act.put _ (some 28) _ = _
    simp only [Act.put, List.setIfInBounds_toArray, List.set_cons_zero, List.set_cons_succ, i64_w, i32_w]
    rfl
  refine pu 13 (some 29) (bl 15 0x3fff) ?_
  refine pu 14 (some 15) (bl 15 0x7fff) ?_
  refine done_ (by kernel_rfl) ?_
  go_wp2_with (first | (at_builtin; refine Kd.R_append_row (Value.int .u8) 0 (w0 := w1) w1.heap.size rfl _ _ 22 5 (.int .u8 0) 1 rfl Try.underlying22 info5 rfl (by decide) (.slice none 0 0) [] j.group Ag j.group.length cg (fun _ => True) rfl rfl (fun _ _ => trivial) (Kd.R_nil _ _ _ _ _) (Kd.V_reads' HVW.out).2.2 HBd.out (Nat.le_refl _) (by have := HLS.out; simp; omega) ?_; intro v3 w3 ho3 hb3 hg3 hat3; rw [List.nil_append] at ho3; obtain ⟨A3, c3, rfl⟩ := Kd.R_slice ho3; have HO3 := Aside0.mk ho3; have HB3 := Aside0.mk hb3; clear ho3 hb3 hg3 hat3; have hr3 := (Kd.R_reads' (Kd.R_below HR.out HB3.out)).2.2; have HR3 := Aside0.mk hr3; clear hr3; have y1 : w3.cell? ⟨kb, 1, none⟩ = some (.slice Ag j.group.length cg) := (HO.out.below HB3.out).c1) | (at_builtin; refine Kd.R_append_row (Value.int .u8) 0 (w0 := w1) w1.heap.size rfl _ _ 22 5 (.int .u8 0) 1 rfl Try.underlying22 info5 rfl (by decide) (.slice A3 j.group.length c3) j.group fs Av fs.length cv (fun _ => True) rfl rfl (fun _ _ => trivial) HO3.out HR3.out HB3.out HB3.out.size (by have := HLS.out; omega) ?_; intro v4 w4 ho4 hb4 hg4 hat4; (obtain ⟨zs, hz⟩ : ∃ zs, zs = j.group ++ fs := ⟨_, rfl⟩); rw [← hz] at ho4; obtain ⟨A4, c4, rfl⟩ := Kd.R_slice ho4; have HO4 := Aside0.mk ho4; have HB4 := Aside0.mk hb4; have HZ := Aside0.mk hz; clear ho4 hb4 hg4 hat4 hz; have HN4 := Aside0.mk (HO.out.tn (Tn.of_below (g := g) HB4.out) (HO.out.at_.below HB4.out)); have y1 : w4.cell? ⟨kb, 1, none⟩ = some (.slice Ag j.group.length cg) := HN4.out.c1; have y2 : w4.cell? ⟨kb, 2, none⟩ = some (.int .i64 j.many) := HN4.out.c2; have z1 : w4.frozen? ⟨kb, 1, none⟩ = false := HN4.out.blk.frozen 1; have z2 : w4.frozen? ⟨kb, 2, none⟩ = false := HN4.out.blk.frozen 2))
  go_wp2_with fail
  go_ret
  have hv : Vb ok w4 (.slice A4 zs.length c4) zs := V_own HO4.out (fun k hk => HO.out.at_.fresh k hk)
  have hf := (HN4.out.setGroup hv).setMany (j.many + (l.length : Int))
  have hm := (Mv.of_below T HB.out).trans ((Mv.of_tn (Tn.of_below (g := g) HB4.out) HO.out.sg).trans ((mv_set (i := 1) (v := .slice A4 zs.length c4) HN4.out.sk).trans (mv_set (i := 2) (v := .int .i64 (j.many + (l.length : Int))) HN4.out.sk)))
  refine ⟨rfl, _, ?_, hm⟩
  rw [HJ22.out, ← HZ.out]
  exact ⟨_, _, hf⟩
theorem Rj.r6 {ok : Nat → Prop} {gv : Value} {T : Nat → Prop} {g kb : Nat} {d : D} {j : J} {W : World} (h : Rj ok gv T g kb d j W) : W.cell? ⟨g, 6, none⟩ = some (.int .i64 d.root) := by
  obtain ⟨v0, v1, v2, v3, HA, _⟩ := h.at_.ex
  exact HA.cell 6
theorem root_act {m : Int} {dof : D → D} (h : ∀ d, (dof d).root = d.root) (d : D) : (actD m dof d).root = d.root := by
  unfold actD
  split
  · rfl
  split
  · exact h _
  split
  · split
    · exact h _
    · rfl
  · exact h _
theorem root_gate {d d' : D} {f : Int} (h : d'.root = d.root) : (gateD d f d').root = d.root := by
  unfold gateD
  split
  · rfl
  · exact h
theorem root_putq (i : Bool) (x : Fl) (d : D) : (d.put i x).root = d.root := by cases i <;> rfl
theorem apD_root (f : Int) (b : List Int) (d : D) : (apD f b d).root = d.root := root_gate (root_act (fun d => root_putq _ _ _) d)
theorem syD_root (f : Int) (d : D) : (syD f d).root = d.root := root_gate (root_act (fun d => root_putq _ _ _) d)
theorem trD_root (f n : Int) (d : D) : (trD f n d).root = d.root := root_gate (root_act (fun d => root_putq _ _ _) d)
theorem grp_small {j : J} (h : Jk j) : j.group.length ≤ 2000000 := h.grp
set_option maxHeartbeats 4000000 in
theorem rCommit.calls {T : Nat → Prop} {g kb : Nat} {d : D} {j : J} {W : World} (h : Rn T g kb d j W) (hg : Good d) (hj : Jk j) (hr : d.root = iv j.live) :
    Calls Try.prog 55 #[.pointer (some ⟨kb, 0, none⟩)] W fun e w' => e = .returned (.int .i64 (comE d j)) ∧ ∃ T', Rn T' g kb (comD d j) (comJ d j) w' ∧ Mv T T' W w' := by
  obtain ⟨ok, gv, ho⟩ := h
  obtain ⟨Ag, cg, rfl⟩ := Kd.V_slice ho.view
  have HO := Aside0.mk ho
  have x2 := ho.c2
  unfold comE comD comJ
  by_cases hm : j.many = 0
  · rw [if_pos hm, if_pos hm, if_pos hm]
    have hmb : (j.many == 0) = true := beq_iff_eq.mpr hm
    clear hm ho hg hj hr
    go_enter Try.func55, Try.ntmps55
    go_wp2_with fail
    go_ret
    exact ⟨rfl, T, ⟨_, _, HO.out⟩, Mv.refl _ _⟩
  have hmb : (j.many == 0) = false := beq_eq_false_iff_ne.mpr hm
  rw [if_neg hm, if_neg hm, if_neg hm]
  have HOd := Aside0.mk (ho.below (below_drew (Below.refl _ W)))
  have HAP := Aside0.mk (HOd.out.act (fun hA => rAppend.calls hA hg j.live HOd.out.view hA.nok (grp_small hj)))
  have HG1 := Aside0.mk (good_apD hg (iv j.live) j.group)
  have x0 := ho.c0
  have x1 := ho.c1
  have x6 : W.cell? ⟨g, 6, none⟩ = some (.int .i64 (iv j.live)) := ho.r6.trans (by rw [hr])
  have HRT := Aside0.mk (show (apD (iv j.live) j.group d).root = iv j.live by rw [apD_root, hr])
  obtain ⟨E, hE⟩ : ∃ E, E = apE (iv j.live) j.group d := ⟨_, rfl⟩
  obtain ⟨d1, hd1⟩ : ∃ d1, d1 = apD (iv j.live) j.group d := ⟨_, rfl⟩
  rw [← hE, ← hd1] at HAP ⊢
  rw [← hd1] at HG1 HRT
  clear hm ho hg hj hr hE hd1
  by_cases hE0 : E ≠ 0
  · rw [if_pos hE0, if_pos hE0, if_pos hE0]
    have hEb : (E == 0) = false := by simpa using hE0
    clear hE0
    go_enter Try.func55, Try.ntmps55
    go_wp2_with fail
    refine start_ (n := 17) (S := fun w' => w'.cell? ⟨kb, 0, none⟩ = some (.pointer (some ⟨g, 0, none⟩)) ∧ w'.cell? ⟨g, 6, none⟩ = some (.int .i64 (iv j.live)) ∧ w'.cell? ⟨kb, 1, none⟩ = some (.slice Ag j.group.length cg)) (ds := []) (bl 17 0x0) (by kernel_rfl) rfl (by kernel_rfl) ⟨x0, x6, x1⟩ (fun hHeld => ?_)
    refine pu 0 (some 9) (bl 17 0x1) ?_
    refine pu 1 (some 10) (bl 17 0x3) ?_
    refine pu 2 (some 11) (bl 17 0x7) ?_
    refine pu 4 (some 13) (bl 17 0x17) ?_
    refine pu 5 (some 14) (bl 17 0x37) ?_
    refine pu 6 (some 15) (bl 17 0x77) ?_
    refine pu 11 (some 20) (bl 17 0x877) ?_
    refine pu 12 (some 21) (bl 17 0x1877) ?_
    refine pu 13 (some 22) (bl 17 0x3877) ?_
    refine tk 3 (some 12) (bl 17 0x387f) hHeld ?_
    refine tk 7 (some 16) (bl 17 0x38ff) hHeld ?_
    refine pu 8 (some 17) (bl 17 0x39ff) ?_
    refine pu 9 (some 18) (bl 17 0x3bff) ?_
    refine tk 10 (some 19) (bl 17 0x3fff) hHeld ?_
    refine tk 14 (some 23) (bl 17 0x7fff) hHeld ?_
    refine one_ (i := 15) (N := some 24) (bl 17 0xffff) rfl rfl (by kernel_rfl) (by decide) (fun K hK => ?_)
    refine goes_ Try.func73 (by kernel_rfl) rfl #[.pointer (some ⟨g, 0, none⟩), .int .i64 (iv j.live), .slice Ag j.group.length cg] (by rfl) rfl rfl (by simp only [List.map_toArray, List.map_cons, List.map_nil]; rfl) ?_
    with_reducible refine (HAP.out).mono ?_
    rintro e w3 ⟨rfl, S3, hJ_, hM_⟩
    refine ⟨_, rfl, ?_⟩
    have HJ3 := Aside0.mk hJ_
    have HM3 := Aside0.mk ((Mv.of_below T (below_drew (Below.refl _ W))).trans hM_)
    have q6 : w3.cell? ⟨g, 6, none⟩ = some (.int .i64 (iv j.live)) := hJ_.r6.trans (by rw [HRT.out])
    clear hJ_ hM_
    refine hK.out _ _ ⟨HJ3.out.c0, q6, HJ3.out.c1⟩ (fun hHeld => ?_)
    clear hK K
    refine norm_ (a' := ?_) ?_ ?_
    rotate_left
    · show Act.put _ (some 24) _ = _
      simp only [Act.put, List.setIfInBounds_toArray, List.set_cons_zero, List.set_cons_succ, i64_w, i32_w]
      rfl
    refine pu 16 (some 3) (bl 17 0x1ffff) ?_
    refine done_ (by kernel_rfl) ?_
    go_wp2_with fail
    go_ret
    exact ⟨rfl, S3, ⟨_, _, HJ3.out⟩, HM3.out⟩
  have hEb : (E == 0) = true := by simpa using hE0
  rw [if_neg hE0, if_neg hE0, if_neg hE0]
  obtain ⟨E2, hE2⟩ : ∃ E2, E2 = syE (iv j.live) d1 := ⟨_, rfl⟩
  by_cases hs : syE (iv j.live) d1 ≠ 0
  · rw [if_pos hs]
    rw [← hE2] at hs ⊢
    have HE2 := Aside0.mk hE2
    have hsb : (E2 == 0) = false := by simpa using hs
    clear hs hE2 hE0

    go_enter Try.func55, Try.ntmps55
    go_wp2_with fail
    refine start_ (n := 17) (S := fun w' => w'.cell? ⟨kb, 0, none⟩ = some (.pointer (some ⟨g, 0, none⟩)) ∧ w'.cell? ⟨g, 6, none⟩ = some (.int .i64 (iv j.live)) ∧ w'.cell? ⟨kb, 1, none⟩ = some (.slice Ag j.group.length cg)) (ds := []) (bl 17 0x0) (by kernel_rfl) rfl (by kernel_rfl) ⟨x0, x6, x1⟩ (fun hHeld => ?_)
    refine pu 0 (some 9) (bl 17 0x1) ?_
    refine pu 1 (some 10) (bl 17 0x3) ?_
    refine pu 2 (some 11) (bl 17 0x7) ?_
    refine pu 4 (some 13) (bl 17 0x17) ?_
    refine pu 5 (some 14) (bl 17 0x37) ?_
    refine pu 6 (some 15) (bl 17 0x77) ?_
    refine pu 11 (some 20) (bl 17 0x877) ?_
    refine pu 12 (some 21) (bl 17 0x1877) ?_
    refine pu 13 (some 22) (bl 17 0x3877) ?_
    refine tk 3 (some 12) (bl 17 0x387f) hHeld ?_
    refine tk 7 (some 16) (bl 17 0x38ff) hHeld ?_
    refine pu 8 (some 17) (bl 17 0x39ff) ?_
    refine pu 9 (some 18) (bl 17 0x3bff) ?_
    refine tk 10 (some 19) (bl 17 0x3fff) hHeld ?_
    refine tk 14 (some 23) (bl 17 0x7fff) hHeld ?_
    refine one_ (i := 15) (N := some 24) (bl 17 0xffff) rfl rfl (by kernel_rfl) (by decide) (fun K hK => ?_)
    refine goes_ Try.func73 (by kernel_rfl) rfl #[.pointer (some ⟨g, 0, none⟩), .int .i64 (iv j.live), .slice Ag j.group.length cg] (by rfl) rfl rfl (by simp only [List.map_toArray, List.map_cons, List.map_nil]; rfl) ?_
    with_reducible refine (HAP.out).mono ?_
    rintro e w3 ⟨rfl, S3, hJ_, hM_⟩
    refine ⟨_, rfl, ?_⟩
    have HJ3 := Aside0.mk hJ_
    have HM3 := Aside0.mk ((Mv.of_below T (below_drew (Below.refl _ W))).trans hM_)
    have q6 : w3.cell? ⟨g, 6, none⟩ = some (.int .i64 (iv j.live)) := hJ_.r6.trans (by rw [HRT.out])
    clear hJ_ hM_
    refine hK.out _ _ ⟨HJ3.out.c0, q6, HJ3.out.c1⟩ (fun hHeld => ?_)
    clear hK K
    refine norm_ (a' := ?_) ?_ ?_
    rotate_left
    · show Act.put _ (some 24) _ = _
      simp only [Act.put, List.setIfInBounds_toArray, List.set_cons_zero, List.set_cons_succ, i64_w, i32_w]
      rfl
    refine pu 16 (some 3) (bl 17 0x1ffff) ?_
    refine done_ (by kernel_rfl) ?_
    have y0 := HJ3.out.c0
    have y6 := q6
    have HSY := Aside0.mk ((HJ3.out.below (below_drew (Below.refl _ w3))).act (fun hA => rSync.calls hA HG1.out j.live))
    rw [← HE2.out] at HSY
    clear x0 x1 x6
    go_wp2_with fail
    refine start_ (n := 13) (S := fun w' => w'.cell? ⟨kb, 0, none⟩ = some (.pointer (some ⟨g, 0, none⟩)) ∧ w'.cell? ⟨g, 6, none⟩ = some (.int .i64 (iv j.live))) (ds := []) (bl 13 0x0) (by kernel_rfl) rfl (by kernel_rfl) ⟨y0, y6⟩ (fun hHeld => ?_)
    refine pu 0 (some 27) (bl 13 0x1) ?_
    refine pu 1 (some 28) (bl 13 0x3) ?_
    refine pu 2 (some 29) (bl 13 0x7) ?_
    refine pu 4 (some 31) (bl 13 0x17) ?_
    refine pu 5 (some 32) (bl 13 0x37) ?_
    refine pu 6 (some 33) (bl 13 0x77) ?_
    refine tk 3 (some 30) (bl 13 0x7f) hHeld ?_
    refine tk 7 (some 34) (bl 13 0xff) hHeld ?_
    refine pu 8 (some 35) (bl 13 0x1ff) ?_
    refine pu 9 (some 36) (bl 13 0x3ff) ?_
    refine tk 10 (some 37) (bl 13 0x7ff) hHeld ?_
    refine one_ (i := 11) (N := some 38) (bl 13 0xfff) rfl rfl (by kernel_rfl) (by decide) (fun K hK => ?_)
    refine goes_ Try.func54 (by kernel_rfl) rfl #[.pointer (some ⟨g, 0, none⟩), .int .i64 (iv j.live)] (by rfl) rfl rfl (by simp only [List.map_toArray, List.map_cons, List.map_nil]; rfl) ?_
    with_reducible refine (HSY.out).mono ?_
    rintro e w4 ⟨rfl, S4, hJ_, hM_⟩
    refine ⟨_, rfl, ?_⟩
    have HJ4 := Aside0.mk hJ_
    have HM4 := Aside0.mk ((HM3.out.trans (Mv.of_below S3 (below_drew (Below.refl _ w3)))).trans hM_)
    have p6 : w4.cell? ⟨g, 6, none⟩ = some (.int .i64 (iv j.live)) := hJ_.r6.trans (by rw [syD_root, HRT.out])
    clear hJ_ hM_
    refine hK.out _ _ ⟨HJ4.out.c0, p6⟩ (fun hHeld => ?_)
    clear hK K
    refine norm_ (a' := ?_) ?_ ?_
    rotate_left
    · show Act.put _ (some 38) _ = _
      simp only [Act.put, List.setIfInBounds_toArray, List.set_cons_zero, List.set_cons_succ, i64_w, i32_w]
      rfl
    refine pu 12 (some 3) (bl 13 0x1fff) ?_
    refine done_ (by kernel_rfl) ?_
    go_wp2_with fail
    go_ret
    exact ⟨rfl, S4, ⟨_, _, HJ4.out⟩, HM4.out⟩
  · rw [if_neg hs]
    have hs0 : syE (iv j.live) d1 = 0 := by simpa using hs
    rw [hs0]
    have HE2 := Aside0.mk hs0
    clear hs hE2 hE0 hs0

    go_enter Try.func55, Try.ntmps55
    go_wp2_with fail
    refine start_ (n := 17) (S := fun w' => w'.cell? ⟨kb, 0, none⟩ = some (.pointer (some ⟨g, 0, none⟩)) ∧ w'.cell? ⟨g, 6, none⟩ = some (.int .i64 (iv j.live)) ∧ w'.cell? ⟨kb, 1, none⟩ = some (.slice Ag j.group.length cg)) (ds := []) (bl 17 0x0) (by kernel_rfl) rfl (by kernel_rfl) ⟨x0, x6, x1⟩ (fun hHeld => ?_)
    refine pu 0 (some 9) (bl 17 0x1) ?_
    refine pu 1 (some 10) (bl 17 0x3) ?_
    refine pu 2 (some 11) (bl 17 0x7) ?_
    refine pu 4 (some 13) (bl 17 0x17) ?_
    refine pu 5 (some 14) (bl 17 0x37) ?_
    refine pu 6 (some 15) (bl 17 0x77) ?_
    refine pu 11 (some 20) (bl 17 0x877) ?_
    refine pu 12 (some 21) (bl 17 0x1877) ?_
    refine pu 13 (some 22) (bl 17 0x3877) ?_
    refine tk 3 (some 12) (bl 17 0x387f) hHeld ?_
    refine tk 7 (some 16) (bl 17 0x38ff) hHeld ?_
    refine pu 8 (some 17) (bl 17 0x39ff) ?_
    refine pu 9 (some 18) (bl 17 0x3bff) ?_
    refine tk 10 (some 19) (bl 17 0x3fff) hHeld ?_
    refine tk 14 (some 23) (bl 17 0x7fff) hHeld ?_
    refine one_ (i := 15) (N := some 24) (bl 17 0xffff) rfl rfl (by kernel_rfl) (by decide) (fun K hK => ?_)
    refine goes_ Try.func73 (by kernel_rfl) rfl #[.pointer (some ⟨g, 0, none⟩), .int .i64 (iv j.live), .slice Ag j.group.length cg] (by rfl) rfl rfl (by simp only [List.map_toArray, List.map_cons, List.map_nil]; rfl) ?_
    with_reducible refine (HAP.out).mono ?_
    rintro e w3 ⟨rfl, S3, hJ_, hM_⟩
    refine ⟨_, rfl, ?_⟩
    have HJ3 := Aside0.mk hJ_
    have HM3 := Aside0.mk ((Mv.of_below T (below_drew (Below.refl _ W))).trans hM_)
    have q6 : w3.cell? ⟨g, 6, none⟩ = some (.int .i64 (iv j.live)) := hJ_.r6.trans (by rw [HRT.out])
    clear hJ_ hM_
    refine hK.out _ _ ⟨HJ3.out.c0, q6, HJ3.out.c1⟩ (fun hHeld => ?_)
    clear hK K
    refine norm_ (a' := ?_) ?_ ?_
    rotate_left
    · show Act.put _ (some 24) _ = _
      simp only [Act.put, List.setIfInBounds_toArray, List.set_cons_zero, List.set_cons_succ, i64_w, i32_w]
      rfl
    refine pu 16 (some 3) (bl 17 0x1ffff) ?_
    refine done_ (by kernel_rfl) ?_
    have y0 := HJ3.out.c0
    have y6 := q6
    have HSY := Aside0.mk ((HJ3.out.below (below_drew (Below.refl _ w3))).act (fun hA => rSync.calls hA HG1.out j.live))
    rw [HE2.out] at HSY
    clear x0 x1 x6
    go_wp2_with fail
    refine start_ (n := 13) (S := fun w' => w'.cell? ⟨kb, 0, none⟩ = some (.pointer (some ⟨g, 0, none⟩)) ∧ w'.cell? ⟨g, 6, none⟩ = some (.int .i64 (iv j.live))) (ds := []) (bl 13 0x0) (by kernel_rfl) rfl (by kernel_rfl) ⟨y0, y6⟩ (fun hHeld => ?_)
    refine pu 0 (some 27) (bl 13 0x1) ?_
    refine pu 1 (some 28) (bl 13 0x3) ?_
    refine pu 2 (some 29) (bl 13 0x7) ?_
    refine pu 4 (some 31) (bl 13 0x17) ?_
    refine pu 5 (some 32) (bl 13 0x37) ?_
    refine pu 6 (some 33) (bl 13 0x77) ?_
    refine tk 3 (some 30) (bl 13 0x7f) hHeld ?_
    refine tk 7 (some 34) (bl 13 0xff) hHeld ?_
    refine pu 8 (some 35) (bl 13 0x1ff) ?_
    refine pu 9 (some 36) (bl 13 0x3ff) ?_
    refine tk 10 (some 37) (bl 13 0x7ff) hHeld ?_
    refine one_ (i := 11) (N := some 38) (bl 13 0xfff) rfl rfl (by kernel_rfl) (by decide) (fun K hK => ?_)
    refine goes_ Try.func54 (by kernel_rfl) rfl #[.pointer (some ⟨g, 0, none⟩), .int .i64 (iv j.live)] (by rfl) rfl rfl (by simp only [List.map_toArray, List.map_cons, List.map_nil]; rfl) ?_
    with_reducible refine (HSY.out).mono ?_
    rintro e w4 ⟨rfl, S4, hJ_, hM_⟩
    refine ⟨_, rfl, ?_⟩
    have HJ4 := Aside0.mk hJ_
    have HM4 := Aside0.mk ((HM3.out.trans (Mv.of_below S3 (below_drew (Below.refl _ w3)))).trans hM_)
    have p6 : w4.cell? ⟨g, 6, none⟩ = some (.int .i64 (iv j.live)) := hJ_.r6.trans (by rw [syD_root, HRT.out])
    clear hJ_ hM_
    refine hK.out _ _ ⟨HJ4.out.c0, p6⟩ (fun hHeld => ?_)
    clear hK K
    refine norm_ (a' := ?_) ?_ ?_
    rotate_left
    · show Act.put _ (some 38) _ = _
      simp only [Act.put, List.setIfInBounds_toArray, List.set_cons_zero, List.set_cons_succ, i64_w, i32_w]
      rfl
    refine pu 12 (some 3) (bl 13 0x1fff) ?_
    refine done_ (by kernel_rfl) ?_
    have u1 : w4.cell? ⟨kb, 1, none⟩ = some (.slice Ag j.group.length cg) := HJ4.out.c1
    have u2 : w4.cell? ⟨kb, 2, none⟩ = some (.int .i64 j.many) := HJ4.out.c2
    have f1 : w4.frozen? ⟨kb, 1, none⟩ = false := HJ4.out.blk.frozen 1
    have f2 : w4.frozen? ⟨kb, 2, none⟩ = false := HJ4.out.blk.frozen 2
    go_wp2_with fail
    go_ret
    have hf := (HJ4.out.setGroup (v := .slice none 0 0) (x := []) (Kd.V_nil _ _ _ _ _)).setMany 0
    exact ⟨rfl, _, ⟨_, _, hf⟩, HM4.out.trans ((mv_set (i := 1) (v := .slice none 0 0) HJ4.out.sk).trans (mv_set (i := 2) (v := .int .i64 0) HJ4.out.sk))⟩
theorem left_most {d : D} (h : Room d) : leftN d ≤ 1048576 := by
  have h1 := h.most
  unfold leftN
  omega
set_option maxHeartbeats 8000000 in
theorem rSnapshot.calls {T : Nat → Prop} {g kb : Nat} {d : D} {j : J} {W : World} (h : Rn T g kb d j W) (hg : Good d) (hr : d.root = iv j.live) {A : Option Addr} {c : Nat} {l : List (List Int)} (hC : (Kd.slice 5 (Kd.int .u8)).C W A l.length l) (hl : l.length ≤ 1000) (hby : allBys l) :
    Calls Try.prog 56 #[.pointer (some ⟨kb, 0, none⟩), .slice A l.length c] W fun e w' => e = .returned (.int .i64 (snap l d j).1) ∧ ∃ T', Rn T' g kb (snap l d j).2.1 (snap l d j).2.2 w' ∧ Mv T T' W w' := by
  have HN := Aside0.mk h
  have HG := Aside0.mk hg
  have HRT := Aside0.mk hr
  have HF := Aside0.mk (rframes.calls (c := c) hC hl hby)
  obtain ⟨r, hrr⟩ : ∃ r, r = snap l d j := ⟨_, rfl⟩
  rw [← hrr]
  have HR := Aside0.mk hrr
  have hgl : g < W.heap.size := by obtain ⟨ok, gv, ho⟩ := h; exact ho.at_.lt
  have HGL := Aside0.mk hgl
  have HL := Aside0.mk hl
  clear h hg hr hC hl hby hrr hgl
  obtain ⟨ob, hob⟩ : ∃ ob, ob = okB l := ⟨_, rfl⟩
  obtain ⟨fs, hfs⟩ : ∃ fs, fs = (if okB l = true then flat l else []) := ⟨_, rfl⟩
  rw [← hfs, ← hob] at HF
  have HOB := Aside0.mk hob
  have HFS := Aside0.mk hfs
  clear hob hfs
  go_enter Try.func56, Try.ntmps56
  go_wp2_with fail
  refine HF.out.mono ?_
  rintro e w1 ⟨v, rfl, hR, hb⟩
  obtain ⟨Av, cv, rfl⟩ := Kd.R_slice hR
  have HRV := Aside0.mk hR
  have HB := Aside0.mk hb
  obtain ⟨ok, gv, ho⟩ := HN.out.below hb
  have x0 := ho.c0
  have x2 := ho.c2
  have x6 : w1.cell? ⟨g, 6, none⟩ = some (.int .i64 (iv j.live)) := ho.r6.trans (by rw [HRT.out])
  have HO1 := Aside0.mk ho
  have HM1 := Aside0.mk (Mv.of_below T hb)
  clear hR hb ho HF
  by_cases hm : 0 < j.many
  · have hmb : decide (0 < j.many) = true := decide_eq_true hm
    have HX := Aside0.mk (show r = (13, d, j) from HR.out.trans (if_pos hm))
    clear hm
    go_wp2_with fail
    go_ret
    rw [HX.out]
    exact ⟨rfl, T, ⟨_, _, HO1.out⟩, HM1.out⟩
  have hmb : decide (0 < j.many) = false := decide_eq_false hm
  have HR1 := Aside0.mk (show r = _ from HR.out.trans (if_neg hm))
  clear hm
  cases ob with
  | false =>
    have hna := okB_no HOB.out.symm
    have hf1 : frsE l 0 d = 1 := if_neg hna
    have HX := Aside0.mk (show r = (1, d, j) from HR1.out.trans (by rw [hf1, if_pos (by decide)]))
    clear hna hf1
    go_wp2_with fail
    go_ret
    rw [HX.out]
    exact ⟨rfl, T, ⟨_, _, HO1.out⟩, HM1.out⟩
  | true =>
  have hall := okB_yes HOB.out.symm
  have hfs : fs = flat l := HFS.out.trans (if_pos HOB.out.symm)
  have hfe : frsE l 0 d = if leftN d < (fs.length : Int) then 11 else 0 := by
    rw [hfs, show (frsE l 0 d) = (if leftN d < 0 + ((flat l).length : Int) then 11 else 0) from if_pos hall, Int.zero_add]
  have HLF := Aside0.mk (rLeft.calls HO1.out.at_ HG.out.room)
  have HLM := Aside0.mk (left_most HG.out.room)
  obtain ⟨lf, hlf⟩ : ∃ lf, lf = leftN d := ⟨_, rfl⟩
  rw [← hlf] at HLF hfe HLM
  by_cases hc : lf < (fs.length : Int)
  · have hcb : decide ((fs.length : Int) > lf) = true := decide_eq_true hc
    have hcb2 : decide (lf < (fs.length : Int)) = true := decide_eq_true hc
    have HX := Aside0.mk (show r = (11, d, j) from HR1.out.trans (by rw [hfe, if_pos hc, if_pos (by decide)]))
    clear hc hfe hall hfs hlf
    go_wp2_with fail
    refine HLF.out.mono ?_
    rintro e w2 ⟨rfl, rfl⟩
    go_wp2_with fail
    go_ret
    rw [HX.out]
    exact ⟨rfl, T, ⟨_, _, HO1.out.below (below_drew (Below.refl _ _))⟩, HM1.out.then_below (below_drew (Below.refl _ _))⟩
  have hcb : decide ((fs.length : Int) > lf) = false := decide_eq_false hc
  have hcb2 : decide (lf < (fs.length : Int)) = false := decide_eq_false hc
  have HR2 := Aside0.mk (show r = ((sn1 j.live fs d).1, (sn1 j.live fs d).2.1, ⟨(sn1 j.live fs d).2.2, j.group, j.many⟩) from HR1.out.trans (by rw [hfe, if_neg hc, if_neg (by decide), ← hfs]))
  have hfl : fs.length ≤ 2000000 := by have := HLM.out; omega
  have HFL := Aside0.mk hfl
  have hwi := iv_not j.live
  have HO2 := Aside0.mk (HO1.out.below (below_drew (Below.refl _ w1)))
  have HM2 := Aside0.mk (HM1.out.then_below (below_drew (Below.refl _ w1)))
  have HV2 := Aside0.mk (V_own (ok := fun k => W.heap.size ≤ k) (Kd.R_below HRV.out (below_drew (Below.refl _ w1))) (fun k hk => hk))
  have HNG := Aside0.mk (show ¬ W.heap.size ≤ g by have := HGL.out; omega)
  have HAP := Aside0.mk (HO2.out.act (fun hA => rAppend.calls hA HG.out (!j.live) HV2.out HNG.out HFL.out))
  have HG1 := Aside0.mk (good_apD HG.out (iv (!j.live)) fs)
  have HN1 := Aside0.mk (show ∀ x, x = apE (iv (!j.live)) fs d → (x ≠ 0 → sn1 j.live fs d = (x, apD (iv (!j.live)) fs d, j.live)) ∧ (x = 0 → sn1 j.live fs d = sn2 j.live (apD (iv (!j.live)) fs d)) from fun x hx => by subst hx; exact ⟨fun h => if_pos h, fun h => if_neg (fun hh => hh h)⟩)
  obtain ⟨E1, hE1⟩ : ∃ E1, E1 = apE (iv (!j.live)) fs d := ⟨_, rfl⟩
  obtain ⟨d1, hd1⟩ : ∃ d1, d1 = apD (iv (!j.live)) fs d := ⟨_, rfl⟩
  rw [← hE1, ← hd1] at HAP
  rw [← hd1] at HG1 HN1
  have HN1' := Aside0.mk (HN1.out E1 hE1)
  have y0 : w1.drew.cell? ⟨kb, 0, none⟩ = some (.pointer (some ⟨g, 0, none⟩)) := x0
  have y6 : w1.drew.cell? ⟨g, 6, none⟩ = some (.int .i64 (iv j.live)) := x6
  clear hc hfe hall hfs hlf hfl hE1 hd1 HN1
  go_wp2_with fail
  refine HLF.out.mono ?_
  rintro e w2 ⟨rfl, rfl⟩
  clear x0 x2 x6 HLF
  go_wp2_with fail
  refine HAP.out.mono ?_
  rintro e w3 ⟨rfl, T3, hJ, hM⟩
  have HO3 := Aside0.mk hJ
  have HM3 := Aside0.mk (HM2.out.trans hM)
  have y03 := hJ.c0
  clear hJ hM HAP y0 y6
  by_cases hE1 : E1 ≠ 0
  · have hEb1 : (E1 == 0) = false := by simpa using hE1
    have HX := Aside0.mk (show r = (E1, d1, ⟨j.live, j.group, j.many⟩) from HR2.out.trans (by rw [HN1'.out.1 hE1]))
    clear hE1
    go_wp2_with fail
    go_ret
    rw [HX.out]
    exact ⟨rfl, T3, ⟨_, _, HO3.out.relive _⟩, HM3.out⟩
  have hEb1 : (E1 == 0) = true := by simpa using hE1
  have HC2 := Aside0.mk (HN1'.out.2 (by simpa using hE1))
  clear hE1 HN1'
  have HCALL := Aside0.mk (HO3.out.act (fun hA => rSync.calls hA HG1.out (!j.live)))
  have HG2 := Aside0.mk (good_syD HG1.out (iv (!j.live)))
  have HN2 := Aside0.mk (show ∀ x, x = syE (iv (!j.live)) d1 → (x ≠ 0 → sn2 j.live d1 = (x, syD (iv (!j.live)) d1, j.live)) ∧ (x = 0 → sn2 j.live d1 = sn3 j.live (syD (iv (!j.live)) d1)) from fun x hx => by subst hx; exact ⟨fun h => if_pos h, fun h => if_neg (fun hh => hh h)⟩)
  obtain ⟨E2, hE2⟩ : ∃ E, E = syE (iv (!j.live)) d1 := ⟨_, rfl⟩
  obtain ⟨d2, hd2⟩ : ∃ d, d = syD (iv (!j.live)) d1 := ⟨_, rfl⟩
  rw [← hE2, ← hd2] at HCALL
  rw [← hd2] at HG2 HN2
  have HN2' := Aside0.mk (HN2.out E2 hE2)
  clear hE2 hd2 HN2
  go_wp2_with fail
  refine HCALL.out.mono ?_
  rintro e w4 ⟨rfl, T4, hJ, hM⟩
  have HO4 := Aside0.mk hJ
  have HM4 := Aside0.mk (HM3.out.trans hM)
  have y04 := hJ.c0
  clear hJ hM HCALL y03
  by_cases hE2 : E2 ≠ 0
  · have hEb2 : (E2 == 0) = false := by simpa using hE2
    have HX := Aside0.mk (show r = (E2, d2, ⟨j.live, j.group, j.many⟩) from HR2.out.trans (by rw [HC2.out, HN2'.out.1 hE2]))
    clear hE2
    go_wp2_with fail
    go_ret
    rw [HX.out]
    exact ⟨rfl, T4, ⟨_, _, HO4.out.relive _⟩, HM4.out⟩
  have hEb2 : (E2 == 0) = true := by simpa using hE2
  have HC3 := Aside0.mk (HC2.out.trans (HN2'.out.2 (by simpa using hE2)))
  clear hE2 HN2' HC2
  have HCALL := Aside0.mk (HO4.out.act (fun hA => rSwitch.calls hA HG2.out (!j.live)))
  have HG3 := Aside0.mk (good_swD HG2.out (iv (!j.live)))
  have HN3 := Aside0.mk (show ∀ x, x = swE (iv (!j.live)) d2 → (x ≠ 0 → sn3 j.live d2 = (x, swD (iv (!j.live)) d2, j.live)) ∧ (x = 0 → sn3 j.live d2 = sn5 j.live (swD (iv (!j.live)) d2)) from fun x hx => by subst hx; exact ⟨fun h => if_pos h, fun h => if_neg (fun hh => hh h)⟩)
  obtain ⟨E3, hE3⟩ : ∃ E, E = swE (iv (!j.live)) d2 := ⟨_, rfl⟩
  obtain ⟨d3, hd3⟩ : ∃ d, d = swD (iv (!j.live)) d2 := ⟨_, rfl⟩
  rw [← hE3, ← hd3] at HCALL
  rw [← hd3] at HG3 HN3
  have HN3' := Aside0.mk (HN3.out E3 hE3)
  clear hE3 hd3 HN3
  go_wp2_with fail
  refine HCALL.out.mono ?_
  rintro e w5 ⟨rfl, T5, hJ, hM⟩
  have HO5 := Aside0.mk hJ
  have HM5 := Aside0.mk (HM4.out.trans hM)
  have y05 := hJ.c0
  clear hJ hM HCALL y04
  by_cases hE3 : E3 ≠ 0
  · have hEb3 : (E3 == 0) = false := by simpa using hE3
    have HX := Aside0.mk (show r = (E3, d3, ⟨j.live, j.group, j.many⟩) from HR2.out.trans (by rw [HC3.out, HN3'.out.1 hE3]))
    clear hE3
    go_wp2_with fail
    go_ret
    rw [HX.out]
    exact ⟨rfl, T5, ⟨_, _, HO5.out.relive _⟩, HM5.out⟩
  have hEb3 : (E3 == 0) = true := by simpa using hE3
  have HC4 := Aside0.mk (HC3.out.trans (HN3'.out.2 (by simpa using hE3)))
  clear hE3 HN3' HC3
  have HCALL := Aside0.mk (HO5.out.act (fun hA => rTruncate.calls hA HG3.out j.live 0))
  have HG4 := Aside0.mk (good_trD HG3.out (iv j.live) 0)
  have HN4 := Aside0.mk (show ∀ x, x = trE (iv j.live) 0 d3 → (x ≠ 0 → sn5 j.live d3 = (x, trD (iv j.live) 0 d3, !j.live)) ∧ (x = 0 → sn5 j.live d3 = (syE (iv j.live) (trD (iv j.live) 0 d3), syD (iv j.live) (trD (iv j.live) 0 d3), !j.live)) from fun x hx => by subst hx; exact ⟨fun h => if_pos h, fun h => if_neg (fun hh => hh h)⟩)
  obtain ⟨E4, hE4⟩ : ∃ E, E = trE (iv j.live) 0 d3 := ⟨_, rfl⟩
  obtain ⟨d4, hd4⟩ : ∃ d, d = trD (iv j.live) 0 d3 := ⟨_, rfl⟩
  rw [← hE4, ← hd4] at HCALL
  rw [← hd4] at HG4 HN4
  have HN4' := Aside0.mk (HN4.out E4 hE4)
  clear hE4 hd4 HN4
  go_wp2_with fail
  refine HCALL.out.mono ?_
  rintro e w6 ⟨rfl, T6, hJ, hM⟩
  have HO6 := Aside0.mk hJ
  have HM6 := Aside0.mk (HM5.out.trans hM)
  have y06 := hJ.c0
  clear hJ hM HCALL y05
  by_cases hE4 : E4 ≠ 0
  · have hEb4 : (E4 == 0) = false := by simpa using hE4
    have HX := Aside0.mk (show r = (E4, d4, ⟨!j.live, j.group, j.many⟩) from HR2.out.trans (by rw [HC4.out, HN4'.out.1 hE4]))
    clear hE4
    go_wp2_with fail
    go_ret
    rw [HX.out]
    exact ⟨rfl, T6, ⟨_, _, HO6.out.relive _⟩, HM6.out⟩
  have hEb4 : (E4 == 0) = true := by simpa using hE4
  have HC5 := Aside0.mk (HC4.out.trans (HN4'.out.2 (by simpa using hE4)))
  clear hE4 HN4' HC4
  have HCALL := Aside0.mk (HO6.out.act (fun hA => rSync.calls hA HG4.out j.live))
  obtain ⟨E5, hE5⟩ : ∃ E, E = syE (iv j.live) d4 := ⟨_, rfl⟩
  obtain ⟨d5, hd5⟩ : ∃ d, d = syD (iv j.live) d4 := ⟨_, rfl⟩
  rw [← hE5, ← hd5] at HCALL HC5
  clear hE5 hd5
  go_wp2_with fail
  refine HCALL.out.mono ?_
  rintro e w7 ⟨rfl, T7, hJ, hM⟩
  have HO7 := Aside0.mk hJ
  have HM7 := Aside0.mk (HM6.out.trans hM)
  have HX := Aside0.mk (show r = (E5, d5, ⟨!j.live, j.group, j.many⟩) from HR2.out.trans (by rw [HC5.out]))
  clear hJ hM HCALL y06
  go_wp2_with fail
  go_ret
  rw [HX.out]
  exact ⟨rfl, T7, ⟨_, _, HO7.out.relive _⟩, HM7.out⟩
set_option maxHeartbeats 4000000 in
theorem would.calls {S : Nat → Prop} {g kb : Nat} {d : D} {j : J} {W : World} (h : Rn S g kb d j W) (hg : Good d) (hj : Jk j) (hr : d.root = iv j.live) (a : Ac) (B : Option Addr) (cr : Nat) (x0 x1 : Int) (y0 y1 : Bool) (hC : (Kd.slice 5 (Kd.int .u8)).C W B a.recs.length a.recs) (hl : a.recs.length ≤ 20) (hby : allBys a.recs) :
    Calls Try.prog 32 #[.pointer (some ⟨kb, 0, none⟩), .agg (av a B cr x0 x1 y0 y1)] W fun e w' => e = .returned (.int .i64 (dzE a d j)) ∧ ∃ S', Rn S' g kb (dzD a d j) (dzJ a d j) w' ∧ Mv S S' W w' := by
  have hbn := below_alloc (Below.refl _ W) (.cells (av a B cr x0 x1 y0 y1) 46)
  have HJ := Aside0.mk (h.below hbn)
  have HC := Aside0.mk (Kd.C_below hC hbn)
  have HQ := Aside0.mk (Blk.At.new W (av a B cr x0 x1 y0 y1) 46)
  have HM := Aside0.mk (Mv.of_below S hbn)
  have HG := Aside0.mk hg
  have HK := Aside0.mk hj
  have HRT := Aside0.mk hr
  have HBY := Aside0.mk hby
  have HL := Aside0.mk (show a.recs.length ≤ 1000 by omega)
  have q0 : (W.alloc (.cells (av a B cr x0 x1 y0 y1) 46)).cell? ⟨W.heap.size, 0, none⟩ = some (.int .u8 a.kind) := HQ.out.cell 0
  have q1 : (W.alloc (.cells (av a B cr x0 x1 y0 y1) 46)).cell? ⟨W.heap.size, 1, none⟩ = some (.slice B a.recs.length cr) := HQ.out.cell 1
  obtain ⟨W1, hW⟩ : ∃ W1, W1 = W.alloc (.cells (av a B cr x0 x1 y0 y1) 46) := ⟨_, rfl⟩
  have hWc : W.alloc (.cells (av a B cr x0 x1 y0 y1) 46) = W1 := hW.symm
  rw [hWc] at HJ HC HM q0 q1
  obtain ⟨z, hz⟩ : ∃ z, z = Int.tmod a.kind 7 := ⟨_, rfl⟩
  have hzc : Int.tmod a.kind 7 = z := hz.symm
  unfold dzE dzD dzJ
  rw [hzc]
  clear hW hz h hg hj hr hby hC hl HQ hbn
  have hav : (av a B cr x0 x1 y0 y1) = #[.int .u8 a.kind, .slice B a.recs.length cr, .int .i64 a.n, .bool a.behind, .int .i64 x0, .int .i64 x1, .bool y0, .bool y1] := rfl
  rw [hav] at hWc ⊢
  clear hav
  by_cases t1 : z = 1
  case pos =>
    rw [if_pos t1, if_pos t1, if_pos t1]
    have tb : (z == 1) = true := by simpa using t1
    clear t1
    go_enter Try.func32, Try.ntmps32
    go_wp2_with fail
    refine (rCommit.calls HJ.out HG.out HK.out HRT.out).mono ?_
    rintro e w1 ⟨rfl, S1, hJ, hM⟩
    have HJ1 := Aside0.mk hJ
    have HM1 := Aside0.mk (HM.out.trans hM)
    clear hJ hM
    go_wp2_with fail
    go_ret
    exact ⟨rfl, S1, HJ1.out, HM1.out⟩
  have t1b : (z == 1) = false := by simpa using t1
  rw [if_neg t1, if_neg t1, if_neg t1]
  clear t1
  by_cases t2 : z = 2
  case pos =>
    rw [if_pos t2, if_pos t2, if_pos t2]
    have tb : (z == 2) = true := by simpa using t2
    clear t2
    obtain ⟨ok, gv, ho⟩ := HJ.out
    have HO := Aside0.mk ho
    have u1 : W1.cell? ⟨kb, 1, none⟩ = some gv := ho.c1
    have u2 : W1.cell? ⟨kb, 2, none⟩ = some (.int .i64 j.many) := ho.c2
    have f1 : W1.frozen? ⟨kb, 1, none⟩ = false := ho.blk.frozen 1
    have f2 : W1.frozen? ⟨kb, 2, none⟩ = false := ho.blk.frozen 2
    have hw : wrap64 (100 + j.many) = 100 + j.many := by have := HK.out.many; unfold wrap64; omega
    clear ho
    go_enter Try.func32, Try.ntmps32
    go_wp2_with fail
    go_ret
    have hf := (HO.out.setGroup (v := .slice none 0 0) (x := []) (Kd.V_nil _ _ _ _ _)).setMany 0
    exact ⟨congrArg (fun x => Ending.returned (.int .i64 x)) hw, _, ⟨_, _, hf⟩, HM.out.trans ((mv_set (i := 1) (v := .slice none 0 0) HO.out.sk).trans (mv_set (i := 2) (v := .int .i64 0) HO.out.sk))⟩
  have t2b : (z == 2) = false := by simpa using t2
  rw [if_neg t2, if_neg t2, if_neg t2]
  clear t2
  by_cases t3 : z = 3
  case pos =>
    rw [if_pos t3, if_pos t3, if_pos t3]
    have tb : (z == 3) = true := by simpa using t3
    clear t3
    go_enter Try.func32, Try.ntmps32
    go_wp2_with fail
    refine (rSnapshot.calls HJ.out HG.out HRT.out HC.out HL.out HBY.out).mono ?_
    rintro e w1 ⟨rfl, S1, hJ, hM⟩
    have HJ1 := Aside0.mk hJ
    have HM1 := Aside0.mk (HM.out.trans hM)
    clear hJ hM
    go_wp2_with fail
    go_ret
    exact ⟨rfl, S1, HJ1.out, HM1.out⟩
  have t3b : (z == 3) = false := by simpa using t3
  rw [if_neg t3, if_neg t3, if_neg t3]
  clear t3
  by_cases t4 : z = 4
  case pos =>
    rw [if_pos t4, if_pos t4, if_pos t4]
    have tb : (z == 4) = true := by simpa using t4
    clear t4
    go_enter Try.func32, Try.ntmps32
    go_wp2_with fail
    go_ret
    exact ⟨rfl, S, HJ.out, HM.out⟩
  have t4b : (z == 4) = false := by simpa using t4
  rw [if_neg t4, if_neg t4, if_neg t4]
  clear t4
  by_cases t5 : z = 5
  case pos =>
    rw [if_pos t5, if_pos t5, if_pos t5]
    have tb : (z == 5) = true := by simpa using t5
    clear t5
    go_enter Try.func32, Try.ntmps32
    go_wp2_with fail
    go_ret
    exact ⟨rfl, S, HJ.out, HM.out⟩
  have t5b : (z == 5) = false := by simpa using t5
  rw [if_neg t5, if_neg t5, if_neg t5]
  clear t5
  go_enter Try.func32, Try.ntmps32
  go_wp2_with fail
  refine (rAdd.calls HJ.out HG.out HK.out HC.out HL.out HBY.out).mono ?_
  rintro e w1 ⟨rfl, S1, hJ, hM⟩
  have HJ1 := Aside0.mk hJ
  have HM1 := Aside0.mk (HM.out.trans hM)
  clear hJ hM
  go_wp2_with fail
  go_ret
  exact ⟨rfl, S1, HJ1.out, HM1.out⟩
end Go.Proofs.Ytdlfabbhdelinaa.Q
