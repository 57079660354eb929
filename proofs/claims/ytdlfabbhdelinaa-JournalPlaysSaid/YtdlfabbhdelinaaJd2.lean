/- A disk's functions: what is lost. No condition but those typed. -/
import Derived.Test.YtdlfabbhdelinaaWalk0
import Derived.Test.YtdlfabbhdelinaaDisk09
import Derived.Test.YtdlfabbhdelinaaJd1
import Derived.Outline
namespace Go.Proofs.Ytdlfabbhdelinaa.Q
open Go.RowKit Go.Proofs.YtdlfabbhdelinaaW.PrintWords Go.Proofs.YtdlfabbhdelinaaW.PrintLast Go.Proofs.YtdlfabbhdelinaaW.PrintMore
open Go.Proofs.Ytdlfabbhdelinaa.Dk
attribute [local go_sem] max2_int min2_int max_two min_two max_three min_three max_four min_four   -- for this text's walks alone
set_option linter.unusedVariables false
set_option linter.unusedSimpArgs false
set_option maxRecDepth 100000
/-- An act: what it leaves, and answers. -/
def actD (m : Int) (dof : D → D) (d : D) : D := if m ≠ 0 then d else if 0 < d.fuse then dof { d with fuse := d.fuse - 1 } else if d.fuse = 0 then (if d.behind = true then dof { d with off := true, fuse := -1 } else { d with off := true, fuse := -1 }) else dof d
def actE (m : Int) (d : D) : Int := if m ≠ 0 then m else if d.fuse = 0 then 12 else 0
theorem disk_act.err {v : Value} {i er : Int} {w : World} (hf : Calls Try.prog 58 #[v, .int .i64 i] w fun e w' => e = .returned (.tuple #[.pointer none, .int .i64 er]) ∧ w' = w) (he : er ≠ 0) (mv dv : Value) :
    Calls Try.prog 63 #[v, .int .i64 i, mv, dv] w fun e w' => e = .returned (.int .i64 er) ∧ w' = w := by
  have HF := Aside0.mk hf
  have heb : (er != 0) = true := by simpa using he
  clear hf he
  go_enter Try.func63, Try.ntmps63
  go_wp2_with fail
  refine HF.out.mono ?_
  rintro e w1 ⟨rfl, rfl⟩
  go_wp2_with fail
  go_ret
  exact ⟨rfl, rfl⟩
set_option maxHeartbeats 4000000 in
set_option maxRecDepth 100000 in
theorem disk_act.Append {g : Nat} {ok : Nat → Prop} {d : D} {w : World} (h : At g ok d w) (hr : 0 < d.room) (ho : d.off = false) (hz : d.fuse < 9223372036854775808) (i : Bool) (m : Int) (dof : D → D) (p1 p2 : Value)
    (may : ∀ W, At g ok d W → Tn g w W → Calls Try.prog 64 #[fo g i, p1, p2] W fun e w' => e = .returned (.int .i64 m) ∧ Below W.heap.size W w')
    (do_ : ∀ W f o, m = 0 → At g ok { d with fuse := f, off := o } W → Tn g w W → Calls Try.prog 65 #[fo g i, p1] W fun e w' => e = .returned (.tuple #[]) ∧ At g ok (dof { d with fuse := f, off := o }) w' ∧ Tn g W w') :
    Calls Try.prog 63 #[.pointer (some ⟨g, 0, none⟩), .int .i64 (iv i), .func (.func 64) #[] #[p1, p2], .func (.func 65) #[] #[p1]] w fun e w' => e = .returned (.int .i64 (actE m d)) ∧ At g ok (actD m dof d) w' ∧ Tn g w w' := by
  have H := Aside0.mk h
  have MAY := Aside0.mk may
  have DO := Aside0.mk do_
  clear may do_ h
  have X9 : ∀ W d', At g ok d' W → W.cell? ⟨g, 9, none⟩ = some (.int .i64 d'.fuse) := by
    intro W d' h
    obtain ⟨v0, v1, v2, v3, HA, _⟩ := h.ex
    exact HA.cell 9
  have Z9 : ∀ W d', At g ok d' W → W.frozen? ⟨g, 9, none⟩ = false := by
    intro W d' h
    obtain ⟨v0, v1, v2, v3, HA, _⟩ := h.ex
    exact HA.frozen 9
  have X10 : ∀ W d', At g ok d' W → W.cell? ⟨g, 10, none⟩ = some (.bool d'.behind) := by
    intro W d' h
    obtain ⟨v0, v1, v2, v3, HA, _⟩ := h.ex
    exact HA.cell 10
  have F9 : ∀ W (f : Int), At g ok d W → At g ok { d with fuse := f, off := false } (W.setCell ⟨g, 9, none⟩ (.int .i64 f)) := by
    intro W f h
    obtain ⟨v0, v1, v2, v3, HA, V0, V1, V2, V3⟩ := h.ex
    have T := (Tn.refl g W).set_own 9 (.int .i64 f)
    have hn := h.nok
    rw [← ho]
    exact h.turn T (HA.set 9 _) (V_tn V0 hn T) (V_tn V1 hn T) (V_tn V2 hn T) (V_tn V3 hn T)
  have X9' := Aside0.mk X9
  have Z9' := Aside0.mk Z9
  have X10' := Aside0.mk X10
  have F9' := Aside0.mk F9
  clear X9 Z9 X10 F9
  have HO := Aside0.mk ho
  have HW := Aside0.mk hz
  clear hz
  cases i
  · skip
    have HF := Aside0.mk (disk_file.calls H.out hr ho false)
    clear ho
    simp only [fo, iv] at HF MAY DO ⊢
    by_cases t1 : m = 0
    case neg =>
      rw [show actE m d = m from if_pos t1, show actD m dof d = d from if_pos t1]
      have t1b : (m != 0) = true := by simpa using t1
      clear t1
      go_enter Try.func63, Try.ntmps63
      go_wp2_with fail
      refine HF.out.mono ?_
      rintro e w1 ⟨rfl, rfl⟩
      go_wp2_with fail
      refine (MAY.out _ H.out (Tn.refl g _)).mono ?_
      rintro e w2 ⟨rfl, hb⟩
      have HB := Aside0.mk hb
      clear hb
      go_wp2_with fail
      go_ret
      exact ⟨rfl, H.out.below HB.out, Tn.of_below HB.out⟩
    subst t1
    by_cases t2 : 0 < d.fuse
    case pos =>
      rw [show actE 0 d = 0 from (if_neg (fun h => h rfl)).trans (if_neg (by omega)), show actD 0 dof d = dof { d with fuse := d.fuse - 1, off := false } from (if_neg (fun h => h rfl)).trans ((if_pos t2).trans (by rw [← HO.out]))]
      have t2b : decide (d.fuse > 0) = true := decide_eq_true t2
      have e1 : wrap64 (d.fuse - 1) = d.fuse - 1 := by have := HW.out; unfold wrap64; omega
      have T2 := Aside0.mk t2
      clear t2
      go_enter Try.func63, Try.ntmps63
      go_wp2_with fail
      refine HF.out.mono ?_
      rintro e w1 ⟨rfl, rfl⟩
      go_wp2_with fail
      refine (MAY.out _ H.out (Tn.refl g _)).mono ?_
      rintro e w2 ⟨rfl, hb⟩
      have HB := Aside0.mk hb
      clear hb
      have H2 := Aside0.mk (H.out.below HB.out)
      have x9 := X9'.out _ _ H2.out
      have z9 := Z9'.out _ _ H2.out
      go_wp2_with fail
      have T3 := (Tn.of_below (g := g) HB.out).set_own 9 (.int .i64 (d.fuse - 1))
      refine (DO.out _ (d.fuse - 1) false trivial (F9'.out _ _ H2.out) T3).mono ?_
      rintro e w3 ⟨rfl, hA, hT⟩
      have HA3 := Aside0.mk hA
      have HT3 := Aside0.mk (T3.trans hT)
      clear hA hT T3
      go_wp2_with fail
      go_ret
      exact ⟨rfl, HA3.out, HT3.out⟩
    have t2b : decide (d.fuse > 0) = false := decide_eq_false t2
    by_cases t3 : d.fuse = 0
    case neg =>
      rw [show actE 0 d = 0 from (if_neg (fun h => h rfl)).trans (if_neg t3), show actD 0 dof d = dof { d with fuse := d.fuse, off := d.off } from (if_neg (fun h => h rfl)).trans ((if_neg t2).trans (if_neg t3))]
      have t3b : (d.fuse == 0) = false := by simpa using t3
      have T2 := Aside0.mk t2
      clear t2 t3
      go_enter Try.func63, Try.ntmps63
      go_wp2_with fail
      refine HF.out.mono ?_
      rintro e w1 ⟨rfl, rfl⟩
      go_wp2_with fail
      refine (MAY.out _ H.out (Tn.refl g _)).mono ?_
      rintro e w2 ⟨rfl, hb⟩
      have HB := Aside0.mk hb
      clear hb
      have H2 := Aside0.mk (H.out.below HB.out)
      have x9 := X9'.out _ _ H2.out
      go_wp2_with fail
      refine (DO.out _ d.fuse d.off trivial H2.out (Tn.of_below HB.out)).mono ?_
      rintro e w3 ⟨rfl, hA, hT⟩
      have HA3 := Aside0.mk hA
      have HT3 := Aside0.mk ((Tn.of_below (g := g) HB.out).trans hT)
      clear hA hT
      go_wp2_with fail
      go_ret
      exact ⟨rfl, HA3.out, HT3.out⟩
    have t3b : (d.fuse == 0) = true := by simpa using t3
    rw [show actE 0 d = 12 from (if_neg (fun h => h rfl)).trans (if_pos t3), show actD 0 dof d = (if d.behind = true then dof { d with off := true, fuse := -1 } else { d with off := true, fuse := -1 }) from (if_neg (fun h => h rfl)).trans ((if_neg t2).trans (if_pos t3))]
    clear t2 t3
    have HB0 := Aside0.mk (show d.behind = true ∨ d.behind = false from by cases d.behind <;> simp)
    rcases HB0.out with b0 | b0
    · rw [if_pos b0]
      clear HB0
      go_enter Try.func63, Try.ntmps63
      go_wp2_with fail
      refine HF.out.mono ?_
      rintro e w1 ⟨rfl, rfl⟩
      go_wp2_with fail
      refine (MAY.out _ H.out (Tn.refl g _)).mono ?_
      rintro e w2 ⟨rfl, hb⟩
      have HB := Aside0.mk hb
      clear hb
      have H2 := Aside0.mk (H.out.below HB.out)
      have x9 := X9'.out _ _ H2.out
      go_wp2_with fail
      refine (disk_Fail.calls H2.out hr).mono ?_
      rintro e w3 ⟨rfl, hA, hT⟩
      have HA3 := Aside0.mk hA
      have HT3 := Aside0.mk ((Tn.of_below (g := g) HB.out).trans hT)
      clear hA hT x9
      have x10 := X10'.out _ _ HA3.out
      rw [show (({ d with off := true, fuse := -1 } : D).behind) = true from b0] at x10
      go_wp2_with fail
      refine (DO.out _ (-1) true trivial HA3.out HT3.out).mono ?_
      rintro e w4 ⟨rfl, hA, hT⟩
      have HA4 := Aside0.mk hA
      have HT4 := Aside0.mk (HT3.out.trans hT)
      clear hA hT
      go_wp2_with fail
      go_ret
      exact ⟨rfl, HA4.out, HT4.out⟩
    · rw [if_neg (by rw [b0]; simp)]
      clear HB0
      go_enter Try.func63, Try.ntmps63
      go_wp2_with fail
      refine HF.out.mono ?_
      rintro e w1 ⟨rfl, rfl⟩
      go_wp2_with fail
      refine (MAY.out _ H.out (Tn.refl g _)).mono ?_
      rintro e w2 ⟨rfl, hb⟩
      have HB := Aside0.mk hb
      clear hb
      have H2 := Aside0.mk (H.out.below HB.out)
      have x9 := X9'.out _ _ H2.out
      go_wp2_with fail
      refine (disk_Fail.calls H2.out hr).mono ?_
      rintro e w3 ⟨rfl, hA, hT⟩
      have HA3 := Aside0.mk hA
      have HT3 := Aside0.mk ((Tn.of_below (g := g) HB.out).trans hT)
      clear hA hT x9
      have x10 := X10'.out _ _ HA3.out
      rw [show (({ d with off := true, fuse := -1 } : D).behind) = false from b0] at x10
      go_wp2_with fail
      go_ret
      exact ⟨rfl, HA3.out, HT3.out⟩
  · skip
    have HF := Aside0.mk (disk_file.calls H.out hr ho true)
    clear ho
    simp only [fo, iv] at HF MAY DO ⊢
    by_cases t1 : m = 0
    case neg =>
      rw [show actE m d = m from if_pos t1, show actD m dof d = d from if_pos t1]
      have t1b : (m != 0) = true := by simpa using t1
      clear t1
      go_enter Try.func63, Try.ntmps63
      go_wp2_with fail
      refine HF.out.mono ?_
      rintro e w1 ⟨rfl, rfl⟩
      go_wp2_with fail
      refine (MAY.out _ H.out (Tn.refl g _)).mono ?_
      rintro e w2 ⟨rfl, hb⟩
      have HB := Aside0.mk hb
      clear hb
      go_wp2_with fail
      go_ret
      exact ⟨rfl, H.out.below HB.out, Tn.of_below HB.out⟩
    subst t1
    by_cases t2 : 0 < d.fuse
    case pos =>
      rw [show actE 0 d = 0 from (if_neg (fun h => h rfl)).trans (if_neg (by omega)), show actD 0 dof d = dof { d with fuse := d.fuse - 1, off := false } from (if_neg (fun h => h rfl)).trans ((if_pos t2).trans (by rw [← HO.out]))]
      have t2b : decide (d.fuse > 0) = true := decide_eq_true t2
      have e1 : wrap64 (d.fuse - 1) = d.fuse - 1 := by have := HW.out; unfold wrap64; omega
      have T2 := Aside0.mk t2
      clear t2
      go_enter Try.func63, Try.ntmps63
      go_wp2_with fail
      refine HF.out.mono ?_
      rintro e w1 ⟨rfl, rfl⟩
      go_wp2_with fail
      refine (MAY.out _ H.out (Tn.refl g _)).mono ?_
      rintro e w2 ⟨rfl, hb⟩
      have HB := Aside0.mk hb
      clear hb
      have H2 := Aside0.mk (H.out.below HB.out)
      have x9 := X9'.out _ _ H2.out
      have z9 := Z9'.out _ _ H2.out
      go_wp2_with fail
      have T3 := (Tn.of_below (g := g) HB.out).set_own 9 (.int .i64 (d.fuse - 1))
      refine (DO.out _ (d.fuse - 1) false trivial (F9'.out _ _ H2.out) T3).mono ?_
      rintro e w3 ⟨rfl, hA, hT⟩
      have HA3 := Aside0.mk hA
      have HT3 := Aside0.mk (T3.trans hT)
      clear hA hT T3
      go_wp2_with fail
      go_ret
      exact ⟨rfl, HA3.out, HT3.out⟩
    have t2b : decide (d.fuse > 0) = false := decide_eq_false t2
    by_cases t3 : d.fuse = 0
    case neg =>
      rw [show actE 0 d = 0 from (if_neg (fun h => h rfl)).trans (if_neg t3), show actD 0 dof d = dof { d with fuse := d.fuse, off := d.off } from (if_neg (fun h => h rfl)).trans ((if_neg t2).trans (if_neg t3))]
      have t3b : (d.fuse == 0) = false := by simpa using t3
      have T2 := Aside0.mk t2
      clear t2 t3
      go_enter Try.func63, Try.ntmps63
      go_wp2_with fail
      refine HF.out.mono ?_
      rintro e w1 ⟨rfl, rfl⟩
      go_wp2_with fail
      refine (MAY.out _ H.out (Tn.refl g _)).mono ?_
      rintro e w2 ⟨rfl, hb⟩
      have HB := Aside0.mk hb
      clear hb
      have H2 := Aside0.mk (H.out.below HB.out)
      have x9 := X9'.out _ _ H2.out
      go_wp2_with fail
      refine (DO.out _ d.fuse d.off trivial H2.out (Tn.of_below HB.out)).mono ?_
      rintro e w3 ⟨rfl, hA, hT⟩
      have HA3 := Aside0.mk hA
      have HT3 := Aside0.mk ((Tn.of_below (g := g) HB.out).trans hT)
      clear hA hT
      go_wp2_with fail
      go_ret
      exact ⟨rfl, HA3.out, HT3.out⟩
    have t3b : (d.fuse == 0) = true := by simpa using t3
    rw [show actE 0 d = 12 from (if_neg (fun h => h rfl)).trans (if_pos t3), show actD 0 dof d = (if d.behind = true then dof { d with off := true, fuse := -1 } else { d with off := true, fuse := -1 }) from (if_neg (fun h => h rfl)).trans ((if_neg t2).trans (if_pos t3))]
    clear t2 t3
    have HB0 := Aside0.mk (show d.behind = true ∨ d.behind = false from by cases d.behind <;> simp)
    rcases HB0.out with b0 | b0
    · rw [if_pos b0]
      clear HB0
      go_enter Try.func63, Try.ntmps63
      go_wp2_with fail
      refine HF.out.mono ?_
      rintro e w1 ⟨rfl, rfl⟩
      go_wp2_with fail
      refine (MAY.out _ H.out (Tn.refl g _)).mono ?_
      rintro e w2 ⟨rfl, hb⟩
      have HB := Aside0.mk hb
      clear hb
      have H2 := Aside0.mk (H.out.below HB.out)
      have x9 := X9'.out _ _ H2.out
      go_wp2_with fail
      refine (disk_Fail.calls H2.out hr).mono ?_
      rintro e w3 ⟨rfl, hA, hT⟩
      have HA3 := Aside0.mk hA
      have HT3 := Aside0.mk ((Tn.of_below (g := g) HB.out).trans hT)
      clear hA hT x9
      have x10 := X10'.out _ _ HA3.out
      rw [show (({ d with off := true, fuse := -1 } : D).behind) = true from b0] at x10
      go_wp2_with fail
      refine (DO.out _ (-1) true trivial HA3.out HT3.out).mono ?_
      rintro e w4 ⟨rfl, hA, hT⟩
      have HA4 := Aside0.mk hA
      have HT4 := Aside0.mk (HT3.out.trans hT)
      clear hA hT
      go_wp2_with fail
      go_ret
      exact ⟨rfl, HA4.out, HT4.out⟩
    · rw [if_neg (by rw [b0]; simp)]
      clear HB0
      go_enter Try.func63, Try.ntmps63
      go_wp2_with fail
      refine HF.out.mono ?_
      rintro e w1 ⟨rfl, rfl⟩
      go_wp2_with fail
      refine (MAY.out _ H.out (Tn.refl g _)).mono ?_
      rintro e w2 ⟨rfl, hb⟩
      have HB := Aside0.mk hb
      clear hb
      have H2 := Aside0.mk (H.out.below HB.out)
      have x9 := X9'.out _ _ H2.out
      go_wp2_with fail
      refine (disk_Fail.calls H2.out hr).mono ?_
      rintro e w3 ⟨rfl, hA, hT⟩
      have HA3 := Aside0.mk hA
      have HT3 := Aside0.mk ((Tn.of_below (g := g) HB.out).trans hT)
      clear hA hT x9
      have x10 := X10'.out _ _ HA3.out
      rw [show (({ d with off := true, fuse := -1 } : D).behind) = false from b0] at x10
      go_wp2_with fail
      go_ret
      exact ⟨rfl, HA3.out, HT3.out⟩
set_option maxHeartbeats 4000000 in
set_option maxRecDepth 100000 in
theorem disk_act.Sync {g : Nat} {ok : Nat → Prop} {d : D} {w : World} (h : At g ok d w) (hr : 0 < d.room) (ho : d.off = false) (hz : d.fuse < 9223372036854775808) (i : Bool) (m : Int) (dof : D → D) (p1 p2 : Value)
    (may : ∀ W, At g ok d W → Tn g w W → Calls Try.prog 66 #[fo g i] W fun e w' => e = .returned (.int .i64 m) ∧ Below W.heap.size W w')
    (do_ : ∀ W f o, m = 0 → At g ok { d with fuse := f, off := o } W → Tn g w W → Calls Try.prog 67 #[fo g i] W fun e w' => e = .returned (.tuple #[]) ∧ At g ok (dof { d with fuse := f, off := o }) w' ∧ Tn g W w') :
    Calls Try.prog 63 #[.pointer (some ⟨g, 0, none⟩), .int .i64 (iv i), .func (.func 66) #[] #[], .func (.func 67) #[] #[]] w fun e w' => e = .returned (.int .i64 (actE m d)) ∧ At g ok (actD m dof d) w' ∧ Tn g w w' := by
  have H := Aside0.mk h
  have MAY := Aside0.mk may
  have DO := Aside0.mk do_
  clear may do_ h
  have X9 : ∀ W d', At g ok d' W → W.cell? ⟨g, 9, none⟩ = some (.int .i64 d'.fuse) := by
    intro W d' h
    obtain ⟨v0, v1, v2, v3, HA, _⟩ := h.ex
    exact HA.cell 9
  have Z9 : ∀ W d', At g ok d' W → W.frozen? ⟨g, 9, none⟩ = false := by
    intro W d' h
    obtain ⟨v0, v1, v2, v3, HA, _⟩ := h.ex
    exact HA.frozen 9
  have X10 : ∀ W d', At g ok d' W → W.cell? ⟨g, 10, none⟩ = some (.bool d'.behind) := by
    intro W d' h
    obtain ⟨v0, v1, v2, v3, HA, _⟩ := h.ex
    exact HA.cell 10
  have F9 : ∀ W (f : Int), At g ok d W → At g ok { d with fuse := f, off := false } (W.setCell ⟨g, 9, none⟩ (.int .i64 f)) := by
    intro W f h
    obtain ⟨v0, v1, v2, v3, HA, V0, V1, V2, V3⟩ := h.ex
    have T := (Tn.refl g W).set_own 9 (.int .i64 f)
    have hn := h.nok
    rw [← ho]
    exact h.turn T (HA.set 9 _) (V_tn V0 hn T) (V_tn V1 hn T) (V_tn V2 hn T) (V_tn V3 hn T)
  have X9' := Aside0.mk X9
  have Z9' := Aside0.mk Z9
  have X10' := Aside0.mk X10
  have F9' := Aside0.mk F9
  clear X9 Z9 X10 F9
  have HO := Aside0.mk ho
  have HW := Aside0.mk hz
  clear hz
  cases i
  · skip
    have HF := Aside0.mk (disk_file.calls H.out hr ho false)
    clear ho
    simp only [fo, iv] at HF MAY DO ⊢
    by_cases t1 : m = 0
    case neg =>
      rw [show actE m d = m from if_pos t1, show actD m dof d = d from if_pos t1]
      have t1b : (m != 0) = true := by simpa using t1
      clear t1
      go_enter Try.func63, Try.ntmps63
      go_wp2_with fail
      refine HF.out.mono ?_
      rintro e w1 ⟨rfl, rfl⟩
      go_wp2_with fail
      refine (MAY.out _ H.out (Tn.refl g _)).mono ?_
      rintro e w2 ⟨rfl, hb⟩
      have HB := Aside0.mk hb
      clear hb
      go_wp2_with fail
      go_ret
      exact ⟨rfl, H.out.below HB.out, Tn.of_below HB.out⟩
    subst t1
    by_cases t2 : 0 < d.fuse
    case pos =>
      rw [show actE 0 d = 0 from (if_neg (fun h => h rfl)).trans (if_neg (by omega)), show actD 0 dof d = dof { d with fuse := d.fuse - 1, off := false } from (if_neg (fun h => h rfl)).trans ((if_pos t2).trans (by rw [← HO.out]))]
      have t2b : decide (d.fuse > 0) = true := decide_eq_true t2
      have e1 : wrap64 (d.fuse - 1) = d.fuse - 1 := by have := HW.out; unfold wrap64; omega
      have T2 := Aside0.mk t2
      clear t2
      go_enter Try.func63, Try.ntmps63
      go_wp2_with fail
      refine HF.out.mono ?_
      rintro e w1 ⟨rfl, rfl⟩
      go_wp2_with fail
      refine (MAY.out _ H.out (Tn.refl g _)).mono ?_
      rintro e w2 ⟨rfl, hb⟩
      have HB := Aside0.mk hb
      clear hb
      have H2 := Aside0.mk (H.out.below HB.out)
      have x9 := X9'.out _ _ H2.out
      have z9 := Z9'.out _ _ H2.out
      go_wp2_with fail
      have T3 := (Tn.of_below (g := g) HB.out).set_own 9 (.int .i64 (d.fuse - 1))
      refine (DO.out _ (d.fuse - 1) false trivial (F9'.out _ _ H2.out) T3).mono ?_
      rintro e w3 ⟨rfl, hA, hT⟩
      have HA3 := Aside0.mk hA
      have HT3 := Aside0.mk (T3.trans hT)
      clear hA hT T3
      go_wp2_with fail
      go_ret
      exact ⟨rfl, HA3.out, HT3.out⟩
    have t2b : decide (d.fuse > 0) = false := decide_eq_false t2
    by_cases t3 : d.fuse = 0
    case neg =>
      rw [show actE 0 d = 0 from (if_neg (fun h => h rfl)).trans (if_neg t3), show actD 0 dof d = dof { d with fuse := d.fuse, off := d.off } from (if_neg (fun h => h rfl)).trans ((if_neg t2).trans (if_neg t3))]
      have t3b : (d.fuse == 0) = false := by simpa using t3
      have T2 := Aside0.mk t2
      clear t2 t3
      go_enter Try.func63, Try.ntmps63
      go_wp2_with fail
      refine HF.out.mono ?_
      rintro e w1 ⟨rfl, rfl⟩
      go_wp2_with fail
      refine (MAY.out _ H.out (Tn.refl g _)).mono ?_
      rintro e w2 ⟨rfl, hb⟩
      have HB := Aside0.mk hb
      clear hb
      have H2 := Aside0.mk (H.out.below HB.out)
      have x9 := X9'.out _ _ H2.out
      go_wp2_with fail
      refine (DO.out _ d.fuse d.off trivial H2.out (Tn.of_below HB.out)).mono ?_
      rintro e w3 ⟨rfl, hA, hT⟩
      have HA3 := Aside0.mk hA
      have HT3 := Aside0.mk ((Tn.of_below (g := g) HB.out).trans hT)
      clear hA hT
      go_wp2_with fail
      go_ret
      exact ⟨rfl, HA3.out, HT3.out⟩
    have t3b : (d.fuse == 0) = true := by simpa using t3
    rw [show actE 0 d = 12 from (if_neg (fun h => h rfl)).trans (if_pos t3), show actD 0 dof d = (if d.behind = true then dof { d with off := true, fuse := -1 } else { d with off := true, fuse := -1 }) from (if_neg (fun h => h rfl)).trans ((if_neg t2).trans (if_pos t3))]
    clear t2 t3
    have HB0 := Aside0.mk (show d.behind = true ∨ d.behind = false from by cases d.behind <;> simp)
    rcases HB0.out with b0 | b0
    · rw [if_pos b0]
      clear HB0
      go_enter Try.func63, Try.ntmps63
      go_wp2_with fail
      refine HF.out.mono ?_
      rintro e w1 ⟨rfl, rfl⟩
      go_wp2_with fail
      refine (MAY.out _ H.out (Tn.refl g _)).mono ?_
      rintro e w2 ⟨rfl, hb⟩
      have HB := Aside0.mk hb
      clear hb
      have H2 := Aside0.mk (H.out.below HB.out)
      have x9 := X9'.out _ _ H2.out
      go_wp2_with fail
      refine (disk_Fail.calls H2.out hr).mono ?_
      rintro e w3 ⟨rfl, hA, hT⟩
      have HA3 := Aside0.mk hA
      have HT3 := Aside0.mk ((Tn.of_below (g := g) HB.out).trans hT)
      clear hA hT x9
      have x10 := X10'.out _ _ HA3.out
      rw [show (({ d with off := true, fuse := -1 } : D).behind) = true from b0] at x10
      go_wp2_with fail
      refine (DO.out _ (-1) true trivial HA3.out HT3.out).mono ?_
      rintro e w4 ⟨rfl, hA, hT⟩
      have HA4 := Aside0.mk hA
      have HT4 := Aside0.mk (HT3.out.trans hT)
      clear hA hT
      go_wp2_with fail
      go_ret
      exact ⟨rfl, HA4.out, HT4.out⟩
    · rw [if_neg (by rw [b0]; simp)]
      clear HB0
      go_enter Try.func63, Try.ntmps63
      go_wp2_with fail
      refine HF.out.mono ?_
      rintro e w1 ⟨rfl, rfl⟩
      go_wp2_with fail
      refine (MAY.out _ H.out (Tn.refl g _)).mono ?_
      rintro e w2 ⟨rfl, hb⟩
      have HB := Aside0.mk hb
      clear hb
      have H2 := Aside0.mk (H.out.below HB.out)
      have x9 := X9'.out _ _ H2.out
      go_wp2_with fail
      refine (disk_Fail.calls H2.out hr).mono ?_
      rintro e w3 ⟨rfl, hA, hT⟩
      have HA3 := Aside0.mk hA
      have HT3 := Aside0.mk ((Tn.of_below (g := g) HB.out).trans hT)
      clear hA hT x9
      have x10 := X10'.out _ _ HA3.out
      rw [show (({ d with off := true, fuse := -1 } : D).behind) = false from b0] at x10
      go_wp2_with fail
      go_ret
      exact ⟨rfl, HA3.out, HT3.out⟩
  · skip
    have HF := Aside0.mk (disk_file.calls H.out hr ho true)
    clear ho
    simp only [fo, iv] at HF MAY DO ⊢
    by_cases t1 : m = 0
    case neg =>
      rw [show actE m d = m from if_pos t1, show actD m dof d = d from if_pos t1]
      have t1b : (m != 0) = true := by simpa using t1
      clear t1
      go_enter Try.func63, Try.ntmps63
      go_wp2_with fail
      refine HF.out.mono ?_
      rintro e w1 ⟨rfl, rfl⟩
      go_wp2_with fail
      refine (MAY.out _ H.out (Tn.refl g _)).mono ?_
      rintro e w2 ⟨rfl, hb⟩
      have HB := Aside0.mk hb
      clear hb
      go_wp2_with fail
      go_ret
      exact ⟨rfl, H.out.below HB.out, Tn.of_below HB.out⟩
    subst t1
    by_cases t2 : 0 < d.fuse
    case pos =>
      rw [show actE 0 d = 0 from (if_neg (fun h => h rfl)).trans (if_neg (by omega)), show actD 0 dof d = dof { d with fuse := d.fuse - 1, off := false } from (if_neg (fun h => h rfl)).trans ((if_pos t2).trans (by rw [← HO.out]))]
      have t2b : decide (d.fuse > 0) = true := decide_eq_true t2
      have e1 : wrap64 (d.fuse - 1) = d.fuse - 1 := by have := HW.out; unfold wrap64; omega
      have T2 := Aside0.mk t2
      clear t2
      go_enter Try.func63, Try.ntmps63
      go_wp2_with fail
      refine HF.out.mono ?_
      rintro e w1 ⟨rfl, rfl⟩
      go_wp2_with fail
      refine (MAY.out _ H.out (Tn.refl g _)).mono ?_
      rintro e w2 ⟨rfl, hb⟩
      have HB := Aside0.mk hb
      clear hb
      have H2 := Aside0.mk (H.out.below HB.out)
      have x9 := X9'.out _ _ H2.out
      have z9 := Z9'.out _ _ H2.out
      go_wp2_with fail
      have T3 := (Tn.of_below (g := g) HB.out).set_own 9 (.int .i64 (d.fuse - 1))
      refine (DO.out _ (d.fuse - 1) false trivial (F9'.out _ _ H2.out) T3).mono ?_
      rintro e w3 ⟨rfl, hA, hT⟩
      have HA3 := Aside0.mk hA
      have HT3 := Aside0.mk (T3.trans hT)
      clear hA hT T3
      go_wp2_with fail
      go_ret
      exact ⟨rfl, HA3.out, HT3.out⟩
    have t2b : decide (d.fuse > 0) = false := decide_eq_false t2
    by_cases t3 : d.fuse = 0
    case neg =>
      rw [show actE 0 d = 0 from (if_neg (fun h => h rfl)).trans (if_neg t3), show actD 0 dof d = dof { d with fuse := d.fuse, off := d.off } from (if_neg (fun h => h rfl)).trans ((if_neg t2).trans (if_neg t3))]
      have t3b : (d.fuse == 0) = false := by simpa using t3
      have T2 := Aside0.mk t2
      clear t2 t3
      go_enter Try.func63, Try.ntmps63
      go_wp2_with fail
      refine HF.out.mono ?_
      rintro e w1 ⟨rfl, rfl⟩
      go_wp2_with fail
      refine (MAY.out _ H.out (Tn.refl g _)).mono ?_
      rintro e w2 ⟨rfl, hb⟩
      have HB := Aside0.mk hb
      clear hb
      have H2 := Aside0.mk (H.out.below HB.out)
      have x9 := X9'.out _ _ H2.out
      go_wp2_with fail
      refine (DO.out _ d.fuse d.off trivial H2.out (Tn.of_below HB.out)).mono ?_
      rintro e w3 ⟨rfl, hA, hT⟩
      have HA3 := Aside0.mk hA
      have HT3 := Aside0.mk ((Tn.of_below (g := g) HB.out).trans hT)
      clear hA hT
      go_wp2_with fail
      go_ret
      exact ⟨rfl, HA3.out, HT3.out⟩
    have t3b : (d.fuse == 0) = true := by simpa using t3
    rw [show actE 0 d = 12 from (if_neg (fun h => h rfl)).trans (if_pos t3), show actD 0 dof d = (if d.behind = true then dof { d with off := true, fuse := -1 } else { d with off := true, fuse := -1 }) from (if_neg (fun h => h rfl)).trans ((if_neg t2).trans (if_pos t3))]
    clear t2 t3
    have HB0 := Aside0.mk (show d.behind = true ∨ d.behind = false from by cases d.behind <;> simp)
    rcases HB0.out with b0 | b0
    · rw [if_pos b0]
      clear HB0
      go_enter Try.func63, Try.ntmps63
      go_wp2_with fail
      refine HF.out.mono ?_
      rintro e w1 ⟨rfl, rfl⟩
      go_wp2_with fail
      refine (MAY.out _ H.out (Tn.refl g _)).mono ?_
      rintro e w2 ⟨rfl, hb⟩
      have HB := Aside0.mk hb
      clear hb
      have H2 := Aside0.mk (H.out.below HB.out)
      have x9 := X9'.out _ _ H2.out
      go_wp2_with fail
      refine (disk_Fail.calls H2.out hr).mono ?_
      rintro e w3 ⟨rfl, hA, hT⟩
      have HA3 := Aside0.mk hA
      have HT3 := Aside0.mk ((Tn.of_below (g := g) HB.out).trans hT)
      clear hA hT x9
      have x10 := X10'.out _ _ HA3.out
      rw [show (({ d with off := true, fuse := -1 } : D).behind) = true from b0] at x10
      go_wp2_with fail
      refine (DO.out _ (-1) true trivial HA3.out HT3.out).mono ?_
      rintro e w4 ⟨rfl, hA, hT⟩
      have HA4 := Aside0.mk hA
      have HT4 := Aside0.mk (HT3.out.trans hT)
      clear hA hT
      go_wp2_with fail
      go_ret
      exact ⟨rfl, HA4.out, HT4.out⟩
    · rw [if_neg (by rw [b0]; simp)]
      clear HB0
      go_enter Try.func63, Try.ntmps63
      go_wp2_with fail
      refine HF.out.mono ?_
      rintro e w1 ⟨rfl, rfl⟩
      go_wp2_with fail
      refine (MAY.out _ H.out (Tn.refl g _)).mono ?_
      rintro e w2 ⟨rfl, hb⟩
      have HB := Aside0.mk hb
      clear hb
      have H2 := Aside0.mk (H.out.below HB.out)
      have x9 := X9'.out _ _ H2.out
      go_wp2_with fail
      refine (disk_Fail.calls H2.out hr).mono ?_
      rintro e w3 ⟨rfl, hA, hT⟩
      have HA3 := Aside0.mk hA
      have HT3 := Aside0.mk ((Tn.of_below (g := g) HB.out).trans hT)
      clear hA hT x9
      have x10 := X10'.out _ _ HA3.out
      rw [show (({ d with off := true, fuse := -1 } : D).behind) = false from b0] at x10
      go_wp2_with fail
      go_ret
      exact ⟨rfl, HA3.out, HT3.out⟩
set_option maxHeartbeats 4000000 in
set_option maxRecDepth 100000 in
theorem disk_act.Truncate {g : Nat} {ok : Nat → Prop} {d : D} {w : World} (h : At g ok d w) (hr : 0 < d.room) (ho : d.off = false) (hz : d.fuse < 9223372036854775808) (i : Bool) (m : Int) (dof : D → D) (p1 p2 : Value)
    (may : ∀ W, At g ok d W → Tn g w W → Calls Try.prog 69 #[fo g i, p1] W fun e w' => e = .returned (.int .i64 m) ∧ Below W.heap.size W w')
    (do_ : ∀ W f o, m = 0 → At g ok { d with fuse := f, off := o } W → Tn g w W → Calls Try.prog 70 #[fo g i, p1] W fun e w' => e = .returned (.tuple #[]) ∧ At g ok (dof { d with fuse := f, off := o }) w' ∧ Tn g W w') :
    Calls Try.prog 63 #[.pointer (some ⟨g, 0, none⟩), .int .i64 (iv i), .func (.func 69) #[] #[p1], .func (.func 70) #[] #[p1]] w fun e w' => e = .returned (.int .i64 (actE m d)) ∧ At g ok (actD m dof d) w' ∧ Tn g w w' := by
  have H := Aside0.mk h
  have MAY := Aside0.mk may
  have DO := Aside0.mk do_
  clear may do_ h
  have X9 : ∀ W d', At g ok d' W → W.cell? ⟨g, 9, none⟩ = some (.int .i64 d'.fuse) := by
    intro W d' h
    obtain ⟨v0, v1, v2, v3, HA, _⟩ := h.ex
    exact HA.cell 9
  have Z9 : ∀ W d', At g ok d' W → W.frozen? ⟨g, 9, none⟩ = false := by
    intro W d' h
    obtain ⟨v0, v1, v2, v3, HA, _⟩ := h.ex
    exact HA.frozen 9
  have X10 : ∀ W d', At g ok d' W → W.cell? ⟨g, 10, none⟩ = some (.bool d'.behind) := by
    intro W d' h
    obtain ⟨v0, v1, v2, v3, HA, _⟩ := h.ex
    exact HA.cell 10
  have F9 : ∀ W (f : Int), At g ok d W → At g ok { d with fuse := f, off := false } (W.setCell ⟨g, 9, none⟩ (.int .i64 f)) := by
    intro W f h
    obtain ⟨v0, v1, v2, v3, HA, V0, V1, V2, V3⟩ := h.ex
    have T := (Tn.refl g W).set_own 9 (.int .i64 f)
    have hn := h.nok
    rw [← ho]
    exact h.turn T (HA.set 9 _) (V_tn V0 hn T) (V_tn V1 hn T) (V_tn V2 hn T) (V_tn V3 hn T)
  have X9' := Aside0.mk X9
  have Z9' := Aside0.mk Z9
  have X10' := Aside0.mk X10
  have F9' := Aside0.mk F9
  clear X9 Z9 X10 F9
  have HO := Aside0.mk ho
  have HW := Aside0.mk hz
  clear hz
  cases i
  · skip
    have HF := Aside0.mk (disk_file.calls H.out hr ho false)
    clear ho
    simp only [fo, iv] at HF MAY DO ⊢
    by_cases t1 : m = 0
    case neg =>
      rw [show actE m d = m from if_pos t1, show actD m dof d = d from if_pos t1]
      have t1b : (m != 0) = true := by simpa using t1
      clear t1
      go_enter Try.func63, Try.ntmps63
      go_wp2_with fail
      refine HF.out.mono ?_
      rintro e w1 ⟨rfl, rfl⟩
      go_wp2_with fail
      refine (MAY.out _ H.out (Tn.refl g _)).mono ?_
      rintro e w2 ⟨rfl, hb⟩
      have HB := Aside0.mk hb
      clear hb
      go_wp2_with fail
      go_ret
      exact ⟨rfl, H.out.below HB.out, Tn.of_below HB.out⟩
    subst t1
    by_cases t2 : 0 < d.fuse
    case pos =>
      rw [show actE 0 d = 0 from (if_neg (fun h => h rfl)).trans (if_neg (by omega)), show actD 0 dof d = dof { d with fuse := d.fuse - 1, off := false } from (if_neg (fun h => h rfl)).trans ((if_pos t2).trans (by rw [← HO.out]))]
      have t2b : decide (d.fuse > 0) = true := decide_eq_true t2
      have e1 : wrap64 (d.fuse - 1) = d.fuse - 1 := by have := HW.out; unfold wrap64; omega
      have T2 := Aside0.mk t2
      clear t2
      go_enter Try.func63, Try.ntmps63
      go_wp2_with fail
      refine HF.out.mono ?_
      rintro e w1 ⟨rfl, rfl⟩
      go_wp2_with fail
      refine (MAY.out _ H.out (Tn.refl g _)).mono ?_
      rintro e w2 ⟨rfl, hb⟩
      have HB := Aside0.mk hb
      clear hb
      have H2 := Aside0.mk (H.out.below HB.out)
      have x9 := X9'.out _ _ H2.out
      have z9 := Z9'.out _ _ H2.out
      go_wp2_with fail
      have T3 := (Tn.of_below (g := g) HB.out).set_own 9 (.int .i64 (d.fuse - 1))
      refine (DO.out _ (d.fuse - 1) false trivial (F9'.out _ _ H2.out) T3).mono ?_
      rintro e w3 ⟨rfl, hA, hT⟩
      have HA3 := Aside0.mk hA
      have HT3 := Aside0.mk (T3.trans hT)
      clear hA hT T3
      go_wp2_with fail
      go_ret
      exact ⟨rfl, HA3.out, HT3.out⟩
    have t2b : decide (d.fuse > 0) = false := decide_eq_false t2
    by_cases t3 : d.fuse = 0
    case neg =>
      rw [show actE 0 d = 0 from (if_neg (fun h => h rfl)).trans (if_neg t3), show actD 0 dof d = dof { d with fuse := d.fuse, off := d.off } from (if_neg (fun h => h rfl)).trans ((if_neg t2).trans (if_neg t3))]
      have t3b : (d.fuse == 0) = false := by simpa using t3
      have T2 := Aside0.mk t2
      clear t2 t3
      go_enter Try.func63, Try.ntmps63
      go_wp2_with fail
      refine HF.out.mono ?_
      rintro e w1 ⟨rfl, rfl⟩
      go_wp2_with fail
      refine (MAY.out _ H.out (Tn.refl g _)).mono ?_
      rintro e w2 ⟨rfl, hb⟩
      have HB := Aside0.mk hb
      clear hb
      have H2 := Aside0.mk (H.out.below HB.out)
      have x9 := X9'.out _ _ H2.out
      go_wp2_with fail
      refine (DO.out _ d.fuse d.off trivial H2.out (Tn.of_below HB.out)).mono ?_
      rintro e w3 ⟨rfl, hA, hT⟩
      have HA3 := Aside0.mk hA
      have HT3 := Aside0.mk ((Tn.of_below (g := g) HB.out).trans hT)
      clear hA hT
      go_wp2_with fail
      go_ret
      exact ⟨rfl, HA3.out, HT3.out⟩
    have t3b : (d.fuse == 0) = true := by simpa using t3
    rw [show actE 0 d = 12 from (if_neg (fun h => h rfl)).trans (if_pos t3), show actD 0 dof d = (if d.behind = true then dof { d with off := true, fuse := -1 } else { d with off := true, fuse := -1 }) from (if_neg (fun h => h rfl)).trans ((if_neg t2).trans (if_pos t3))]
    clear t2 t3
    have HB0 := Aside0.mk (show d.behind = true ∨ d.behind = false from by cases d.behind <;> simp)
    rcases HB0.out with b0 | b0
    · rw [if_pos b0]
      clear HB0
      go_enter Try.func63, Try.ntmps63
      go_wp2_with fail
      refine HF.out.mono ?_
      rintro e w1 ⟨rfl, rfl⟩
      go_wp2_with fail
      refine (MAY.out _ H.out (Tn.refl g _)).mono ?_
      rintro e w2 ⟨rfl, hb⟩
      have HB := Aside0.mk hb
      clear hb
      have H2 := Aside0.mk (H.out.below HB.out)
      have x9 := X9'.out _ _ H2.out
      go_wp2_with fail
      refine (disk_Fail.calls H2.out hr).mono ?_
      rintro e w3 ⟨rfl, hA, hT⟩
      have HA3 := Aside0.mk hA
      have HT3 := Aside0.mk ((Tn.of_below (g := g) HB.out).trans hT)
      clear hA hT x9
      have x10 := X10'.out _ _ HA3.out
      rw [show (({ d with off := true, fuse := -1 } : D).behind) = true from b0] at x10
      go_wp2_with fail
      refine (DO.out _ (-1) true trivial HA3.out HT3.out).mono ?_
      rintro e w4 ⟨rfl, hA, hT⟩
      have HA4 := Aside0.mk hA
      have HT4 := Aside0.mk (HT3.out.trans hT)
      clear hA hT
      go_wp2_with fail
      go_ret
      exact ⟨rfl, HA4.out, HT4.out⟩
    · rw [if_neg (by rw [b0]; simp)]
      clear HB0
      go_enter Try.func63, Try.ntmps63
      go_wp2_with fail
      refine HF.out.mono ?_
      rintro e w1 ⟨rfl, rfl⟩
      go_wp2_with fail
      refine (MAY.out _ H.out (Tn.refl g _)).mono ?_
      rintro e w2 ⟨rfl, hb⟩
      have HB := Aside0.mk hb
      clear hb
      have H2 := Aside0.mk (H.out.below HB.out)
      have x9 := X9'.out _ _ H2.out
      go_wp2_with fail
      refine (disk_Fail.calls H2.out hr).mono ?_
      rintro e w3 ⟨rfl, hA, hT⟩
      have HA3 := Aside0.mk hA
      have HT3 := Aside0.mk ((Tn.of_below (g := g) HB.out).trans hT)
      clear hA hT x9
      have x10 := X10'.out _ _ HA3.out
      rw [show (({ d with off := true, fuse := -1 } : D).behind) = false from b0] at x10
      go_wp2_with fail
      go_ret
      exact ⟨rfl, HA3.out, HT3.out⟩
  · skip
    have HF := Aside0.mk (disk_file.calls H.out hr ho true)
    clear ho
    simp only [fo, iv] at HF MAY DO ⊢
    by_cases t1 : m = 0
    case neg =>
      rw [show actE m d = m from if_pos t1, show actD m dof d = d from if_pos t1]
      have t1b : (m != 0) = true := by simpa using t1
      clear t1
      go_enter Try.func63, Try.ntmps63
      go_wp2_with fail
      refine HF.out.mono ?_
      rintro e w1 ⟨rfl, rfl⟩
      go_wp2_with fail
      refine (MAY.out _ H.out (Tn.refl g _)).mono ?_
      rintro e w2 ⟨rfl, hb⟩
      have HB := Aside0.mk hb
      clear hb
      go_wp2_with fail
      go_ret
      exact ⟨rfl, H.out.below HB.out, Tn.of_below HB.out⟩
    subst t1
    by_cases t2 : 0 < d.fuse
    case pos =>
      rw [show actE 0 d = 0 from (if_neg (fun h => h rfl)).trans (if_neg (by omega)), show actD 0 dof d = dof { d with fuse := d.fuse - 1, off := false } from (if_neg (fun h => h rfl)).trans ((if_pos t2).trans (by rw [← HO.out]))]
      have t2b : decide (d.fuse > 0) = true := decide_eq_true t2
      have e1 : wrap64 (d.fuse - 1) = d.fuse - 1 := by have := HW.out; unfold wrap64; omega
      have T2 := Aside0.mk t2
      clear t2
      go_enter Try.func63, Try.ntmps63
      go_wp2_with fail
      refine HF.out.mono ?_
      rintro e w1 ⟨rfl, rfl⟩
      go_wp2_with fail
      refine (MAY.out _ H.out (Tn.refl g _)).mono ?_
      rintro e w2 ⟨rfl, hb⟩
      have HB := Aside0.mk hb
      clear hb
      have H2 := Aside0.mk (H.out.below HB.out)
      have x9 := X9'.out _ _ H2.out
      have z9 := Z9'.out _ _ H2.out
      go_wp2_with fail
      have T3 := (Tn.of_below (g := g) HB.out).set_own 9 (.int .i64 (d.fuse - 1))
      refine (DO.out _ (d.fuse - 1) false trivial (F9'.out _ _ H2.out) T3).mono ?_
      rintro e w3 ⟨rfl, hA, hT⟩
      have HA3 := Aside0.mk hA
      have HT3 := Aside0.mk (T3.trans hT)
      clear hA hT T3
      go_wp2_with fail
      go_ret
      exact ⟨rfl, HA3.out, HT3.out⟩
    have t2b : decide (d.fuse > 0) = false := decide_eq_false t2
    by_cases t3 : d.fuse = 0
    case neg =>
      rw [show actE 0 d = 0 from (if_neg (fun h => h rfl)).trans (if_neg t3), show actD 0 dof d = dof { d with fuse := d.fuse, off := d.off } from (if_neg (fun h => h rfl)).trans ((if_neg t2).trans (if_neg t3))]
      have t3b : (d.fuse == 0) = false := by simpa using t3
      have T2 := Aside0.mk t2
      clear t2 t3
      go_enter Try.func63, Try.ntmps63
      go_wp2_with fail
      refine HF.out.mono ?_
      rintro e w1 ⟨rfl, rfl⟩
      go_wp2_with fail
      refine (MAY.out _ H.out (Tn.refl g _)).mono ?_
      rintro e w2 ⟨rfl, hb⟩
      have HB := Aside0.mk hb
      clear hb
      have H2 := Aside0.mk (H.out.below HB.out)
      have x9 := X9'.out _ _ H2.out
      go_wp2_with fail
      refine (DO.out _ d.fuse d.off trivial H2.out (Tn.of_below HB.out)).mono ?_
      rintro e w3 ⟨rfl, hA, hT⟩
      have HA3 := Aside0.mk hA
      have HT3 := Aside0.mk ((Tn.of_below (g := g) HB.out).trans hT)
      clear hA hT
      go_wp2_with fail
      go_ret
      exact ⟨rfl, HA3.out, HT3.out⟩
    have t3b : (d.fuse == 0) = true := by simpa using t3
    rw [show actE 0 d = 12 from (if_neg (fun h => h rfl)).trans (if_pos t3), show actD 0 dof d = (if d.behind = true then dof { d with off := true, fuse := -1 } else { d with off := true, fuse := -1 }) from (if_neg (fun h => h rfl)).trans ((if_neg t2).trans (if_pos t3))]
    clear t2 t3
    have HB0 := Aside0.mk (show d.behind = true ∨ d.behind = false from by cases d.behind <;> simp)
    rcases HB0.out with b0 | b0
    · rw [if_pos b0]
      clear HB0
      go_enter Try.func63, Try.ntmps63
      go_wp2_with fail
      refine HF.out.mono ?_
      rintro e w1 ⟨rfl, rfl⟩
      go_wp2_with fail
      refine (MAY.out _ H.out (Tn.refl g _)).mono ?_
      rintro e w2 ⟨rfl, hb⟩
      have HB := Aside0.mk hb
      clear hb
      have H2 := Aside0.mk (H.out.below HB.out)
      have x9 := X9'.out _ _ H2.out
      go_wp2_with fail
      refine (disk_Fail.calls H2.out hr).mono ?_
      rintro e w3 ⟨rfl, hA, hT⟩
      have HA3 := Aside0.mk hA
      have HT3 := Aside0.mk ((Tn.of_below (g := g) HB.out).trans hT)
      clear hA hT x9
      have x10 := X10'.out _ _ HA3.out
      rw [show (({ d with off := true, fuse := -1 } : D).behind) = true from b0] at x10
      go_wp2_with fail
      refine (DO.out _ (-1) true trivial HA3.out HT3.out).mono ?_
      rintro e w4 ⟨rfl, hA, hT⟩
      have HA4 := Aside0.mk hA
      have HT4 := Aside0.mk (HT3.out.trans hT)
      clear hA hT
      go_wp2_with fail
      go_ret
      exact ⟨rfl, HA4.out, HT4.out⟩
    · rw [if_neg (by rw [b0]; simp)]
      clear HB0
      go_enter Try.func63, Try.ntmps63
      go_wp2_with fail
      refine HF.out.mono ?_
      rintro e w1 ⟨rfl, rfl⟩
      go_wp2_with fail
      refine (MAY.out _ H.out (Tn.refl g _)).mono ?_
      rintro e w2 ⟨rfl, hb⟩
      have HB := Aside0.mk hb
      clear hb
      have H2 := Aside0.mk (H.out.below HB.out)
      have x9 := X9'.out _ _ H2.out
      go_wp2_with fail
      refine (disk_Fail.calls H2.out hr).mono ?_
      rintro e w3 ⟨rfl, hA, hT⟩
      have HA3 := Aside0.mk hA
      have HT3 := Aside0.mk ((Tn.of_below (g := g) HB.out).trans hT)
      clear hA hT x9
      have x10 := X10'.out _ _ HA3.out
      rw [show (({ d with off := true, fuse := -1 } : D).behind) = false from b0] at x10
      go_wp2_with fail
      go_ret
      exact ⟨rfl, HA3.out, HT3.out⟩
set_option maxHeartbeats 4000000 in
set_option maxRecDepth 100000 in
theorem disk_act.Switch {g : Nat} {ok : Nat → Prop} {d : D} {w : World} (h : At g ok d w) (hr : 0 < d.room) (ho : d.off = false) (hz : d.fuse < 9223372036854775808) (i : Bool) (m : Int) (dof : D → D) (p1 p2 : Value)
    (may : ∀ W, At g ok d W → Tn g w W → Calls Try.prog 66 #[fo g i] W fun e w' => e = .returned (.int .i64 m) ∧ Below W.heap.size W w')
    (do_ : ∀ W f o, m = 0 → At g ok { d with fuse := f, off := o } W → Tn g w W → Calls Try.prog 68 #[fo g i, p1, p2] W fun e w' => e = .returned (.tuple #[]) ∧ At g ok (dof { d with fuse := f, off := o }) w' ∧ Tn g W w') :
    Calls Try.prog 63 #[.pointer (some ⟨g, 0, none⟩), .int .i64 (iv i), .func (.func 66) #[] #[], .func (.func 68) #[] #[p1, p2]] w fun e w' => e = .returned (.int .i64 (actE m d)) ∧ At g ok (actD m dof d) w' ∧ Tn g w w' := by
  have H := Aside0.mk h
  have MAY := Aside0.mk may
  have DO := Aside0.mk do_
  clear may do_ h
  have X9 : ∀ W d', At g ok d' W → W.cell? ⟨g, 9, none⟩ = some (.int .i64 d'.fuse) := by
    intro W d' h
    obtain ⟨v0, v1, v2, v3, HA, _⟩ := h.ex
    exact HA.cell 9
  have Z9 : ∀ W d', At g ok d' W → W.frozen? ⟨g, 9, none⟩ = false := by
    intro W d' h
    obtain ⟨v0, v1, v2, v3, HA, _⟩ := h.ex
    exact HA.frozen 9
  have X10 : ∀ W d', At g ok d' W → W.cell? ⟨g, 10, none⟩ = some (.bool d'.behind) := by
    intro W d' h
    obtain ⟨v0, v1, v2, v3, HA, _⟩ := h.ex
    exact HA.cell 10
  have F9 : ∀ W (f : Int), At g ok d W → At g ok { d with fuse := f, off := false } (W.setCell ⟨g, 9, none⟩ (.int .i64 f)) := by
    intro W f h
    obtain ⟨v0, v1, v2, v3, HA, V0, V1, V2, V3⟩ := h.ex
    have T := (Tn.refl g W).set_own 9 (.int .i64 f)
    have hn := h.nok
    rw [← ho]
    exact h.turn T (HA.set 9 _) (V_tn V0 hn T) (V_tn V1 hn T) (V_tn V2 hn T) (V_tn V3 hn T)
  have X9' := Aside0.mk X9
  have Z9' := Aside0.mk Z9
  have X10' := Aside0.mk X10
  have F9' := Aside0.mk F9
  clear X9 Z9 X10 F9
  have HO := Aside0.mk ho
  have HW := Aside0.mk hz
  clear hz
  cases i
  · skip
    have HF := Aside0.mk (disk_file.calls H.out hr ho false)
    clear ho
    simp only [fo, iv] at HF MAY DO ⊢
    by_cases t1 : m = 0
    case neg =>
      rw [show actE m d = m from if_pos t1, show actD m dof d = d from if_pos t1]
      have t1b : (m != 0) = true := by simpa using t1
      clear t1
      go_enter Try.func63, Try.ntmps63
      go_wp2_with fail
      refine HF.out.mono ?_
      rintro e w1 ⟨rfl, rfl⟩
      go_wp2_with fail
      refine (MAY.out _ H.out (Tn.refl g _)).mono ?_
      rintro e w2 ⟨rfl, hb⟩
      have HB := Aside0.mk hb
      clear hb
      go_wp2_with fail
      go_ret
      exact ⟨rfl, H.out.below HB.out, Tn.of_below HB.out⟩
    subst t1
    by_cases t2 : 0 < d.fuse
    case pos =>
      rw [show actE 0 d = 0 from (if_neg (fun h => h rfl)).trans (if_neg (by omega)), show actD 0 dof d = dof { d with fuse := d.fuse - 1, off := false } from (if_neg (fun h => h rfl)).trans ((if_pos t2).trans (by rw [← HO.out]))]
      have t2b : decide (d.fuse > 0) = true := decide_eq_true t2
      have e1 : wrap64 (d.fuse - 1) = d.fuse - 1 := by have := HW.out; unfold wrap64; omega
      have T2 := Aside0.mk t2
      clear t2
      go_enter Try.func63, Try.ntmps63
      go_wp2_with fail
      refine HF.out.mono ?_
      rintro e w1 ⟨rfl, rfl⟩
      go_wp2_with fail
      refine (MAY.out _ H.out (Tn.refl g _)).mono ?_
      rintro e w2 ⟨rfl, hb⟩
      have HB := Aside0.mk hb
      clear hb
      have H2 := Aside0.mk (H.out.below HB.out)
      have x9 := X9'.out _ _ H2.out
      have z9 := Z9'.out _ _ H2.out
      go_wp2_with fail
      have T3 := (Tn.of_below (g := g) HB.out).set_own 9 (.int .i64 (d.fuse - 1))
      refine (DO.out _ (d.fuse - 1) false trivial (F9'.out _ _ H2.out) T3).mono ?_
      rintro e w3 ⟨rfl, hA, hT⟩
      have HA3 := Aside0.mk hA
      have HT3 := Aside0.mk (T3.trans hT)
      clear hA hT T3
      go_wp2_with fail
      go_ret
      exact ⟨rfl, HA3.out, HT3.out⟩
    have t2b : decide (d.fuse > 0) = false := decide_eq_false t2
    by_cases t3 : d.fuse = 0
    case neg =>
      rw [show actE 0 d = 0 from (if_neg (fun h => h rfl)).trans (if_neg t3), show actD 0 dof d = dof { d with fuse := d.fuse, off := d.off } from (if_neg (fun h => h rfl)).trans ((if_neg t2).trans (if_neg t3))]
      have t3b : (d.fuse == 0) = false := by simpa using t3
      have T2 := Aside0.mk t2
      clear t2 t3
      go_enter Try.func63, Try.ntmps63
      go_wp2_with fail
      refine HF.out.mono ?_
      rintro e w1 ⟨rfl, rfl⟩
      go_wp2_with fail
      refine (MAY.out _ H.out (Tn.refl g _)).mono ?_
      rintro e w2 ⟨rfl, hb⟩
      have HB := Aside0.mk hb
      clear hb
      have H2 := Aside0.mk (H.out.below HB.out)
      have x9 := X9'.out _ _ H2.out
      go_wp2_with fail
      refine (DO.out _ d.fuse d.off trivial H2.out (Tn.of_below HB.out)).mono ?_
      rintro e w3 ⟨rfl, hA, hT⟩
      have HA3 := Aside0.mk hA
      have HT3 := Aside0.mk ((Tn.of_below (g := g) HB.out).trans hT)
      clear hA hT
      go_wp2_with fail
      go_ret
      exact ⟨rfl, HA3.out, HT3.out⟩
    have t3b : (d.fuse == 0) = true := by simpa using t3
    rw [show actE 0 d = 12 from (if_neg (fun h => h rfl)).trans (if_pos t3), show actD 0 dof d = (if d.behind = true then dof { d with off := true, fuse := -1 } else { d with off := true, fuse := -1 }) from (if_neg (fun h => h rfl)).trans ((if_neg t2).trans (if_pos t3))]
    clear t2 t3
    have HB0 := Aside0.mk (show d.behind = true ∨ d.behind = false from by cases d.behind <;> simp)
    rcases HB0.out with b0 | b0
    · rw [if_pos b0]
      clear HB0
      go_enter Try.func63, Try.ntmps63
      go_wp2_with fail
      refine HF.out.mono ?_
      rintro e w1 ⟨rfl, rfl⟩
      go_wp2_with fail
      refine (MAY.out _ H.out (Tn.refl g _)).mono ?_
      rintro e w2 ⟨rfl, hb⟩
      have HB := Aside0.mk hb
      clear hb
      have H2 := Aside0.mk (H.out.below HB.out)
      have x9 := X9'.out _ _ H2.out
      go_wp2_with fail
      refine (disk_Fail.calls H2.out hr).mono ?_
      rintro e w3 ⟨rfl, hA, hT⟩
      have HA3 := Aside0.mk hA
      have HT3 := Aside0.mk ((Tn.of_below (g := g) HB.out).trans hT)
      clear hA hT x9
      have x10 := X10'.out _ _ HA3.out
      rw [show (({ d with off := true, fuse := -1 } : D).behind) = true from b0] at x10
      go_wp2_with fail
      refine (DO.out _ (-1) true trivial HA3.out HT3.out).mono ?_
      rintro e w4 ⟨rfl, hA, hT⟩
      have HA4 := Aside0.mk hA
      have HT4 := Aside0.mk (HT3.out.trans hT)
      clear hA hT
      go_wp2_with fail
      go_ret
      exact ⟨rfl, HA4.out, HT4.out⟩
    · rw [if_neg (by rw [b0]; simp)]
      clear HB0
      go_enter Try.func63, Try.ntmps63
      go_wp2_with fail
      refine HF.out.mono ?_
      rintro e w1 ⟨rfl, rfl⟩
      go_wp2_with fail
      refine (MAY.out _ H.out (Tn.refl g _)).mono ?_
      rintro e w2 ⟨rfl, hb⟩
      have HB := Aside0.mk hb
      clear hb
      have H2 := Aside0.mk (H.out.below HB.out)
      have x9 := X9'.out _ _ H2.out
      go_wp2_with fail
      refine (disk_Fail.calls H2.out hr).mono ?_
      rintro e w3 ⟨rfl, hA, hT⟩
      have HA3 := Aside0.mk hA
      have HT3 := Aside0.mk ((Tn.of_below (g := g) HB.out).trans hT)
      clear hA hT x9
      have x10 := X10'.out _ _ HA3.out
      rw [show (({ d with off := true, fuse := -1 } : D).behind) = false from b0] at x10
      go_wp2_with fail
      go_ret
      exact ⟨rfl, HA3.out, HT3.out⟩
  · skip
    have HF := Aside0.mk (disk_file.calls H.out hr ho true)
    clear ho
    simp only [fo, iv] at HF MAY DO ⊢
    by_cases t1 : m = 0
    case neg =>
      rw [show actE m d = m from if_pos t1, show actD m dof d = d from if_pos t1]
      have t1b : (m != 0) = true := by simpa using t1
      clear t1
      go_enter Try.func63, Try.ntmps63
      go_wp2_with fail
      refine HF.out.mono ?_
      rintro e w1 ⟨rfl, rfl⟩
      go_wp2_with fail
      refine (MAY.out _ H.out (Tn.refl g _)).mono ?_
      rintro e w2 ⟨rfl, hb⟩
      have HB := Aside0.mk hb
      clear hb
      go_wp2_with fail
      go_ret
      exact ⟨rfl, H.out.below HB.out, Tn.of_below HB.out⟩
    subst t1
    by_cases t2 : 0 < d.fuse
    case pos =>
      rw [show actE 0 d = 0 from (if_neg (fun h => h rfl)).trans (if_neg (by omega)), show actD 0 dof d = dof { d with fuse := d.fuse - 1, off := false } from (if_neg (fun h => h rfl)).trans ((if_pos t2).trans (by rw [← HO.out]))]
      have t2b : decide (d.fuse > 0) = true := decide_eq_true t2
      have e1 : wrap64 (d.fuse - 1) = d.fuse - 1 := by have := HW.out; unfold wrap64; omega
      have T2 := Aside0.mk t2
      clear t2
      go_enter Try.func63, Try.ntmps63
      go_wp2_with fail
      refine HF.out.mono ?_
      rintro e w1 ⟨rfl, rfl⟩
      go_wp2_with fail
      refine (MAY.out _ H.out (Tn.refl g _)).mono ?_
      rintro e w2 ⟨rfl, hb⟩
      have HB := Aside0.mk hb
      clear hb
      have H2 := Aside0.mk (H.out.below HB.out)
      have x9 := X9'.out _ _ H2.out
      have z9 := Z9'.out _ _ H2.out
      go_wp2_with fail
      have T3 := (Tn.of_below (g := g) HB.out).set_own 9 (.int .i64 (d.fuse - 1))
      refine (DO.out _ (d.fuse - 1) false trivial (F9'.out _ _ H2.out) T3).mono ?_
      rintro e w3 ⟨rfl, hA, hT⟩
      have HA3 := Aside0.mk hA
      have HT3 := Aside0.mk (T3.trans hT)
      clear hA hT T3
      go_wp2_with fail
      go_ret
      exact ⟨rfl, HA3.out, HT3.out⟩
    have t2b : decide (d.fuse > 0) = false := decide_eq_false t2
    by_cases t3 : d.fuse = 0
    case neg =>
      rw [show actE 0 d = 0 from (if_neg (fun h => h rfl)).trans (if_neg t3), show actD 0 dof d = dof { d with fuse := d.fuse, off := d.off } from (if_neg (fun h => h rfl)).trans ((if_neg t2).trans (if_neg t3))]
      have t3b : (d.fuse == 0) = false := by simpa using t3
      have T2 := Aside0.mk t2
      clear t2 t3
      go_enter Try.func63, Try.ntmps63
      go_wp2_with fail
      refine HF.out.mono ?_
      rintro e w1 ⟨rfl, rfl⟩
      go_wp2_with fail
      refine (MAY.out _ H.out (Tn.refl g _)).mono ?_
      rintro e w2 ⟨rfl, hb⟩
      have HB := Aside0.mk hb
      clear hb
      have H2 := Aside0.mk (H.out.below HB.out)
      have x9 := X9'.out _ _ H2.out
      go_wp2_with fail
      refine (DO.out _ d.fuse d.off trivial H2.out (Tn.of_below HB.out)).mono ?_
      rintro e w3 ⟨rfl, hA, hT⟩
      have HA3 := Aside0.mk hA
      have HT3 := Aside0.mk ((Tn.of_below (g := g) HB.out).trans hT)
      clear hA hT
      go_wp2_with fail
      go_ret
      exact ⟨rfl, HA3.out, HT3.out⟩
    have t3b : (d.fuse == 0) = true := by simpa using t3
    rw [show actE 0 d = 12 from (if_neg (fun h => h rfl)).trans (if_pos t3), show actD 0 dof d = (if d.behind = true then dof { d with off := true, fuse := -1 } else { d with off := true, fuse := -1 }) from (if_neg (fun h => h rfl)).trans ((if_neg t2).trans (if_pos t3))]
    clear t2 t3
    have HB0 := Aside0.mk (show d.behind = true ∨ d.behind = false from by cases d.behind <;> simp)
    rcases HB0.out with b0 | b0
    · rw [if_pos b0]
      clear HB0
      go_enter Try.func63, Try.ntmps63
      go_wp2_with fail
      refine HF.out.mono ?_
      rintro e w1 ⟨rfl, rfl⟩
      go_wp2_with fail
      refine (MAY.out _ H.out (Tn.refl g _)).mono ?_
      rintro e w2 ⟨rfl, hb⟩
      have HB := Aside0.mk hb
      clear hb
      have H2 := Aside0.mk (H.out.below HB.out)
      have x9 := X9'.out _ _ H2.out
      go_wp2_with fail
      refine (disk_Fail.calls H2.out hr).mono ?_
      rintro e w3 ⟨rfl, hA, hT⟩
      have HA3 := Aside0.mk hA
      have HT3 := Aside0.mk ((Tn.of_below (g := g) HB.out).trans hT)
      clear hA hT x9
      have x10 := X10'.out _ _ HA3.out
      rw [show (({ d with off := true, fuse := -1 } : D).behind) = true from b0] at x10
      go_wp2_with fail
      refine (DO.out _ (-1) true trivial HA3.out HT3.out).mono ?_
      rintro e w4 ⟨rfl, hA, hT⟩
      have HA4 := Aside0.mk hA
      have HT4 := Aside0.mk (HT3.out.trans hT)
      clear hA hT
      go_wp2_with fail
      go_ret
      exact ⟨rfl, HA4.out, HT4.out⟩
    · rw [if_neg (by rw [b0]; simp)]
      clear HB0
      go_enter Try.func63, Try.ntmps63
      go_wp2_with fail
      refine HF.out.mono ?_
      rintro e w1 ⟨rfl, rfl⟩
      go_wp2_with fail
      refine (MAY.out _ H.out (Tn.refl g _)).mono ?_
      rintro e w2 ⟨rfl, hb⟩
      have HB := Aside0.mk hb
      clear hb
      have H2 := Aside0.mk (H.out.below HB.out)
      have x9 := X9'.out _ _ H2.out
      go_wp2_with fail
      refine (disk_Fail.calls H2.out hr).mono ?_
      rintro e w3 ⟨rfl, hA, hT⟩
      have HA3 := Aside0.mk hA
      have HT3 := Aside0.mk ((Tn.of_below (g := g) HB.out).trans hT)
      clear hA hT x9
      have x10 := X10'.out _ _ HA3.out
      rw [show (({ d with off := true, fuse := -1 } : D).behind) = false from b0] at x10
      go_wp2_with fail
      go_ret
      exact ⟨rfl, HA3.out, HT3.out⟩
theorem disk_Sync.calls {g : Nat} {ok : Nat → Prop} {d : D} {w : World} (h : At g ok d w) (hr : 0 < d.room) (ho : d.off = false) (hz : d.fuse < 9223372036854775808) (i : Bool) :
    Calls Try.prog 47 #[.pointer (some ⟨g, 0, none⟩), .int .i64 (iv i)] w fun e w' => e = .returned (.int .i64 (actE 0 d)) ∧ At g ok (actD 0 (syn i) d) w' ∧ Tn g w w' := by
  have HC := Aside0.mk (disk_act.Sync h hr ho hz i 0 (syn i) (.pointer none) (.pointer none) (fun W _ _ => (disk_always.calls _ W).mono (fun e w' q => ⟨q.1, q.2 ▸ Below.refl _ _⟩)) (fun W f o _ hA _ => disk_Sync_1.calls hA i))
  clear h
  go_enter Try.func47, Try.ntmps47
  go_wp2_with fail
  refine HC.out.mono ?_
  rintro e w1 ⟨rfl, hA, hT⟩
  go_wp2_with fail
  go_ret
  exact ⟨rfl, hA, hT⟩
theorem disk_Sync.err {v : Value} {i er : Int} {w : World} (hf : Calls Try.prog 58 #[v, .int .i64 i] w fun e w' => e = .returned (.tuple #[.pointer none, .int .i64 er]) ∧ w' = w) (he : er ≠ 0) :
    Calls Try.prog 47 #[v, .int .i64 i] w fun e w' => e = .returned (.int .i64 er) ∧ w' = w := by
  have HC := fun mv dv => Aside0.mk (disk_act.err hf he mv dv)
  clear hf
  go_enter Try.func47, Try.ntmps47
  go_wp2_with fail
  refine (HC _ _).out.mono ?_
  rintro e w1 ⟨rfl, rfl⟩
  go_wp2_with fail
  go_ret
  exact ⟨rfl, rfl⟩
theorem disk_Truncate.calls {g : Nat} {ok : Nat → Prop} {d : D} {w : World} (h : At g ok d w) (hr : 0 < d.room) (ho : d.off = false) (hz : d.fuse < 9223372036854775808) (i : Bool) (n : Int) :
    Calls Try.prog 52 #[.pointer (some ⟨g, 0, none⟩), .int .i64 (iv i), .int .i64 n] w fun e w' => e = .returned (.int .i64 (actE (troom n (d.fl i)) d)) ∧ At g ok (actD (troom n (d.fl i)) (tru i n) d) w' ∧ Tn g w w' := by
  have hq : w.heap.size ≠ g := fun e => absurd h.lt (by omega)
  have HA1 := h.below (below_alloc (Below.refl _ w) (.cells #[.int .i64 n] 3))
  have y1 : (w.alloc (.cells #[.int .i64 n] 3)).cell? ⟨w.heap.size, 0, none⟩ = some (.int .i64 n) := (Blk.At.new w #[.int .i64 n] 3).cell 0
  have HC := Aside0.mk (disk_act.Truncate HA1 hr ho hz i (troom n (d.fl i)) (tru i n) (.pointer (some ⟨w.heap.size, 0, none⟩)) (.pointer none) (fun W hA hT => disk_Truncate_1.calls hA i (cell_tn y1 hT hq)) (fun W f o hm hA hT => by
    have hb : ¬ (n < 0 ∨ ((d.fl i).now.length : Int) < n) := fun hh => by
      rw [show troom n (d.fl i) = 1 from if_pos hh] at hm
      cases hm
    have e : (({ d with fuse := f, off := o } : D).fl i) = d.fl i := by cases i <;> rfl
    exact disk_Truncate_2.calls hA i (cell_tn y1 hT hq) hq (by omega) (by rw [e]; omega)))
  clear h HA1 y1
  go_enter Try.func52, Try.ntmps52
  go_wp2_with fail
  refine HC.out.mono ?_
  rintro e w1 ⟨rfl, hA, hT⟩
  go_wp2_with fail
  go_ret
  exact ⟨rfl, hA, ((Tn.refl g w).alloc _).trans hT⟩
theorem disk_Truncate.err {v : Value} {i er : Int} {w : World} (n : Int) (hf : ∀ W, Below w.heap.size w W → Calls Try.prog 58 #[v, .int .i64 i] W fun e w' => e = .returned (.tuple #[.pointer none, .int .i64 er]) ∧ w' = W) (he : er ≠ 0) :
    Calls Try.prog 52 #[v, .int .i64 i, .int .i64 n] w fun e w' => e = .returned (.int .i64 er) ∧ Below w.heap.size w w' := by
  have HC := fun W hW mv dv => Aside0.mk (disk_act.err (hf W hW) he mv dv)
  clear hf
  go_enter Try.func52, Try.ntmps52
  go_wp2_with fail
  refine (HC _ (below_alloc (Below.refl _ w) _) _ _).out.mono ?_
  rintro e w1 ⟨rfl, rfl⟩
  go_wp2_with fail
  go_ret
  exact ⟨rfl, below_alloc (Below.refl _ _) _⟩
def swi (n : Int) (d : D) : D := { d with root := n }
theorem disk_Switch.calls {g : Nat} {ok : Nat → Prop} {d : D} {w : World} (h : At g ok d w) (hr : 0 < d.room) (ho : d.off = false) (hz : d.fuse < 9223372036854775808) (i : Bool) :
    Calls Try.prog 51 #[.pointer (some ⟨g, 0, none⟩), .int .i64 (iv i)] w fun e w' => e = .returned (.int .i64 (actE 0 d)) ∧ At g ok (actD 0 (swi (iv i)) d) w' ∧ Tn g w w' := by
  have hlt := h.lt
  have hb1 := below_alloc (Below.refl _ w) (.cells #[.pointer (some ⟨g, 0, none⟩)] 35)
  have HA1 := h.below hb1
  have y2 : (w.alloc (.cells #[.pointer (some ⟨g, 0, none⟩)] 35)).cell? ⟨w.heap.size, 0, none⟩ = some (.pointer (some ⟨g, 0, none⟩)) := (Blk.At.new w #[.pointer (some ⟨g, 0, none⟩)] 35).cell 0
  obtain ⟨wa, hwa⟩ : ∃ wa, wa = w.alloc (.cells #[.pointer (some ⟨g, 0, none⟩)] 35) := ⟨_, rfl⟩
  have hsz : wa.heap.size = w.heap.size + 1 := by rw [hwa, size_alloc]
  rw [← hwa] at hb1 HA1 y2
  have hb2 := below_alloc (Below.refl _ wa) (.cells #[.int .i64 (iv i)] 3)
  have HA2 := HA1.below hb2
  have y1 : (wa.alloc (.cells #[.int .i64 (iv i)] 3)).cell? ⟨wa.heap.size, 0, none⟩ = some (.int .i64 (iv i)) := (Blk.At.new wa #[.int .i64 (iv i)] 3).cell 0
  have y2' := pw_cell_below hb2 y2
  have hq1 : wa.heap.size ≠ g := by omega
  have hq2 : w.heap.size ≠ g := by omega
  have HC := Aside0.mk (disk_act.Switch HA2 hr ho hz i 0 (swi (iv i)) (.pointer (some ⟨wa.heap.size, 0, none⟩)) (.pointer (some ⟨w.heap.size, 0, none⟩)) (fun W _ _ => (disk_always.calls _ W).mono (fun e w' q => ⟨q.1, q.2 ▸ Below.refl _ _⟩)) (fun W f o _ hA hT => disk_Switch_1.calls hA (cell_tn y1 hT hq1) (cell_tn y2' hT hq2) _))
  have HT := Aside0.mk ((Tn.of_below (g := g) (hb1.trans (hb2.mono (by omega)))))
  rw [hwa] at HC HT
  simp only [size_alloc] at HC
  clear h HA1 y1 y2 y2' HA2 hq1 hq2 hlt hb1 hb2 hwa hsz
  go_enter Try.func51, Try.ntmps51
  go_wp2_with fail
  refine HC.out.mono ?_
  rintro e w1 ⟨rfl, hA, hT⟩
  go_wp2_with fail
  go_ret
  exact ⟨rfl, hA, HT.out.trans hT⟩
set_option maxHeartbeats 4000000 in
theorem disk_Switch.err {p : Option Addr} {i er : Int} {w : World} (hf : ∀ W, Below w.heap.size w W → Calls Try.prog 58 #[.pointer p, .int .i64 i] W fun e w' => e = .returned (.tuple #[.pointer none, .int .i64 er]) ∧ w' = W) (he : er ≠ 0) :
    Calls Try.prog 51 #[.pointer p, .int .i64 i] w fun e w' => e = .returned (.int .i64 er) ∧ Below w.heap.size w w' := by
  have HC := fun W hW mv dv => Aside0.mk (disk_act.err (hf W hW) he mv dv)
  clear hf
  have y2 : (w.alloc (.cells #[.pointer p] 35)).cell? ⟨w.heap.size, 0, none⟩ = some (.pointer p) := (Blk.At.new w #[.pointer p] 35).cell 0
  have hb := below_alloc (below_alloc (Below.refl _ w) (.cells #[.pointer p] 35)) (.cells #[.int .i64 i] 3)
  have y3 := pw_cell_below (below_alloc (Below.refl _ (w.alloc (.cells #[.pointer p] 35))) (.cells #[.int .i64 i] 3)) y2
  go_enter Try.func51, Try.ntmps51
  go_wp2_with fail
  refine (HC _ hb _ _).out.mono ?_
  rintro e w1 ⟨rfl, rfl⟩
  go_wp2_with fail
  go_ret
  exact ⟨rfl, hb⟩
def room1 (d : D) (n : Nat) : Int := if d.room - d.a.now.length - d.b.now.length < n then 11 else 0
theorem disk_Append.calls {g : Nat} {ok okb : Nat → Prop} {d : D} {w : World} (h : At g ok d w) (hr : Room d) (ho : d.off = false) (hz : d.fuse < 9223372036854775808) (i : Bool) {bv : Value} {b : List Int} (hb : Vb okb w bv b) (hbg : ¬ okb g) :
    Calls Try.prog 46 #[.pointer (some ⟨g, 0, none⟩), .int .i64 (iv i), bv] w fun e w' => e = .returned (.int .i64 (actE (room1 d b.length) d)) ∧ At g ok (actD (room1 d b.length) (app i b) d) w' ∧ Tn g w w' := by
  obtain ⟨B, cb, rfl⟩ := Kd.V_slice hb
  have hlt := h.lt
  have hb1 := below_alloc (Below.refl _ w) (.cells #[.pointer (some ⟨g, 0, none⟩)] 35)
  have HA1 := h.below hb1
  have y2 : (w.alloc (.cells #[.pointer (some ⟨g, 0, none⟩)] 35)).cell? ⟨w.heap.size, 0, none⟩ = some (.pointer (some ⟨g, 0, none⟩)) := (Blk.At.new w #[.pointer (some ⟨g, 0, none⟩)] 35).cell 0
  obtain ⟨wa, hwa⟩ : ∃ wa, wa = w.alloc (.cells #[.pointer (some ⟨g, 0, none⟩)] 35) := ⟨_, rfl⟩
  have hsz : wa.heap.size = w.heap.size + 1 := by rw [hwa, size_alloc]
  rw [← hwa] at hb1 HA1 y2
  have hb2 := below_alloc (Below.refl _ wa) (.cells #[.slice B b.length cb] 22)
  have HA2 := HA1.below hb2
  have y1 : (wa.alloc (.cells #[.slice B b.length cb] 22)).cell? ⟨wa.heap.size, 0, none⟩ = some (.slice B b.length cb) := (Blk.At.new wa #[.slice B b.length cb] 22).cell 0
  have y2' := pw_cell_below hb2 y2
  have hq1 : wa.heap.size ≠ g := by omega
  have hq2 : w.heap.size ≠ g := by omega
  have hv2 := Kd.V_below (Kd.V_below hb hb1) hb2
  have HC := Aside0.mk (disk_act.Append HA2 hr.pos ho hz i (room1 d b.length) (app i b) (.pointer (some ⟨wa.heap.size, 0, none⟩)) (.pointer (some ⟨w.heap.size, 0, none⟩)) (fun W hA hT => disk_Append_1.calls hA hr (cell_tn y1 hT hq1) (cell_tn y2' hT hq2) _) (fun W f o hm hA hT => by
    have hb : ¬ (d.room - d.a.now.length - d.b.now.length < b.length) := fun hh => by
      rw [show room1 d b.length = 11 from if_pos hh] at hm
      cases hm
    have e : (({ d with fuse := f, off := o } : D).fl i) = d.fl i := by cases i <;> rfl
    have hl : (d.fl i).now.length + b.length ≤ 140737488355328 := by have h1 := hr.most; have h2 := hr.la; have h3 := hr.lb; cases i <;> simp only [D.fl] <;> omega
    exact disk_Append_2.calls hA i (cell_tn y1 hT hq1) (V_tn hv2 hbg hT) (by rw [e]; exact hl) hq1))
  have HT := Aside0.mk ((Tn.of_below (g := g) (hb1.trans (hb2.mono (by omega)))))
  rw [hwa] at HC HT
  simp only [size_alloc] at HC
  clear h HA1 y1 y2 y2' HA2 hq1 hq2 hlt hb1 hb2 hwa hsz hv2 hb
  go_enter Try.func46, Try.ntmps46
  go_wp2_with fail
  refine HC.out.mono ?_
  rintro e w1 ⟨rfl, hA, hT⟩
  go_wp2_with fail
  go_ret
  exact ⟨rfl, hA, HT.out.trans hT⟩
set_option maxHeartbeats 4000000 in
theorem disk_Append.err {p : Option Addr} {i er : Int} {w : World} {B : Option Addr} {n c : Nat} (hf : ∀ W, Below w.heap.size w W → Calls Try.prog 58 #[.pointer p, .int .i64 i] W fun e w' => e = .returned (.tuple #[.pointer none, .int .i64 er]) ∧ w' = W) (he : er ≠ 0) :
    Calls Try.prog 46 #[.pointer p, .int .i64 i, .slice B n c] w fun e w' => e = .returned (.int .i64 er) ∧ Below w.heap.size w w' := by
  have HC := fun W hW mv dv => Aside0.mk (disk_act.err (hf W hW) he mv dv)
  clear hf
  have y2 : (w.alloc (.cells #[.pointer p] 35)).cell? ⟨w.heap.size, 0, none⟩ = some (.pointer p) := (Blk.At.new w #[.pointer p] 35).cell 0
  have hb := below_alloc (below_alloc (Below.refl _ w) (.cells #[.pointer p] 35)) (.cells #[.slice B n c] 22)
  have y3 := pw_cell_below (below_alloc (Below.refl _ (w.alloc (.cells #[.pointer p] 35))) (.cells #[.slice B n c] 22)) y2
  go_enter Try.func46, Try.ntmps46
  go_wp2_with fail
  refine (HC _ hb _ _).out.mono ?_
  rintro e w1 ⟨rfl, rfl⟩
  go_wp2_with fail
  go_ret
  exact ⟨rfl, hb⟩
end Go.Proofs.Ytdlfabbhdelinaa.Q
