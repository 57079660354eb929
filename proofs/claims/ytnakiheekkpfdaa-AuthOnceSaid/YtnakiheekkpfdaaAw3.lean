/- A desk's functions, walked: Told, Asked. No condition but those typed. -/
import Derived.Test.YtnakiheekkpfdaaAw2
namespace Go.Proofs.Ytnakiheekkpfdaa.Q
open Go.RowKit Go.Maps Go.Sort Go.Shelf Go.Proofs.YtnakiheekkpfdaaW.PrintWords Go.Proofs.YtnakiheekkpfdaaW.PrintLast Go.Proofs.YtnakiheekkpfdaaW.PrintMore
attribute [local go_sem] max2_int min2_int max_two min_two max_three min_three max_four min_four   -- for this text's walks alone
set_option linter.unusedVariables false
set_option linter.unusedSimpArgs false
set_option maxRecDepth 100000
/-- Rows of whole numbers have not turned. -/
def K3 (w w' : World) : Prop := ∀ (i : Nat) (cs : Array Value), w.heap[i]? = some (.cells cs 3 (0, 0)) → w'.heap[i]? = some (.cells cs 3 (0, 0))
theorem K3.trans {a b c : World} (h : K3 a b) (k : K3 b c) : K3 a c := fun i cs hi => k i cs (h i cs hi)
theorem K3.grown {w w' : World} {row : Option Nat} (g : w.grownBy w' row) (hr : ∀ j, row = some j → w.heap.size ≤ j ∨ ∃ o, w.heap[j]? = some o ∧ ∀ cs, o ≠ .cells cs 3 (0, 0)) : K3 w w' := fun i cs hi => (g.block i (Array.getElem?_eq_some_iff.1 hi).1 (fun e => by
  rcases hr i e.symm with h | ⟨o, h1, h2⟩
  · have := (Array.getElem?_eq_some_iff.1 hi).1
    omega
  · rw [hi] at h1
    exact h2 cs (Option.some.inj h1).symm)).trans hi
theorem K3.of_below {w w' : World} (h : Below w.heap.size w w') : K3 w w' := K3.grown (grownBy_none h) fun j hj => by cases hj
theorem Is.k3 {F : Nat → Prop} {w w' : World} {v : Value} {l : List Int} (h : Is w F v l) (hk : K3 w w') : Is w' F v l :=
  Kd.R_mono (Kd.R_step (Kd.R_bound h) fun i hi hlt => by
    obtain ⟨_, _, _, q, hq, cs, hc⟩ := hi
    obtain rfl : q = 3 := by simpa [Kd.int, Kd.scalar] using hq
    rw [hc]
    exact hk i _ hc) fun i hi => hi.1
theorem Dq.map_k3 {F : Nat → Prop} {X : Option ByteArray} {N p mk ma : Nat} {sv lv : ByteArray → Value} {Dk Da : DataW Value} {t : Int} {kn : KF} {qs : AF} {w : World} (h : Dq F X N p mk ma sv lv Dk Da t kn qs w) : ∃ o, w.heap[mk]? = some o ∧ ∀ cs, o ≠ .cells cs 3 (0, 0) := by
  obtain ⟨es, cl, hb⟩ := own_block h.ownK
  exact ⟨_, hb, fun cs e => by cases e⟩
set_option maxHeartbeats 2000000 in
theorem p_know.calls {F : Nat → Prop} {N p : Nat} {t : Int} {kn : KF} {qs : AF} {w : World} (h : DA F N p t kn qs w) (hN : N < 256) {text : ByteArray} (hs : text.size ≤ maxLen) (x : Tok) {A : Option Addr} {c : Nat} (hv : Ls 0 w (.slice A x.ss.length c) x.ss) :
    Calls Try.prog 22 #[.pointer (some ⟨p, 0, none⟩), .string text, .agg (tokC x (.slice A x.ss.length c))] w fun e w' => e = .returned (.tuple #[]) ∧ DA F (N + 1) p t (if x.til ≤ t then kn else upd kn text (some x)) qs w' ∧ Ku F w w' ∧ K3 w w' := by
  obtain ⟨mk, ma, sv, lv, Dk, Da, h⟩ := h
  have hb := below_alloc (Below.refl _ w) (.cells (tokC x (.slice A x.ss.length c)) 56)
  have h1 := h.st (F := F) (.of_below hb)
  have hx := Blk.At.new w (tokC x (.slice A x.ss.length c)) 56
  have hv1 := Ls.below hv hb
  obtain ⟨g, hg⟩ : ∃ g, g = w.heap.size := ⟨_, rfl⟩
  obtain ⟨W, hW⟩ : ∃ W, W = w.alloc (.cells (tokC x (.slice A x.ss.length c)) 56) := ⟨_, rfl⟩
  rw [← hg] at hx
  rw [← hW] at hx h1 hv1 hb
  have q0 : W.cell? ⟨g, 0, none⟩ = some (.bool x.bad) := hx.cell 0
  have q1 : W.cell? ⟨g, 1, none⟩ = some (.slice A x.ss.length c) := hx.cell 1
  have q2 : W.cell? ⟨g, 2, none⟩ = some (.int .i64 x.til) := hx.cell 2
  have x0 : W.cell? ⟨p, 0, none⟩ = some (.int .i64 t) := h1.pl.cell 0
  have x1 : W.cell? ⟨p, 1, none⟩ = some (.map (some mk)) := h1.pl.cell 1
  have HD := Aside0.mk h1
  have HV := Aside0.mk hv1
  have HK := Aside0.mk (Ku.of_below (F := F) hb)
  have H3 := Aside0.mk (K3.of_below hb)
  have HT := Aside0.mk hs
  have HN := Aside0.mk hN
  have h56 : ((Maps.size Dk : Int) == 256) = false := by
    rw [beq_eq_false_iff_ne]
    have := h1.ownK.size_le
    omega
  have hdr : W.drew.ownsMap Try.prog 9 RV mk N Dk := h1.ownK.drew
  clear h hb h1 hx hv hv1 hs hN
  replace hg := hg.symm
  replace hW := hW.symm
  by_cases hle : x.til ≤ t
  · have hd : decide (x.til ≤ t) = true := decide_eq_true hle
    rw [if_pos hle]
    clear hle
    go_enter Try.func22, Try.ntmps22
    go_wp2_with fail
    refine start_ (n := 7) (S := fun w' => w'.cell? ⟨g, 2, none⟩ = some (.int .i64 x.til) ∧ w'.cell? ⟨p, 0, none⟩ = some (.int .i64 t)) (ds := []) #[false, false, false, false, false, false, false] (by kernel_rfl) rfl rfl ⟨q2, x0⟩ (fun hHeld => ?_)
    refine pure_ (i := 0) (N := some 6) (v := ?_) (a' := ?_) #[true, false, false, false, false, false, false] rfl rfl (by kernel_rfl) (fun _ _ _ h => h) (Or.inl ⟨by rfl, ?_⟩) ?_ ?_
    rotate_left
    · intro w'
      go_simp
      with_reducible rfl
    rotate_left
    · simp only [Act.put, List.setIfInBounds_toArray, List.set_cons_zero, List.set_cons_succ, i64_w, i32_w]
      rfl
    refine pure_ (i := 2) (N := some 8) (v := ?_) (a' := ?_) #[true, false, true, false, false, false, false] rfl rfl (by kernel_rfl) (fun _ _ _ h => h) (Or.inl ⟨by rfl, ?_⟩) ?_ ?_
    rotate_left
    · intro w'
      go_simp
      with_reducible rfl
    rotate_left
    · simp only [Act.put, List.setIfInBounds_toArray, List.set_cons_zero, List.set_cons_succ, i64_w, i32_w]
      rfl
    refine pure_ (i := 3) (N := some 9) (v := ?_) (a' := ?_) #[true, false, true, true, false, false, false] rfl rfl (by kernel_rfl) (fun _ _ _ h => h) (Or.inl ⟨by rfl, ?_⟩) ?_ ?_
    rotate_left
    · intro w'
      go_simp
      with_reducible rfl
    rotate_left
    · simp only [Act.put, List.setIfInBounds_toArray, List.set_cons_zero, List.set_cons_succ, i64_w, i32_w]
      rfl
    refine pure_ (i := 4) (N := some 10) (v := ?_) (a' := ?_) #[true, false, true, true, true, false, false] rfl rfl (by kernel_rfl) (fun _ _ _ h => h) (Or.inl ⟨by rfl, ?_⟩) ?_ ?_
    rotate_left
    · intro w'
      go_simp
      with_reducible rfl
    rotate_left
    · simp only [Act.put, List.setIfInBounds_toArray, List.set_cons_zero, List.set_cons_succ, i64_w, i32_w]
      rfl
    refine take_ (i := 1) (N := some 7) (v := ?_) (a' := ?_) #[true, true, true, true, true, false, false] rfl rfl (by kernel_rfl) (fun _ _ _ h => h) (Or.inl ⟨by rfl, ?_⟩) hHeld ?_ ?_
    rotate_left
    · rintro w' ⟨s0, s1⟩
      go_simp
      with_reducible rfl
    rotate_left
    · simp only [Act.put, List.setIfInBounds_toArray, List.set_cons_zero, List.set_cons_succ, i64_w, i32_w]
      rfl
    refine take_ (i := 5) (N := some 11) (v := ?_) (a' := ?_) #[true, true, true, true, true, true, false] rfl rfl (by kernel_rfl) (fun _ _ _ h => h) (Or.inl ⟨by rfl, ?_⟩) hHeld ?_ ?_
    rotate_left
    · rintro w' ⟨s0, s1⟩
      go_simp
      with_reducible rfl
    rotate_left
    · simp only [Act.put, List.setIfInBounds_toArray, List.set_cons_zero, List.set_cons_succ, i64_w, i32_w]
      rfl
    refine pure_ (i := 6) (N := some 12) (v := ?_) (a' := ?_) #[true, true, true, true, true, true, true] rfl rfl (by kernel_rfl) (fun _ _ _ h => h) (Or.inl ⟨by rfl, ?_⟩) ?_ ?_
    rotate_left
    · intro w'
      go_simp
      with_reducible rfl
    rotate_left
    · simp only [Act.put, List.setIfInBounds_toArray, List.set_cons_zero, List.set_cons_succ, i64_w, i32_w]
      rfl
    refine done_ (by kernel_rfl) ?_
    go_wp2_with fail
    refine bodyPost_ret (results_none rfl _ _ _) rfl ?_
    exact ⟨rfl, .more (.of (HD.out.st (.of_below (below_drew (Below.refl _ _))))) (Nat.le_succ N), HK.out.trans' (.of_below (below_drew (Below.refl _ _))), H3.out.trans (.of_below (below_drew (Below.refl _ _)))⟩
  · have hd : decide (x.til ≤ t) = false := decide_eq_false hle
    rw [if_neg hle]
    clear hle
    go_enter Try.func22, Try.ntmps22
    go_wp2_with fail
    refine start_ (n := 7) (S := fun w' => w'.cell? ⟨g, 2, none⟩ = some (.int .i64 x.til) ∧ w'.cell? ⟨p, 0, none⟩ = some (.int .i64 t)) (ds := []) #[false, false, false, false, false, false, false] (by kernel_rfl) rfl rfl ⟨q2, x0⟩ (fun hHeld => ?_)
    refine pure_ (i := 0) (N := some 6) (v := ?_) (a' := ?_) #[true, false, false, false, false, false, false] rfl rfl (by kernel_rfl) (fun _ _ _ h => h) (Or.inl ⟨by rfl, ?_⟩) ?_ ?_
    rotate_left
    · intro w'
      go_simp
      with_reducible rfl
    rotate_left
    · simp only [Act.put, List.setIfInBounds_toArray, List.set_cons_zero, List.set_cons_succ, i64_w, i32_w]
      rfl
    refine pure_ (i := 2) (N := some 8) (v := ?_) (a' := ?_) #[true, false, true, false, false, false, false] rfl rfl (by kernel_rfl) (fun _ _ _ h => h) (Or.inl ⟨by rfl, ?_⟩) ?_ ?_
    rotate_left
    · intro w'
      go_simp
      with_reducible rfl
    rotate_left
    · simp only [Act.put, List.setIfInBounds_toArray, List.set_cons_zero, List.set_cons_succ, i64_w, i32_w]
      rfl
    refine pure_ (i := 3) (N := some 9) (v := ?_) (a' := ?_) #[true, false, true, true, false, false, false] rfl rfl (by kernel_rfl) (fun _ _ _ h => h) (Or.inl ⟨by rfl, ?_⟩) ?_ ?_
    rotate_left
    · intro w'
      go_simp
      with_reducible rfl
    rotate_left
    · simp only [Act.put, List.setIfInBounds_toArray, List.set_cons_zero, List.set_cons_succ, i64_w, i32_w]
      rfl
    refine pure_ (i := 4) (N := some 10) (v := ?_) (a' := ?_) #[true, false, true, true, true, false, false] rfl rfl (by kernel_rfl) (fun _ _ _ h => h) (Or.inl ⟨by rfl, ?_⟩) ?_ ?_
    rotate_left
    · intro w'
      go_simp
      with_reducible rfl
    rotate_left
    · simp only [Act.put, List.setIfInBounds_toArray, List.set_cons_zero, List.set_cons_succ, i64_w, i32_w]
      rfl
    refine take_ (i := 1) (N := some 7) (v := ?_) (a' := ?_) #[true, true, true, true, true, false, false] rfl rfl (by kernel_rfl) (fun _ _ _ h => h) (Or.inl ⟨by rfl, ?_⟩) hHeld ?_ ?_
    rotate_left
    · rintro w' ⟨s0, s1⟩
      go_simp
      with_reducible rfl
    rotate_left
    · simp only [Act.put, List.setIfInBounds_toArray, List.set_cons_zero, List.set_cons_succ, i64_w, i32_w]
      rfl
    refine take_ (i := 5) (N := some 11) (v := ?_) (a' := ?_) #[true, true, true, true, true, true, false] rfl rfl (by kernel_rfl) (fun _ _ _ h => h) (Or.inl ⟨by rfl, ?_⟩) hHeld ?_ ?_
    rotate_left
    · rintro w' ⟨s0, s1⟩
      go_simp
      with_reducible rfl
    rotate_left
    · simp only [Act.put, List.setIfInBounds_toArray, List.set_cons_zero, List.set_cons_succ, i64_w, i32_w]
      rfl
    refine pure_ (i := 6) (N := some 12) (v := ?_) (a' := ?_) #[true, true, true, true, true, true, true] rfl rfl (by kernel_rfl) (fun _ _ _ h => h) (Or.inl ⟨by rfl, ?_⟩) ?_ ?_
    rotate_left
    · intro w'
      go_simp
      with_reducible rfl
    rotate_left
    · simp only [Act.put, List.setIfInBounds_toArray, List.set_cons_zero, List.set_cons_succ, i64_w, i32_w]
      rfl
    refine done_ (by kernel_rfl) ?_
    go_wp2_with (at_len; refine wpList_len_own _ rfl _ 47 rfl 9 56 Try.underlying47 RV mk N Dk rfl hdr ?_)
    have hD2 := HD.out.st (F := F) (.of_below (below_drew (below_drew (Below.refl _ W))))
    obtain ⟨w6, hrun6, ho6, hg6⟩ := hD2.ownK.store key9 Try.underlying47 (by have := HN.out; unfold maxLen; omega) (keyOf9 HT.out) (val := .agg (tokC x (.slice A x.ss.length c))) (d := .held (.agg (tokC x (.slice A x.ss.length c)))) (ps := []) rfl
    have hg6' := hg6.grown
    have hk6 : ∀ (j : Nat) (o : Obj), W.drew.drew.heap[j]? = some o → j ≠ mk → w6.heap[j]? = some o := fun j o ho hne => (hg6'.block j (Array.getElem?_eq_some_iff.1 ho).1 (fun e => hne (by cases e; rfl))).trans ho
    have HD6 := Aside0.mk (hD2.know (x := x) (Nat.le_succ N) ho6 hk6 (Ls.but (Ls.below HV.out (below_drew (below_drew (Below.refl _ W)))) hk6 hD2.map_k))
    have HK6 := Aside0.mk ((HK.out.trans' (.of_below (below_drew (below_drew (Below.refl _ W))))).trans' (Ku.grown (F := F) hg6' fun j hj => by cases hj; exact .inr ⟨hD2.foot.2.1, hD2.map_k⟩))
    have H36 := Aside0.mk ((H3.out.trans (.of_below (below_drew (below_drew (Below.refl _ W))))).trans (K3.grown hg6' fun j hj => by cases hj; exact .inr hD2.map_k3))
    clear hD2 ho6 hg6 hg6' hk6 hdr
    go_wp2_with fail
    refine start_ (n := 7) (S := fun w' => w'.cell? ⟨p, 1, none⟩ = some (.map (some mk)) ∧ w'.cell? ⟨g, 0, none⟩ = some (.bool x.bad) ∧ w'.cell? ⟨g, 1, none⟩ = some (.slice A x.ss.length c) ∧ w'.cell? ⟨g, 2, none⟩ = some (.int .i64 x.til)) (ds := [6]) #[false, false, false, false, false, false, false] (by kernel_rfl) rfl rfl ⟨x1, q0, q1, q2⟩ (fun hHeld => ?_)
    refine pure_ (i := 0) (N := some 32) (v := ?_) (a' := ?_) #[true, false, false, false, false, false, false] rfl rfl (by kernel_rfl) (fun _ _ _ h => h) (Or.inl ⟨by rfl, ?_⟩) ?_ ?_
    rotate_left
    · intro w'
      go_simp
      with_reducible rfl
    rotate_left
    · simp only [Act.put, List.setIfInBounds_toArray, List.set_cons_zero, List.set_cons_succ, i64_w, i32_w]
      rfl
    refine pure_ (i := 1) (N := some 33) (v := ?_) (a' := ?_) #[true, true, false, false, false, false, false] rfl rfl (by kernel_rfl) (fun _ _ _ h => h) (Or.inl ⟨by rfl, ?_⟩) ?_ ?_
    rotate_left
    · intro w'
      go_simp
      with_reducible rfl
    rotate_left
    · simp only [Act.put, List.setIfInBounds_toArray, List.set_cons_zero, List.set_cons_succ, i64_w, i32_w]
      rfl
    refine pure_ (i := 2) (N := some 34) (v := ?_) (a' := ?_) #[true, true, true, false, false, false, false] rfl rfl (by kernel_rfl) (fun _ _ _ h => h) (Or.inl ⟨by rfl, ?_⟩) ?_ ?_
    rotate_left
    · intro w'
      go_simp
      with_reducible rfl
    rotate_left
    · simp only [Act.put, List.setIfInBounds_toArray, List.set_cons_zero, List.set_cons_succ, i64_w, i32_w]
      rfl
    refine pure_ (i := 4) (N := some 36) (v := ?_) (a' := ?_) #[true, true, true, false, true, false, false] rfl rfl (by kernel_rfl) (fun _ _ _ h => h) (Or.inl ⟨by rfl, ?_⟩) ?_ ?_
    rotate_left
    · intro w'
      go_simp
      with_reducible rfl
    rotate_left
    · simp only [Act.put, List.setIfInBounds_toArray, List.set_cons_zero, List.set_cons_succ, i64_w, i32_w]
      rfl
    refine take_ (i := 3) (N := some 35) (v := ?_) (a' := ?_) #[true, true, true, true, true, false, false] rfl rfl (by kernel_rfl) (fun _ _ _ h => h) (Or.inl ⟨by rfl, ?_⟩) hHeld ?_ ?_
    rotate_left
    · rintro w' ⟨s0, s1, s2, s3⟩
      go_simp
      with_reducible rfl
    rotate_left
    · simp only [Act.put, List.setIfInBounds_toArray, List.set_cons_zero, List.set_cons_succ, i64_w, i32_w]
      rfl
    refine take_ (i := 5) (N := some 37) (v := ?_) (a' := ?_) #[true, true, true, true, true, true, false] rfl rfl (by kernel_rfl) (fun _ _ _ h => h) (Or.inl ⟨by rfl, ?_⟩) hHeld ?_ ?_
    rotate_left
    · rintro w' ⟨s0, s1, s2, s3⟩
      go_simp
      with_reducible rfl
    rotate_left
    · simp only [Act.put, List.setIfInBounds_toArray, List.set_cons_zero, List.set_cons_succ, i64_w, i32_w]
      rfl
    refine last_ (i := 6) (N := none) #[true, true, true, true, true, true, true] rfl rfl (by kernel_rfl) (by decide) (fun K hK => ?_)
    refine skip_ (w1 := w6) (by rfl) rfl ?_ ?_
    · go_simp
      try rfl
    refine hK.out _ _ ?_
    clear hK K
    refine done_ (by kernel_rfl) ?_
    go_wp2_with fail
    go_end0
    exact ⟨rfl, .of HD6.out, HK6.out, H36.out⟩
theorem grown_setCell (w : World) (a : Addr) (v : Value) : w.grownBy (w.setCell a v) (some a.block) := ⟨rfl, rfl, rfl, by simp [World.setCell], fun i hi hne => Below.heap_setCell _ _ _ _ (fun e => hne (by rw [e]))⟩
theorem St.setCell {F : Nat → Prop} {w : World} {g j : Nat} {cs : Array Value} (h : Blk.At g cs 56 w) (v : Value) : St F w (w.setCell ⟨g, j, none⟩ v) :=
  ⟨by simp [World.setCell], fun i o ho _ hk => (Below.heap_setCell _ _ _ _ (fun e => by
    have e : i = g := e
    have h1 := h
    unfold Blk.At at h1
    rw [← e, ho] at h1
    cases h1
    exact not_keyed (by decide) (by decide) hk)).trans ho, fun i cs' ho => (Below.heap_setCell _ _ _ _ (fun e => by
    have e : i = g := e
    have h1 := h
    unfold Blk.At at h1
    rw [← e, ho] at h1
    cases h1)).trans ho⟩
theorem K3.setCell {w : World} {g j : Nat} {cs : Array Value} (h : Blk.At g cs 56 w) (v : Value) : K3 w (w.setCell ⟨g, j, none⟩ v) := fun i cs' ho => (Below.heap_setCell _ _ _ _ (fun e => by
    have e : i = g := e
    have h1 := h
    unfold Blk.At at h1
    rw [← e, ho] at h1
    cases h1)).trans ho
def wordsOf (s : ByteArray) : List ByteArray := Plain.strs (Plain.wd [] (bytesOf s))
theorem a_Words.calls {s : ByteArray} (hs : s.size ≤ 100000) (w : World) : Calls Try.prog 21 #[.string s] w fun e w' => ∃ v, e = .returned v ∧ Ls w.heap.size w' v (wordsOf s) ∧ Below w.heap.size w w' := by
  obtain ⟨k, hk⟩ := (Plain.words_ev s hs).rounds
  exact P.ascii_Words.calls k s _ w hk
theorem r_Words.calls {s : ByteArray} (hs : s.size ≤ 100000) (w : World) : Calls Try.prog 13 #[.string s] w fun e w' => ∃ v, e = .returned v ∧ Ls w.heap.size w' v (wordsOf s) ∧ Below w.heap.size w w' := by
  obtain ⟨k, hk⟩ := (Plain.ref_words s hs).rounds
  exact P.cringleref01_Words.calls k s _ w hk
theorem p_Told.dead {v : Value} {w : World} (h : Dead v w) (now : Int) (text : ByteArray) (ok : Bool) (sc : ByteArray) (left : Int) : Calls Try.prog 11 #[v, .int .i64 now, .string text, .bool ok, .string sc, .int .i64 left] w fun e w' => e = .returned (.tuple #[.slice none 0 0, .int .i64 2]) ∧ w' = w := by
  have hk := p_ok.dead h
  clear h
  go_enter Try.func11, Try.ntmps11
  go_wp2_with fail
  refine hk.mono ?_
  rintro e w1 ⟨rfl, rfl⟩
  go_wp2_with fail
  go_ret2
  exact ⟨rfl, rfl⟩
theorem p_Told0.calls {F : Nat → Prop} {N p : Nat} {t : Int} {kn : KF} {qs : AF} {w : World} (h : DA F N p t kn qs w) (now : Int) {text : ByteArray} (ht : text.size ≤ maxLen) (ok : Bool) (sc : ByteArray) (left : Int) (hq : qs text = none) :
    Calls Try.prog 11 #[.pointer (some ⟨p, 0, none⟩), .int .i64 now, .string text, .bool ok, .string sc, .int .i64 left] w fun e w' => e = .returned (.tuple #[.slice none 0 0, .int .i64 6]) ∧ DA F N p (ltr t now) (expd (ltr t now) kn) qs w' ∧ Ku F w w' := by
  have hk := p_ok.calls h
  have hl := p_later.calls h now
  generalize ltr t now = t1 at *
  generalize expd t1 kn = kn1 at *
  have HT := Aside0.mk ht
  have HQ := Aside0.mk hq
  clear h ht hq
  go_enter Try.func11, Try.ntmps11
  go_wp2_with fail
  refine hk.mono ?_
  rintro e w1 ⟨rfl, rfl⟩
  go_wp2_with fail
  refine hl.mono ?_
  rintro e w2 ⟨rfl, ⟨mk, ma, sv, lv, Dk, Da, h⟩, hK⟩
  have x2 : w2.cell? ⟨p, 2, none⟩ = some (.map (some ma)) := h.pl.cell 2
  have hlk := h.lookA HT.out
  unfold rowV at hlk
  rw [HQ.out] at hlk
  have HD := Aside0.mk (And.intro h hK)
  clear h hK hl hk
  go_wp2_with fail
  go_ret2
  exact ⟨rfl, .of HD.out.1, HD.out.2⟩
def keepL (left : Int) : Int := if 300 < (if left < 0 then 0 else left) then 300 else (if left < 0 then 0 else left)
theorem keepL_at (left : Int) : 0 ≤ keepL left ∧ keepL left ≤ 300 := by
  unfold keepL
  split <;> split <;> omega
/-- What is told. -/
def tokT (t : Int) (ok : Bool) (sc : ByteArray) (left : Int) : Tok := if ok then ⟨false, wordsOf sc, t + keepL left⟩ else ⟨true, [], t + 300⟩
/-- What is known behind that. -/
def knowT (t : Int) (kn : KF) (s : ByteArray) (x : Tok) : KF := if x.til ≤ t then kn else upd kn s (some x)
set_option maxHeartbeats 4000000 in
theorem p_Told1.calls {F : Nat → Prop} {N p : Nat} {t : Int} {kn : KF} {qs : AF} {w : World} (h : DA F N p t kn qs w) (hN : N < 256) (now : Int) {text : ByteArray} (ht : text.size ≤ maxLen) (ok : Bool) {sc : ByteArray} (hsc : sc.size ≤ 100000) (left : Int) {l : List Int} (hq : qs text = some l) (hT : 0 ≤ ltr t now ∧ ltr t now ≤ 1099511627776) :
    Calls Try.prog 11 #[.pointer (some ⟨p, 0, none⟩), .int .i64 now, .string text, .bool ok, .string sc, .int .i64 left] w fun e w' => ∃ v, e = .returned (.tuple #[v, .int .i64 0]) ∧ Is w' F v l ∧ DA F (N + 1) p (ltr t now) (knowT (ltr t now) (expd (ltr t now) kn) text (tokT (ltr t now) ok sc left)) (upd qs text none) w' ∧ Ku F w w' := by
  have hk := p_ok.calls h
  have hl := p_later.calls h now
  generalize ltr t now = t1 at *
  generalize expd t1 kn = kn1 at *
  have HT := Aside0.mk ht
  have HQ := Aside0.mk hq
  have HN := Aside0.mk hN
  have HSC := Aside0.mk hsc
  have HTT := Aside0.mk hT
  have e300 : wrap64 (t1 + 300) = t1 + 300 := by unfold wrap64; omega
  clear h ht hq hN hsc hT
  go_enter Try.func11, Try.ntmps11
  go_wp2_with fail
  refine hk.mono ?_
  rintro e w1 ⟨rfl, rfl⟩
  go_wp2_with fail
  refine hl.mono ?_
  rintro e w2 ⟨rfl, ⟨mk, ma, sv, lv, Dk, Da, h⟩, hK⟩
  have x2 : w2.cell? ⟨p, 2, none⟩ = some (.map (some ma)) := h.pl.cell 2
  have hlk := h.lookA HT.out
  unfold rowV at hlk
  rw [HQ.out] at hlk
  obtain ⟨A, c, hV⟩ := Kd.R_slice (h.lsA text l HQ.out (by simp))
  have hlk2 : (Instr.lookup 48 (.map (some ma)) (.string text) true).run Try.prog w2 = .ok (.tuple #[.slice A l.length c, .bool true]) w2 := by rw [← hV]; exact hlk
  have hown := h.ownA
  have hV2 := hV
  have HDEL := Aside0.mk (show ∀ w4 : World, w4.ownsMap Try.prog 9 RV ma N (Da.del (kl text)) → w2.mapTurned w4 ma → Dq F none N p mk ma sv lv Dk (Da.del (kl text)) t1 kn1 (upd qs text none) w4 ∧ Is w4 F (.slice A l.length c) l ∧ Ku F w1 w4 from fun w4 ho4 ht4 => by
    have hg4 := ht4.grown
    have hk4 : ∀ (j : Nat) (o : Obj), w2.heap[j]? = some o → j ≠ ma → w4.heap[j]? = some o := fun j o ho hne => (hg4.block j (Array.getElem?_eq_some_iff.1 ho).1 (fun e => hne (by cases e; rfl))).trans ho
    have hI4 := h.lsA_but hk4 (.inr rfl) text l HQ.out (by simp)
    rw [hV2] at hI4
    exact ⟨(h.weak text).told ho4 hk4, hI4, hK.trans' (Ku.grown (F := F) hg4 fun j hj => by cases hj; exact .inr ⟨h.foot.2.2, h.map_a⟩)⟩)
  clear h hK hl hk hlk hV hV2
  cases ok
  case false =>
    go_wp2_with (at_delete; refine wpList_delete_own _ rfl _ _ 48 9 rfl 31 key9 Try.underlying48 RV ma N Da rfl hown _ _ rfl (keyOf9 HT.out) ?_; intro w4 ho4 ht4; have HE4 := Aside0.mk (HDEL.out w4 ho4 ht4); have x0 : w4.cell? ⟨p, 0, none⟩ = some (.int .i64 t1) := HE4.out.1.pl.cell 0; have hb := below_alloc (Below.refl _ w4) (.cells #[.bool true, .slice none 0 0, .int .i64 (t1 + 300)] 56); have hx := Blk.At.new w4 #[.bool true, .slice none 0 0, .int .i64 (t1 + 300)] 56; obtain ⟨g, hge⟩ : ∃ g, g = w4.heap.size := ⟨_, rfl⟩; rw [← hge] at hx; have q0 : (w4.alloc (.cells #[.bool true, .slice none 0 0, .int .i64 (t1 + 300)] 56)).cell? ⟨g, 0, none⟩ = some (.bool true) := hx.cell 0; have q1 : (w4.alloc (.cells #[.bool true, .slice none 0 0, .int .i64 (t1 + 300)] 56)).cell? ⟨g, 1, none⟩ = some (.slice none 0 0) := hx.cell 1; have q2 : (w4.alloc (.cells #[.bool true, .slice none 0 0, .int .i64 (t1 + 300)] 56)).cell? ⟨g, 2, none⟩ = some (.int .i64 (t1 + 300)) := hx.cell 2; have HKN := Aside0.mk (p_know.calls (A := none) (c := 0) (.of (HE4.out.1.st (F := F) (.of_below hb))) HN.out HT.out ⟨true, [], t1 + 300⟩ (Kd.R_nil _ _ _ _ _)); have HB := Aside0.mk hb; replace hge := hge.symm; clear hb hx ho4 ht4 HDEL)
    refine HKN.out.mono ?_
    rintro e w6 ⟨rfl, hA, hU, h3⟩
    have HE := Aside0.mk (And.intro hA (And.intro hU h3))
    clear hA hU h3 HKN
    go_wp2_with fail
    go_ret2
    exact ⟨_, rfl, (HE4.out.2.1.k3 (.of_below HB.out)).k3 HE.out.2.2, HE.out.1, (HE4.out.2.2.trans' (.of_below HB.out)).trans' HE.out.2.1⟩
  case true =>
    obtain ⟨q, hq⟩ : ∃ q, keepL left = q := ⟨_, rfl⟩
    have HQQ := Aside0.mk hq
    have hqr := keepL_at left
    rw [hq] at hqr
    unfold keepL at hq
    have etq : wrap64 (t1 + q) = t1 + q := by have := HTT.out; unfold wrap64; omega
    clear hqr
    go_wp2_with (at_delete; refine wpList_delete_own _ rfl _ _ 48 9 rfl 31 key9 Try.underlying48 RV ma N Da rfl hown _ _ rfl (keyOf9 HT.out) ?_; intro w4 ho4 ht4; have HE4 := Aside0.mk (HDEL.out w4 ho4 ht4); have x0 : w4.cell? ⟨p, 0, none⟩ = some (.int .i64 t1) := HE4.out.1.pl.cell 0; have HB := Aside0.mk (below_alloc (Below.refl _ w4) (.cells #[.bool false, .slice none 0 0, .int .i64 (t1 + 300)] 56)); have HX := Aside0.mk (Blk.At.new w4 #[.bool false, .slice none 0 0, .int .i64 (t1 + 300)] 56); obtain ⟨g, hge⟩ : ∃ g, g = w4.heap.size := ⟨_, rfl⟩; rw [← hge] at HX; have HGE := Aside0.mk hge; have HW := Aside0.mk (a_Words.calls HSC.out (w4.alloc (.cells #[.bool false, .slice none 0 0, .int .i64 (t1 + 300)] 56))); replace hge := hge.symm; clear ho4 ht4 HDEL)
    refine HW.out.mono ?_
    rintro e w6 ⟨v6, rfl, hL, hb6⟩
    obtain ⟨Aw, cw, rfl⟩ := Kd.R_slice hL
    have hb46 := HB.out.trans (hb6.mono HB.out.size)
    have c6 := HX.out.below hb6 HX.out.lt
    have D6 := HE4.out.1.st (F := F) (.of_below hb46)
    have c7 := c6.set 1 (.slice Aw (wordsOf sc).length cw)
    have D7 := D6.st (St.setCell (j := 1) c6 (.slice Aw (wordsOf sc).length cw))
    have c8 := c7.set 2 (.int .i64 (t1 + q))
    have D8 := D7.st (St.setCell (j := 2) c7 (.int .i64 (t1 + q)))
    have k38 : K3 w4 ((w6.setCell ⟨g, 1, none⟩ (.slice Aw (wordsOf sc).length cw)).setCell ⟨g, 2, none⟩ (.int .i64 (t1 + q))) := ((K3.of_below hb46).trans (K3.setCell (j := 1) c6 _)).trans (K3.setCell (j := 2) c7 _)
    have u8 : Ku F w4 ((w6.setCell ⟨g, 1, none⟩ (.slice Aw (wordsOf sc).length cw)).setCell ⟨g, 2, none⟩ (.int .i64 (t1 + q))) := ((Ku.of_below hb46).step (grown_setCell w6 ⟨g, 1, none⟩ _) (fun j hj => by cases hj; exact .inl (by rw [← HGE.out]; exact Nat.le_refl _))).step (grown_setCell _ ⟨g, 2, none⟩ _) (fun j hj => by cases hj; exact .inl (by rw [← HGE.out]; exact Nat.le_refl _))
    have L8 : Ls 0 ((w6.setCell ⟨g, 1, none⟩ (.slice Aw (wordsOf sc).length cw)).setCell ⟨g, 2, none⟩ (.int .i64 (t1 + q))) (.slice Aw (wordsOf sc).length cw) (wordsOf sc) := Ls.st (Ls.st (Kd.R_lower hL (Nat.zero_le _)) (St.setCell (F := F) (j := 1) c6 (.slice Aw (wordsOf sc).length cw))) (St.setCell (F := F) (j := 2) c7 (.int .i64 (t1 + q)))
    have y1 : w6.cell? ⟨g, 1, none⟩ = some (.slice none 0 0) := c6.cell 1
    have y1' : w6.frozen? ⟨g, 1, none⟩ = false := c6.frozen 1
    obtain ⟨w7, hw7⟩ : ∃ w7, w7 = w6.setCell ⟨g, 1, none⟩ (.slice Aw (wordsOf sc).length cw) := ⟨_, rfl⟩
    rw [← hw7] at c7 D7 c8 D8 k38 u8 L8
    have z0 : w7.cell? ⟨p, 0, none⟩ = some (.int .i64 t1) := D7.pl.cell 0
    have z2 : w7.cell? ⟨g, 2, none⟩ = some (.int .i64 (t1 + 300)) := c7.cell 2
    have z2' : w7.frozen? ⟨g, 2, none⟩ = false := c7.frozen 2
    obtain ⟨w8, hw8⟩ : ∃ w8, w8 = w7.setCell ⟨g, 2, none⟩ (.int .i64 (t1 + q)) := ⟨_, rfl⟩
    rw [← hw8] at c8 D8 k38 u8 L8
    have v0 : w8.cell? ⟨g, 0, none⟩ = some (.bool false) := c8.cell 0
    have v1 : w8.cell? ⟨g, 1, none⟩ = some (.slice Aw (wordsOf sc).length cw) := c8.cell 1
    have v2 : w8.cell? ⟨g, 2, none⟩ = some (.int .i64 (t1 + q)) := c8.cell 2
    have HKN := Aside0.mk (p_know.calls (.of D8) HN.out HT.out ⟨false, wordsOf sc, t1 + q⟩ L8)
    have H8 := Aside0.mk (And.intro k38 u8)
    clear hL hb6 hb46 c6 D6 c7 D7 c8 D8 k38 u8 L8 HX HGE HW HB
    replace hw7 := hw7.symm
    replace hw8 := hw8.symm
    go_wp2_with fail
    all_goals
      refine HKN.out.mono ?_
      rintro e w9 ⟨rfl, hA, hU, h3⟩
      have HE := Aside0.mk (And.intro hA (And.intro hU h3))
      clear hA hU h3 HKN
      go_wp2_with fail
      go_ret2
      refine ⟨_, rfl, (HE4.out.2.1.k3 H8.out.1).k3 HE.out.2.2, ?_, (HE4.out.2.2.trans' H8.out.2).trans' HE.out.2.1⟩
      have e1 : tokT t1 true sc left = ⟨false, wordsOf sc, t1 + q⟩ := by
        unfold tokT
        rw [if_pos rfl, HQQ.out]
      rw [e1]
      exact HE.out.1
def mkS (l : List UInt8) : ByteArray := ⟨l.toArray⟩
theorem kl_mkS (l : List UInt8) : kl (mkS l) = .string l := by simp [kl, mkS]
theorem mkS_inj {a b : List UInt8} (h : mkS a = mkS b) : a = b := by simpa [mkS] using h
theorem Ls_of_own {base : Nat} {w : World} {v : Value} {ss : List (List UInt8)} {n : Nat} (h : w.ownsRow base 9 1 v n (ss.map encStr)) (hn : n = ss.length) : Ls base w v (ss.map mkS) := by
  refine Kd.R_of_own ?_ (fun _ _ => trivial)
  rw [List.length_map, ← hn]
  have e : encs Value.string (ss.map mkS) = ss.map encStr := by simp [encs, mkS, encStr, Function.comp_def]
  rw [e]
  exact h
theorem sorts39 (m : Nat) : AnyZ.SortsIn Try.prog Try.sortedA_ren Fence.wide m :=
  ⟨fun blk off cap ss W hH hblk hsz => callsIn_wide.2 (Try.slices_Sort_string blk off cap ss W hH hblk hsz), fun p cap W => callsIn_wide.2 (Try.slices_Sort_string_none p cap W)⟩
theorem keys29 (mb : Option Nat) (W : World) : Calls Try.prog 29 #[.map mb] W fun e w' => e = .returned (.func (.func 40) #[] #[.pointer (some ⟨W.heap.size, 0, none⟩)]) ∧ w' = W.alloc (.cells #[.map mb] 48) :=
  (callsIn_wide (n := 5)).1 (AnyZ.keys_in Try.keysA Fence.wide 5 trivial rfl mb W)
theorem sorted28 {m N : Nat} {D : DataW Value} {w : World} (hown : w.ownsMap Try.prog 9 RV m N D) (hN : N ≤ 100000) :
    Calls Try.prog 28 #[.func (.func 40) #[] #[.pointer (some ⟨w.heap.size, 0, none⟩)]] (w.alloc (.cells #[.map (some m)] 48)) fun e w' => ∃ v, ∃ ss : List (List UInt8), e = .returned v ∧ Ls w.heap.size w' v (ss.map mkS) ∧ ss.Perm (strKeys D) ∧ Below w.heap.size w w' := by
  have hsz : Maps.size D ≤ N := hown.size_le
  have hbl := hown.lt
  have hseq : SeqGives Fence.wide 2 Try.prog 40 #[.pointer (some ⟨w.heap.size, 0, none⟩)] encStr (fun ss => ss.Perm (strKeys D)) (Maps.size D) (w.alloc (.cells #[.map (some m)] 48)) :=
    AnyZ.keys_gives (ρ := Try.keysA_ren) { Try.keysA with } Fence.wide _ trivial rfl (by omega) w.heap.size m N D _ (by simp) (by simp) (by
      obtain ⟨es, clock, hb, Ft, hs, hD⟩ := hown
      exact ⟨es, clock, (Below.heap_alloc _ _ m hbl).trans hb, Ft, hs, hD⟩)
  have cS := AnyZ.sorted_in Try.sortedA Fence.wide 5 trivial trivial trivial trivial rfl (by omega) (sorts39 _) (enters_of Try.func39 (by kernel_rfl) rfl) 40 #[.pointer (some ⟨w.heap.size, 0, none⟩)] trivial (enters_of Try.func40 (by kernel_rfl) rfl) _ (Maps.size D) (by unfold maxLen; omega) (by omega) _ hseq
  refine (callsIn_wide.1 cS).mono ?_
  rintro e w' ⟨v, ss, rfl, hp, hrow, _, hb⟩
  refine ⟨v, _, rfl, Ls_of_own (ownsRow_base_a hrow (by simp)) (by simp), (List.mergeSort_perm ss _).trans hp, ((Below.refl _ w).alloc (Nat.le_refl _) _).trans (hb.mono (by simp))⟩
theorem mem_strKeys {D : DataW Value} {es : List (Lit × DataW Value)} (hD : D = .map es) (hk : ∀ p ∈ es, ∃ x : List UInt8, p.1 = .string x) (x : List UInt8) : x ∈ strKeys D ↔ Maps.has D (.string x) = true := by
  subst hD
  rw [Maps.has_eq]
  simp only [strKeys, List.mem_map, List.any_eq_true]
  constructor
  · rintro ⟨p, hp, rfl⟩
    obtain ⟨y, hy⟩ := hk p hp
    exact ⟨p, hp, by rw [hy]; simp [strOf, Lit.sameKey]⟩
  · rintro ⟨p, hp, h⟩
    obtain ⟨y, hy⟩ := hk p hp
    rw [hy] at h
    simp [Lit.sameKey] at h
    exact ⟨p, hp, by rw [hy, h]; rfl⟩
theorem own_keys {N m : Nat} {D : DataW Value} {f : AF} {w : World} (ho : w.ownsMap Try.prog 9 RV m N D) (hh : ∀ k, Maps.has D (kl k) = (f k).isSome) {ss : List (List UInt8)} (hp : ss.Perm (strKeys D)) :
    (ss.map mkS).Nodup ∧ (∀ k, k ∈ ss.map mkS ↔ (f k).isSome = true) ∧ (ss.map mkS).length ≤ N ∧ ∀ k ∈ ss.map mkS, k.size ≤ maxLen := by
  obtain ⟨es, hD, hpw, _⟩ := ho.entries key9
  obtain ⟨es', hD', hK⟩ := ho.keysOf
  rw [hD] at hD'
  cases hD'
  have hks : ∀ p ∈ es, ∃ x : List UInt8, p.1 = .string x ∧ x.length ≤ maxLen := fun p hp => by
    obtain ⟨key, hkey⟩ := hK p hp
    obtain ⟨x, _, e, hx⟩ := Maps.keyOf_str Try.underlying9 hkey
    exact ⟨x, e, hx⟩
  have hm := mem_strKeys hD (fun p hp => (hks p hp).imp fun _ h => h.1)
  have hnd : (strKeys D).Nodup := by
    rw [hD]
    simp only [strKeys]
    refine List.pairwise_map.2 (hpw.imp_of_mem fun {p q} hp hq hne e => hne ?_)
    obtain ⟨x, hx, _⟩ := hks p hp
    obtain ⟨y, hy, _⟩ := hks q hq
    rw [hx, hy] at e ⊢
    simp only [strOf] at e
    rw [e]
  refine ⟨List.pairwise_map.2 ((hp.nodup_iff.2 hnd).imp fun hne e => hne (mkS_inj e)), fun k => ?_, ?_, fun k hk => ?_⟩
  · rw [← hh k]
    constructor
    · intro hk
      obtain ⟨x, hx, rfl⟩ := List.mem_map.1 hk
      rw [kl_mkS]
      exact (hm x).1 (hp.mem_iff.1 hx)
    · intro hk
      refine List.mem_map.2 ⟨k.data.toList, hp.mem_iff.2 ((hm _).2 hk), ?_⟩
      cases k
      simp [mkS]
  · rw [List.length_map, hp.length_eq, ← show Maps.size D = (strKeys D).length from by rw [hD]; simp [Maps.size, strKeys]]
    exact ho.size_le
  · obtain ⟨x, hx, rfl⟩ := List.mem_map.1 hk
    have hx' := hp.mem_iff.1 hx
    rw [hD] at hx'
    obtain ⟨q, hq, e⟩ := List.mem_map.1 hx'
    obtain ⟨y, hy, hl⟩ := hks q hq
    rw [hy] at e
    simp only [strOf] at e
    subst e
    simpa [mkS, ByteArray.size] using hl
theorem p_Asked.calls {F : Nat → Prop} {N p : Nat} {t : Int} {kn : KF} {qs : AF} {w : World} (h : DA F N p t kn qs w) (hN : N ≤ 100000) :
    Calls Try.prog 17 #[.pointer (some ⟨p, 0, none⟩)] w fun e w' => ∃ v, ∃ ss : List ByteArray, e = .returned v ∧ Ls w.heap.size w' v ss ∧ (ss.Nodup ∧ (∀ k, k ∈ ss ↔ (qs k).isSome = true) ∧ ss.length ≤ N ∧ ∀ k ∈ ss, k.size ≤ maxLen) ∧ Below w.heap.size w w' := by
  have hk := p_ok.calls h
  obtain ⟨mk, ma, sv, lv, Dk, Da, h⟩ := h
  have x2 : w.cell? ⟨p, 2, none⟩ = some (.map (some ma)) := h.pl.cell 2
  have h1 := keys29 (some ma) w
  have h2 := sorted28 h.ownA hN
  have HK := Aside0.mk (fun {ss : List (List UInt8)} (hp : ss.Perm (strKeys Da)) => own_keys h.ownA h.hasA hp)
  clear h
  go_enter Try.func17, Try.ntmps17
  go_wp2_with fail
  refine hk.mono ?_
  rintro e w1 ⟨rfl, rfl⟩
  go_wp2_with fail
  refine h1.mono ?_
  rintro e w2 ⟨rfl, rfl⟩
  go_wp2_with fail
  refine h2.mono ?_
  rintro e w3 ⟨v, ss, rfl, hL, hp, hb⟩
  have HH := Aside0.mk (And.intro hL (And.intro (HK.out hp) hb))
  clear hL hp hb h1 h2
  go_wp2_with fail
  go_ret
  exact ⟨v, _, rfl, HH.out⟩
theorem p_Asked.dead {v : Value} {w : World} (h : Dead v w) : Calls Try.prog 17 #[v] w fun e w' => e = .returned (.slice none 0 0) ∧ w' = w := by
  have hk := p_ok.dead h
  clear h
  go_enter Try.func17, Try.ntmps17
  go_wp2_with fail
  refine hk.mono ?_
  rintro e w1 ⟨rfl, rfl⟩
  go_wp2_with fail
  go_ret
  exact ⟨rfl, rfl⟩
end Go.Proofs.Ytnakiheekkpfdaa.Q
