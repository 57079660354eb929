/- The sort of a plan's list, walked: pivots. No condition but those typed. -/
import Derived.Test.YtomkjakffpomdaaSw9
namespace Go.Proofs.Ytomkjakffpomdaa.Q
open Go.RowKit Go.Maps Go.Sort Go.Shelf Go.Proofs.YtomkjakffpomdaaW.PrintWords Go.Proofs.YtomkjakffpomdaaW.PrintLast Go.Proofs.YtomkjakffpomdaaW.PrintMore
attribute [local go_sem] max2_int min2_int max_two min_two max_three min_three max_four min_four   -- for this text's walks alone
set_option linter.unusedVariables false
set_option linter.unusedSimpArgs false
set_option maxRecDepth 100000
theorem rr_step {i b k n : Nat} {j : Int} (hk : cnt j k) (hkb : k ≤ b) (hb : b ≤ n) (hn : n ≤ 49) (h : (i : Int) < j) : ∃ q : Nat, j = (q : Int) ∧ i < n ∧ q < n ∧ cnt ((q : Int) - 1) q ∧ q ≤ b ∧ q ≤ 49 ∧ wrap64 ((i : Int) + 1) = ((i + 1 : Nat) : Int) ∧ i < q := by
  unfold cnt at hk
  refine ⟨k - 1, by omega, by omega, by omega, rfl, by omega, by omega, w64n (by omega), by omega⟩
theorem rr_b {b : Nat} (h : b ≤ 49) : wrap64 ((b : Int) - 1) = (b : Int) - 1 := hs_down b h
set_option maxHeartbeats 4000000 in
theorem s_reverse.calls (C : Cx) {a b : Nat} (hb : b ≤ C.ss.length) {w : World} (h : RS C w) : Calls Try.prog 46 #[C.row, .int .i64 a, .int .i64 b, C.cmp] w fun e w' => e = .returned (.tuple #[]) ∧ RS C w' := by
  have HSM := Aside0.mk C.small
  have HB := Aside0.mk hb
  have H0 := Aside0.mk h
  have hb1 := rr_b (Nat.le_trans hb C.small)
  clear h hb
  go_enter Try.func46, Try.ntmps46
  go_wp2_with fail
  go_loopw [8, 9] (fun u j wr => ∃ (i : Nat) (v : Int) (k : Nat), cnt v k ∧ k ≤ b ∧ u = .int .i64 i ∧ j = .int .i64 v ∧ Aside0 (RS C wr)) (fun _ j _ => mz j)
  case atStart => exact ⟨a, _, b, rfl, Nat.le_refl _, rfl, by first | rfl | rw [hb1], H0⟩
  case round =>
    clear H0 hb1
    obtain ⟨i, v, k, hk, hkb, rfl, rfl, HR⟩ := hrel
    by_cases hlt : (i : Int) < v
    · obtain ⟨q, rfl, hi, hq, hcq, hqb, hq49, ei, hiq⟩ := rr_step hk hkb HB.out HSM.out hlt
      have hdn := hs_down q hq49
      obtain ⟨x, y, hx, hy, hfx, hfy, _, _, ⟨z, hz⟩, hsw⟩ := HR.out.two hi hq
      have HRd := Aside0.mk hsw.drew
      have HK := Aside0.mk (And.intro hcq hqb)
      clear hk hkb hsw hcq hqb hq49 hlt
      go_wp2_with fail
      refine start_ (n := 16) (S := fun w' => w'.cell? ⟨C.g, i, none⟩ = some (.string x) ∧ w'.cell? ⟨C.g, q, none⟩ = some (.string y) ∧ w'.frozen? ⟨C.g, i, none⟩ = false ∧ w'.frozen? ⟨C.g, q, none⟩ = false) (ds := [13, 15]) #[false, false, false, false, false, false, false, false, false, false, false, false, false, false, false, false] (by kernel_rfl) rfl rfl ⟨hx, hy, hfx, hfy⟩ (fun hHeld => ?_)
      refine pure_ (i := 0) (N := some 16) (v := ?_) (a' := ?_) #[true, false, false, false, false, false, false, false, false, false, false, false, false, false, false, false] rfl rfl (by kernel_rfl) (fun _ _ _ h => h) (Or.inl ⟨by rfl, ?_⟩) ?_ ?_
      rotate_left
      · intro w'
        go_simp
        with_reducible rfl
      rotate_left
      · simp only [Act.put, List.setIfInBounds_toArray, List.set_cons_zero, List.set_cons_succ, i64_w, i32_w]
        rfl
      refine pure_ (i := 1) (N := some 17) (v := ?_) (a' := ?_) #[true, true, false, false, false, false, false, false, false, false, false, false, false, false, false, false] rfl rfl (by kernel_rfl) (fun _ _ _ h => h) (Or.inl ⟨by rfl, ?_⟩) ?_ ?_
      rotate_left
      · intro w'
        go_simp
        with_reducible rfl
      rotate_left
      · simp only [Act.put, List.setIfInBounds_toArray, List.set_cons_zero, List.set_cons_succ, i64_w, i32_w]
        rfl
      refine pure_ (i := 2) (N := some 18) (v := ?_) (a' := ?_) #[true, true, true, false, false, false, false, false, false, false, false, false, false, false, false, false] rfl rfl (by kernel_rfl) (fun _ _ _ h => h) (Or.inl ⟨by rfl, ?_⟩) ?_ ?_
      rotate_left
      · intro w'
        go_simp
        with_reducible rfl
      rotate_left
      · simp only [Act.put, List.setIfInBounds_toArray, List.set_cons_zero, List.set_cons_succ, i64_w, i32_w]
        rfl
      refine pure_ (i := 3) (N := some 19) (v := ?_) (a' := ?_) #[true, true, true, true, false, false, false, false, false, false, false, false, false, false, false, false] rfl rfl (by kernel_rfl) (fun _ _ _ h => h) (Or.inl ⟨by rfl, ?_⟩) ?_ ?_
      rotate_left
      · intro w'
        go_simp
        with_reducible rfl
      rotate_left
      · simp only [Act.put, List.setIfInBounds_toArray, List.set_cons_zero, List.set_cons_succ, i64_w, i32_w]
        rfl
      refine pure_ (i := 4) (N := some 20) (v := ?_) (a' := ?_) #[true, true, true, true, true, false, false, false, false, false, false, false, false, false, false, false] rfl rfl (by kernel_rfl) (fun _ _ _ h => h) (Or.inl ⟨by rfl, ?_⟩) ?_ ?_
      rotate_left
      · intro w'
        go_simp
        with_reducible rfl
      rotate_left
      · simp only [Act.put, List.setIfInBounds_toArray, List.set_cons_zero, List.set_cons_succ, i64_w, i32_w]
        rfl
      refine pure_ (i := 5) (N := some 21) (v := ?_) (a' := ?_) #[true, true, true, true, true, true, false, false, false, false, false, false, false, false, false, false] rfl rfl (by kernel_rfl) (fun _ _ _ h => h) (Or.inl ⟨by rfl, ?_⟩) ?_ ?_
      rotate_left
      · intro w'
        go_simp
        with_reducible rfl
      rotate_left
      · simp only [Act.put, List.setIfInBounds_toArray, List.set_cons_zero, List.set_cons_succ, i64_w, i32_w]
        rfl
      refine pure_ (i := 6) (N := some 22) (v := ?_) (a' := ?_) #[true, true, true, true, true, true, true, false, false, false, false, false, false, false, false, false] rfl rfl (by kernel_rfl) (fun _ _ _ h => h) (Or.inl ⟨by rfl, ?_⟩) ?_ ?_
      rotate_left
      · intro w'
        go_simp
        with_reducible rfl
      rotate_left
      · simp only [Act.put, List.setIfInBounds_toArray, List.set_cons_zero, List.set_cons_succ, i64_w, i32_w]
        rfl
      refine pure_ (i := 8) (N := some 24) (v := ?_) (a' := ?_) #[true, true, true, true, true, true, true, false, true, false, false, false, false, false, false, false] rfl rfl (by kernel_rfl) (fun _ _ _ h => h) (Or.inl ⟨by rfl, ?_⟩) ?_ ?_
      rotate_left
      · intro w'
        go_simp
        with_reducible rfl
      rotate_left
      · simp only [Act.put, List.setIfInBounds_toArray, List.set_cons_zero, List.set_cons_succ, i64_w, i32_w]
        rfl
      refine pure_ (i := 9) (N := some 25) (v := ?_) (a' := ?_) #[true, true, true, true, true, true, true, false, true, true, false, false, false, false, false, false] rfl rfl (by kernel_rfl) (fun _ _ _ h => h) (Or.inl ⟨by rfl, ?_⟩) ?_ ?_
      rotate_left
      · intro w'
        go_simp
        with_reducible rfl
      rotate_left
      · simp only [Act.put, List.setIfInBounds_toArray, List.set_cons_zero, List.set_cons_succ, i64_w, i32_w]
        rfl
      refine pure_ (i := 10) (N := some 26) (v := ?_) (a' := ?_) #[true, true, true, true, true, true, true, false, true, true, true, false, false, false, false, false] rfl rfl (by kernel_rfl) (fun _ _ _ h => h) (Or.inl ⟨by rfl, ?_⟩) ?_ ?_
      rotate_left
      · intro w'
        go_simp
        with_reducible rfl
      rotate_left
      · simp only [Act.put, List.setIfInBounds_toArray, List.set_cons_zero, List.set_cons_succ, i64_w, i32_w]
        rfl
      refine take_ (i := 7) (N := some 23) (v := ?_) (a' := ?_) #[true, true, true, true, true, true, true, true, true, true, true, false, false, false, false, false] rfl rfl (by kernel_rfl) (fun _ _ _ h => h) (Or.inl ⟨by rfl, ?_⟩) hHeld ?_ ?_
      rotate_left
      · rintro w' ⟨s0, s1, s2, s3⟩
        go_simp
        with_reducible rfl
      rotate_left
      · simp only [Act.put, List.setIfInBounds_toArray, List.set_cons_zero, List.set_cons_succ, i64_w, i32_w]
        rfl
      refine take_ (i := 11) (N := some 27) (v := ?_) (a' := ?_) #[true, true, true, true, true, true, true, true, true, true, true, true, false, false, false, false] rfl rfl (by kernel_rfl) (fun _ _ _ h => h) (Or.inl ⟨by rfl, ?_⟩) hHeld ?_ ?_
      rotate_left
      · rintro w' ⟨s0, s1, s2, s3⟩
        go_simp
        with_reducible rfl
      rotate_left
      · simp only [Act.put, List.setIfInBounds_toArray, List.set_cons_zero, List.set_cons_succ, i64_w, i32_w]
        rfl
      refine pure_ (i := 12) (N := some 28) (v := ?_) (a' := ?_) #[true, true, true, true, true, true, true, true, true, true, true, true, true, false, false, false] rfl rfl (by kernel_rfl) (fun _ _ _ h => h) (Or.inl ⟨by rfl, ?_⟩) ?_ ?_
      rotate_left
      · intro w'
        go_simp
        with_reducible rfl
      rotate_left
      · simp only [Act.put, List.setIfInBounds_toArray, List.set_cons_zero, List.set_cons_succ, i64_w, i32_w]
        rfl
      refine last_ (i := 13) (N := none) #[true, true, true, true, true, true, true, true, true, true, true, true, true, true, false, false] rfl rfl (by kernel_rfl) (by decide) (fun K hK => ?_)
      refine skip_ (w1 := ?_) (by rfl) rfl ?_ ?_
      rotate_left
      · go_simp
        rfl
      refine hK.out _ _ ?_
      clear hK K
      refine pure_ (i := 14) (N := some 29) (v := ?_) (a' := ?_) #[true, true, true, true, true, true, true, true, true, true, true, true, true, true, true, false] rfl rfl (by kernel_rfl) (fun _ _ _ h => h) (Or.inl ⟨by rfl, ?_⟩) ?_ ?_
      rotate_left
      · intro w'
        go_simp
        with_reducible rfl
      rotate_left
      · simp only [Act.put, List.setIfInBounds_toArray, List.set_cons_zero, List.set_cons_succ, i64_w, i32_w]
        rfl
      refine last_ (i := 15) (N := none) #[true, true, true, true, true, true, true, true, true, true, true, true, true, true, true, true] rfl rfl (by kernel_rfl) (by decide) (fun K hK => ?_)
      refine skip_ (w1 := ?_) (by rfl) rfl ?_ ?_
      rotate_left
      · go_simp
        rfl
      refine hK.out _ _ ?_
      clear hK K
      refine done_ (by kernel_rfl) ?_
      clear hx hy hfx hfy hz hHeld
      go_wp2_with fail
      exact ⟨⟨i + 1, _, q, HK.out.1, HK.out.2, by first | rfl | rw [ei], by first | rfl | rw [hdn], HRd⟩, hs_meas hdn⟩
    · clear hk hkb
      go_wp2_with fail
      go_end0
      exact ⟨rfl, HR.out⟩
theorem RS.setNew {C : Cx} {W : World} (h : RS C W) {s : Nat} {cs : Array Value} (hs : Blk.At s cs 3 W) (hn : C.w0.heap.size ≤ s) (i : Nat) (v : Value) : RS C (W.setCell ⟨s, i, none⟩ v) := by
  have hk : Np W (W.setCell ⟨s, i, none⟩ v) := Np.setCell fun o ho => by
    unfold Blk.At at hs
    rw [show W.heap[s]? = _ from hs] at ho
    cases ho
    simp [keyed]
  have hne : ∀ (g : Nat) (ds : Array Value) (t : TypeId), t ≠ 3 → Blk.At g ds t W → g ≠ s := fun g ds t ht hg e => by
    unfold Blk.At at hg hs
    rw [e, hs] at hg
    cases hg
    exact ht rfl
  obtain ⟨rr, hL, hp⟩ := h.ex
  obtain ⟨_, ds, hds, _⟩ := hL.block
  refine ⟨⟨rr, ?_, hp⟩, ⟨h.tk.pa.np hk, (h.tk.cap).set_other (fun e => hne _ _ _ (by decide) h.tk.cap e.symm) _ _⟩, ?_⟩
  · refine Kd.R_mono (Kd.R_step (Kd.R_bound hL) (fun k ho hlt => ?_)) (fun _ _ => trivial)
    obtain ⟨_, _, _, q, hq, cs', hc⟩ := ho
    obtain rfl : q = 9 := by simpa [Kd.string, Kd.scalar] using hq
    exact Below.heap_setCell _ _ _ _ (hne _ _ _ (by decide) hc)
  · exact ⟨h.gr.os, h.gr.tape, h.gr.output, by simpa [World.setCell] using h.gr.size, fun k hk hne' => (Below.heap_setCell _ _ _ _ (by show k ≠ s; omega)).trans (h.gr.block k hk hne')⟩
/-- The row, and a counter beside it. -/
structure RC (C : Cx) (s : Nat) (n : Int) (W : World) : Prop where
  rs : RS C W
  at_ : Blk.At s #[.int .i64 n] 3 W
  new : C.w0.heap.size ≤ s
theorem RC.below {C : Cx} {s : Nat} {n : Int} {W W' : World} (h : RC C s n W) (hb : Below W.heap.size W W') : RC C s n W' := ⟨h.rs.below hb, h.at_.below hb h.at_.lt, h.new⟩
theorem wn1 {n : Int} (h : 0 ≤ n ∧ n ≤ 100) : wrap64 (n + 1) = n + 1 := by
  unfold wrap64
  omega
set_option maxHeartbeats 4000000 in
theorem s_order2.calls (C : Cx) {a b s : Nat} {n : Int} (ha : a < C.ss.length) (hb : b < C.ss.length) (hn : 0 ≤ n ∧ n ≤ 100) {w : World} (h : RC C s n w) : Calls Try.prog 64 #[C.row, .int .i64 a, .int .i64 b, .pointer (some ⟨s, 0, none⟩), C.cmp] w fun e w' =>
    ∃ (a' b' : Nat) (n' : Int), e = .returned (.tuple #[.int .i64 a', .int .i64 b']) ∧ ((a' = a ∧ b' = b) ∨ (a' = b ∧ b' = a)) ∧ (0 ≤ n' ∧ n' ≤ n + 1) ∧ RC C s n' w' := by
  have H0 := Aside0.mk h
  have HN := Aside0.mk hn
  have hw := wn1 hn
  obtain ⟨x, y, hx, hy, hfx, hfy, hc, _, _, _⟩ := h.rs.two hb ha
  have HC := Aside0.mk hc
  clear h hc hn
  go_enter Try.func64, Try.ntmps64
  go_wp2_with fail
  refine start_ (n := 11) (S := fun w' => w'.cell? ⟨C.g, b, none⟩ = some (.string x) ∧ w'.cell? ⟨C.g, a, none⟩ = some (.string y)) (ds := [9]) #[false, false, false, false, false, false, false, false, false, false, false] (by kernel_rfl) rfl rfl ⟨hx, hy⟩ (fun hHeld => ?_)
  refine pure_ (i := 0) (N := some 12) (v := ?_) (a' := ?_) #[true, false, false, false, false, false, false, false, false, false, false] rfl rfl (by kernel_rfl) (fun _ _ _ h => h) (Or.inl ⟨by rfl, ?_⟩) ?_ ?_
  rotate_left
  · intro w'
    go_simp
    with_reducible rfl
  rotate_left
  · simp only [Act.put, List.setIfInBounds_toArray, List.set_cons_zero, List.set_cons_succ, i64_w, i32_w]
    rfl
  refine pure_ (i := 1) (N := some 13) (v := ?_) (a' := ?_) #[true, true, false, false, false, false, false, false, false, false, false] rfl rfl (by kernel_rfl) (fun _ _ _ h => h) (Or.inl ⟨by rfl, ?_⟩) ?_ ?_
  rotate_left
  · intro w'
    go_simp
    with_reducible rfl
  rotate_left
  · simp only [Act.put, List.setIfInBounds_toArray, List.set_cons_zero, List.set_cons_succ, i64_w, i32_w]
    rfl
  refine pure_ (i := 2) (N := some 14) (v := ?_) (a' := ?_) #[true, true, true, false, false, false, false, false, false, false, false] rfl rfl (by kernel_rfl) (fun _ _ _ h => h) (Or.inl ⟨by rfl, ?_⟩) ?_ ?_
  rotate_left
  · intro w'
    go_simp
    with_reducible rfl
  rotate_left
  · simp only [Act.put, List.setIfInBounds_toArray, List.set_cons_zero, List.set_cons_succ, i64_w, i32_w]
    rfl
  refine pure_ (i := 3) (N := some 15) (v := ?_) (a' := ?_) #[true, true, true, true, false, false, false, false, false, false, false] rfl rfl (by kernel_rfl) (fun _ _ _ h => h) (Or.inl ⟨by rfl, ?_⟩) ?_ ?_
  rotate_left
  · intro w'
    go_simp
    with_reducible rfl
  rotate_left
  · simp only [Act.put, List.setIfInBounds_toArray, List.set_cons_zero, List.set_cons_succ, i64_w, i32_w]
    rfl
  refine pure_ (i := 5) (N := some 17) (v := ?_) (a' := ?_) #[true, true, true, true, false, true, false, false, false, false, false] rfl rfl (by kernel_rfl) (fun _ _ _ h => h) (Or.inl ⟨by rfl, ?_⟩) ?_ ?_
  rotate_left
  · intro w'
    go_simp
    with_reducible rfl
  rotate_left
  · simp only [Act.put, List.setIfInBounds_toArray, List.set_cons_zero, List.set_cons_succ, i64_w, i32_w]
    rfl
  refine pure_ (i := 6) (N := some 18) (v := ?_) (a' := ?_) #[true, true, true, true, false, true, true, false, false, false, false] rfl rfl (by kernel_rfl) (fun _ _ _ h => h) (Or.inl ⟨by rfl, ?_⟩) ?_ ?_
  rotate_left
  · intro w'
    go_simp
    with_reducible rfl
  rotate_left
  · simp only [Act.put, List.setIfInBounds_toArray, List.set_cons_zero, List.set_cons_succ, i64_w, i32_w]
    rfl
  refine pure_ (i := 7) (N := some 19) (v := ?_) (a' := ?_) #[true, true, true, true, false, true, true, true, false, false, false] rfl rfl (by kernel_rfl) (fun _ _ _ h => h) (Or.inl ⟨by rfl, ?_⟩) ?_ ?_
  rotate_left
  · intro w'
    go_simp
    with_reducible rfl
  rotate_left
  · simp only [Act.put, List.setIfInBounds_toArray, List.set_cons_zero, List.set_cons_succ, i64_w, i32_w]
    rfl
  refine take_ (i := 4) (N := some 16) (v := ?_) (a' := ?_) #[true, true, true, true, true, true, true, true, false, false, false] rfl rfl (by kernel_rfl) (fun _ _ _ h => h) (Or.inl ⟨by rfl, ?_⟩) hHeld ?_ ?_
  rotate_left
  · rintro w' ⟨s0, s1⟩
    go_simp
    with_reducible rfl
  rotate_left
  · simp only [Act.put, List.setIfInBounds_toArray, List.set_cons_zero, List.set_cons_succ, i64_w, i32_w]
    rfl
  refine take_ (i := 8) (N := some 20) (v := ?_) (a' := ?_) #[true, true, true, true, true, true, true, true, true, false, false] rfl rfl (by kernel_rfl) (fun _ _ _ h => h) (Or.inl ⟨by rfl, ?_⟩) hHeld ?_ ?_
  rotate_left
  · rintro w' ⟨s0, s1⟩
    go_simp
    with_reducible rfl
  rotate_left
  · simp only [Act.put, List.setIfInBounds_toArray, List.set_cons_zero, List.set_cons_succ, i64_w, i32_w]
    rfl
  refine last_ (i := 9) (N := some 21) #[true, true, true, true, true, true, true, true, true, true, false] rfl rfl (by kernel_rfl) (by decide) (fun K hK => ?_)
  refine goesB_ Try.func28 (by kernel_rfl) rfl #[.pointer (some ⟨C.p, 0, none⟩)] #[.pointer (some ⟨C.p, 0, none⟩), .string x, .string y] (by rfl) rfl rfl rfl (by simp only [List.map_toArray, List.map_cons, List.map_nil]; rfl) ?_
  with_reducible refine (HC.out _ (below_drew (Below.refl _ _))).mono ?_
  rintro e wc ⟨cc, rfl, hb_⟩
  refine ⟨_, rfl, ?_⟩
  refine hK.out _ _ ?_
  clear hK K
  refine norm_ (a' := ?_) ?_ ?_
  rotate_left
  · show Act.put _ (some 21) _ = _
    simp only [Act.put, List.setIfInBounds_toArray, List.set_cons_zero, List.set_cons_succ, i64_w, i32_w]
    rfl
  refine pure_ (i := 10) (N := some 22) (v := ?_) (a' := ?_) #[true, true, true, true, true, true, true, true, true, true, true] rfl rfl (by kernel_rfl) (fun _ _ _ h => h) (Or.inl ⟨by rfl, ?_⟩) ?_ ?_
  rotate_left
  · intro w'
    go_simp
    with_reducible rfl
  rotate_left
  · simp only [Act.put, List.setIfInBounds_toArray, List.set_cons_zero, List.set_cons_succ, i64_w, i32_w]
    rfl
  refine done_ (by kernel_rfl) ?_
  have hR := H0.out.below ((below_drew (Below.refl _ _)).trans hb_)
  have c0 : wc.cell? ⟨s, 0, none⟩ = some (.int .i64 n) := hR.at_.cell 0
  have c1 : wc.frozen? ⟨s, 0, none⟩ = false := hR.at_.frozen 0
  have HR := Aside0.mk hR
  have HR2 := Aside0.mk (show RC C s (n + 1) (wc.setCell ⟨s, 0, none⟩ (.int .i64 (n + 1))) from ⟨hR.rs.setNew hR.at_ hR.new _ _, hR.at_.set 0 _, hR.new⟩)
  clear hHeld hx hy hfx hfy HC hb_ hR
  generalize decide (cc < 0) = cb
  cases cb with
  | true =>
    go_wp2_with fail
    go_ret2
    exact ⟨b, a, n + 1, rfl, .inr ⟨rfl, rfl⟩, by have := HN.out; omega, HR2.out⟩
  | false =>
    go_wp2_with fail
    go_ret2
    exact ⟨a, b, n, rfl, .inl ⟨rfl, rfl⟩, by have := HN.out; omega, HR.out⟩
theorem o2_in {P : Nat → Prop} {a b a' b' : Nat} (h : (a' = a ∧ b' = b) ∨ (a' = b ∧ b' = a)) (ha : P a) (hb : P b) : P a' ∧ P b' := by
  rcases h with ⟨rfl, rfl⟩ | ⟨rfl, rfl⟩
  · exact ⟨ha, hb⟩
  · exact ⟨hb, ha⟩
set_option maxHeartbeats 4000000 in
theorem s_median.calls (C : Cx) {a b c s : Nat} {P : Nat → Prop} (hP : ∀ k, P k → k < C.ss.length) (ha : P a) (hb : P b) (hc : P c) {w : World} (h : RC C s 0 w) : Calls Try.prog 61 #[C.row, .int .i64 a, .int .i64 b, .int .i64 c, .pointer (some ⟨s, 0, none⟩), C.cmp] w fun e w' =>
    ∃ (j : Nat) (n : Int), e = .returned (.int .i64 j) ∧ P j ∧ RC C s n w' := by
  have h1 := s_order2.calls C (hP _ ha) (hP _ hb) (n := 0) (by omega) h
  have HP := Aside0.mk hP
  have HC := Aside0.mk hc
  have HA := Aside0.mk (And.intro ha hb)
  clear h hP ha hb hc
  go_enter Try.func61, Try.ntmps61
  go_wp2_with fail
  refine h1.mono ?_
  rintro e w1 ⟨a1, b1, n1, rfl, hab, hn1, hr⟩
  have hin := o2_in hab HA.out.1 HA.out.2
  have h2 := s_order2.calls C (HP.out _ hin.2) (HP.out _ HC.out) (n := n1) (by omega) hr
  have HI := Aside0.mk hin
  have HN1 := Aside0.mk hn1
  clear hab hr hin h1 hn1
  go_wp2_with fail
  refine h2.mono ?_
  rintro e w2 ⟨b2, c2, n2, rfl, hbc, hn2, hr⟩
  have hin := o2_in hbc HI.out.2 HC.out
  have h3 := s_order2.calls C (HP.out _ HI.out.1) (HP.out _ hin.1) (n := n2) (by have := HN1.out; omega) hr
  have HI2 := Aside0.mk hin
  clear hbc hr hin h2 hn2
  go_wp2_with fail
  refine h3.mono ?_
  rintro e w3 ⟨a3, b3, n3, rfl, hab, hn3, hr⟩
  have HI3 := Aside0.mk (o2_in hab HI.out.1 HI2.out.1)
  have HR := Aside0.mk hr
  clear hab hr h3 hn3
  go_wp2_with fail
  go_ret
  exact ⟨b3, n3, rfl, HI3.out.2, HR.out⟩
theorem cp_ix {n a hi : Nat} (h : a + hi ≤ n) (h8 : 8 ≤ hi) (hn : n ≤ 49) : ∃ k4 m2 m3 i j k : Nat, Int.tdiv (hi : Int) 4 = (k4 : Int) ∧ wrap64 (k4 : Int) = (k4 : Int) ∧ wrap64 ((k4 : Int) * 2) = (m2 : Int) ∧ wrap64 ((k4 : Int) * 3) = (m3 : Int) ∧
    wrap64 ((a : Int) + (k4 : Int)) = (i : Int) ∧ wrap64 ((a : Int) + (m2 : Int)) = (j : Int) ∧ wrap64 ((a : Int) + (m3 : Int)) = (k : Int) ∧ (a ≤ i ∧ i < a + hi) ∧ (a ≤ j ∧ j < a + hi) ∧ (a ≤ k ∧ k < a + hi) := by
  refine ⟨hi / 4, hi / 4 * 2, hi / 4 * 3, a + hi / 4, a + hi / 4 * 2, a + hi / 4 * 3, ?_, ?_, ?_, ?_, ?_, ?_, ?_, by omega, by omega, by omega⟩
  · rw [Int.tdiv_eq_ediv_of_nonneg (by omega)]; omega
  all_goals (unfold wrap64; omega)
theorem cp_sm {b n : Nat} (h : b ≤ n) (hn : n ≤ 49) : b < 9223372036854775807 := by omega
theorem cp_low {n a hi q : Nat} (h : a ≤ q ∧ q < a + hi) (hb : a + hi ≤ n) : q < n := by omega
theorem cp_big {n hi a : Nat} (h : a + hi ≤ n) (hn : n ≤ 49) (h8 : 8 ≤ hi) : ¬ (50 ≤ hi) ∧ (8 : Int) ≤ (hi : Int) ∧ ¬ ((50 : Int) ≤ (hi : Int)) := by omega
set_option maxHeartbeats 4000000 in
theorem s_choosePivot.calls (C : Cx) {a hi b : Nat} (hab : b = a + hi) (h8 : 8 ≤ hi) (hb : b ≤ C.ss.length) {w : World} (h : RS C w) : Calls Try.prog 45 #[C.row, .int .i64 a, .int .i64 b, C.cmp] w fun e w' =>
    ∃ (j : Nat) (q : Int), e = .returned (.tuple #[.int .i64 j, .int .i64 q]) ∧ (a ≤ j ∧ j < b) ∧ (q = 0 ∨ q = 1 ∨ q = 2) ∧ RS C w' := by
  have hs := wsub hab (cp_sm hb C.small)
  obtain ⟨k4, m2, m3, i, j, k, e1, e2, e3, e4, e5, e6, e7, hi1, hj1, hk1⟩ := cp_ix (n := C.ss.length) (a := a) (hi := hi) (hab ▸ hb) h8 C.small
  have hRC : RC C w.heap.size 0 (w.alloc (.cells #[.int .i64 0] 3)) := ⟨h.below (below_alloc (Below.refl _ _) _), Blk.At.new w _ 3, h.gr.size⟩
  obtain ⟨s, hse⟩ : ∃ s, s = w.heap.size := ⟨_, rfl⟩
  rw [← hse] at hRC
  have h1 := s_median.calls C (P := fun q => a ≤ q ∧ q < a + hi) (fun q hq => cp_low hq (hab ▸ hb)) hi1 hj1 hk1 hRC
  have HM := Aside0.mk h1
  have HAB := Aside0.mk hab
  obtain ⟨h49, h8', h49'⟩ := cp_big (a := a) (hab ▸ hb) C.small h8
  clear h hab hb hRC h1 hi1 hj1 hk1
  replace hse := hse.symm
  go_enter Try.func45, Try.ntmps45
  go_wp2_with fail
  refine HM.out.mono ?_
  rintro e w1 ⟨jj, n, rfl, hj, hr⟩
  have c0 : w1.cell? ⟨s, 0, none⟩ = some (.int .i64 n) := hr.at_.cell 0
  have HR := Aside0.mk hr.rs
  have HJ := Aside0.mk (show a ≤ jj ∧ jj < b from HAB.out.symm ▸ hj)
  clear hr hj HM e1 e2 e3 e4 e5 e6 e7 hs
  by_cases h0 : n = 0
  · subst h0
    go_wp2_with fail
    go_ret2
    exact ⟨jj, 1, rfl, HJ.out, .inr (.inl rfl), HR.out⟩
  · have hb0 : (n == 0) = false := by simp [h0]
    by_cases h12 : n = 12
    · subst h12
      go_wp2_with fail
      go_ret2
      exact ⟨jj, 2, rfl, HJ.out, .inr (.inr rfl), HR.out⟩
    · have hb12 : (n == 12) = false := by simp [h12]
      go_wp2_with fail
      go_ret2
      exact ⟨jj, 0, rfl, HJ.out, .inl rfl, HR.out⟩
theorem bl_at {n : Nat} (h : 8 ≤ n) (hn : n ≤ 49) : ∃ q : Nat, Lib.bitLen n = q ∧ q ≤ 6 ∧ (2 : Int) ^ q ≤ 2 * n := by
  have : n = 8 ∨ n = 9 ∨ n = 10 ∨ n = 11 ∨ n = 12 ∨ n = 13 ∨ n = 14 ∨ n = 15 ∨ n = 16 ∨ n = 17 ∨ n = 18 ∨ n = 19 ∨ n = 20 ∨ n = 21 ∨ n = 22 ∨ n = 23 ∨ n = 24 ∨ n = 25 ∨ n = 26 ∨ n = 27 ∨ n = 28 ∨ n = 29 ∨ n = 30 ∨ n = 31 ∨ n = 32 ∨ n = 33 ∨ n = 34 ∨ n = 35 ∨ n = 36 ∨ n = 37 ∨ n = 38 ∨ n = 39 ∨ n = 40 ∨ n = 41 ∨ n = 42 ∨ n = 43 ∨ n = 44 ∨ n = 45 ∨ n = 46 ∨ n = 47 ∨ n = 48 ∨ n = 49 := by omega
  rcases this with rfl | rfl | rfl | rfl | rfl | rfl | rfl | rfl | rfl | rfl | rfl | rfl | rfl | rfl | rfl | rfl | rfl | rfl | rfl | rfl | rfl | rfl | rfl | rfl | rfl | rfl | rfl | rfl | rfl | rfl | rfl | rfl | rfl | rfl | rfl | rfl | rfl | rfl | rfl | rfl | rfl | rfl <;> exact ⟨_, rfl, by decide, by decide⟩
theorem n2_at {q n : Nat} (hq : q ≤ 6) (hp : (2 : Int) ^ q ≤ 2 * n) : ∃ p2 : Nat, IntKind.u64.wrap (2 ^ q) = (p2 : Int) ∧ (1 ≤ p2 ∧ p2 ≤ 2 * n) := by
  rcases (by omega : q = 0 ∨ q = 1 ∨ q = 2 ∨ q = 3 ∨ q = 4 ∨ q = 5 ∨ q = 6) with rfl | rfl | rfl | rfl | rfl | rfl | rfl
  · exact ⟨1, by decide, by omega⟩
  · exact ⟨2, by decide, by omega⟩
  · exact ⟨4, by decide, by omega⟩
  · exact ⟨8, by decide, by omega⟩
  · exact ⟨16, by decide, by omega⟩
  · exact ⟨32, by decide, by omega⟩
  · exact ⟨64, by decide, by omega⟩
set_option maxHeartbeats 4000000 in
theorem s_next2.calls {n : Nat} (h8 : 8 ≤ n) (hn : n ≤ 49) (w : World) : Calls Try.prog 58 #[.int .i64 n] w fun e w' => ∃ p2 : Nat, e = .returned (.int .u64 p2) ∧ (1 ≤ p2 ∧ p2 ≤ 2 * n) ∧ w' = w := by
  obtain ⟨q, hq, hq6, hp⟩ := bl_at h8 hn
  have hcv : IntKind.u64.wrap (n : Int) = n := by simp [IntKind.wrap, IntKind.bits, IntKind.signed]; omega
  have hb := Try.bits_Len (n : Int) w (by omega) (by omega)
  rw [Int.toNat_natCast, hq] at hb
  have HP := Aside0.mk (And.intro hq6 hp)
  have hq63 : ¬ ((q : Int) < 0) := by omega
  clear h8 hn hq hp
  go_enter Try.func58, Try.ntmps58
  go_wp2_with fail
  refine hb.mono ?_
  rintro e w1 ⟨rfl, rfl⟩
  clear hb
  go_wp2_with fail
  go_ret
  obtain ⟨p2, e, h2⟩ := n2_at HP.out.1 HP.out.2
  exact ⟨p2, by rw [← e]; rfl, h2, rfl⟩
set_option maxHeartbeats 4000000 in
theorem s_xor.calls {s : Nat} {n : Int} {w : World} (h : Blk.At s #[.int .u64 n] 92 w) : Calls Try.prog 59 #[.pointer (some ⟨s, 0, none⟩)] w fun e w' => ∃ v n' : Int, e = .returned (.int .u64 v) ∧ Blk.At s #[.int .u64 n'] 92 w' ∧ w.grownBy w' (some s) := by
  have c0 : w.cell? ⟨s, 0, none⟩ = some (.int .u64 n) := h.cell 0
  have c1 : w.frozen? ⟨s, 0, none⟩ = false := h.frozen 0
  have H := Aside0.mk h
  have hb : s < w.heap.size := h.lt
  clear h
  go_enter Try.func59, Try.ntmps59
  go_wp2_with fail
  have G := Aside0.mk (show w.grownBy w (some s) from ⟨rfl, rfl, rfl, Nat.le_refl _, fun _ _ _ => rfl⟩)
  refine start_ (n := 10) (S := fun w' => w'.cell? ⟨s, 0, none⟩ = some (.int .u64 n) ∧ w'.frozen? ⟨s, 0, none⟩ = false) (ds := [9]) #[false, false, false, false, false, false, false, false, false, false] (by kernel_rfl) rfl rfl ⟨c0, c1⟩ (fun hHeld => ?_)
  refine pure_ (i := 0) (N := some 3) (v := ?_) (a' := ?_) #[true, false, false, false, false, false, false, false, false, false] rfl rfl (by kernel_rfl) (fun _ _ _ h => h) (Or.inl ⟨by rfl, ?_⟩) ?_ ?_
  rotate_left
  · intro w'
    go_simp
    with_reducible rfl
  rotate_left
  · simp only [Act.put, List.setIfInBounds_toArray, List.set_cons_zero, List.set_cons_succ, i64_w, i32_w]
    rfl
  refine pure_ (i := 1) (N := some 4) (v := ?_) (a' := ?_) #[true, true, false, false, false, false, false, false, false, false] rfl rfl (by kernel_rfl) (fun _ _ _ h => h) (Or.inl ⟨by rfl, ?_⟩) ?_ ?_
  rotate_left
  · intro w'
    go_simp
    with_reducible rfl
  rotate_left
  · simp only [Act.put, List.setIfInBounds_toArray, List.set_cons_zero, List.set_cons_succ, i64_w, i32_w]
    rfl
  refine pure_ (i := 3) (N := some 6) (v := ?_) (a' := ?_) #[true, true, false, true, false, false, false, false, false, false] rfl rfl (by kernel_rfl) (fun _ _ _ h => h) (Or.inl ⟨by rfl, ?_⟩) ?_ ?_
  rotate_left
  · intro w'
    go_simp
    with_reducible rfl
  rotate_left
  · simp only [Act.put, List.setIfInBounds_toArray, List.set_cons_zero, List.set_cons_succ, i64_w, i32_w]
    rfl
  refine pure_ (i := 4) (N := some 7) (v := ?_) (a' := ?_) #[true, true, false, true, true, false, false, false, false, false] rfl rfl (by kernel_rfl) (fun _ _ _ h => h) (Or.inl ⟨by rfl, ?_⟩) ?_ ?_
  rotate_left
  · intro w'
    go_simp
    with_reducible rfl
  rotate_left
  · simp only [Act.put, List.setIfInBounds_toArray, List.set_cons_zero, List.set_cons_succ, i64_w, i32_w]
    rfl
  refine take_ (i := 2) (N := some 5) (v := ?_) (a' := ?_) #[true, true, true, true, true, false, false, false, false, false] rfl rfl (by kernel_rfl) (fun _ _ _ h => h) (Or.inl ⟨by rfl, ?_⟩) hHeld ?_ ?_
  rotate_left
  · rintro w' ⟨s0, s1⟩
    go_simp
    with_reducible rfl
  rotate_left
  · simp only [Act.put, List.setIfInBounds_toArray, List.set_cons_zero, List.set_cons_succ, i64_w, i32_w]
    rfl
  refine take_ (i := 5) (N := some 8) (v := ?_) (a' := ?_) #[true, true, true, true, true, true, false, false, false, false] rfl rfl (by kernel_rfl) (fun _ _ _ h => h) (Or.inl ⟨by rfl, ?_⟩) hHeld ?_ ?_
  rotate_left
  · rintro w' ⟨s0, s1⟩
    go_simp
    with_reducible rfl
  rotate_left
  · simp only [Act.put, List.setIfInBounds_toArray, List.set_cons_zero, List.set_cons_succ, i64_w, i32_w]
    rfl
  refine pure_ (i := 6) (N := some 9) (v := ?_) (a' := ?_) #[true, true, true, true, true, true, true, false, false, false] rfl rfl (by kernel_rfl) (fun _ _ _ h => h) (Or.inl ⟨by rfl, ?_⟩) ?_ ?_
  rotate_left
  · intro w'
    go_simp
    with_reducible rfl
  rotate_left
  · simp only [Act.put, List.setIfInBounds_toArray, List.set_cons_zero, List.set_cons_succ, i64_w, i32_w]
    rfl
  refine pure_ (i := 7) (N := some 10) (v := ?_) (a' := ?_) #[true, true, true, true, true, true, true, true, false, false] rfl rfl (by kernel_rfl) (fun _ _ _ h => h) (Or.inl ⟨by rfl, ?_⟩) ?_ ?_
  rotate_left
  · intro w'
    go_simp
    with_reducible rfl
  rotate_left
  · simp only [Act.put, List.setIfInBounds_toArray, List.set_cons_zero, List.set_cons_succ, i64_w, i32_w]
    rfl
  refine pure_ (i := 8) (N := some 11) (v := ?_) (a' := ?_) #[true, true, true, true, true, true, true, true, true, false] rfl rfl (by kernel_rfl) (fun _ _ _ h => h) (Or.inl ⟨by rfl, ?_⟩) ?_ ?_
  rotate_left
  · intro w'
    go_simp
    with_reducible rfl
  rotate_left
  · simp only [Act.put, List.setIfInBounds_toArray, List.set_cons_zero, List.set_cons_succ, i64_w, i32_w]
    rfl
  refine last_ (i := 9) (N := none) #[true, true, true, true, true, true, true, true, true, true] rfl rfl (by kernel_rfl) (by decide) (fun K hK => ?_)
  refine skip_ (w1 := ?_) (by rfl) rfl ?_ ?_
  rotate_left
  · go_simp
    rfl
  refine hK.out _ _ ?_
  clear hK K
  refine done_ (by kernel_rfl) ?_
  clear hHeld
  clear c0 c1
  generalize bits BinOp.xor IntKind.u64 n (IntKind.u64.wrap (n * 8192)) = n1
  have H1 := Aside0.mk (show Blk.At s #[.int .u64 n1] 92 (w.setCell ⟨s, 0, none⟩ (.int .u64 n1)).drew from (H.out.set 0 (.int .u64 n1)).drew)
  have G1 := Aside0.mk (G.out.trans (show w.grownBy (w.setCell ⟨s, 0, none⟩ (.int .u64 n1)).drew (some s) from ⟨rfl, rfl, rfl, by simp [World.setCell, World.drew], fun i _ hi => Below.heap_setCell _ _ _ _ (fun e => hi (by rw [e]))⟩))
  obtain ⟨w1, hw1⟩ : ∃ w1, w1 = (w.setCell ⟨s, 0, none⟩ (.int .u64 n1)).drew := ⟨_, rfl⟩
  rw [← hw1] at H1 G1 ⊢
  clear hw1
  have d0 : w1.cell? ⟨s, 0, none⟩ = some (.int .u64 n1) := H1.out.cell 0
  have d1 : w1.frozen? ⟨s, 0, none⟩ = false := H1.out.frozen 0
  go_wp2_with fail
  refine start_ (n := 10) (S := fun w' => w'.cell? ⟨s, 0, none⟩ = some (.int .u64 n1) ∧ w'.frozen? ⟨s, 0, none⟩ = false) (ds := [9]) #[false, false, false, false, false, false, false, false, false, false] (by kernel_rfl) rfl rfl ⟨d0, d1⟩ (fun hHeld => ?_)
  refine pure_ (i := 0) (N := some 12) (v := ?_) (a' := ?_) #[true, false, false, false, false, false, false, false, false, false] rfl rfl (by kernel_rfl) (fun _ _ _ h => h) (Or.inl ⟨by rfl, ?_⟩) ?_ ?_
  rotate_left
  · intro w'
    go_simp
    with_reducible rfl
  rotate_left
  · simp only [Act.put, List.setIfInBounds_toArray, List.set_cons_zero, List.set_cons_succ, i64_w, i32_w]
    rfl
  refine pure_ (i := 1) (N := some 13) (v := ?_) (a' := ?_) #[true, true, false, false, false, false, false, false, false, false] rfl rfl (by kernel_rfl) (fun _ _ _ h => h) (Or.inl ⟨by rfl, ?_⟩) ?_ ?_
  rotate_left
  · intro w'
    go_simp
    with_reducible rfl
  rotate_left
  · simp only [Act.put, List.setIfInBounds_toArray, List.set_cons_zero, List.set_cons_succ, i64_w, i32_w]
    rfl
  refine pure_ (i := 3) (N := some 15) (v := ?_) (a' := ?_) #[true, true, false, true, false, false, false, false, false, false] rfl rfl (by kernel_rfl) (fun _ _ _ h => h) (Or.inl ⟨by rfl, ?_⟩) ?_ ?_
  rotate_left
  · intro w'
    go_simp
    with_reducible rfl
  rotate_left
  · simp only [Act.put, List.setIfInBounds_toArray, List.set_cons_zero, List.set_cons_succ, i64_w, i32_w]
    rfl
  refine pure_ (i := 4) (N := some 16) (v := ?_) (a' := ?_) #[true, true, false, true, true, false, false, false, false, false] rfl rfl (by kernel_rfl) (fun _ _ _ h => h) (Or.inl ⟨by rfl, ?_⟩) ?_ ?_
  rotate_left
  · intro w'
    go_simp
    with_reducible rfl
  rotate_left
  · simp only [Act.put, List.setIfInBounds_toArray, List.set_cons_zero, List.set_cons_succ, i64_w, i32_w]
    rfl
  refine take_ (i := 2) (N := some 14) (v := ?_) (a' := ?_) #[true, true, true, true, true, false, false, false, false, false] rfl rfl (by kernel_rfl) (fun _ _ _ h => h) (Or.inl ⟨by rfl, ?_⟩) hHeld ?_ ?_
  rotate_left
  · rintro w' ⟨s0, s1⟩
    go_simp
    with_reducible rfl
  rotate_left
  · simp only [Act.put, List.setIfInBounds_toArray, List.set_cons_zero, List.set_cons_succ, i64_w, i32_w]
    rfl
  refine take_ (i := 5) (N := some 17) (v := ?_) (a' := ?_) #[true, true, true, true, true, true, false, false, false, false] rfl rfl (by kernel_rfl) (fun _ _ _ h => h) (Or.inl ⟨by rfl, ?_⟩) hHeld ?_ ?_
  rotate_left
  · rintro w' ⟨s0, s1⟩
    go_simp
    with_reducible rfl
  rotate_left
  · simp only [Act.put, List.setIfInBounds_toArray, List.set_cons_zero, List.set_cons_succ, i64_w, i32_w]
    rfl
  refine pure_ (i := 6) (N := some 18) (v := ?_) (a' := ?_) #[true, true, true, true, true, true, true, false, false, false] rfl rfl (by kernel_rfl) (fun _ _ _ h => h) (Or.inl ⟨by rfl, ?_⟩) ?_ ?_
  rotate_left
  · intro w'
    go_simp
    with_reducible rfl
  rotate_left
  · simp only [Act.put, List.setIfInBounds_toArray, List.set_cons_zero, List.set_cons_succ, i64_w, i32_w]
    rfl
  refine pure_ (i := 7) (N := some 19) (v := ?_) (a' := ?_) #[true, true, true, true, true, true, true, true, false, false] rfl rfl (by kernel_rfl) (fun _ _ _ h => h) (Or.inl ⟨by rfl, ?_⟩) ?_ ?_
  rotate_left
  · intro w'
    go_simp
    with_reducible rfl
  rotate_left
  · simp only [Act.put, List.setIfInBounds_toArray, List.set_cons_zero, List.set_cons_succ, i64_w, i32_w]
    rfl
  refine pure_ (i := 8) (N := some 20) (v := ?_) (a' := ?_) #[true, true, true, true, true, true, true, true, true, false] rfl rfl (by kernel_rfl) (fun _ _ _ h => h) (Or.inl ⟨by rfl, ?_⟩) ?_ ?_
  rotate_left
  · intro w'
    go_simp
    with_reducible rfl
  rotate_left
  · simp only [Act.put, List.setIfInBounds_toArray, List.set_cons_zero, List.set_cons_succ, i64_w, i32_w]
    rfl
  refine last_ (i := 9) (N := none) #[true, true, true, true, true, true, true, true, true, true] rfl rfl (by kernel_rfl) (by decide) (fun K hK => ?_)
  refine skip_ (w1 := ?_) (by rfl) rfl ?_ ?_
  rotate_left
  · go_simp
    rfl
  refine hK.out _ _ ?_
  clear hK K
  refine done_ (by kernel_rfl) ?_
  clear hHeld
  clear d0 d1
  generalize bits BinOp.xor IntKind.u64 n1 (n1 / 128) = n2
  have H2 := Aside0.mk (show Blk.At s #[.int .u64 n2] 92 (w1.setCell ⟨s, 0, none⟩ (.int .u64 n2)).drew from (H1.out.set 0 (.int .u64 n2)).drew)
  have G2 := Aside0.mk (G1.out.trans (show w1.grownBy (w1.setCell ⟨s, 0, none⟩ (.int .u64 n2)).drew (some s) from ⟨rfl, rfl, rfl, by simp [World.setCell, World.drew], fun i _ hi => Below.heap_setCell _ _ _ _ (fun e => hi (by rw [e]))⟩))
  obtain ⟨w2, hw1⟩ : ∃ w2, w2 = (w1.setCell ⟨s, 0, none⟩ (.int .u64 n2)).drew := ⟨_, rfl⟩
  rw [← hw1] at H2 G2 ⊢
  clear hw1
  have e0 : w2.cell? ⟨s, 0, none⟩ = some (.int .u64 n2) := H2.out.cell 0
  have e1 : w2.frozen? ⟨s, 0, none⟩ = false := H2.out.frozen 0
  go_wp2_with fail
  refine start_ (n := 10) (S := fun w' => w'.cell? ⟨s, 0, none⟩ = some (.int .u64 n2) ∧ w'.frozen? ⟨s, 0, none⟩ = false) (ds := [9]) #[false, false, false, false, false, false, false, false, false, false] (by kernel_rfl) rfl rfl ⟨e0, e1⟩ (fun hHeld => ?_)
  refine pure_ (i := 0) (N := some 21) (v := ?_) (a' := ?_) #[true, false, false, false, false, false, false, false, false, false] rfl rfl (by kernel_rfl) (fun _ _ _ h => h) (Or.inl ⟨by rfl, ?_⟩) ?_ ?_
  rotate_left
  · intro w'
    go_simp
    with_reducible rfl
  rotate_left
  · simp only [Act.put, List.setIfInBounds_toArray, List.set_cons_zero, List.set_cons_succ, i64_w, i32_w]
    rfl
  refine pure_ (i := 1) (N := some 22) (v := ?_) (a' := ?_) #[true, true, false, false, false, false, false, false, false, false] rfl rfl (by kernel_rfl) (fun _ _ _ h => h) (Or.inl ⟨by rfl, ?_⟩) ?_ ?_
  rotate_left
  · intro w'
    go_simp
    with_reducible rfl
  rotate_left
  · simp only [Act.put, List.setIfInBounds_toArray, List.set_cons_zero, List.set_cons_succ, i64_w, i32_w]
    rfl
  refine pure_ (i := 3) (N := some 24) (v := ?_) (a' := ?_) #[true, true, false, true, false, false, false, false, false, false] rfl rfl (by kernel_rfl) (fun _ _ _ h => h) (Or.inl ⟨by rfl, ?_⟩) ?_ ?_
  rotate_left
  · intro w'
    go_simp
    with_reducible rfl
  rotate_left
  · simp only [Act.put, List.setIfInBounds_toArray, List.set_cons_zero, List.set_cons_succ, i64_w, i32_w]
    rfl
  refine pure_ (i := 4) (N := some 25) (v := ?_) (a' := ?_) #[true, true, false, true, true, false, false, false, false, false] rfl rfl (by kernel_rfl) (fun _ _ _ h => h) (Or.inl ⟨by rfl, ?_⟩) ?_ ?_
  rotate_left
  · intro w'
    go_simp
    with_reducible rfl
  rotate_left
  · simp only [Act.put, List.setIfInBounds_toArray, List.set_cons_zero, List.set_cons_succ, i64_w, i32_w]
    rfl
  refine take_ (i := 2) (N := some 23) (v := ?_) (a' := ?_) #[true, true, true, true, true, false, false, false, false, false] rfl rfl (by kernel_rfl) (fun _ _ _ h => h) (Or.inl ⟨by rfl, ?_⟩) hHeld ?_ ?_
  rotate_left
  · rintro w' ⟨s0, s1⟩
    go_simp
    with_reducible rfl
  rotate_left
  · simp only [Act.put, List.setIfInBounds_toArray, List.set_cons_zero, List.set_cons_succ, i64_w, i32_w]
    rfl
  refine take_ (i := 5) (N := some 26) (v := ?_) (a' := ?_) #[true, true, true, true, true, true, false, false, false, false] rfl rfl (by kernel_rfl) (fun _ _ _ h => h) (Or.inl ⟨by rfl, ?_⟩) hHeld ?_ ?_
  rotate_left
  · rintro w' ⟨s0, s1⟩
    go_simp
    with_reducible rfl
  rotate_left
  · simp only [Act.put, List.setIfInBounds_toArray, List.set_cons_zero, List.set_cons_succ, i64_w, i32_w]
    rfl
  refine pure_ (i := 6) (N := some 27) (v := ?_) (a' := ?_) #[true, true, true, true, true, true, true, false, false, false] rfl rfl (by kernel_rfl) (fun _ _ _ h => h) (Or.inl ⟨by rfl, ?_⟩) ?_ ?_
  rotate_left
  · intro w'
    go_simp
    with_reducible rfl
  rotate_left
  · simp only [Act.put, List.setIfInBounds_toArray, List.set_cons_zero, List.set_cons_succ, i64_w, i32_w]
    rfl
  refine pure_ (i := 7) (N := some 28) (v := ?_) (a' := ?_) #[true, true, true, true, true, true, true, true, false, false] rfl rfl (by kernel_rfl) (fun _ _ _ h => h) (Or.inl ⟨by rfl, ?_⟩) ?_ ?_
  rotate_left
  · intro w'
    go_simp
    with_reducible rfl
  rotate_left
  · simp only [Act.put, List.setIfInBounds_toArray, List.set_cons_zero, List.set_cons_succ, i64_w, i32_w]
    rfl
  refine pure_ (i := 8) (N := some 29) (v := ?_) (a' := ?_) #[true, true, true, true, true, true, true, true, true, false] rfl rfl (by kernel_rfl) (fun _ _ _ h => h) (Or.inl ⟨by rfl, ?_⟩) ?_ ?_
  rotate_left
  · intro w'
    go_simp
    with_reducible rfl
  rotate_left
  · simp only [Act.put, List.setIfInBounds_toArray, List.set_cons_zero, List.set_cons_succ, i64_w, i32_w]
    rfl
  refine last_ (i := 9) (N := none) #[true, true, true, true, true, true, true, true, true, true] rfl rfl (by kernel_rfl) (by decide) (fun K hK => ?_)
  refine skip_ (w1 := ?_) (by rfl) rfl ?_ ?_
  rotate_left
  · go_simp
    rfl
  refine hK.out _ _ ?_
  clear hK K
  refine done_ (by kernel_rfl) ?_
  clear hHeld
  clear e0 e1
  generalize bits BinOp.xor IntKind.u64 n2 (IntKind.u64.wrap (n2 * 131072)) = n3
  have H3 := Aside0.mk (show Blk.At s #[.int .u64 n3] 92 (w2.setCell ⟨s, 0, none⟩ (.int .u64 n3)).drew from (H2.out.set 0 (.int .u64 n3)).drew)
  have G3 := Aside0.mk (G2.out.trans (show w2.grownBy (w2.setCell ⟨s, 0, none⟩ (.int .u64 n3)).drew (some s) from ⟨rfl, rfl, rfl, by simp [World.setCell, World.drew], fun i _ hi => Below.heap_setCell _ _ _ _ (fun e => hi (by rw [e]))⟩))
  obtain ⟨w3, hw1⟩ : ∃ w3, w3 = (w2.setCell ⟨s, 0, none⟩ (.int .u64 n3)).drew := ⟨_, rfl⟩
  rw [← hw1] at H3 G3 ⊢
  clear hw1
  have f0 : w3.cell? ⟨s, 0, none⟩ = some (.int .u64 n3) := H3.out.cell 0
  have f1 : w3.frozen? ⟨s, 0, none⟩ = false := H3.out.frozen 0
  go_wp2_with fail
  go_ret
  exact ⟨n3, n3, rfl, H3.out, G3.out⟩
theorem RS.turn {C : Cx} {W W' : World} (h : RS C W) {s : Nat} {cs : Array Value} {t : TypeId} (hs : Blk.At s cs t W) (ht : t ≠ 9 ∧ t ≠ 22 ∧ t ≠ 49 ∧ t ≠ 57) (hn : C.w0.heap.size ≤ s) (g : W.grownBy W' (some s)) : RS C W' := by
  have hne : ∀ (i : Nat) (o : Obj), W.heap[i]? = some o → (∀ ds, o ≠ .cells ds t) → W'.heap[i]? = some o := fun i o hi hc => by
    rw [g.block i (Array.getElem?_eq_some_iff.1 hi).1 (fun e => by
      cases e
      unfold Blk.At at hs
      rw [hs] at hi
      cases hi
      exact hc _ rfl)]
    exact hi
  obtain ⟨rr, hL, hp⟩ := h.ex
  refine ⟨⟨rr, ?_, hp⟩, ⟨h.tk.pa.np ⟨g.size, fun i o ho hk => hne i o ho (fun ds e => ?_)⟩, hne _ _ h.tk.cap (fun ds e => ?_)⟩, ?_⟩
  · refine Kd.R_mono (Kd.R_step (Kd.R_bound hL) (fun k ho hlt => ?_)) (fun _ _ => trivial)
    obtain ⟨_, _, _, q, hq, cs', hc⟩ := ho
    obtain rfl : q = 9 := by simpa [Kd.string, Kd.scalar] using hq
    rw [hc]
    exact hne _ _ hc (fun ds e => by injection e with _ e; exact ht.1 e.symm)
  · subst e
    rcases hk with hk | hk
    · exact ht.2.2.1 hk
    · exact ht.2.2.2 hk
  · injection e with _ e
    exact ht.2.1 e.symm
  · exact ⟨g.os.trans h.gr.os, g.tape.trans h.gr.tape, g.output.trans h.gr.output, Nat.le_trans h.gr.size g.size, fun k hk hne' => (g.block k (Nat.lt_of_lt_of_le hk h.gr.size) (fun e => by cases e; omega)).trans (h.gr.block k hk hne')⟩
/-- The row, and a number's cell beside it. -/
structure RX (C : Cx) (s : Nat) (W : World) : Prop where
  rs : RS C W
  at_ : ∃ n : Int, Blk.At s #[.int .u64 n] 92 W
  new : C.w0.heap.size ≤ s
theorem RX.below {C : Cx} {s : Nat} {W W' : World} (h : RX C s W) (hb : Below W.heap.size W W') : RX C s W' := by
  obtain ⟨n, ha⟩ := h.at_
  exact ⟨h.rs.below hb, ⟨n, ha.below hb ha.lt⟩, h.new⟩
theorem RX.next {C : Cx} {s : Nat} {W : World} (h : RX C s W) : Calls Try.prog 59 #[.pointer (some ⟨s, 0, none⟩)] W fun e w' => ∃ v : Int, e = .returned (.int .u64 v) ∧ RX C s w' := by
  obtain ⟨n, ha⟩ := h.at_
  refine (s_xor.calls ha).mono ?_
  rintro e w' ⟨v, n', rfl, ha', hg⟩
  exact ⟨v, rfl, ⟨h.rs.turn ha (by decide) h.new hg, ⟨n', ha'⟩, h.new⟩⟩
theorem RX.swap {C : Cx} {s : Nat} {W : World} (h : RX C s W) {x y : Value} {i j : Nat} (hsw : RS C ((W.setCell ⟨C.g, i, none⟩ x).setCell ⟨C.g, j, none⟩ y)) : RX C s ((W.setCell ⟨C.g, i, none⟩ x).setCell ⟨C.g, j, none⟩ y).drew := by
  obtain ⟨n, ha⟩ := h.at_
  obtain ⟨rr, hL, _⟩ := h.rs.ex
  obtain ⟨_, cs, hcs, _⟩ := hL.block
  have hne : C.g ≠ s := fun e => by
    unfold Blk.At at ha
    rw [← e, hcs] at ha
    cases ha
  exact ⟨hsw.drew, ⟨n, ((ha.set_other hne _ _).set_other hne _ _).drew⟩, h.new⟩
theorem and_le (x : Int) {y : Nat} (hy : y < 9223372036854775808) : ∃ o : Nat, bits .and .u64 x (y : Int) = (o : Int) ∧ o ≤ y := by
  refine ⟨(BitVec.ofInt 64 x &&& BitVec.ofInt 64 (y : Int)).toNat, ?_, ?_⟩
  · have h : (BitVec.ofInt 64 x &&& BitVec.ofInt 64 (y : Int)).toNat < 2 ^ 64 := (BitVec.ofInt 64 x &&& BitVec.ofInt 64 (y : Int)).isLt
    simp only [bits]
    show IntKind.u64.wrap (((BitVec.ofInt 64 x &&& BitVec.ofInt 64 (y : Int)).toNat : Nat) : Int) = _
    generalize (BitVec.ofInt 64 x &&& BitVec.ofInt 64 (y : Int)).toNat = z at h
    simp [IntKind.wrap, IntKind.bits, IntKind.signed]
    omega
  · rw [BitVec.toNat_and]
    refine Nat.le_trans Nat.and_le_right ?_
    rw [BitVec.ofInt_natCast, BitVec.toNat_ofNat]
    exact Nat.mod_le _ _
theorem bp_start {n a hi : Nat} (h : a + hi ≤ n) (h8 : 8 ≤ hi) (hn : n ≤ 49) : ∃ k4 m2 md st en : Nat, Int.tdiv (hi : Int) 4 = (k4 : Int) ∧ wrap64 (k4 : Int) = (k4 : Int) ∧ wrap64 ((k4 : Int) * 2) = (m2 : Int) ∧ wrap64 ((a : Int) + (m2 : Int)) = (md : Int) ∧ wrap64 ((md : Int) - 1) = (st : Int) ∧ wrap64 ((md : Int) + 1) = (en : Int) ∧ (st ≤ en + 1 ∧ en < a + hi) := by
  refine ⟨hi / 4, hi / 4 * 2, a + hi / 4 * 2, a + hi / 4 * 2 - 1, a + hi / 4 * 2 + 1, ?_, ?_, ?_, ?_, ?_, ?_, by omega⟩
  · rw [Int.tdiv_eq_ediv_of_nonneg (by omega)]; omega
  all_goals (unfold wrap64; omega)
theorem bp_ix {n a hi o : Nat} (h : a + hi ≤ n) (ho : o < hi) (hn : n ≤ 49) : ∃ ao : Nat, ao < n ∧ wrap64 ((a : Int) + (o : Int)) = (ao : Int) := ⟨a + o, by omega, wadd rfl (by omega)⟩
theorem bp_i {n a hi i st en : Nat} (h : a + hi ≤ n) (hn : n ≤ 49) (hen : en < a + hi) (h1 : st ≤ i) (h2 : i ≤ en) : i < n ∧ (st ≤ i + 1 ∧ i + 1 ≤ en + 1) ∧ wrap64 ((i : Int) + 1) = ((i + 1 : Nat) : Int) := ⟨by omega, by omega, w64n (by omega)⟩
theorem bp_less {i en : Nat} (e : wrap64 ((i : Int) + 1) = ((i + 1 : Nat) : Int)) (h : i ≤ en) : en + 1 - (intOf (.int .i64 (wrap64 ((i : Int) + 1)))).toNat < en + 1 - (intOf (.int .i64 (i : Int))).toNat := by
  rw [e]
  simp [intOf]
  omega
theorem bp_less' {i en : Nat} (h : i ≤ en) : en + 1 - (intOf (.int .i64 ((i + 1 : Nat) : Int))).toNat < en + 1 - (intOf (.int .i64 (i : Int))).toNat := by
  simp [intOf]
  omega
theorem bp_mask {p2 hi : Nat} (h : 1 ≤ p2 ∧ p2 ≤ 2 * hi) (hn : hi ≤ 49) : ∃ mk : Nat, IntKind.u64.wrap ((p2 : Int) - 1) = (mk : Int) ∧ mk < 2 * hi ∧ mk < 9223372036854775808 := by
  refine ⟨p2 - 1, ?_, by omega, by omega⟩
  simp [IntKind.wrap, IntKind.bits, IntKind.signed]
  omega
theorem bp_cv {o : Nat} (h : o ≤ 100) : IntKind.i64.wrap (o : Int) = (o : Int) := by
  simp [IntKind.wrap, IntKind.bits, IntKind.signed]
  omega
theorem bp_sub {o hi : Nat} (h : hi ≤ o) (ho : o < 2 * hi) (hn : hi ≤ 49) : ∃ o2 : Nat, wrap64 ((o : Int) - (hi : Int)) = (o2 : Int) ∧ o2 < hi := ⟨o - hi, wsub (by omega) (by omega), by omega⟩
theorem bp_u {hi : Nat} (h : hi ≤ 49) : IntKind.u64.wrap (hi : Int) = (hi : Int) := by
  simp [IntKind.wrap, IntKind.bits, IntKind.signed]
  omega
theorem bp_o {o mk hi : Nat} (h : o ≤ mk) (hm : mk < 2 * hi) (hn : hi ≤ 49) : o < 2 * hi ∧ o ≤ 100 := by omega
theorem bp_no {o hi : Nat} (h : ¬ hi ≤ o) : o < hi := by omega
set_option maxHeartbeats 8000000 in
theorem s_break.calls (C : Cx) {a hi b : Nat} (hab : b = a + hi) (h8 : 8 ≤ hi) (hb : b ≤ C.ss.length) {w : World} (h : RS C w) : Calls Try.prog 44 #[C.row, .int .i64 a, .int .i64 b, C.cmp] w fun e w' => e = .returned (.tuple #[]) ∧ RS C w' := by
  have hs := wsub hab (cp_sm hb C.small)
  have hah : a + hi ≤ C.ss.length := hab ▸ hb
  have HSM := Aside0.mk C.small
  have HB := Aside0.mk hah
  have h49 : hi ≤ 49 := Nat.le_trans (Nat.le_trans (Nat.le_add_left hi a) hah) C.small
  have H49 := Aside0.mk h49
  have hcu := bp_u h49
  have HNX := Aside0.mk (fun W => s_next2.calls h8 h49 W)
  have h8' : (8 : Int) ≤ (hi : Int) := Int.ofNat_le.2 h8
  obtain ⟨k4, m2, md, st, en, e1, e2, e3, e4, e5, e6, hse⟩ := bp_start hah h8 C.small
  have HSE := Aside0.mk hse
  obtain ⟨s, hs0⟩ : ∃ s, s = w.heap.size := ⟨_, rfl⟩
  have hRX0 := Aside0.mk (show RX C w.heap.size (w.alloc (.cells #[.int .u64 hi] 92)) from ⟨h.below (below_alloc (Below.refl _ _) _), ⟨hi, Blk.At.new w _ 92⟩, h.gr.size⟩)
  rw [← hs0] at hRX0
  clear h hab hb hah h49 h8 hse
  replace hs0 := hs0.symm
  go_enter Try.func44, Try.ntmps44
  go_wp2_with fail
  refine (HNX.out _).mono ?_
  rintro e w1 ⟨p2, rfl, hp2, rfl⟩
  obtain ⟨mk, emk, hmk1, hmk2⟩ := bp_mask hp2 H49.out
  have HMK := Aside0.mk (And.intro hmk1 hmk2)
  clear hp2 hmk1 hmk2 HNX
  go_wp2_with fail
  simp only [e1, e2, e3, e4, e5]
  go_loopw [11] (fun j wr => ∃ i : Nat, st ≤ i ∧ i ≤ en + 1 ∧ j = .int .i64 i ∧ Aside0 (RX C s wr)) (fun j _ => en + 1 - (intOf j).toNat)
  case atStart => exact ⟨st, Nat.le_refl _, HSE.out.1, by first | rfl | rw [e5] | simp only [e1, e2, e3, e4, e5], hRX0⟩
  case round =>
    clear hRX0 e5 hs hcu
    obtain ⟨i, hi1, hi2, rfl, HR⟩ := hrel
    by_cases hle : i ≤ en
    · obtain ⟨hil, hi3, ei⟩ := bp_i HB.out HSM.out HSE.out.2 hi1 hle
      have HI := Aside0.mk hi3
      have HIE := Aside0.mk hle
      have HNE := Aside0.mk HR.out.next
      clear hi1 hi2 hi3 HR
      go_wp2_with fail
      refine HNE.out.mono ?_
      rintro e w2 ⟨v, rfl, hr⟩
      have HR2 := Aside0.mk hr
      obtain ⟨o, eo, hom⟩ := and_le v HMK.out.2
      obtain ⟨ho2, ho100⟩ := bp_o hom HMK.out.1 H49.out
      have ecv := bp_cv ho100
      have HO2 := Aside0.mk ho2
      clear hr hom ho100 ho2 HNE
      by_cases hge : hi ≤ o
      · obtain ⟨o2, eo2, hO⟩ := bp_sub hge HO2.out H49.out
        have HO := Aside0.mk hO
        clear hO
        obtain ⟨ao, hao, eao⟩ := bp_ix HB.out HO.out HSM.out
        obtain ⟨x, y, hx, hy, hfx, hfy, _, _, ⟨z, hz⟩, hsw⟩ := HR2.out.rs.two hil hao
        have HS := Aside0.mk (HR2.out.swap hsw)
        clear hsw HR2
        go_wp2_with fail
        refine start_ (n := 20) (S := fun w' => w'.cell? ⟨C.g, i, none⟩ = some (.string x) ∧ w'.cell? ⟨C.g, ao, none⟩ = some (.string y) ∧ w'.frozen? ⟨C.g, i, none⟩ = false ∧ w'.frozen? ⟨C.g, ao, none⟩ = false) (ds := [17, 19]) #[false, false, false, false, false, false, false, false, false, false, false, false, false, false, false, false, false, false, false, false] (by kernel_rfl) rfl rfl ⟨hx, hy, hfx, hfy⟩ (fun hHeld => ?_)
        refine pure_ (i := 0) (N := some 49) (v := ?_) (a' := ?_) #[true, false, false, false, false, false, false, false, false, false, false, false, false, false, false, false, false, false, false, false] rfl rfl (by kernel_rfl) (fun _ _ _ h => h) (Or.inl ⟨by rfl, ?_⟩) ?_ ?_
        rotate_left
        · intro w'
          go_simp
          with_reducible rfl
        rotate_left
        · simp only [Act.put, List.setIfInBounds_toArray, List.set_cons_zero, List.set_cons_succ, i64_w, i32_w]
          rfl
        refine pure_ (i := 1) (N := some 50) (v := ?_) (a' := ?_) #[true, true, false, false, false, false, false, false, false, false, false, false, false, false, false, false, false, false, false, false] rfl rfl (by kernel_rfl) (fun _ _ _ h => h) (Or.inl ⟨by rfl, ?_⟩) ?_ ?_
        rotate_left
        · intro w'
          go_simp
          with_reducible rfl
        rotate_left
        · simp only [Act.put, List.setIfInBounds_toArray, List.set_cons_zero, List.set_cons_succ, i64_w, i32_w]
          rfl
        refine pure_ (i := 2) (N := some 51) (v := ?_) (a' := ?_) #[true, true, true, false, false, false, false, false, false, false, false, false, false, false, false, false, false, false, false, false] rfl rfl (by kernel_rfl) (fun _ _ _ h => h) (Or.inl ⟨by rfl, ?_⟩) ?_ ?_
        rotate_left
        · intro w'
          go_simp
          with_reducible rfl
        rotate_left
        · simp only [Act.put, List.setIfInBounds_toArray, List.set_cons_zero, List.set_cons_succ, i64_w, i32_w]
          rfl
        refine pure_ (i := 3) (N := some 52) (v := ?_) (a' := ?_) #[true, true, true, true, false, false, false, false, false, false, false, false, false, false, false, false, false, false, false, false] rfl rfl (by kernel_rfl) (fun _ _ _ h => h) (Or.inl ⟨by rfl, ?_⟩) ?_ ?_
        rotate_left
        · intro w'
          go_simp
          with_reducible rfl
        rotate_left
        · simp only [Act.put, List.setIfInBounds_toArray, List.set_cons_zero, List.set_cons_succ, i64_w, i32_w]
          rfl
        refine pure_ (i := 4) (N := some 53) (v := ?_) (a' := ?_) #[true, true, true, true, true, false, false, false, false, false, false, false, false, false, false, false, false, false, false, false] rfl rfl (by kernel_rfl) (fun _ _ _ h => h) (Or.inl ⟨by rfl, ?_⟩) ?_ ?_
        rotate_left
        · intro w'
          go_simp
          with_reducible rfl
        rotate_left
        · simp only [Act.put, List.setIfInBounds_toArray, List.set_cons_zero, List.set_cons_succ, i64_w, i32_w]
          rfl
        refine pure_ (i := 5) (N := some 54) (v := ?_) (a' := ?_) #[true, true, true, true, true, true, false, false, false, false, false, false, false, false, false, false, false, false, false, false] rfl rfl (by kernel_rfl) (fun _ _ _ h => h) (Or.inl ⟨by rfl, ?_⟩) ?_ ?_
        rotate_left
        · intro w'
          go_simp
          with_reducible rfl
        rotate_left
        · simp only [Act.put, List.setIfInBounds_toArray, List.set_cons_zero, List.set_cons_succ, i64_w, i32_w]
          rfl
        refine pure_ (i := 6) (N := some 55) (v := ?_) (a' := ?_) #[true, true, true, true, true, true, true, false, false, false, false, false, false, false, false, false, false, false, false, false] rfl rfl (by kernel_rfl) (fun _ _ _ h => h) (Or.inl ⟨by rfl, ?_⟩) ?_ ?_
        rotate_left
        · intro w'
          go_simp
          with_reducible rfl
        rotate_left
        · simp only [Act.put, List.setIfInBounds_toArray, List.set_cons_zero, List.set_cons_succ, i64_w, i32_w]
          rfl
        refine pure_ (i := 7) (N := some 56) (v := ?_) (a' := ?_) #[true, true, true, true, true, true, true, true, false, false, false, false, false, false, false, false, false, false, false, false] rfl rfl (by kernel_rfl) (fun _ _ _ h => h) (Or.inl ⟨by rfl, ?_⟩) ?_ ?_
        rotate_left
        · intro w'
          go_simp
          with_reducible rfl
        rotate_left
        · simp only [Act.put, List.setIfInBounds_toArray, List.set_cons_zero, List.set_cons_succ, i64_w, i32_w]
          rfl
        refine pure_ (i := 8) (N := some 57) (v := ?_) (a' := ?_) #[true, true, true, true, true, true, true, true, true, false, false, false, false, false, false, false, false, false, false, false] rfl rfl (by kernel_rfl) (fun _ _ _ h => h) (Or.inl ⟨by rfl, ?_⟩) ?_ ?_
        rotate_left
        · intro w'
          go_simp
          with_reducible rfl
        rotate_left
        · simp only [Act.put, List.setIfInBounds_toArray, List.set_cons_zero, List.set_cons_succ, i64_w, i32_w]
          rfl
        refine pure_ (i := 9) (N := some 58) (v := ?_) (a' := ?_) #[true, true, true, true, true, true, true, true, true, true, false, false, false, false, false, false, false, false, false, false] rfl rfl (by kernel_rfl) (fun _ _ _ h => h) (Or.inl ⟨by rfl, ?_⟩) ?_ ?_
        rotate_left
        · intro w'
          go_simp
          with_reducible rfl
        rotate_left
        · simp only [Act.put, List.setIfInBounds_toArray, List.set_cons_zero, List.set_cons_succ, i64_w, i32_w]
          rfl
        refine pure_ (i := 10) (N := some 59) (v := ?_) (a' := ?_) #[true, true, true, true, true, true, true, true, true, true, true, false, false, false, false, false, false, false, false, false] rfl rfl (by kernel_rfl) (fun _ _ _ h => h) (Or.inl ⟨by rfl, ?_⟩) ?_ ?_
        rotate_left
        · intro w'
          go_simp
          with_reducible rfl
        rotate_left
        · simp only [Act.put, List.setIfInBounds_toArray, List.set_cons_zero, List.set_cons_succ, i64_w, i32_w]
          rfl
        refine pure_ (i := 12) (N := some 61) (v := ?_) (a' := ?_) #[true, true, true, true, true, true, true, true, true, true, true, false, true, false, false, false, false, false, false, false] rfl rfl (by kernel_rfl) (fun _ _ _ h => h) (Or.inl ⟨by rfl, ?_⟩) ?_ ?_
        rotate_left
        · intro w'
          go_simp
          with_reducible rfl
        rotate_left
        · simp only [Act.put, List.setIfInBounds_toArray, List.set_cons_zero, List.set_cons_succ, i64_w, i32_w]
          rfl
        refine pure_ (i := 13) (N := some 62) (v := ?_) (a' := ?_) #[true, true, true, true, true, true, true, true, true, true, true, false, true, true, false, false, false, false, false, false] rfl rfl (by kernel_rfl) (fun _ _ _ h => h) (Or.inl ⟨by rfl, ?_⟩) ?_ ?_
        rotate_left
        · intro w'
          go_simp
          with_reducible rfl
        rotate_left
        · simp only [Act.put, List.setIfInBounds_toArray, List.set_cons_zero, List.set_cons_succ, i64_w, i32_w]
          rfl
        refine pure_ (i := 14) (N := some 63) (v := ?_) (a' := ?_) #[true, true, true, true, true, true, true, true, true, true, true, false, true, true, true, false, false, false, false, false] rfl rfl (by kernel_rfl) (fun _ _ _ h => h) (Or.inl ⟨by rfl, ?_⟩) ?_ ?_
        rotate_left
        · intro w'
          go_simp
          with_reducible rfl
        rotate_left
        · simp only [Act.put, List.setIfInBounds_toArray, List.set_cons_zero, List.set_cons_succ, i64_w, i32_w]
          rfl
        refine take_ (i := 11) (N := some 60) (v := ?_) (a' := ?_) #[true, true, true, true, true, true, true, true, true, true, true, true, true, true, true, false, false, false, false, false] rfl rfl (by kernel_rfl) (fun _ _ _ h => h) (Or.inl ⟨by rfl, ?_⟩) hHeld ?_ ?_
        rotate_left
        · rintro w' ⟨s0, s1, s2, s3⟩
          go_simp
          with_reducible rfl
        rotate_left
        · simp only [Act.put, List.setIfInBounds_toArray, List.set_cons_zero, List.set_cons_succ, i64_w, i32_w]
          rfl
        refine take_ (i := 15) (N := some 64) (v := ?_) (a' := ?_) #[true, true, true, true, true, true, true, true, true, true, true, true, true, true, true, true, false, false, false, false] rfl rfl (by kernel_rfl) (fun _ _ _ h => h) (Or.inl ⟨by rfl, ?_⟩) hHeld ?_ ?_
        rotate_left
        · rintro w' ⟨s0, s1, s2, s3⟩
          go_simp
          with_reducible rfl
        rotate_left
        · simp only [Act.put, List.setIfInBounds_toArray, List.set_cons_zero, List.set_cons_succ, i64_w, i32_w]
          rfl
        refine pure_ (i := 16) (N := some 65) (v := ?_) (a' := ?_) #[true, true, true, true, true, true, true, true, true, true, true, true, true, true, true, true, true, false, false, false] rfl rfl (by kernel_rfl) (fun _ _ _ h => h) (Or.inl ⟨by rfl, ?_⟩) ?_ ?_
        rotate_left
        · intro w'
          go_simp
          with_reducible rfl
        rotate_left
        · simp only [Act.put, List.setIfInBounds_toArray, List.set_cons_zero, List.set_cons_succ, i64_w, i32_w]
          rfl
        refine last_ (i := 17) (N := none) #[true, true, true, true, true, true, true, true, true, true, true, true, true, true, true, true, true, true, false, false] rfl rfl (by kernel_rfl) (by decide) (fun K hK => ?_)
        refine skip_ (w1 := ?_) (by rfl) rfl ?_ ?_
        rotate_left
        · go_simp
          rfl
        refine hK.out _ _ ?_
        clear hK K
        refine pure_ (i := 18) (N := some 66) (v := ?_) (a' := ?_) #[true, true, true, true, true, true, true, true, true, true, true, true, true, true, true, true, true, true, true, false] rfl rfl (by kernel_rfl) (fun _ _ _ h => h) (Or.inl ⟨by rfl, ?_⟩) ?_ ?_
        rotate_left
        · intro w'
          go_simp
          with_reducible rfl
        rotate_left
        · simp only [Act.put, List.setIfInBounds_toArray, List.set_cons_zero, List.set_cons_succ, i64_w, i32_w]
          rfl
        refine last_ (i := 19) (N := none) #[true, true, true, true, true, true, true, true, true, true, true, true, true, true, true, true, true, true, true, true] rfl rfl (by kernel_rfl) (by decide) (fun K hK => ?_)
        refine skip_ (w1 := ?_) (by rfl) rfl ?_ ?_
        rotate_left
        · go_simp
          rfl
        refine hK.out _ _ ?_
        clear hK K
        refine done_ (by kernel_rfl) ?_
        clear hx hy hfx hfy hz hHeld
        go_wp2_with fail
        exact ⟨⟨i + 1, HI.out.1, HI.out.2, by first | rfl | rw [ei], HS⟩, bp_less ei HIE.out⟩
      · have HO := Aside0.mk (bp_no hge)
        obtain ⟨ao, hao, eao⟩ := bp_ix HB.out HO.out HSM.out
        obtain ⟨x, y, hx, hy, hfx, hfy, _, _, ⟨z, hz⟩, hsw⟩ := HR2.out.rs.two hil hao
        have HS := Aside0.mk (HR2.out.swap hsw)
        clear hsw HR2
        go_wp2_with fail
        refine start_ (n := 20) (S := fun w' => w'.cell? ⟨C.g, i, none⟩ = some (.string x) ∧ w'.cell? ⟨C.g, ao, none⟩ = some (.string y) ∧ w'.frozen? ⟨C.g, i, none⟩ = false ∧ w'.frozen? ⟨C.g, ao, none⟩ = false) (ds := [17, 19]) #[false, false, false, false, false, false, false, false, false, false, false, false, false, false, false, false, false, false, false, false] (by kernel_rfl) rfl rfl ⟨hx, hy, hfx, hfy⟩ (fun hHeld => ?_)
        refine pure_ (i := 0) (N := some 49) (v := ?_) (a' := ?_) #[true, false, false, false, false, false, false, false, false, false, false, false, false, false, false, false, false, false, false, false] rfl rfl (by kernel_rfl) (fun _ _ _ h => h) (Or.inl ⟨by rfl, ?_⟩) ?_ ?_
        rotate_left
        · intro w'
          go_simp
          with_reducible rfl
        rotate_left
        · simp only [Act.put, List.setIfInBounds_toArray, List.set_cons_zero, List.set_cons_succ, i64_w, i32_w]
          rfl
        refine pure_ (i := 1) (N := some 50) (v := ?_) (a' := ?_) #[true, true, false, false, false, false, false, false, false, false, false, false, false, false, false, false, false, false, false, false] rfl rfl (by kernel_rfl) (fun _ _ _ h => h) (Or.inl ⟨by rfl, ?_⟩) ?_ ?_
        rotate_left
        · intro w'
          go_simp
          with_reducible rfl
        rotate_left
        · simp only [Act.put, List.setIfInBounds_toArray, List.set_cons_zero, List.set_cons_succ, i64_w, i32_w]
          rfl
        refine pure_ (i := 2) (N := some 51) (v := ?_) (a' := ?_) #[true, true, true, false, false, false, false, false, false, false, false, false, false, false, false, false, false, false, false, false] rfl rfl (by kernel_rfl) (fun _ _ _ h => h) (Or.inl ⟨by rfl, ?_⟩) ?_ ?_
        rotate_left
        · intro w'
          go_simp
          with_reducible rfl
        rotate_left
        · simp only [Act.put, List.setIfInBounds_toArray, List.set_cons_zero, List.set_cons_succ, i64_w, i32_w]
          rfl
        refine pure_ (i := 3) (N := some 52) (v := ?_) (a' := ?_) #[true, true, true, true, false, false, false, false, false, false, false, false, false, false, false, false, false, false, false, false] rfl rfl (by kernel_rfl) (fun _ _ _ h => h) (Or.inl ⟨by rfl, ?_⟩) ?_ ?_
        rotate_left
        · intro w'
          go_simp
          with_reducible rfl
        rotate_left
        · simp only [Act.put, List.setIfInBounds_toArray, List.set_cons_zero, List.set_cons_succ, i64_w, i32_w]
          rfl
        refine pure_ (i := 4) (N := some 53) (v := ?_) (a' := ?_) #[true, true, true, true, true, false, false, false, false, false, false, false, false, false, false, false, false, false, false, false] rfl rfl (by kernel_rfl) (fun _ _ _ h => h) (Or.inl ⟨by rfl, ?_⟩) ?_ ?_
        rotate_left
        · intro w'
          go_simp
          with_reducible rfl
        rotate_left
        · simp only [Act.put, List.setIfInBounds_toArray, List.set_cons_zero, List.set_cons_succ, i64_w, i32_w]
          rfl
        refine pure_ (i := 5) (N := some 54) (v := ?_) (a' := ?_) #[true, true, true, true, true, true, false, false, false, false, false, false, false, false, false, false, false, false, false, false] rfl rfl (by kernel_rfl) (fun _ _ _ h => h) (Or.inl ⟨by rfl, ?_⟩) ?_ ?_
        rotate_left
        · intro w'
          go_simp
          with_reducible rfl
        rotate_left
        · simp only [Act.put, List.setIfInBounds_toArray, List.set_cons_zero, List.set_cons_succ, i64_w, i32_w]
          rfl
        refine pure_ (i := 6) (N := some 55) (v := ?_) (a' := ?_) #[true, true, true, true, true, true, true, false, false, false, false, false, false, false, false, false, false, false, false, false] rfl rfl (by kernel_rfl) (fun _ _ _ h => h) (Or.inl ⟨by rfl, ?_⟩) ?_ ?_
        rotate_left
        · intro w'
          go_simp
          with_reducible rfl
        rotate_left
        · simp only [Act.put, List.setIfInBounds_toArray, List.set_cons_zero, List.set_cons_succ, i64_w, i32_w]
          rfl
        refine pure_ (i := 7) (N := some 56) (v := ?_) (a' := ?_) #[true, true, true, true, true, true, true, true, false, false, false, false, false, false, false, false, false, false, false, false] rfl rfl (by kernel_rfl) (fun _ _ _ h => h) (Or.inl ⟨by rfl, ?_⟩) ?_ ?_
        rotate_left
        · intro w'
          go_simp
          with_reducible rfl
        rotate_left
        · simp only [Act.put, List.setIfInBounds_toArray, List.set_cons_zero, List.set_cons_succ, i64_w, i32_w]
          rfl
        refine pure_ (i := 8) (N := some 57) (v := ?_) (a' := ?_) #[true, true, true, true, true, true, true, true, true, false, false, false, false, false, false, false, false, false, false, false] rfl rfl (by kernel_rfl) (fun _ _ _ h => h) (Or.inl ⟨by rfl, ?_⟩) ?_ ?_
        rotate_left
        · intro w'
          go_simp
          with_reducible rfl
        rotate_left
        · simp only [Act.put, List.setIfInBounds_toArray, List.set_cons_zero, List.set_cons_succ, i64_w, i32_w]
          rfl
        refine pure_ (i := 9) (N := some 58) (v := ?_) (a' := ?_) #[true, true, true, true, true, true, true, true, true, true, false, false, false, false, false, false, false, false, false, false] rfl rfl (by kernel_rfl) (fun _ _ _ h => h) (Or.inl ⟨by rfl, ?_⟩) ?_ ?_
        rotate_left
        · intro w'
          go_simp
          with_reducible rfl
        rotate_left
        · simp only [Act.put, List.setIfInBounds_toArray, List.set_cons_zero, List.set_cons_succ, i64_w, i32_w]
          rfl
        refine pure_ (i := 10) (N := some 59) (v := ?_) (a' := ?_) #[true, true, true, true, true, true, true, true, true, true, true, false, false, false, false, false, false, false, false, false] rfl rfl (by kernel_rfl) (fun _ _ _ h => h) (Or.inl ⟨by rfl, ?_⟩) ?_ ?_
        rotate_left
        · intro w'
          go_simp
          with_reducible rfl
        rotate_left
        · simp only [Act.put, List.setIfInBounds_toArray, List.set_cons_zero, List.set_cons_succ, i64_w, i32_w]
          rfl
        refine pure_ (i := 12) (N := some 61) (v := ?_) (a' := ?_) #[true, true, true, true, true, true, true, true, true, true, true, false, true, false, false, false, false, false, false, false] rfl rfl (by kernel_rfl) (fun _ _ _ h => h) (Or.inl ⟨by rfl, ?_⟩) ?_ ?_
        rotate_left
        · intro w'
          go_simp
          with_reducible rfl
        rotate_left
        · simp only [Act.put, List.setIfInBounds_toArray, List.set_cons_zero, List.set_cons_succ, i64_w, i32_w]
          rfl
        refine pure_ (i := 13) (N := some 62) (v := ?_) (a' := ?_) #[true, true, true, true, true, true, true, true, true, true, true, false, true, true, false, false, false, false, false, false] rfl rfl (by kernel_rfl) (fun _ _ _ h => h) (Or.inl ⟨by rfl, ?_⟩) ?_ ?_
        rotate_left
        · intro w'
          go_simp
          with_reducible rfl
        rotate_left
        · simp only [Act.put, List.setIfInBounds_toArray, List.set_cons_zero, List.set_cons_succ, i64_w, i32_w]
          rfl
        refine pure_ (i := 14) (N := some 63) (v := ?_) (a' := ?_) #[true, true, true, true, true, true, true, true, true, true, true, false, true, true, true, false, false, false, false, false] rfl rfl (by kernel_rfl) (fun _ _ _ h => h) (Or.inl ⟨by rfl, ?_⟩) ?_ ?_
        rotate_left
        · intro w'
          go_simp
          with_reducible rfl
        rotate_left
        · simp only [Act.put, List.setIfInBounds_toArray, List.set_cons_zero, List.set_cons_succ, i64_w, i32_w]
          rfl
        refine take_ (i := 11) (N := some 60) (v := ?_) (a' := ?_) #[true, true, true, true, true, true, true, true, true, true, true, true, true, true, true, false, false, false, false, false] rfl rfl (by kernel_rfl) (fun _ _ _ h => h) (Or.inl ⟨by rfl, ?_⟩) hHeld ?_ ?_
        rotate_left
        · rintro w' ⟨s0, s1, s2, s3⟩
          go_simp
          with_reducible rfl
        rotate_left
        · simp only [Act.put, List.setIfInBounds_toArray, List.set_cons_zero, List.set_cons_succ, i64_w, i32_w]
          rfl
        refine take_ (i := 15) (N := some 64) (v := ?_) (a' := ?_) #[true, true, true, true, true, true, true, true, true, true, true, true, true, true, true, true, false, false, false, false] rfl rfl (by kernel_rfl) (fun _ _ _ h => h) (Or.inl ⟨by rfl, ?_⟩) hHeld ?_ ?_
        rotate_left
        · rintro w' ⟨s0, s1, s2, s3⟩
          go_simp
          with_reducible rfl
        rotate_left
        · simp only [Act.put, List.setIfInBounds_toArray, List.set_cons_zero, List.set_cons_succ, i64_w, i32_w]
          rfl
        refine pure_ (i := 16) (N := some 65) (v := ?_) (a' := ?_) #[true, true, true, true, true, true, true, true, true, true, true, true, true, true, true, true, true, false, false, false] rfl rfl (by kernel_rfl) (fun _ _ _ h => h) (Or.inl ⟨by rfl, ?_⟩) ?_ ?_
        rotate_left
        · intro w'
          go_simp
          with_reducible rfl
        rotate_left
        · simp only [Act.put, List.setIfInBounds_toArray, List.set_cons_zero, List.set_cons_succ, i64_w, i32_w]
          rfl
        refine last_ (i := 17) (N := none) #[true, true, true, true, true, true, true, true, true, true, true, true, true, true, true, true, true, true, false, false] rfl rfl (by kernel_rfl) (by decide) (fun K hK => ?_)
        refine skip_ (w1 := ?_) (by rfl) rfl ?_ ?_
        rotate_left
        · go_simp
          rfl
        refine hK.out _ _ ?_
        clear hK K
        refine pure_ (i := 18) (N := some 66) (v := ?_) (a' := ?_) #[true, true, true, true, true, true, true, true, true, true, true, true, true, true, true, true, true, true, true, false] rfl rfl (by kernel_rfl) (fun _ _ _ h => h) (Or.inl ⟨by rfl, ?_⟩) ?_ ?_
        rotate_left
        · intro w'
          go_simp
          with_reducible rfl
        rotate_left
        · simp only [Act.put, List.setIfInBounds_toArray, List.set_cons_zero, List.set_cons_succ, i64_w, i32_w]
          rfl
        refine last_ (i := 19) (N := none) #[true, true, true, true, true, true, true, true, true, true, true, true, true, true, true, true, true, true, true, true] rfl rfl (by kernel_rfl) (by decide) (fun K hK => ?_)
        refine skip_ (w1 := ?_) (by rfl) rfl ?_ ?_
        rotate_left
        · go_simp
          rfl
        refine hK.out _ _ ?_
        clear hK K
        refine done_ (by kernel_rfl) ?_
        clear hx hy hfx hfy hz hHeld
        go_wp2_with fail
        exact ⟨⟨i + 1, HI.out.1, HI.out.2, by first | rfl | rw [ei], HS⟩, bp_less ei HIE.out⟩
    · clear hi1 hi2
      go_wp2_with fail
      go_end0
      exact ⟨rfl, HR.out.rs⟩
theorem pi_at {a hi b n : Nat} (hab : b = a + hi) (h1 : 1 ≤ hi) (hb : b ≤ n) (hn : n ≤ 49) : wrap64 ((a : Int) + 1) = ((a + 1 : Nat) : Int) ∧ wrap64 ((b : Int) - (a : Int)) = (hi : Int) ∧ (hi : Int) < 50 ∧ a + 1 ≤ b := by
  refine ⟨w64n (by omega), wsub hab (by omega), by omega, by omega⟩
theorem pi_step {a b n i : Nat} (h1 : a + 1 ≤ i) (h : i < b) (hb : b ≤ n) (hn : n ≤ 49) : ∃ q : Nat, wrap64 ((i : Int) - 1) = (q : Int) ∧ i < n ∧ q < n ∧ wrap64 ((i : Int) + 1) = ((i + 1 : Nat) : Int) ∧ ((i : Int) == (b : Int)) = false ∧ (a + 1 ≤ i + 1 ∧ i + 1 ≤ b) ∧ b - (i + 1) < b - i := by
  refine ⟨i - 1, wsub1' (by omega) (by omega), by omega, by omega, w64n (by omega), ?_, by omega, by omega⟩
  rw [beq_eq_false_iff_ne]
  omega
theorem pi_end {i b : Nat} (h : i ≤ b) (hn : ¬ i < b) : ((i : Int) == (b : Int)) = true := by
  rw [beq_iff_eq]
  omega
theorem meas_up {b i : Nat} (h : b - (i + 1) < b - i) : b - (intOf (.int .i64 ((i + 1 : Nat) : Int))).toNat < b - (intOf (.int .i64 (i : Int))).toNat := by
  simp [intOf]
  omega
set_option maxHeartbeats 8000000 in
theorem s_partial.calls (C : Cx) {a hi b : Nat} (hab : b = a + hi) (h1 : 1 ≤ hi) (hb : b ≤ C.ss.length) {w : World} (h : RS C w) : Calls Try.prog 47 #[C.row, .int .i64 a, .int .i64 b, C.cmp] w fun e w' => ∃ t : Bool, e = .returned (.bool t) ∧ RS C w' := by
  obtain ⟨ea, hs, h50, hab1⟩ := pi_at hab h1 hb C.small
  have HSM := Aside0.mk C.small
  have HB := Aside0.mk hb
  have HAB := Aside0.mk hab1
  have H0 := Aside0.mk h
  clear h hab h1 hb hab1
  go_enter Try.func47, Try.ntmps47
  go_wp2_with fail
  go_loopw [9, 10] (fun u j wr => u = .int .i64 ((a + 1 : Nat) : Int) ∧ j = .int .i64 0 ∧ Aside0 (RS C wr)) (fun _ _ _ => 0)
  case atStart => exact ⟨by first | rfl | rw [ea], rfl, H0⟩
  case round =>
    clear H0 ea
    obtain ⟨rfl, rfl, HR⟩ := hrel
    go_wp2_with fail
    go_loopw [9] (fun j wq => ∃ i : Nat, a + 1 ≤ i ∧ i ≤ b ∧ j = .int .i64 i ∧ Aside0 (RS C wq)) (fun j _ => b - (intOf j).toNat)
    case atStart => exact ⟨a + 1, Nat.le_refl _, HAB.out, rfl, HR⟩
    case round =>
      clear HR
      obtain ⟨i, hi1, hi2, rfl, HR⟩ := hrel
      by_cases hlt : i < b
      · obtain ⟨q, eq, hil, hql, ei, hne, hin, hme⟩ := pi_step hi1 hlt HB.out HSM.out
        have hd : decide (i < b) = true := decide_eq_true hlt
        obtain ⟨x, y, hx, hy, hfx, hfy, hc, _, _, _⟩ := HR.out.two hil hql
        have HC := Aside0.mk hc
        have HI := Aside0.mk (And.intro hin hme)
        clear hc hin hme hi1 hi2
        go_wp2_with fail
        refine start_ (n := 18) (S := fun w' => w'.cell? ⟨C.g, i, none⟩ = some (.string x) ∧ w'.cell? ⟨C.g, q, none⟩ = some (.string y)) (ds := [14]) #[false, false, false, false, false, false, false, false, false, false, false, false, false, false, false, false, false, false] (by kernel_rfl) rfl rfl ⟨hx, hy⟩ (fun hHeld => ?_)
        refine pure_ (i := 0) (N := some 19) (v := ?_) (a' := ?_) #[true, false, false, false, false, false, false, false, false, false, false, false, false, false, false, false, false, false] rfl rfl (by kernel_rfl) (fun _ _ _ h => h) (Or.inl ⟨by rfl, ?_⟩) ?_ ?_
        rotate_left
        · intro w'
          go_simp
          with_reducible rfl
        rotate_left
        · simp only [Act.put, List.setIfInBounds_toArray, List.set_cons_zero, List.set_cons_succ, i64_w, i32_w]
          rfl
        refine pure_ (i := 1) (N := some 20) (v := ?_) (a' := ?_) #[true, true, false, false, false, false, false, false, false, false, false, false, false, false, false, false, false, false] rfl rfl (by kernel_rfl) (fun _ _ _ h => h) (Or.inl ⟨by rfl, ?_⟩) ?_ ?_
        rotate_left
        · intro w'
          go_simp
          with_reducible rfl
        rotate_left
        · simp only [Act.put, List.setIfInBounds_toArray, List.set_cons_zero, List.set_cons_succ, i64_w, i32_w]
          rfl
        refine pure_ (i := 2) (N := some 21) (v := ?_) (a' := ?_) #[true, true, true, false, false, false, false, false, false, false, false, false, false, false, false, false, false, false] rfl rfl (by kernel_rfl) (fun _ _ _ h => h) (Or.inl ⟨by rfl, ?_⟩) ?_ ?_
        rotate_left
        · intro w'
          go_simp
          with_reducible rfl
        rotate_left
        · simp only [Act.put, List.setIfInBounds_toArray, List.set_cons_zero, List.set_cons_succ, i64_w, i32_w]
          rfl
        refine pure_ (i := 3) (N := some 22) (v := ?_) (a' := ?_) #[true, true, true, true, false, false, false, false, false, false, false, false, false, false, false, false, false, false] rfl rfl (by kernel_rfl) (fun _ _ _ h => h) (Or.inl ⟨by rfl, ?_⟩) ?_ ?_
        rotate_left
        · intro w'
          go_simp
          with_reducible rfl
        rotate_left
        · simp only [Act.put, List.setIfInBounds_toArray, List.set_cons_zero, List.set_cons_succ, i64_w, i32_w]
          rfl
        refine pure_ (i := 4) (N := some 23) (v := ?_) (a' := ?_) #[true, true, true, true, true, false, false, false, false, false, false, false, false, false, false, false, false, false] rfl rfl (by kernel_rfl) (fun _ _ _ h => h) (Or.inl ⟨by rfl, ?_⟩) ?_ ?_
        rotate_left
        · intro w'
          go_simp
          with_reducible rfl
        rotate_left
        · simp only [Act.put, List.setIfInBounds_toArray, List.set_cons_zero, List.set_cons_succ, i64_w, i32_w]
          rfl
        refine pure_ (i := 5) (N := some 24) (v := ?_) (a' := ?_) #[true, true, true, true, true, true, false, false, false, false, false, false, false, false, false, false, false, false] rfl rfl (by kernel_rfl) (fun _ _ _ h => h) (Or.inl ⟨by rfl, ?_⟩) ?_ ?_
        rotate_left
        · intro w'
          go_simp
          with_reducible rfl
        rotate_left
        · simp only [Act.put, List.setIfInBounds_toArray, List.set_cons_zero, List.set_cons_succ, i64_w, i32_w]
          rfl
        refine pure_ (i := 6) (N := some 25) (v := ?_) (a' := ?_) #[true, true, true, true, true, true, true, false, false, false, false, false, false, false, false, false, false, false] rfl rfl (by kernel_rfl) (fun _ _ _ h => h) (Or.inl ⟨by rfl, ?_⟩) ?_ ?_
        rotate_left
        · intro w'
          go_simp
          with_reducible rfl
        rotate_left
        · simp only [Act.put, List.setIfInBounds_toArray, List.set_cons_zero, List.set_cons_succ, i64_w, i32_w]
          rfl
        refine pure_ (i := 7) (N := some 26) (v := ?_) (a' := ?_) #[true, true, true, true, true, true, true, true, false, false, false, false, false, false, false, false, false, false] rfl rfl (by kernel_rfl) (fun _ _ _ h => h) (Or.inl ⟨by rfl, ?_⟩) ?_ ?_
        rotate_left
        · intro w'
          go_simp
          with_reducible rfl
        rotate_left
        · simp only [Act.put, List.setIfInBounds_toArray, List.set_cons_zero, List.set_cons_succ, i64_w, i32_w]
          rfl
        refine pure_ (i := 9) (N := some 28) (v := ?_) (a' := ?_) #[true, true, true, true, true, true, true, true, false, true, false, false, false, false, false, false, false, false] rfl rfl (by kernel_rfl) (fun _ _ _ h => h) (Or.inl ⟨by rfl, ?_⟩) ?_ ?_
        rotate_left
        · intro w'
          go_simp
          with_reducible rfl
        rotate_left
        · simp only [Act.put, List.setIfInBounds_toArray, List.set_cons_zero, List.set_cons_succ, i64_w, i32_w]
          rfl
        refine pure_ (i := 10) (N := some 29) (v := ?_) (a' := ?_) #[true, true, true, true, true, true, true, true, false, true, true, false, false, false, false, false, false, false] rfl rfl (by kernel_rfl) (fun _ _ _ h => h) (Or.inl ⟨by rfl, ?_⟩) ?_ ?_
        rotate_left
        · intro w'
          go_simp
          with_reducible rfl
        rotate_left
        · simp only [Act.put, List.setIfInBounds_toArray, List.set_cons_zero, List.set_cons_succ, i64_w, i32_w]
          rfl
        refine pure_ (i := 11) (N := some 30) (v := ?_) (a' := ?_) #[true, true, true, true, true, true, true, true, false, true, true, true, false, false, false, false, false, false] rfl rfl (by kernel_rfl) (fun _ _ _ h => h) (Or.inl ⟨by rfl, ?_⟩) ?_ ?_
        rotate_left
        · intro w'
          go_simp
          with_reducible rfl
        rotate_left
        · simp only [Act.put, List.setIfInBounds_toArray, List.set_cons_zero, List.set_cons_succ, i64_w, i32_w]
          rfl
        refine pure_ (i := 12) (N := some 31) (v := ?_) (a' := ?_) #[true, true, true, true, true, true, true, true, false, true, true, true, true, false, false, false, false, false] rfl rfl (by kernel_rfl) (fun _ _ _ h => h) (Or.inl ⟨by rfl, ?_⟩) ?_ ?_
        rotate_left
        · intro w'
          go_simp
          with_reducible rfl
        rotate_left
        · simp only [Act.put, List.setIfInBounds_toArray, List.set_cons_zero, List.set_cons_succ, i64_w, i32_w]
          rfl
        refine take_ (i := 8) (N := some 27) (v := ?_) (a' := ?_) #[true, true, true, true, true, true, true, true, true, true, true, true, true, false, false, false, false, false] rfl rfl (by kernel_rfl) (fun _ _ _ h => h) (Or.inl ⟨by rfl, ?_⟩) hHeld ?_ ?_
        rotate_left
        · rintro w' ⟨s0, s1⟩
          go_simp
          with_reducible rfl
        rotate_left
        · simp only [Act.put, List.setIfInBounds_toArray, List.set_cons_zero, List.set_cons_succ, i64_w, i32_w]
          rfl
        refine take_ (i := 13) (N := some 32) (v := ?_) (a' := ?_) #[true, true, true, true, true, true, true, true, true, true, true, true, true, true, false, false, false, false] rfl rfl (by kernel_rfl) (fun _ _ _ h => h) (Or.inl ⟨by rfl, ?_⟩) hHeld ?_ ?_
        rotate_left
        · rintro w' ⟨s0, s1⟩
          go_simp
          with_reducible rfl
        rotate_left
        · simp only [Act.put, List.setIfInBounds_toArray, List.set_cons_zero, List.set_cons_succ, i64_w, i32_w]
          rfl
        refine last_ (i := 14) (N := some 33) #[true, true, true, true, true, true, true, true, true, true, true, true, true, true, true, false, false, false] rfl rfl (by kernel_rfl) (by decide) (fun K hK => ?_)
        refine goesB_ Try.func28 (by kernel_rfl) rfl #[.pointer (some ⟨C.p, 0, none⟩)] #[.pointer (some ⟨C.p, 0, none⟩), .string x, .string y] (by rfl) rfl rfl rfl (by simp only [List.map_toArray, List.map_cons, List.map_nil]; rfl) ?_
        with_reducible refine (HC.out _ (below_drew (Below.refl _ _))).mono ?_
        rintro e wc ⟨cc, rfl, hb_⟩
        refine ⟨_, rfl, ?_⟩
        refine hK.out _ _ ?_
        clear hK K
        refine norm_ (a' := ?_) ?_ ?_
        rotate_left
        · show Act.put _ (some 33) _ = _
          simp only [Act.put, List.setIfInBounds_toArray, List.set_cons_zero, List.set_cons_succ, i64_w, i32_w]
          rfl
        refine pure_ (i := 15) (N := some 34) (v := ?_) (a' := ?_) #[true, true, true, true, true, true, true, true, true, true, true, true, true, true, true, true, false, false] rfl rfl (by kernel_rfl) (fun _ _ _ h => h) (Or.inl ⟨by rfl, ?_⟩) ?_ ?_
        rotate_left
        · intro w'
          go_simp
          with_reducible rfl
        rotate_left
        · simp only [Act.put, List.setIfInBounds_toArray, List.set_cons_zero, List.set_cons_succ, i64_w, i32_w]
          rfl
        refine pure_ (i := 16) (N := some 35) (v := ?_) (a' := ?_) #[true, true, true, true, true, true, true, true, true, true, true, true, true, true, true, true, true, false] rfl rfl (by kernel_rfl) (fun _ _ _ h => h) (Or.inl ⟨by rfl, ?_⟩) ?_ ?_
        rotate_left
        · intro w'
          go_simp
          with_reducible rfl
        rotate_left
        · simp only [Act.put, List.setIfInBounds_toArray, List.set_cons_zero, List.set_cons_succ, i64_w, i32_w]
          rfl
        refine pure_ (i := 17) (N := some 36) (v := ?_) (a' := ?_) #[true, true, true, true, true, true, true, true, true, true, true, true, true, true, true, true, true, true] rfl rfl (by kernel_rfl) (fun _ _ _ h => h) (Or.inl ⟨by rfl, ?_⟩) ?_ ?_
        rotate_left
        · intro w'
          go_simp
          with_reducible rfl
        rotate_left
        · simp only [Act.put, List.setIfInBounds_toArray, List.set_cons_zero, List.set_cons_succ, i64_w, i32_w]
          rfl
        refine done_ (by kernel_rfl) ?_
        have HR2 := Aside0.mk (HR.out.drew.below hb_)
        clear hHeld hx hy hfx hfy HC hb_ HR hil hql
        generalize decide (cc < 0) = cb
        cases cb
        rotate_left
        · go_wp2_with fail
          go_ret
          exact ⟨false, rfl, HR2.out⟩
        · clear hne
          go_wp2_with fail
          first | rw [ei] | skip
          exact ⟨⟨i + 1, HI.out.1.1, HI.out.1.2, rfl, HR2⟩, meas_up HI.out.2⟩
      · have hd : decide (i < b) = false := decide_eq_false hlt
        have hee := pi_end hi2 hlt
        clear hi1 hi2
        go_wp2_with fail
        refine start_ (n := 18) (S := fun w' => True) (ds := []) #[false, false, false, false, false, false, false, false, false, false, false, false, false, false, false, false, false, false] (by kernel_rfl) rfl rfl trivial (fun hHeld => ?_)
        refine pure_ (i := 0) (N := some 19) (v := ?_) (a' := ?_) #[true, false, false, false, false, false, false, false, false, false, false, false, false, false, false, false, false, false] rfl rfl (by kernel_rfl) (fun _ _ _ h => h) (Or.inl ⟨by rfl, ?_⟩) ?_ ?_
        rotate_left
        · intro w'
          go_simp
          with_reducible rfl
        rotate_left
        · simp only [Act.put, List.setIfInBounds_toArray, List.set_cons_zero, List.set_cons_succ, i64_w, i32_w]
          rfl
        refine pure_ (i := 1) (N := some 20) (v := ?_) (a' := ?_) #[true, true, false, false, false, false, false, false, false, false, false, false, false, false, false, false, false, false] rfl rfl (by kernel_rfl) (fun _ _ _ h => h) (Or.inl ⟨by rfl, ?_⟩) ?_ ?_
        rotate_left
        · intro w'
          go_simp
          with_reducible rfl
        rotate_left
        · simp only [Act.put, List.setIfInBounds_toArray, List.set_cons_zero, List.set_cons_succ, i64_w, i32_w]
          rfl
        refine pure_ (i := 2) (N := some 21) (v := ?_) (a' := ?_) #[true, true, true, false, false, false, false, false, false, false, false, false, false, false, false, false, false, false] rfl rfl (by kernel_rfl) (fun _ _ _ h => h) (Or.inl ⟨by rfl, ?_⟩) ?_ ?_
        rotate_left
        · intro w'
          go_simp
          with_reducible rfl
        rotate_left
        · simp only [Act.put, List.setIfInBounds_toArray, List.set_cons_zero, List.set_cons_succ, i64_w, i32_w]
          rfl
        refine pure_ (i := 3) (N := some 22) (v := ?_) (a' := ?_) #[true, true, true, true, false, false, false, false, false, false, false, false, false, false, false, false, false, false] rfl rfl (by kernel_rfl) (fun _ _ _ h => h) (Or.inl ⟨by rfl, ?_⟩) ?_ ?_
        rotate_left
        · intro w'
          go_simp
          with_reducible rfl
        rotate_left
        · simp only [Act.put, List.setIfInBounds_toArray, List.set_cons_zero, List.set_cons_succ, i64_w, i32_w]
          rfl
        refine pure_ (i := 4) (N := some 23) (v := undef) (a' := ?_) #[true, true, true, true, true, false, false, false, false, false, false, false, false, false, false, false, false, false] rfl rfl (by kernel_rfl) (fun _ _ _ h => h) (Or.inr ⟨by rfl, rfl⟩) ?_ ?_
        rotate_left
        · simp only [Act.put, List.setIfInBounds_toArray, List.set_cons_zero, List.set_cons_succ, i64_w, i32_w]
          rfl
        refine pure_ (i := 5) (N := some 24) (v := undef) (a' := ?_) #[true, true, true, true, true, true, false, false, false, false, false, false, false, false, false, false, false, false] rfl rfl (by kernel_rfl) (fun _ _ _ h => h) (Or.inr ⟨by rfl, rfl⟩) ?_ ?_
        rotate_left
        · simp only [Act.put, List.setIfInBounds_toArray, List.set_cons_zero, List.set_cons_succ, i64_w, i32_w]
          rfl
        refine pure_ (i := 6) (N := some 25) (v := undef) (a' := ?_) #[true, true, true, true, true, true, true, false, false, false, false, false, false, false, false, false, false, false] rfl rfl (by kernel_rfl) (fun _ _ _ h => h) (Or.inr ⟨by rfl, rfl⟩) ?_ ?_
        rotate_left
        · simp only [Act.put, List.setIfInBounds_toArray, List.set_cons_zero, List.set_cons_succ, i64_w, i32_w]
          rfl
        refine pure_ (i := 7) (N := some 26) (v := undef) (a' := ?_) #[true, true, true, true, true, true, true, true, false, false, false, false, false, false, false, false, false, false] rfl rfl (by kernel_rfl) (fun _ _ _ h => h) (Or.inr ⟨by rfl, rfl⟩) ?_ ?_
        rotate_left
        · simp only [Act.put, List.setIfInBounds_toArray, List.set_cons_zero, List.set_cons_succ, i64_w, i32_w]
          rfl
        refine pure_ (i := 8) (N := some 27) (v := undef) (a' := ?_) #[true, true, true, true, true, true, true, true, true, false, false, false, false, false, false, false, false, false] rfl rfl (by kernel_rfl) (fun _ _ _ h => h) (Or.inr ⟨by rfl, rfl⟩) ?_ ?_
        rotate_left
        · simp only [Act.put, List.setIfInBounds_toArray, List.set_cons_zero, List.set_cons_succ, i64_w, i32_w]
          rfl
        refine pure_ (i := 9) (N := some 28) (v := undef) (a' := ?_) #[true, true, true, true, true, true, true, true, true, true, false, false, false, false, false, false, false, false] rfl rfl (by kernel_rfl) (fun _ _ _ h => h) (Or.inr ⟨by rfl, rfl⟩) ?_ ?_
        rotate_left
        · simp only [Act.put, List.setIfInBounds_toArray, List.set_cons_zero, List.set_cons_succ, i64_w, i32_w]
          rfl
        refine pure_ (i := 10) (N := some 29) (v := undef) (a' := ?_) #[true, true, true, true, true, true, true, true, true, true, true, false, false, false, false, false, false, false] rfl rfl (by kernel_rfl) (fun _ _ _ h => h) (Or.inr ⟨by rfl, rfl⟩) ?_ ?_
        rotate_left
        · simp only [Act.put, List.setIfInBounds_toArray, List.set_cons_zero, List.set_cons_succ, i64_w, i32_w]
          rfl
        refine pure_ (i := 11) (N := some 30) (v := undef) (a' := ?_) #[true, true, true, true, true, true, true, true, true, true, true, true, false, false, false, false, false, false] rfl rfl (by kernel_rfl) (fun _ _ _ h => h) (Or.inr ⟨by rfl, rfl⟩) ?_ ?_
        rotate_left
        · simp only [Act.put, List.setIfInBounds_toArray, List.set_cons_zero, List.set_cons_succ, i64_w, i32_w]
          rfl
        refine pure_ (i := 12) (N := some 31) (v := undef) (a' := ?_) #[true, true, true, true, true, true, true, true, true, true, true, true, true, false, false, false, false, false] rfl rfl (by kernel_rfl) (fun _ _ _ h => h) (Or.inr ⟨by rfl, rfl⟩) ?_ ?_
        rotate_left
        · simp only [Act.put, List.setIfInBounds_toArray, List.set_cons_zero, List.set_cons_succ, i64_w, i32_w]
          rfl
        refine pure_ (i := 13) (N := some 32) (v := undef) (a' := ?_) #[true, true, true, true, true, true, true, true, true, true, true, true, true, true, false, false, false, false] rfl rfl (by kernel_rfl) (fun _ _ _ h => h) (Or.inr ⟨by rfl, rfl⟩) ?_ ?_
        rotate_left
        · simp only [Act.put, List.setIfInBounds_toArray, List.set_cons_zero, List.set_cons_succ, i64_w, i32_w]
          rfl
        refine pure_ (i := 14) (N := some 33) (v := undef) (a' := ?_) #[true, true, true, true, true, true, true, true, true, true, true, true, true, true, true, false, false, false] rfl rfl (by kernel_rfl) (fun _ _ _ h => h) (Or.inr ⟨by rfl, rfl⟩) ?_ ?_
        rotate_left
        · simp only [Act.put, List.setIfInBounds_toArray, List.set_cons_zero, List.set_cons_succ, i64_w, i32_w]
          rfl
        refine pure_ (i := 15) (N := some 34) (v := undef) (a' := ?_) #[true, true, true, true, true, true, true, true, true, true, true, true, true, true, true, true, false, false] rfl rfl (by kernel_rfl) (fun _ _ _ h => h) (Or.inr ⟨by rfl, rfl⟩) ?_ ?_
        rotate_left
        · simp only [Act.put, List.setIfInBounds_toArray, List.set_cons_zero, List.set_cons_succ, i64_w, i32_w]
          rfl
        refine pure_ (i := 16) (N := some 35) (v := undef) (a' := ?_) #[true, true, true, true, true, true, true, true, true, true, true, true, true, true, true, true, true, false] rfl rfl (by kernel_rfl) (fun _ _ _ h => h) (Or.inr ⟨by rfl, rfl⟩) ?_ ?_
        rotate_left
        · simp only [Act.put, List.setIfInBounds_toArray, List.set_cons_zero, List.set_cons_succ, i64_w, i32_w]
          rfl
        refine pure_ (i := 17) (N := some 36) (v := ?_) (a' := ?_) #[true, true, true, true, true, true, true, true, true, true, true, true, true, true, true, true, true, true] rfl rfl (by kernel_rfl) (fun _ _ _ h => h) (Or.inl ⟨by rfl, ?_⟩) ?_ ?_
        rotate_left
        · intro w'
          go_simp
          with_reducible rfl
        rotate_left
        · simp only [Act.put, List.setIfInBounds_toArray, List.set_cons_zero, List.set_cons_succ, i64_w, i32_w]
          rfl
        refine done_ (by kernel_rfl) ?_
        have HR2 := Aside0.mk HR.out.drew
        clear HR
        go_wp2_with fail
        go_ret
        exact ⟨true, rfl, HR2.out⟩
end Go.Proofs.Ytomkjakffpomdaa.Q
