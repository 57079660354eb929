/- The walks of unicode/utf8.appendRuneNonASCII and AppendRune onto a row of bytes of the call's own: the sign's bytes go in behind it. No condition but those typed. -/
import Derived.Test.YtljlkpfiebcoeaaGreatDoorMine
import Derived.Lib.RuneBytes
import Derived.Shelf.Utf8.AppendRune
import Derived.WalkKit
import Derived.ProofKit
namespace Go.Proofs.YtljlkpfiebcoeaaGreatDoor.Runes
open Go Go.RowKit Go.Proofs Go.Proofs.YtljlkpfiebcoeaaGreatDoorW.PrintWords Go.Proofs.YtljlkpfiebcoeaaGreatDoorW.PrintLast Go.Proofs.YtljlkpfiebcoeaaGreatDoorW.PrintMore
set_option linter.unusedVariables false
theorem info_byte : (Tryz.prog.info? 5).map (fun i => (i.zero, i.size, i.bytes)) = some (some (.int .u8 0), 1, 1) := by kernel_rfl
theorem Kept_row {w W W2 : World} {S : Nat → Prop} {row : Option Nat} (hg : W.grownBy W2 row) (h : Kept w W S) (hr : ∀ k, row = some k → S k) : Kept w W2 S := Kept.of_grown hg h (fun k e => .inl (hr k e))
set_option maxHeartbeats 4000000 in
set_option maxRecDepth 100000 in
theorem two (P0_ : Nat → Prop) (u9000_ : Value) (l0 : List Int) (r : Int) (h0 : 128 ≤ r) (h1 : r ≤ 2047) (hl : l0.length + 2 ≤ 140737488355328) (w0 w : World) (hB : Below w0.heap.size w0 w) (ho0 : Kd.R (Kd.int .u8) 5 w w0.heap.size P0_ u9000_ l0) :
    Calls Tryz.prog 128 #[u9000_, .int .i32 r] w fun e w' => ∃ v0_ : Value, e = .returned v0_ ∧ Kd.R (Kd.int .u8) 5 w' w0.heap.size (fun k_ => (P0_ k_ ∨ w.heap.size ≤ k_)) v0_ (l0 ++ [192 + r / 64, 128 + r % 64]) ∧ Below w0.heap.size w0 w' ∧ Kept w w' (fun k_ => P0_ k_) := by
  obtain ⟨A, c, rfl⟩ := Kd.R_slice ho0
  have HO := Aside0.mk ho0
  have HB := Aside0.mk hB
  have HL := Aside0.mk hl
  clear ho0 hB hl
  have HC := Aside0.mk (fun (W : World) => Kd.C_ints_block (W := W.alloc (.cells #[.int .u8 (192 + r / 64), .int .u8 (128 + r % 64)] 5)) (g := W.heap.size) (e := 5) (fr := (0, 0)) (k := .u8) (xs := [192 + r / 64, 128 + r % 64]) (cs := #[.int .u8 (192 + r / 64), .int .u8 (128 + r % 64)]) (heap_new _ _ rfl) rfl (by simp))
  go_enter Tryz.func128, Tryz.ntmps128
  go_wp2_with (at_builtin; refine Kd.R_append_rows (Kd.int .u8) (w0 := w0) w0.heap.size rfl _ _ 69 5 (.int .u8 0) 1 rfl Tryz.underlying69 info_byte rfl (by decide) (by decide) (.slice A l0.length c) l0 [192 + r / 64, 128 + r % 64] (some ⟨w.heap.size, 0, none⟩) 2 2 (fun k_ => (P0_ k_ ∨ w.heap.size ≤ k_)) (fun _ => False) rfl rfl (Kd.R_mono (Kd.R_alloc HO.out _) (fun _ hk => .inl hk)) (HC.out w) (fun _ _ h => h) (fun _ h => h.elim) (fun k hk => .inr (by rw [size_alloc] at hk; omega)) (below_alloc HB.out _) (by rw [size_alloc]; have := HB.out.size; omega) (by have := HL.out; omega) ?_; intro v1 w1 ho hb hg hat; have HO1 := Aside0.mk ho; have HB1 := Aside0.mk hb; have HK1 := Aside0.mk (Kept_row hg (Kept.alloc (Kept.refl w (fun k_ => P0_ k_)) _) (fun k e => HO.out.1 k e)); clear ho hb hg hat)
  go_ret
  exact ⟨_, rfl, HO1.out, HB1.out, HK1.out⟩
set_option maxHeartbeats 4000000 in
set_option maxRecDepth 100000 in
theorem three_lo (P0_ : Nat → Prop) (u9000_ : Value) (l0 : List Int) (r : Int) (h0 : 2048 ≤ r) (h1 : r < 55296) (hl : l0.length + 3 ≤ 140737488355328) (w0 w : World) (hB : Below w0.heap.size w0 w) (ho0 : Kd.R (Kd.int .u8) 5 w w0.heap.size P0_ u9000_ l0) :
    Calls Tryz.prog 128 #[u9000_, .int .i32 r] w fun e w' => ∃ v0_ : Value, e = .returned v0_ ∧ Kd.R (Kd.int .u8) 5 w' w0.heap.size (fun k_ => (P0_ k_ ∨ w.heap.size ≤ k_)) v0_ (l0 ++ [224 + r / 4096, 128 + r / 64 % 64, 128 + r % 64]) ∧ Below w0.heap.size w0 w' ∧ Kept w w' (fun k_ => P0_ k_) := by
  obtain ⟨A, c, rfl⟩ := Kd.R_slice ho0
  have HO := Aside0.mk ho0
  have HB := Aside0.mk hB
  have HL := Aside0.mk hl
  clear ho0 hB hl
  have HC := Aside0.mk (fun (W : World) => Kd.C_ints_block (W := W.alloc (.cells #[.int .u8 (224 + r / 4096), .int .u8 (128 + r / 64 % 64), .int .u8 (128 + r % 64)] 5)) (g := W.heap.size) (e := 5) (fr := (0, 0)) (k := .u8) (xs := [224 + r / 4096, 128 + r / 64 % 64, 128 + r % 64]) (cs := #[.int .u8 (224 + r / 4096), .int .u8 (128 + r / 64 % 64), .int .u8 (128 + r % 64)]) (heap_new _ _ rfl) rfl (by simp))
  go_enter Tryz.func128, Tryz.ntmps128
  go_wp2_with (at_builtin; refine Kd.R_append_rows (Kd.int .u8) (w0 := w0) w0.heap.size rfl _ _ 69 5 (.int .u8 0) 1 rfl Tryz.underlying69 info_byte rfl (by decide) (by decide) (.slice A l0.length c) l0 [224 + r / 4096, 128 + r / 64 % 64, 128 + r % 64] (some ⟨w.heap.size, 0, none⟩) 3 3 (fun k_ => (P0_ k_ ∨ w.heap.size ≤ k_)) (fun _ => False) rfl rfl (Kd.R_mono (Kd.R_alloc HO.out _) (fun _ hk => .inl hk)) (HC.out w) (fun _ _ h => h) (fun _ h => h.elim) (fun k hk => .inr (by rw [size_alloc] at hk; omega)) (below_alloc HB.out _) (by rw [size_alloc]; have := HB.out.size; omega) (by have := HL.out; omega) ?_; intro v1 w1 ho hb hg hat; have HO1 := Aside0.mk ho; have HB1 := Aside0.mk hb; have HK1 := Aside0.mk (Kept_row hg (Kept.alloc (Kept.refl w (fun k_ => P0_ k_)) _) (fun k e => HO.out.1 k e)); clear ho hb hg hat)
  go_ret
  exact ⟨_, rfl, HO1.out, HB1.out, HK1.out⟩
set_option maxHeartbeats 4000000 in
set_option maxRecDepth 100000 in
theorem three_hi (P0_ : Nat → Prop) (u9000_ : Value) (l0 : List Int) (r : Int) (h0 : 57343 < r) (h1 : r ≤ 65535) (hl : l0.length + 3 ≤ 140737488355328) (w0 w : World) (hB : Below w0.heap.size w0 w) (ho0 : Kd.R (Kd.int .u8) 5 w w0.heap.size P0_ u9000_ l0) :
    Calls Tryz.prog 128 #[u9000_, .int .i32 r] w fun e w' => ∃ v0_ : Value, e = .returned v0_ ∧ Kd.R (Kd.int .u8) 5 w' w0.heap.size (fun k_ => (P0_ k_ ∨ w.heap.size ≤ k_)) v0_ (l0 ++ [224 + r / 4096, 128 + r / 64 % 64, 128 + r % 64]) ∧ Below w0.heap.size w0 w' ∧ Kept w w' (fun k_ => P0_ k_) := by
  obtain ⟨A, c, rfl⟩ := Kd.R_slice ho0
  have HO := Aside0.mk ho0
  have HB := Aside0.mk hB
  have HL := Aside0.mk hl
  clear ho0 hB hl
  have HC := Aside0.mk (fun (W : World) => Kd.C_ints_block (W := W.alloc (.cells #[.int .u8 (224 + r / 4096), .int .u8 (128 + r / 64 % 64), .int .u8 (128 + r % 64)] 5)) (g := W.heap.size) (e := 5) (fr := (0, 0)) (k := .u8) (xs := [224 + r / 4096, 128 + r / 64 % 64, 128 + r % 64]) (cs := #[.int .u8 (224 + r / 4096), .int .u8 (128 + r / 64 % 64), .int .u8 (128 + r % 64)]) (heap_new _ _ rfl) rfl (by simp))
  go_enter Tryz.func128, Tryz.ntmps128
  go_wp2_with (at_builtin; refine Kd.R_append_rows (Kd.int .u8) (w0 := w0) w0.heap.size rfl _ _ 69 5 (.int .u8 0) 1 rfl Tryz.underlying69 info_byte rfl (by decide) (by decide) (.slice A l0.length c) l0 [224 + r / 4096, 128 + r / 64 % 64, 128 + r % 64] (some ⟨w.heap.size, 0, none⟩) 3 3 (fun k_ => (P0_ k_ ∨ w.heap.size ≤ k_)) (fun _ => False) rfl rfl (Kd.R_mono (Kd.R_alloc HO.out _) (fun _ hk => .inl hk)) (HC.out w) (fun _ _ h => h) (fun _ h => h.elim) (fun k hk => .inr (by rw [size_alloc] at hk; omega)) (below_alloc HB.out _) (by rw [size_alloc]; have := HB.out.size; omega) (by have := HL.out; omega) ?_; intro v1 w1 ho hb hg hat; have HO1 := Aside0.mk ho; have HB1 := Aside0.mk hb; have HK1 := Aside0.mk (Kept_row hg (Kept.alloc (Kept.refl w (fun k_ => P0_ k_)) _) (fun k e => HO.out.1 k e)); clear ho hb hg hat)
  go_ret
  exact ⟨_, rfl, HO1.out, HB1.out, HK1.out⟩
set_option maxHeartbeats 4000000 in
set_option maxRecDepth 100000 in
theorem four (P0_ : Nat → Prop) (u9000_ : Value) (l0 : List Int) (r : Int) (h0 : 65536 ≤ r) (h1 : r ≤ 1114111) (hl : l0.length + 4 ≤ 140737488355328) (w0 w : World) (hB : Below w0.heap.size w0 w) (ho0 : Kd.R (Kd.int .u8) 5 w w0.heap.size P0_ u9000_ l0) :
    Calls Tryz.prog 128 #[u9000_, .int .i32 r] w fun e w' => ∃ v0_ : Value, e = .returned v0_ ∧ Kd.R (Kd.int .u8) 5 w' w0.heap.size (fun k_ => (P0_ k_ ∨ w.heap.size ≤ k_)) v0_ (l0 ++ [240 + r / 262144, 128 + r / 4096 % 64, 128 + r / 64 % 64, 128 + r % 64]) ∧ Below w0.heap.size w0 w' ∧ Kept w w' (fun k_ => P0_ k_) := by
  obtain ⟨A, c, rfl⟩ := Kd.R_slice ho0
  have HO := Aside0.mk ho0
  have HB := Aside0.mk hB
  have HL := Aside0.mk hl
  clear ho0 hB hl
  have HC := Aside0.mk (fun (W : World) => Kd.C_ints_block (W := W.alloc (.cells #[.int .u8 (240 + r / 262144), .int .u8 (128 + r / 4096 % 64), .int .u8 (128 + r / 64 % 64), .int .u8 (128 + r % 64)] 5)) (g := W.heap.size) (e := 5) (fr := (0, 0)) (k := .u8) (xs := [240 + r / 262144, 128 + r / 4096 % 64, 128 + r / 64 % 64, 128 + r % 64]) (cs := #[.int .u8 (240 + r / 262144), .int .u8 (128 + r / 4096 % 64), .int .u8 (128 + r / 64 % 64), .int .u8 (128 + r % 64)]) (heap_new _ _ rfl) rfl (by simp))
  go_enter Tryz.func128, Tryz.ntmps128
  go_wp2_with (at_builtin; refine Kd.R_append_rows (Kd.int .u8) (w0 := w0) w0.heap.size rfl _ _ 69 5 (.int .u8 0) 1 rfl Tryz.underlying69 info_byte rfl (by decide) (by decide) (.slice A l0.length c) l0 [240 + r / 262144, 128 + r / 4096 % 64, 128 + r / 64 % 64, 128 + r % 64] (some ⟨w.heap.size, 0, none⟩) 4 4 (fun k_ => (P0_ k_ ∨ w.heap.size ≤ k_)) (fun _ => False) rfl rfl (Kd.R_mono (Kd.R_alloc HO.out _) (fun _ hk => .inl hk)) (HC.out w) (fun _ _ h => h) (fun _ h => h.elim) (fun k hk => .inr (by rw [size_alloc] at hk; omega)) (below_alloc HB.out _) (by rw [size_alloc]; have := HB.out.size; omega) (by have := HL.out; omega) ?_; intro v1 w1 ho hb hg hat; have HO1 := Aside0.mk ho; have HB1 := Aside0.mk hb; have HK1 := Aside0.mk (Kept_row hg (Kept.alloc (Kept.refl w (fun k_ => P0_ k_)) _) (fun k e => HO.out.1 k e)); clear ho hb hg hat)
  go_ret
  exact ⟨_, rfl, HO1.out, HB1.out, HK1.out⟩
set_option maxHeartbeats 4000000 in
set_option maxRecDepth 100000 in
theorem bad_neg (P0_ : Nat → Prop) (u9000_ : Value) (l0 : List Int) (r : Int) (h0 : -2147483648 ≤ r) (h1 : r < 0) (hl : l0.length + 3 ≤ 140737488355328) (w0 w : World) (hB : Below w0.heap.size w0 w) (ho0 : Kd.R (Kd.int .u8) 5 w w0.heap.size P0_ u9000_ l0) :
    Calls Tryz.prog 128 #[u9000_, .int .i32 r] w fun e w' => ∃ v0_ : Value, e = .returned v0_ ∧ Kd.R (Kd.int .u8) 5 w' w0.heap.size (fun k_ => (P0_ k_ ∨ w.heap.size ≤ k_)) v0_ (l0 ++ [239, 191, 189]) ∧ Below w0.heap.size w0 w' ∧ Kept w w' (fun k_ => P0_ k_) := by
  obtain ⟨A, c, rfl⟩ := Kd.R_slice ho0
  have HO := Aside0.mk ho0
  have HB := Aside0.mk hB
  have HL := Aside0.mk hl
  clear ho0 hB hl
  have HC := Aside0.mk (fun (W : World) => Kd.C_ints_block (W := W.alloc (.cells #[.int .u8 (239), .int .u8 (191), .int .u8 (189)] 5)) (g := W.heap.size) (e := 5) (fr := (0, 0)) (k := .u8) (xs := [239, 191, 189]) (cs := #[.int .u8 (239), .int .u8 (191), .int .u8 (189)]) (heap_new _ _ rfl) rfl (by simp))
  go_enter Tryz.func128, Tryz.ntmps128
  go_wp2_with (at_builtin; refine Kd.R_append_rows (Kd.int .u8) (w0 := w0) w0.heap.size rfl _ _ 69 5 (.int .u8 0) 1 rfl Tryz.underlying69 info_byte rfl (by decide) (by decide) (.slice A l0.length c) l0 [239, 191, 189] (some ⟨w.heap.size, 0, none⟩) 3 3 (fun k_ => (P0_ k_ ∨ w.heap.size ≤ k_)) (fun _ => False) rfl rfl (Kd.R_mono (Kd.R_alloc HO.out _) (fun _ hk => .inl hk)) (HC.out w) (fun _ _ h => h) (fun _ h => h.elim) (fun k hk => .inr (by rw [size_alloc] at hk; omega)) (below_alloc HB.out _) (by rw [size_alloc]; have := HB.out.size; omega) (by have := HL.out; omega) ?_; intro v1 w1 ho hb hg hat; have HO1 := Aside0.mk ho; have HB1 := Aside0.mk hb; have HK1 := Aside0.mk (Kept_row hg (Kept.alloc (Kept.refl w (fun k_ => P0_ k_)) _) (fun k e => HO.out.1 k e)); clear ho hb hg hat)
  go_ret
  exact ⟨_, rfl, HO1.out, HB1.out, HK1.out⟩
set_option maxHeartbeats 4000000 in
set_option maxRecDepth 100000 in
theorem bad_mid (P0_ : Nat → Prop) (u9000_ : Value) (l0 : List Int) (r : Int) (h0 : 55296 ≤ r) (h1 : r ≤ 57343) (hl : l0.length + 3 ≤ 140737488355328) (w0 w : World) (hB : Below w0.heap.size w0 w) (ho0 : Kd.R (Kd.int .u8) 5 w w0.heap.size P0_ u9000_ l0) :
    Calls Tryz.prog 128 #[u9000_, .int .i32 r] w fun e w' => ∃ v0_ : Value, e = .returned v0_ ∧ Kd.R (Kd.int .u8) 5 w' w0.heap.size (fun k_ => (P0_ k_ ∨ w.heap.size ≤ k_)) v0_ (l0 ++ [239, 191, 189]) ∧ Below w0.heap.size w0 w' ∧ Kept w w' (fun k_ => P0_ k_) := by
  obtain ⟨A, c, rfl⟩ := Kd.R_slice ho0
  have HO := Aside0.mk ho0
  have HB := Aside0.mk hB
  have HL := Aside0.mk hl
  clear ho0 hB hl
  have HC := Aside0.mk (fun (W : World) => Kd.C_ints_block (W := W.alloc (.cells #[.int .u8 (239), .int .u8 (191), .int .u8 (189)] 5)) (g := W.heap.size) (e := 5) (fr := (0, 0)) (k := .u8) (xs := [239, 191, 189]) (cs := #[.int .u8 (239), .int .u8 (191), .int .u8 (189)]) (heap_new _ _ rfl) rfl (by simp))
  go_enter Tryz.func128, Tryz.ntmps128
  go_wp2_with (at_builtin; refine Kd.R_append_rows (Kd.int .u8) (w0 := w0) w0.heap.size rfl _ _ 69 5 (.int .u8 0) 1 rfl Tryz.underlying69 info_byte rfl (by decide) (by decide) (.slice A l0.length c) l0 [239, 191, 189] (some ⟨w.heap.size, 0, none⟩) 3 3 (fun k_ => (P0_ k_ ∨ w.heap.size ≤ k_)) (fun _ => False) rfl rfl (Kd.R_mono (Kd.R_alloc HO.out _) (fun _ hk => .inl hk)) (HC.out w) (fun _ _ h => h) (fun _ h => h.elim) (fun k hk => .inr (by rw [size_alloc] at hk; omega)) (below_alloc HB.out _) (by rw [size_alloc]; have := HB.out.size; omega) (by have := HL.out; omega) ?_; intro v1 w1 ho hb hg hat; have HO1 := Aside0.mk ho; have HB1 := Aside0.mk hb; have HK1 := Aside0.mk (Kept_row hg (Kept.alloc (Kept.refl w (fun k_ => P0_ k_)) _) (fun k e => HO.out.1 k e)); clear ho hb hg hat)
  go_ret
  exact ⟨_, rfl, HO1.out, HB1.out, HK1.out⟩
set_option maxHeartbeats 4000000 in
set_option maxRecDepth 100000 in
theorem bad_hi (P0_ : Nat → Prop) (u9000_ : Value) (l0 : List Int) (r : Int) (h0 : 1114111 < r) (h1 : r ≤ 2147483647) (hl : l0.length + 3 ≤ 140737488355328) (w0 w : World) (hB : Below w0.heap.size w0 w) (ho0 : Kd.R (Kd.int .u8) 5 w w0.heap.size P0_ u9000_ l0) :
    Calls Tryz.prog 128 #[u9000_, .int .i32 r] w fun e w' => ∃ v0_ : Value, e = .returned v0_ ∧ Kd.R (Kd.int .u8) 5 w' w0.heap.size (fun k_ => (P0_ k_ ∨ w.heap.size ≤ k_)) v0_ (l0 ++ [239, 191, 189]) ∧ Below w0.heap.size w0 w' ∧ Kept w w' (fun k_ => P0_ k_) := by
  obtain ⟨A, c, rfl⟩ := Kd.R_slice ho0
  have HO := Aside0.mk ho0
  have HB := Aside0.mk hB
  have HL := Aside0.mk hl
  clear ho0 hB hl
  have HC := Aside0.mk (fun (W : World) => Kd.C_ints_block (W := W.alloc (.cells #[.int .u8 (239), .int .u8 (191), .int .u8 (189)] 5)) (g := W.heap.size) (e := 5) (fr := (0, 0)) (k := .u8) (xs := [239, 191, 189]) (cs := #[.int .u8 (239), .int .u8 (191), .int .u8 (189)]) (heap_new _ _ rfl) rfl (by simp))
  go_enter Tryz.func128, Tryz.ntmps128
  go_wp2_with (at_builtin; refine Kd.R_append_rows (Kd.int .u8) (w0 := w0) w0.heap.size rfl _ _ 69 5 (.int .u8 0) 1 rfl Tryz.underlying69 info_byte rfl (by decide) (by decide) (.slice A l0.length c) l0 [239, 191, 189] (some ⟨w.heap.size, 0, none⟩) 3 3 (fun k_ => (P0_ k_ ∨ w.heap.size ≤ k_)) (fun _ => False) rfl rfl (Kd.R_mono (Kd.R_alloc HO.out _) (fun _ hk => .inl hk)) (HC.out w) (fun _ _ h => h) (fun _ h => h.elim) (fun k hk => .inr (by rw [size_alloc] at hk; omega)) (below_alloc HB.out _) (by rw [size_alloc]; have := HB.out.size; omega) (by have := HL.out; omega) ?_; intro v1 w1 ho hb hg hat; have HO1 := Aside0.mk ho; have HB1 := Aside0.mk hb; have HK1 := Aside0.mk (Kept_row hg (Kept.alloc (Kept.refl w (fun k_ => P0_ k_)) _) (fun k e => HO.out.1 k e)); clear ho hb hg hat)
  go_ret
  exact ⟨_, rfl, HO1.out, HB1.out, HK1.out⟩
set_option maxHeartbeats 4000000 in
set_option maxRecDepth 100000 in
theorem ascii (P0_ : Nat → Prop) (u9000_ : Value) (l0 : List Int) (r : Int) (h0 : 0 ≤ r) (h1 : r ≤ 127) (hl : l0.length + 1 ≤ 140737488355328) (w0 w : World) (hB : Below w0.heap.size w0 w) (ho0 : Kd.R (Kd.int .u8) 5 w w0.heap.size P0_ u9000_ l0) :
    Calls Tryz.prog 121 #[u9000_, .int .i32 r] w fun e w' => ∃ v0_ : Value, e = .returned v0_ ∧ Kd.R (Kd.int .u8) 5 w' w0.heap.size (fun k_ => (P0_ k_ ∨ w.heap.size ≤ k_)) v0_ (l0 ++ [r]) ∧ Below w0.heap.size w0 w' ∧ Kept w w' (fun k_ => P0_ k_) := by
  obtain ⟨A, c, rfl⟩ := Kd.R_slice ho0
  have HO := Aside0.mk ho0
  have HB := Aside0.mk hB
  have HL := Aside0.mk hl
  clear ho0 hB hl
  have HC := Aside0.mk (fun (W : World) => Kd.C_ints_block (W := W.alloc (.cells #[.int .u8 r] 5)) (g := W.heap.size) (e := 5) (fr := (0, 0)) (k := .u8) (xs := [r]) (cs := #[.int .u8 r]) (heap_new _ _ rfl) rfl (by simp))
  go_enter Tryz.func121, Tryz.ntmps121
  go_wp2_with (at_builtin; refine Kd.R_append_rows (Kd.int .u8) (w0 := w0) w0.heap.size rfl _ _ 69 5 (.int .u8 0) 1 rfl Tryz.underlying69 info_byte rfl (by decide) (by decide) (.slice A l0.length c) l0 [r] (some ⟨w.heap.size, 0, none⟩) 1 1 (fun k_ => (P0_ k_ ∨ w.heap.size ≤ k_)) (fun _ => False) rfl rfl (Kd.R_mono (Kd.R_alloc HO.out _) (fun _ hk => .inl hk)) (HC.out w) (fun _ _ h => h) (fun _ h => h.elim) (fun k hk => .inr (by rw [size_alloc] at hk; omega)) (below_alloc HB.out _) (by rw [size_alloc]; have := HB.out.size; omega) (by have := HL.out; omega) ?_; intro v1 w1 ho hb hg hat; have HO1 := Aside0.mk ho; have HB1 := Aside0.mk hb; have HK1 := Aside0.mk (Kept_row hg (Kept.alloc (Kept.refl w (fun k_ => P0_ k_)) _) (fun k e => HO.out.1 k e)); clear ho hb hg hat)
  go_ret
  exact ⟨_, rfl, HO1.out, HB1.out, HK1.out⟩
theorem nonASCII (P0_ : Nat → Prop) (u9000_ : Value) (l0 : List Int) (r : Int) (hr0 : -2147483648 ≤ r) (hr1 : r ≤ 2147483647) (hna : r < 0 ∨ 128 ≤ r) (hl : l0.length + 4 ≤ 140737488355328) (w0 w : World) (hB : Below w0.heap.size w0 w) (ho0 : Kd.R (Kd.int .u8) 5 w w0.heap.size P0_ u9000_ l0) :
    Calls Tryz.prog 128 #[u9000_, .int .i32 r] w fun e w' => ∃ v0_ : Value, e = .returned v0_ ∧ Kd.R (Kd.int .u8) 5 w' w0.heap.size (fun k_ => (P0_ k_ ∨ w.heap.size ≤ k_)) v0_ (l0 ++ Lib.encodeRuneZ r) ∧ Below w0.heap.size w0 w' ∧ Kept w w' (fun k_ => P0_ k_) := by
  by_cases c0 : r < 0
  · rw [Lib.encodeRuneZ_bad (.inl c0)]
    exact bad_neg P0_ _ l0 r hr0 c0 (by omega) w0 w hB ho0
  by_cases c1 : r ≤ 2047
  · rw [Lib.encodeRuneZ_two (by omega) c1]
    exact two P0_ _ l0 r (by omega) c1 (by omega) w0 w hB ho0
  by_cases c2 : r < 55296
  · rw [Lib.encodeRuneZ_three (.inl ⟨by omega, c2⟩)]
    exact three_lo P0_ _ l0 r (by omega) c2 (by omega) w0 w hB ho0
  by_cases c3 : r ≤ 57343
  · rw [Lib.encodeRuneZ_bad (.inr (.inl ⟨by omega, c3⟩))]
    exact bad_mid P0_ _ l0 r (by omega) c3 (by omega) w0 w hB ho0
  by_cases c4 : r ≤ 65535
  · rw [Lib.encodeRuneZ_three (.inr ⟨by omega, c4⟩)]
    exact three_hi P0_ _ l0 r (by omega) c4 (by omega) w0 w hB ho0
  by_cases c5 : r ≤ 1114111
  · rw [Lib.encodeRuneZ_four (by omega) c5]
    exact four P0_ _ l0 r (by omega) c5 (by omega) w0 w hB ho0
  · rw [Lib.encodeRuneZ_bad (r := r) (.inr (.inr (by omega)))]
    exact bad_hi P0_ _ l0 r (by omega) hr1 (by omega) w0 w hB ho0
set_option maxHeartbeats 4000000 in
set_option maxRecDepth 100000 in
theorem append_calls (P0_ : Nat → Prop) (u9000_ : Value) (l0 : List Int) (r : Int) (hr0 : -2147483648 ≤ r) (hr1 : r ≤ 2147483647) (hl : l0.length + 4 ≤ 140737488355328) (w0 w : World) (hB : Below w0.heap.size w0 w) (ho0 : Kd.R (Kd.int .u8) 5 w w0.heap.size P0_ u9000_ l0) :
    Calls Tryz.prog 121 #[u9000_, .int .i32 r] w fun e w' => ∃ v0_ : Value, e = .returned v0_ ∧ Kd.R (Kd.int .u8) 5 w' w0.heap.size (fun k_ => (P0_ k_ ∨ w.heap.size ≤ k_)) v0_ (l0 ++ Lib.encodeRuneZ r) ∧ Below w0.heap.size w0 w' ∧ Kept w w' (fun k_ => P0_ k_) := by
  by_cases c : 0 ≤ r ∧ r ≤ 127
  · rw [Lib.encodeRuneZ_one c.1 c.2]
    exact ascii P0_ _ l0 r c.1 c.2 (by omega) w0 w hB ho0
  · have hna : r < 0 ∨ 128 ≤ r := by omega
    have HN := Aside0.mk (nonASCII P0_ u9000_ l0 r hr0 hr1 hna hl w0 w hB ho0)
    clear hB ho0 c
    rcases hna with hna | hna
    all_goals
      go_enter Tryz.func121, Tryz.ntmps121
      go_wp2_with (go_at_call 128; refine HN.out.mono ?_; rintro e w' ⟨v, rfl, h1, h2, h3⟩; have H1 := Aside0.mk h1; have H2 := Aside0.mk h2; have H3 := Aside0.mk h3; clear h1 h2 h3)
      go_ret
      exact ⟨_, rfl, H1.out, H2.out, H3.out⟩
end Go.Proofs.YtljlkpfiebcoeaaGreatDoor.Runes
