/- The pure statement of PercentTexts. No condition. -/
import Derived.Test.YtopaheopdpkjbaaDoorSayPercentTexts
import Derived.Test.YtopaheopdpkjbaaDoorConn
namespace Go.Proofs.YtopaheopdpkjbaaDoor.Pure
open Go.RowKit Go.Proofs.YtopaheopdpkjbaaDoor.Q Go.Proofs.YtopaheopdpkjbaaDoorW.PrintWords Go.Proofs.YtopaheopdpkjbaaDoorW.PrintLast Go.Proofs.YtopaheopdpkjbaaDoorW.PrintMore Go.Proofs.YtopaheopdpkjbaaDoor.Plain
open Go.Proofs.YtopaheopdpkjbaaDoor.U8 (B nxt spec encB items text mend signs Right)
open Go.Proofs.YtopaheopdpkjbaaDoor.Rf
set_option linter.unusedVariables false
theorem told_texts (l : List UInt8) : ∀ p ∈ Pc.parse l, text p.1 = true ∧ text p.2 = true := by
  intro p hp
  obtain ⟨x, _, rfl⟩ := List.mem_map.1 hp
  exact ⟨Pc.read_text _, Pc.read_text _⟩
theorem parse_length (l : List UInt8) : (Pc.parse l).length ≤ l.count 38 + 1 := by
  unfold Pc.parse Pc.pairs
  rw [List.length_map]
  have := List.length_filter_le (fun x : List UInt8 => decide (x ≠ [])) (Pc.sp 38 [] l)
  rw [Pc.sp_len] at this
  exact this
theorem read_small (l : List UInt8) (h : l.length ≤ 3000) : ∀ p ∈ Pc.parse l, p.1.length ≤ 9000 ∧ p.2.length ≤ 9000 := by
  intro p hp
  obtain ⟨x, hx, rfl⟩ := List.mem_map.1 hp
  have h1 := Pc.sp_mem 38 l [] x (List.mem_filter.1 hx).1
  have h2 := cut_sizes x
  have h3 := Pc.read_len (Lib.cut x [61]).1
  have h4 := Pc.read_len (Lib.cut x [61]).2.1
  simp only [List.length_nil] at h1
  refine ⟨?_, ?_⟩
  · show (Pc.read (Lib.cut x [61]).1).length ≤ 9000
    omega
  · show (Pc.read (Lib.cut x [61]).2.1).length ≤ 9000
    omega
theorem texts_in (L : List Pair) (n : Nat) (hL : L.length ≤ n) (hn : n ≤ 4000) (ht : ∀ p ∈ L, text p.1 = true ∧ text p.2 = true) (hs : ∀ p ∈ L, p.1.length ≤ 9000 ∧ p.2.length ≤ 9000) (d : Nat) : ∀ i : Nat, i + d = L.length →
    Ev (fun k => cringlelaw03_PercentTexts.l1 k (L.map p43) (n : Int) (L.map p43) (L.length : Int) (i : Int)) true := by
  have hml : (L.map p43).length = L.length := List.length_map _
  induction d with
  | zero =>
    intro i hi
    refine Ev.step (fun k => by simp only [cringlelaw03_PercentTexts.l1]; rw [if_neg (by omega), if_pos (by omega)]) ?_
    exact alive_then
  | succ d ih =>
    intro i hi
    have hlt : i < L.length := by omega
    have hat : rd_T43 (L.map p43) (i : Int) = p43 L[i] := by rw [at43 (by omega), List.getElem_map]
    have h1 := ht L[i] (List.getElem_mem _)
    have h2 := hs L[i] (List.getElem_mem _)
    refine Ev.step (fun k => by simp only [cringlelaw03_PercentTexts.l1]; rw [if_pos (by omega), if_pos (by omega), if_pos (by omega), hat]) ?_
    have e1 : Ev (fun k => cringleref02_IsText.f k (p43 L[i]).f0) (text L[i].1) := ristext_ev L[i].1 (strOf L[i].1) (D_str _) (by rw [strOf_size]; omega)
    have e2 : Ev (fun k => cringleref02_IsText.f k (p43 L[i]).f1) (text L[i].2) := ristext_ev L[i].2 (strOf L[i].2) (D_str _) (by rw [strOf_size]; omega)
    refine Ev.bind e1 ?_
    refine Ev.congr (fun k => if_pos h1.1) ?_
    refine Ev.bind e2 ?_
    refine Ev.congr (fun k => if_pos h1.2) ?_
    rw [next (by omega)]
    exact ih (i + 1) (by omega)
theorem count_loop (s : ByteArray) (hs : s.size ≤ 3000) (L : List Pair) (hL : L.length ≤ 1 + (D s).count 38) (ht : ∀ p ∈ L, text p.1 = true ∧ text p.2 = true) (hb : ∀ p ∈ L, p.1.length ≤ 9000 ∧ p.2.length ≤ 9000) (d : Nat) : ∀ (i n : Nat), i + d = s.size → n + ((D s).drop i).count 38 = 1 + (D s).count 38 →
    Ev (fun k => cringlelaw03_PercentTexts.l0 k s (L.map p43) (n : Int) (s.size : Int) (i : Int)) true := by
  have hl := D_len s
  have hcl := List.count_le_length (a := (38 : UInt8)) (l := D s)
  induction d with
  | zero =>
    intro i n hi hn
    rw [List.drop_of_length_le (by omega), List.count_nil] at hn
    refine Ev.step (fun k => by simp only [cringlelaw03_PercentTexts.l0]; rw [if_neg (by omega), List.length_map]) ?_
    exact texts_in L n (by omega) (by omega) ht hb _ 0 (Nat.zero_add _)
  | succ d ih =>
    intro i n hi hn
    have hlt : i < (D s).length := by omega
    rw [drop_at hlt] at hn
    have hb2 := bt_get s i hlt
    by_cases h : (D s)[i] = 38
    · rw [h, List.count_cons_self] at hn
      refine Ev.step (fun k => ?_) (ih (i + 1) (n + 1) (by omega) (by omega))
      simp only [cringlelaw03_PercentTexts.l0]
      rw [if_pos (by omega), if_pos (by omega), if_pos (by omega), hb2, if_pos (show (((D s)[i].toNat : Nat) : Int) = 38 by rw [h]; rfl), next (i := n) (by omega), next (i := i) (by omega)]
    · rw [List.count_cons_of_ne (fun e => h e)] at hn
      refine Ev.step (fun k => ?_) (ih (i + 1) n (by omega) (by omega))
      simp only [cringlelaw03_PercentTexts.l0]
      rw [if_pos (by omega), if_pos (by omega), if_pos (by omega), hb2, if_neg (fun e => h (UInt8.toNat_inj.1 (by show (D s)[i].toNat = 38; omega))), next (i := i) (by omega)]
theorem PercentTexts : Say.PercentTexts := by
  intro s hs
  refine Ev.rounds (g := fun k => cringlelaw03_PercentTexts.f k s) ?_
  unfold cringlelaw03_PercentTexts.f
  rw [long_eq]
  refine Ev.bind (Ev.now _) ?_
  by_cases h : 3000 < s.size
  · exact Ev.congr (fun k => if_pos (decide_eq_true h)) alive_then
  · refine Ev.congr (fun k => if_neg (by simpa using h)) ?_
    refine Ev.bind (parse_ev s (by omega)) ?_
    unfold told3
    by_cases h2 : (D s).count 38 > 512
    · rw [if_pos h2]
      refine Ev.congr (fun k => (if_neg (by simp)).trans ((if_pos rfl).trans (if_pos rfl))) ?_
      exact alive_then
    · rw [if_neg h2]
      refine Ev.congr (fun k => if_pos rfl) ?_
      have hp := parse_length (D s)
      exact count_loop s (by omega) _ (by omega) (told_texts _) (read_small _ (by rw [D_len]; omega)) _ 0 1 (Nat.zero_add _) (by rw [List.drop_zero])
end Go.Proofs.YtopaheopdpkjbaaDoor.Pure
