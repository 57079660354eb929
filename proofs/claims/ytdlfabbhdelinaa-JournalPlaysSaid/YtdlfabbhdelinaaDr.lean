/- The document's disk: what its block holds. No condition but those typed. -/
import Derived.Test.YtdlfabbhdelinaaDisk09
namespace Go.Proofs.Ytdlfabbhdelinaa.Dr
open Go.RowKit Go.Proofs.Ytdlfabbhdelinaa.Dk Go.Proofs.YtdlfabbhdelinaaW.PrintWords Go.Proofs.YtdlfabbhdelinaaW.PrintLast Go.Proofs.YtdlfabbhdelinaaW.PrintMore
set_option linter.unusedVariables false
/-- Block g holds this disk; its bytes lie in blocks that are ok. -/
structure At (g : Nat) (ok : Nat → Prop) (d : D) (w : World) : Prop where
  nok : ¬ ok g
  fresh : ∀ k, w.heap.size ≤ k → ok k
  ex : ∃ v0 v1 v2 v3, Blk.At g (cells v0 v1 v2 v3 d) 65 w ∧ Vb ok w v0 d.a.now ∧ Vb ok w v1 d.a.sure ∧ Vb ok w v2 d.b.now ∧ Vb ok w v3 d.b.sure
namespace At
variable {g B : Nat} {ok ok' : Nat → Prop} {d : D} {w w1 w2 : World}
theorem lt (h : At g ok d w) : g < w.heap.size := by
  obtain ⟨v0, v1, v2, v3, hA, _⟩ := h.ex
  exact hA.lt
theorem below (h : At g ok d w) (hb : Below w.heap.size w w1) : At g ok d w1 := by
  have hl := h.lt
  obtain ⟨v0, v1, v2, v3, hA, h0, h1, h2, h3⟩ := h.ex
  exact ⟨h.nok, fun k hk => h.fresh k (Nat.le_trans hb.size hk), v0, v1, v2, v3, hA.below hb hl, Kd.V_below h0 hb, Kd.V_below h1 hb, Kd.V_below h2 hb, Kd.V_below h3 hb⟩
theorem mono (h : At g ok d w) (hok : ∀ k, ok k → k < w.heap.size → ok' k) (hn : ¬ ok' g) (hf : ∀ k, w.heap.size ≤ k → ok' k) : At g ok' d w := by
  obtain ⟨v0, v1, v2, v3, hA, h0, h1, h2, h3⟩ := h.ex
  have m : ∀ {v xs}, Vb ok w v xs → Vb ok' w v xs := fun hv => Kd.V_mono (Kd.V_bound hv) (fun k hk => hok k hk.1 hk.2)
  exact ⟨hn, hf, v0, v1, v2, v3, hA, m h0, m h1, m h2, m h3⟩
/-- Another block has turned. -/
theorem step (h : At g ok d w) (hs : w.heap.size ≤ w1.heap.size) (hg : w1.heap[g]? = w.heap[g]?) (hm : ∀ k, ok k → k < w.heap.size → w1.heap[k]? = w.heap[k]?) : At g ok d w1 := by
  obtain ⟨v0, v1, v2, v3, hA, h0, h1, h2, h3⟩ := h.ex
  exact ⟨h.nok, fun k hk => h.fresh k (Nat.le_trans hs hk), v0, v1, v2, v3, hg.trans hA, Kd.V_step h0 hm, Kd.V_step h1 hm, Kd.V_step h2 hm, Kd.V_step h3 hm⟩
theorem far (h : At g ok d w) {p : Addr} (hg : p.block ≠ g) (hp : ¬ ok p.block) (v : Value) : At g ok d (w.setCell p v) :=
  h.step (by simp [World.setCell]) (Below.heap_setCell _ _ _ _ (fun e => hg e.symm)) (fun k hk _ => Below.heap_setCell _ _ _ _ (fun e => hp (e ▸ hk)))
end At

theorem At.turn {g : Nat} {ok : Nat → Prop} {d d' : D} {w w1 : World} (h : At g ok d w) (T : Tn g w w1) {v0 v1 v2 v3 : Value} (hA : Blk.At g (cells v0 v1 v2 v3 d') 65 w1)
    (h0 : Vb ok w1 v0 d'.a.now) (h1 : Vb ok w1 v1 d'.a.sure) (h2 : Vb ok w1 v2 d'.b.now) (h3 : Vb ok w1 v3 d'.b.sure) : At g ok d' w1 :=
  ⟨h.nok, fun k hk => h.fresh k (Nat.le_trans T.size hk), v0, v1, v2, v3, hA, h0, h1, h2, h3⟩


theorem At.skip {g : Nat} {ok : Nat → Prop} {d : D} {w w1 : World} (h : At g ok d w) (hb : Below w.heap.size w w1) : At g (fun k => ok k ∧ (k < w.heap.size ∨ w1.heap.size ≤ k)) d w1 := by
  have hl := h.lt
  obtain ⟨v0, v1, v2, v3, hA, h0, h1, h2, h3⟩ := h.ex
  have m : ∀ {v xs}, Vb ok w v xs → Vb (fun k => ok k ∧ (k < w.heap.size ∨ w1.heap.size ≤ k)) w1 v xs := fun hv => Kd.V_mono (Kd.V_below (Kd.V_bound hv) hb) (fun k hk => ⟨hk.1, .inl hk.2⟩)
  exact ⟨fun hk => h.nok hk.1, fun k hk => ⟨h.fresh k (Nat.le_trans hb.size hk), .inr hk⟩, v0, v1, v2, v3, hA.below hb hl, m h0, m h1, m h2, m h3⟩
theorem At.apart {g : Nat} {ok : Nat → Prop} {d : D} {w w1 : World} (h : At g ok d w) (hs : w.heap.size ≤ w1.heap.size) (hg : w1.heap[g]? = w.heap[g]?) (hm : ∀ k, ok k → k < w.heap.size → w1.heap[k]? = w.heap[k]?) : At g (fun k => ok k ∧ (k < w.heap.size ∨ w1.heap.size ≤ k)) d w1 := by
  obtain ⟨v0, v1, v2, v3, hA, h0, h1, h2, h3⟩ := h.ex
  have m : ∀ {v xs}, Vb ok w v xs → Vb (fun k => ok k ∧ (k < w.heap.size ∨ w1.heap.size ≤ k)) w1 v xs := fun hv => Kd.V_mono (Kd.V_step (Kd.V_bound hv) (fun k hk hl => hm k hk.1 hl)) (fun k hk => ⟨hk.1, .inl hk.2⟩)
  exact ⟨fun hk => h.nok hk.1, fun k hk => ⟨h.fresh k (Nat.le_trans hs hk), .inr hk⟩, v0, v1, v2, v3, hg.trans hA, m h0, m h1, m h2, m h3⟩
end Go.Proofs.Ytdlfabbhdelinaa.Dr
