/- (*strings.Builder).WriteByte and String, of a builder of the call's own, over bytes. No condition but those typed. -/
import Derived.Test.YtljlkpfiebcoeaaGreatDoorShelf
import Derived.Test.YtljlkpfiebcoeaaGreatDoorMine
namespace Go.Proofs.YtljlkpfiebcoeaaGreatDoor.Build
open Go.Shelf Go.RowKit Go.Proofs.YtljlkpfiebcoeaaGreatDoorW.PrintWords Go.Proofs.YtljlkpfiebcoeaaGreatDoorW.PrintLast Go.Proofs.YtljlkpfiebcoeaaGreatDoorW.PrintMore
def ren : Go.Shelf.Ren := ⟨fun | 167 => 111 | 240 => 68 | 276 => 90 | n => n, fun | 70 => 68 | 3 => 3 | 0 => 0 | 4 => 4 | 9 => 9 | 20 => 20 | 72 => 71 | 37 => 69 | 164 => 124 | 5 => 5 | 75 => 79 | 80 => 82 | n => n, fun | n => n⟩
theorem lays167 : Go.Proofs.Lays.n167 Tryz.prog ren := { Tryz.lays165 with
  f167 := Tryz.func111.trans (congrArg some (by kernel_rfl))
  f240 := Tryz.func68.trans (congrArg some (by kernel_rfl))
  f276 := Tryz.func90.trans (congrArg some (by kernel_rfl))
  t5 := Tryz.underlying5
  a5 := Tryz.isAgg5
  z5 := Tryz.sizeOf5
  v5 := Tryz.zeroValue5
  t75 := Tryz.underlying79
  a75 := Tryz.isAgg79
  z75 := Tryz.sizeOf79
  v75 := Tryz.zeroValue79 }
theorem extra : Builder.Extra Tryz.prog ren := {
  sizeBuilder := by kernel_rfl
  liesBuilder := by kernel_rfl
  t5 := Tryz.underlying5
  a5 := Tryz.isAgg5
  z5 := Tryz.sizeOf5
  v5 := Tryz.zeroValue5
  infoByte := by kernel_rfl
  cellsByte := by kernel_rfl
  sizeByte := by kernel_rfl
  neB5 := by decide }
/-- A builder of the call's own that holds these bytes. -/
def Holds (B b : Nat) (l : List UInt8) (w : World) : Prop := Lib.IsBuilder 71 5 B b (Lib.byteCells l) w ∧ B ≤ w.heap.size
theorem Holds.new (w : World) : Holds w.heap.size w.heap.size [] (w.alloc (.cells #[.pointer none, .slice none 0 0] 71)) := ⟨Lib.fresh_isBuilder _ _ w, by rw [show ∀ o, (w.alloc o).heap.size = w.heap.size + 1 from fun o => Array.size_push _]; omega⟩
/-- What leaves this world's blocks alone leaves the builder. -/
theorem Holds.below {B b : Nat} {l : List UInt8} {w w' : World} (h : Holds B b l w) (hb : Below w.heap.size w w') : Holds B b l w' := by
  have one : ∀ p bs, Lib.BuilderAt 71 5 B b p bs w → Lib.BuilderAt 71 5 B b p bs w' := fun p bs hp => by
    have hlt := hp.lt
    obtain ⟨hB, v, hbk, hown, hne⟩ := hp
    exact ⟨hB, v, (hb.block b hlt).trans hbk, Go.Proofs.YtljlkpfiebcoeaaGreatDoorW.PrintWords.own_move hown (fun k hk => hb.block k (hown.lt k hk).2), hne⟩
  refine ⟨?_, Nat.le_trans h.2 hb.size⟩
  rcases h.1 with h | h
  · exact .inl (one _ _ h)
  · exact .inr (one _ _ h)
theorem byteCells_snoc (l : List UInt8) (c : UInt8) : Lib.byteCells (l ++ [c]) = Lib.byteCells l ++ [.int .u8 (c.toNat : Int)] := by simp [Lib.byteCells]
theorem write (B b : Nat) (l : List UInt8) (c : UInt8) (w : World) (h : Holds B b l w) (hlen : l.length + 1 ≤ 140737488355328) :
    Calls Tryz.prog 111 #[.pointer (some ⟨b, 0, none⟩), .int .u8 (c.toNat : Int)] w fun e w' => e = .returned .nilIface ∧ Holds B b (l ++ [c]) w' ∧ Below B w w' := by
  refine (Any.Builder_WriteByte lays167 extra B b (Lib.byteCells l) (c.toNat : Int) w h.1 (by rw [Lib.byteCells_length]; exact hlen) h.2).mono ?_
  rintro e w' ⟨rfl, h1, h2⟩
  exact ⟨rfl, ⟨.inr (by rw [byteCells_snoc]; exact h1), Nat.le_trans h.2 h2.size⟩, h2⟩
theorem told (B b : Nat) (l : List UInt8) (w : World) (h : Holds B b l w) :
    Calls Tryz.prog 36 #[.pointer (some ⟨b, 0, none⟩)] w fun e w' => e = .returned (.string ⟨l.toArray⟩) ∧ Below B w w' := Tryz.Builder_String_any B b l w h.1 h.2
end Go.Proofs.YtljlkpfiebcoeaaGreatDoor.Build
