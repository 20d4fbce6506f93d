import Derived.Test.YtlhahjlnhkokcaaG26
import Derived.Test.YtlhahjlnhkokcaaG03
import Derived.Test.YtlhahjlnhkokcaaG08
import Derived.Shelf.Lays
import Derived.Shelf.RegionOpenPlain
import Derived.Lib.Strings
import Derived.Lib.Slices
import Derived.Lib.Walk
import Derived.Lib.Builder
import Derived.Lib.AppendStr
import Derived.Lib.UnsafeStr
import Derived.WalkKit
import Derived.Laws.Externs
import Derived.Laws.IdiomCopy
import Derived.Laws.BitsLemmas
set_option linter.all false
/-! strings.Builder: copyCheck and String, out of the model; what they are for the abstract machine. -/
namespace Go.AR
open Go Go.Proofs Go.Shelf Go.RowKit
section
variable {P : Program} {ρ : Ren}
theorem setCell_other {w : World} {b i : Nat} {v : Value} (b' : Nat) (h : b' ≠ b) : (w.setCell ⟨b, i, none⟩ v).heap[b']? = w.heap[b']? := by simp [World.setCell, Array.getElem?_modify, Ne.symm h]
theorem setCell_evo {T : Nat → Prop} {w : World} {G : Nat → Nat} {b i : Nat} {v : Value} (hT : T b) (hG : G b = 0) : Evo T w G (w.setCell ⟨b, i, none⟩ v) G := by
  refine ⟨rfl, rfl, rfl, by simp [World.setCell], ⟨fun _ => Nat.le_refl _, fun b' off ho => ?_, fun b' sh hs => ?_⟩, fun b' _ ht => ⟨setCell_other b' (fun e => ht (e ▸ hT)), rfl⟩⟩
  · refine World.cell?_of_block (a := ⟨b', off, none⟩) (setCell_other b' (fun e => ?_))
    subst e; omega
  · by_cases e : b' = b
    · subst e
      rw [← hs]
      simp only [World.shape?, World.setCell, Array.getElem?_modify, if_true]
      cases w.heap[b']? with
      | none => rfl
      | some x => cases x <;> simp
    · rw [shape_of_block (setCell_other b' e)]; exact hs
end
end Go.AR
