import Derived.Test.YtphggkbbjnpaeaaG26
import Derived.Test.YtphggkbbjnpaeaaG29
import Derived.Test.YtphggkbbjnpaeaaG08
import Derived.Shelf.Small.Strs
set_option linter.all false
/-! strings.Compare. -/
namespace Go.AR
open Go Go.Shelf Go.Proofs Go.RowKit
def S_scmp (R : Rel) : Prop := ∀ x y : List UInt8, R [.v (.str x), .v (.str y)] (.val (.int .i64 (tcmp x y))) []
theorem compare_tcmp : ∀ x y : List UInt8, Lib.compareBytes x y = tcmp x y
  | [], [] => by simp [Lib.compareBytes, tcmp, Op.bytesLess]
  | [], _ :: _ => by simp [Lib.compareBytes, tcmp, Op.bytesLess]
  | _ :: _, [] => by simp [Lib.compareBytes, tcmp, Op.bytesLess]
  | a :: x, b :: y => by
    have ih := compare_tcmp x y
    unfold Lib.compareBytes
    by_cases h : a < b
    · rw [if_pos h]; simp [tcmp, Op.bytesLess, h]
    · rw [if_neg h]
      by_cases h2 : b < a
      · have hne : ¬ a = b := fun e => by subst e; exact UInt8.lt_irrefl _ h2
        rw [if_pos h2]; simp [tcmp, Op.bytesLess, h, hne]
      · have e : a = b := by
          rcases Nat.lt_trichotomy a.toNat b.toNat with k | k | k
          · exact absurd k h
          · exact UInt8.toNat_inj.1 k
          · exact absurd k h2
        subst e
        rw [if_neg h2, ih]
        simp [tcmp, Op.bytesLess]
variable {P : Program} {ρ : Ren}
theorem acall_scmp (L : Lays.n106 P ρ) : S_scmp (ACall P (ρ.f 106)) := by
  intro x y
  refine ⟨fun va w => enters_of L.f106 (by kernel_rfl) rfl va w, fun w G β ω va hgn hωn hargs => ?_⟩
  rcases va with _ | ⟨v, _ | ⟨u, _ | ⟨z, va⟩⟩⟩
  · exact hargs.elim
  · exact hargs.2.elim
  · obtain ⟨hv, hu, _⟩ := hargs
    have e1 := Rep.str_inv hv
    have e2 := Rep.str_inv hu
    subst e1 e2
    refine (Any.strings_Compare L ⟨⟨x⟩⟩ ⟨⟨y⟩⟩ w).mono ?_
    rintro e w' ⟨rfl, rfl⟩
    have hc : Lib.compareBytes (⟨⟨x⟩⟩ : ByteArray).data.toList (⟨⟨y⟩⟩ : ByteArray).data.toList = tcmp x y := compare_tcmp x y
    rw [hc]
    exact ⟨_, G, ω, rfl, .refl _ _ _, hgn, hωn, fun b h => .inl h, trivial, .int _ _⟩
  · exact hargs.2.2.elim
end Go.AR
