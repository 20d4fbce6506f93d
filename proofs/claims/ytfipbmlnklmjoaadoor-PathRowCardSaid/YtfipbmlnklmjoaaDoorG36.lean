import Derived.Test.YtfipbmlnklmjoaaDoorG26
import Derived.Test.YtfipbmlnklmjoaaDoorG10
import Derived.Test.YtfipbmlnklmjoaaDoorG09
import Derived.Shelf.Strings.OnBuilder
set_option linter.all false
/-! strings.Join. -/
namespace Go.AR
open Go Go.Shelf Go.Proofs Go.RowKit
def S_join (R : Rel) : Prop := ∀ (p : List (List UInt8)) (sep : List UInt8), p.length ≤ 2000000 → (Lib.join p sep).length ≤ 140737488355328 → R [.v (.sl 1 (xRows p)), .v (.str sep)] (.val (.str (Lib.join p sep))) []
variable {P : Program} {ρ : Ren}
theorem acall_Join (L : Lays.n156 P ρ) (X : Builder.Extra P ρ) : S_join (ACall P (ρ.f 156)) := by
  intro p sep hp hj
  refine ⟨fun va w => enters_of L.f156 (by kernel_rfl) rfl va w, fun w G β ω va hgn hωn hargs => ?_⟩
  rcases va with _ | ⟨v, _ | ⟨u, _ | ⟨z, va⟩⟩⟩
  · exact hargs.elim
  · exact hargs.2.elim
  · obtain ⟨hv, hu, _⟩ := hargs
    have e2 := Rep.str_inv hu
    subst e2
    obtain ⟨A, cap, e1, _, _, hcap, hcell⟩ := Rep.sl_inv hv
    subst e1
    rw [xRows_len] at hcap
    have fin : ∀ w' : World, Below w.heap.size w w' → ∃ v G' ω', (Ending.returned (Value.string ⟨⟨Lib.join p sep⟩⟩)) = .returned v ∧ Evo (fun b => ω b ≠ none) w G w' G' ∧ (∀ b, w'.heap.size ≤ b → G' b = 0) ∧ (∀ b, ω' b ≠ none → b < w'.heap.size) ∧
        (∀ b, ω' b ≠ none → ω b ≠ none ∨ w.heap.size ≤ b) ∧ OutsRep w' G' β ω' 0 [.v (.sl 1 (xRows p)), .v (.str sep)] [] ∧ RVRep w' G' ω' 2 (.val (.str (Lib.join p sep))) v := by
      intro w' hb
      have hsize : w.heap.size ≤ w'.heap.size := hb.size
      have hext : GExt w G w' G := ⟨fun _ => Nat.le_refl _, fun b off hlt => World.cell?_of_block (a := ⟨b, off, none⟩) (hb.block b (by
          rcases Nat.lt_or_ge b w.heap.size with h | h
          · exact h
          · rw [hgn b h] at hlt; omega)), fun b sh hs => by
        rw [shape_of_block (hb.block b (by
          rcases Nat.lt_or_ge b w.heap.size with h | h
          · exact h
          · simp [World.shape?, Array.getElem?_eq_none h] at hs))]; exact hs⟩
      exact ⟨_, G, ω, rfl, ⟨hb.os, hb.tape, hb.output, hsize, hext, fun b hlt _ => ⟨hb.block b hlt, rfl⟩⟩, fun b h => hgn b (by omega), fun b h => Nat.lt_of_lt_of_le (hωn b h) hsize, fun b h => .inl h, trivial, .str _⟩
    by_cases hne : p = []
    · subst hne
      refine (Any.strings_Join_none L X A cap ⟨⟨sep⟩⟩ w).mono ?_
      rintro e w' ⟨rfl, rfl⟩
      exact fin _ (Below.refl _ _)
    · obtain ⟨b, off, rfl, hG, hc⟩ := hcell (fun e => hne (by have := congrArg List.length e; rw [xRows_len] at this; exact List.eq_nil_of_length_eq_zero this))
      rw [xRows_flat] at hG hc
      have hcells : ∀ (j : Nat) x, (p.map fun s => (⟨⟨s⟩⟩ : ByteArray))[j]? = some x → w.cell? ⟨b, off + j, none⟩ = some (.string x) := by
        intro j x hx
        rw [List.getElem?_map, Option.map_eq_some_iff] at hx
        obtain ⟨s, hs, rfl⟩ := hx
        obtain ⟨y, hy, hr⟩ := hc j (.str s) (by rw [List.getElem?_map, hs]; rfl)
        rw [hy, Rep.str_inv hr]
      have hpos : 0 < p.length := List.length_pos_iff.2 hne
      have hb : b < w.heap.size := block_lt_of_cell (hcells 0 _ (by rw [List.getElem?_map, List.getElem?_eq_getElem hpos]; rfl))
      have hmap : (p.map fun s => (⟨⟨s⟩⟩ : ByteArray)).map (·.data.toList) = p := by
        rw [List.map_map]
        conv => rhs; rw [← List.map_id p]
        rfl
      have := Any.strings_Join L X b off cap (p.map fun s => (⟨⟨s⟩⟩ : ByteArray)) ⟨⟨sep⟩⟩ w hcells hb (by simp; omega) (by simpa using hcap) (by rw [hmap]; exact hj)
      rw [hmap, List.length_map] at this
      rw [xRows_len]
      refine this.mono ?_
      rintro e w' ⟨rfl, hbl⟩
      exact fin _ hbl
  · exact hargs.2.2.elim
end Go.AR
