import Derived.Test.YtcpkejkpabgabaaDoorFun
import Derived.Test.YtcpkejkpabgabaaDoorUtf
import Derived.Test.YtcpkejkpabgabaaDoorBase
import Derived.Lib.LaidU8
import Derived.Shelf.Unicode.DecodeSlow
set_option linter.all false
/-! What is known of Go's tables of characters; the first character of a text. -/
namespace Go.AR
open Go Go.Shelf Go.Proofs
/-- Go's two tables lie where they lie, and nobody's frame owns them. -/
def utfInv (g3 g4 : Nat) : Inv where
  on w ω := Lib.Utf8Tabs g3 g4 w ∧ (ω g3 = none ∧ g3 < w.heap.size) ∧ ω g4 = none ∧ g4 < w.heap.size
  keep := by
    rintro w G ω w' G' ω' ⟨⟨h1, h2⟩, ⟨h3, h4⟩, h5, h6⟩ he hd
    have nn : ∀ b, ω b = none → b < w.heap.size → ω' b = none := fun b hb hlt => by
      cases hq : ω' b with
      | none => rfl
      | some x =>
        rcases hd b (by rw [hq]; simp) with h | h
        · exact absurd hb h
        · omega
    have c3 := (he.block g3 h4 (fun h => h h3)).1
    have c4 := (he.block g4 h6 (fun h => h h5)).1
    refine ⟨⟨fun c hc => ?_, fun i hi => ?_⟩, ⟨nn g3 h3 h4, Nat.lt_of_lt_of_le h4 he.size⟩, nn g4 h5 h6, Nat.lt_of_lt_of_le h6 he.size⟩
    · rw [World.cell?_of_block (a := ⟨g3, c, none⟩) c3]; exact h1 c hc
    · rw [World.cell?_of_block (a := ⟨g4, 2 * i, none⟩) c4, World.cell?_of_block (a := ⟨g4, 2 * i + 1, none⟩) c4]; exact h2 i hi
  heap := by
    rintro w ω w' ⟨⟨h1, h2⟩, ⟨h3, h4⟩, h5, h6⟩ he
    refine ⟨⟨fun c hc => ?_, fun i hi => ?_⟩, ⟨h3, by rw [he]; exact h4⟩, h5, by rw [he]; exact h6⟩
    · rw [World.cell?_of_block (a := ⟨g3, c, none⟩) (w := w) (by rw [he])]; exact h1 c hc
    · rw [World.cell?_of_block (a := ⟨g4, 2 * i, none⟩) (w := w) (by rw [he]), World.cell?_of_block (a := ⟨g4, 2 * i + 1, none⟩) (w := w) (by rw [he])]; exact h2 i hi
/-- A text's first character, as Go tells it. -/
def decG (l : List UInt8) : Nat × Nat := if l = [] then (65533, 0) else if (chr l).2 = 0 then (65533, 1) else chr l
def decP (l : List UInt8) : PV := .tup [.int .i32 (decG l).1, .int .i64 (decG l).2]
def S_dec (R : Rel) : Prop := ∀ l : List UInt8, R [.v (.str l)] (.val (decP l)) []
theorem decodeGo_G (l : List UInt8) : Lib.decodeGo ⟨⟨l⟩⟩ = decG l := by
  unfold Lib.decodeGo decG
  have hs : (⟨⟨l⟩⟩ : ByteArray).size = l.length := rfl
  rw [hs]
  by_cases h : l = []
  · subst h; rfl
  · have hl : l.length ≠ 0 := fun e => h (List.eq_nil_of_length_eq_zero e)
    rw [if_neg hl, if_neg h, decode_chr l 0 (by omega), List.drop_zero]
variable {P : Program} {ρ : Ren}
theorem acall_Slow (L : Lays.n260 P ρ) : S_dec (ACallI (utfInv (ρ.g 3) (ρ.g 4)) P (ρ.f 260)) := by
  intro l
  refine ⟨fun va w => enters_of L.f260 (by kernel_rfl) rfl va w, fun w G β ω va hgn hωn hargs hI => ?_⟩
  rcases va with _ | ⟨v, va⟩
  · exact hargs.elim
  · obtain ⟨hv, hrest⟩ := hargs
    rcases va with _ | ⟨u, va⟩
    · have e := Rep.str_inv hv
      subst e
      refine (Any.utf8_decodeRuneInStringSlow L ⟨⟨l⟩⟩ w hI.1).mono ?_
      rintro e w' ⟨rfl, hb⟩
      rw [decodeGo_G]
      have hsize : w.heap.size ≤ w'.heap.size := hb.size
      have hext : GExt w G w' G := ⟨fun _ => Nat.le_refl _, fun b off hlt => World.cell?_of_block (a := ⟨b, off, none⟩) (hb.block b (by
          rcases Nat.lt_or_ge b w.heap.size with h | h
          · exact h
          · rw [hgn b h] at hlt; omega)), fun b sh hs => by
        rw [shape_of_block (hb.block b (by
          rcases Nat.lt_or_ge b w.heap.size with h | h
          · exact h
          · simp [World.shape?, Array.getElem?_eq_none h] at hs))]; exact hs⟩
      refine ⟨_, G, ω, rfl, ⟨hb.os, hb.tape, hb.output, hsize, hext, fun b hlt _ => ⟨hb.block b hlt, rfl⟩⟩, fun b h => hgn b (by omega), fun b h => Nat.lt_of_lt_of_le (hωn b h) hsize, fun b h => .inl h, trivial, ?_⟩
      refine .tup _ _ rfl (fun i p x hp hx => ?_)
      rcases i with _ | _ | i
      · simp at hp hx; subst hp; subst hx; exact .int _ _
      · simp at hp hx; subst hp; subst hx; exact .int _ _
      · simp at hp
    · exact hrest.elim
end Go.AR
