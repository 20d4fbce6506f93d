import Derived.Test.YtkankogmljifiaaDoorG25
import Derived.Test.YtkankogmljifiaaDoorG03
import Derived.Test.YtkankogmljifiaaDoorG08
import Derived.Test.YtkankogmljifiaaDoorG27
import Derived.Shelf.Lays
import Derived.Shelf.RegionOpenPlain
import Derived.Lib.Strings
import Derived.Lib.Slices
import Derived.Lib.Walk
import Derived.Lib.Builder
import Derived.Lib.AppendStr
import Derived.Lib.UnsafeStr
import Derived.WalkKit
import Derived.Laws.Externs
import Derived.Laws.IdiomCopy
import Derived.Laws.BitsLemmas
set_option linter.all false
/-! strings.Builder: copyCheck and String, out of the model; what they are for the abstract machine. -/
namespace Go.AR
open Go Go.Proofs Go.Shelf Go.RowKit
def bldOk (x : TV) : Prop := x = .val .nilp ∨ x = .self
def S_copyCheck (e : TypeId) (R : Rel) : Prop := ∀ (x o : TV), bldOk x → R [.r (.cellsE (some e) [x, o])] (.val (.tup [])) [.cellsE (some e) [.self, o]]
def S_BString (e er : TypeId) (R : Rel) : Prop := ∀ (x : TV) (l : List UInt8), R [.r (.cellsE (some e) [x, .ownE (some er) 1 (bRows l)])] (.val (.str l)) [.cellsE (some e) [x, .val (.sl 1 (bRows l))]]
section
variable {P : Program} {ρ : Ren}
theorem arr_two {arr : Array Value} (h : arr.size = 2) : ∃ a b, arr = #[a, b] := by
  rcases arr with ⟨l⟩
  rcases l with _ | ⟨a, _ | ⟨b, _ | ⟨c, l⟩⟩⟩ <;> simp at h
  exact ⟨a, b, rfl⟩
theorem arg_r {w : World} {G β : Nat → Nat} {ω : Nat → Option Occ} {va : List Value} {b : Blk} (h : ArgsRep w G β ω 0 [.r b] va) : va = [.pointer (some ⟨β 0, 0, none⟩)] ∧ ω (β 0) = some (.blk 0) ∧ BRep w G ω (β 0) 0 b := by
  rcases va with _ | ⟨v, _ | ⟨v2, va⟩⟩
  · exact h.elim
  · obtain ⟨⟨rfl, h1, h2⟩, _⟩ := h
    exact ⟨rfl, h1, h2⟩
  · exact h.2.elim
theorem setCell_other {w : World} {b i : Nat} {v : Value} (b' : Nat) (h : b' ≠ b) : (w.setCell ⟨b, i, none⟩ v).heap[b']? = w.heap[b']? := by simp [World.setCell, Array.getElem?_modify, Ne.symm h]
theorem setCell_evo {T : Nat → Prop} {w : World} {G : Nat → Nat} {b i : Nat} {v : Value} (hT : T b) (hG : G b = 0) : Evo T w G (w.setCell ⟨b, i, none⟩ v) G := by
  refine ⟨rfl, rfl, rfl, by simp [World.setCell], ⟨fun _ => Nat.le_refl _, fun b' off ho => ?_, fun b' sh hs => ?_⟩, fun b' _ ht => ⟨setCell_other b' (fun e => ht (e ▸ hT)), rfl⟩⟩
  · refine World.cell?_of_block (a := ⟨b', off, none⟩) (setCell_other b' (fun e => ?_))
    subst e; omega
  · by_cases e : b' = b
    · subst e
      rw [← hs]
      simp only [World.shape?, World.setCell, Array.getElem?_modify, if_true]
      cases w.heap[b']? with
      | none => rfl
      | some x => cases x <;> simp
    · rw [shape_of_block (setCell_other b' e)]; exact hs
set_option maxHeartbeats 1000000 in
set_option maxRecDepth 100000 in
/-- A builder that was written: its address is its own. -/
theorem check_used (L : Lays.n240 P ρ) (sz : (P.info? (ρ.t 72)).map (·.size) = some 2) (b : Nat) (w : World) (h0 : w.cell? ⟨b, 0, none⟩ = some (.pointer (some ⟨b, 0, none⟩))) :
    Calls P (ρ.f 240) #[.pointer (some ⟨b, 0, none⟩)] w fun e w' => e = .returned (.tuple #[]) ∧ w' = w := by
  obtain ⟨j, hj, _⟩ := Option.map_eq_some_iff.1 sz
  have mixed := L.mixed
  have t72 := L.t72; have a72 := L.a72; have u72 := run_underlying L.t72
  have t70 := L.t70; have a70 := L.a70; have z70 := L.z70; have u70 := run_underlying L.t70
  have t4 := L.t4; have a4 := L.a4; have u4 := run_underlying L.t4
  go_enter L.f240, Body.n240_ntmps ρ
  go_wp2
  rw [Lib.run_neq_ptr_same w _ L.t70 hj]
  go_wp2
  go_end0
  exact ⟨rfl, rfl⟩
set_option maxHeartbeats 1000000 in
set_option maxRecDepth 100000 in
/-- A new builder: its address is laid down. -/
theorem check_fresh (L : Lays.n240 P ρ) (sz : (P.info? (ρ.t 72)).map (·.size) = some 2) (lies : liesAt P P.depth (ρ.t 72) (2 / P.cellsOf (ρ.t 72)) 0 (ρ.t 72) 1 = true) (b : Nat) (w : World)
    (h0 : w.cell? ⟨b, 0, none⟩ = some (.pointer none)) (hsh : w.shape? b = some ((ρ.t 72), 2)) (hfz : w.frozen? ⟨b, 0, none⟩ = false) :
    Calls P (ρ.f 240) #[.pointer (some ⟨b, 0, none⟩)] w fun e w' => e = .returned (.tuple #[]) ∧ w' = w.setCell ⟨b, 0, none⟩ (.pointer (some ⟨b, 0, none⟩)) := by
  obtain ⟨j, hj, hjs⟩ := Option.map_eq_some_iff.1 sz
  have mixed := L.mixed
  have t72 := L.t72; have a72 := L.a72; have z72 := L.z72; have u72 := run_underlying L.t72
  have t70 := L.t70; have a70 := L.a70; have z70 := L.z70; have u70 := run_underlying L.t70
  have t4 := L.t4; have a4 := L.a4; have u4 := run_underlying L.t4
  have t164 := L.t164; have u164 := run_underlying L.t164
  go_enter L.f240, Body.n240_ntmps ρ
  go_wp2
  rw [Lib.run_to_unsafe w ⟨b, 0, none⟩ L.t70 L.t164 hj (by rw [hjs]; decide) hsh (Nat.zero_lt_succ 1)]
  simp only [Result.andThen]
  rw [Oper.upon_value]
  go_wp2
  rw [run_callFunc_extern L.f276 (by kernel_rfl) (by kernel_rfl) (by kernel_rfl) (e := Extern.AbiNoEscape.same) (by kernel_rfl), Lib.run_noEscape]
  simp only [Result.andThen]
  rw [Oper.upon_value]
  go_wp2
  rw [Lib.run_from_unsafe w ⟨b, 0, none⟩ L.t164 L.t70 hj hsh lies]
  simp only [Result.andThen]
  rw [Oper.upon_value]
  go_wp2
  go_end0
  exact ⟨rfl, rfl⟩
theorem acall_copyCheck (L : Lays.n240 P ρ) (sz : (P.info? (ρ.t 72)).map (·.size) = some 2) (lies : liesAt P P.depth (ρ.t 72) (2 / P.cellsOf (ρ.t 72)) 0 (ρ.t 72) 1 = true) : S_copyCheck (ρ.t 72) (ACall P (ρ.f 240)) := by
  intro x o hx
  refine ⟨fun va w => enters_of L.f240 (by kernel_rfl) rfl va w, fun w G β ω va hgn hωn hargs => ?_⟩
  obtain ⟨rfl, hω, arr, e', hh, hsz, hG, hc⟩ := arg_r hargs
  simp only [Option.getD_some] at hh
  obtain ⟨a0, a1, rfl⟩ := arr_two (hsz.2 (by simp))
  have h0 := hc 0 x a0 rfl rfl
  have h1 := hc 1 o a1 rfl rfl
  rcases hx with rfl | rfl
  · have e0 : a0 = .pointer none := by
      have := h0.1
      generalize hp : PV.nilp = p at this
      cases this <;> simp at hp
      rfl
    subst e0
    have hsh : w.shape? (β 0) = some (ρ.t 72, 2) := by simp [World.shape?, hh]
    have hfz : w.frozen? ⟨β 0, 0, none⟩ = false := Lib.frozen_of_heap hh 0
    have hc0 : w.cell? ⟨β 0, 0, none⟩ = some (.pointer none) := by rw [Lib.cell_of_heap hh]; rfl
    refine (check_fresh L sz lies (β 0) w hc0 hsh hfz).mono ?_
    rintro e w' ⟨rfl, rfl⟩
    have hh' := heap_setCell_same w (β 0) 0 _ _ (.pointer (some ⟨β 0, 0, none⟩)) hh
    have hev : Evo (fun b => ω b ≠ none) w G (w.setCell ⟨β 0, 0, none⟩ (.pointer (some ⟨β 0, 0, none⟩))) G := setCell_evo (by rw [hω]; simp) hG
    have hsize : (w.setCell ⟨β 0, 0, none⟩ (.pointer (some ⟨β 0, 0, none⟩))).heap.size = w.heap.size := by simp [World.setCell]
    refine ⟨_, G, ω, rfl, hev, by rw [hsize]; exact hgn, by rw [hsize]; exact hωn, fun b hb => .inl hb, ⟨⟨hω, _, e', hh', ⟨by simp, fun _ => by simp⟩, hG, fun i t y ht hy => ?_⟩, trivial⟩, .tup [] #[] rfl (by simp)⟩
    rcases i with _ | _ | i
    · simp at ht hy; subst ht; subst hy; rfl
    · simp at ht hy; subst ht; subst hy
      exact CRep.mono h1 hev.ext (fun g hg => ⟨setCell_other g (fun e => by rw [e, hω] at hg; cases hg), rfl, hg⟩)
    · simp at ht
  · have e0 : a0 = .pointer (some ⟨β 0, 0, none⟩) := h0
    subst e0
    have hc0 : w.cell? ⟨β 0, 0, none⟩ = some (.pointer (some ⟨β 0, 0, none⟩)) := by rw [Lib.cell_of_heap hh]; rfl
    refine (check_used L sz (β 0) w hc0).mono ?_
    rintro e w' ⟨rfl, rfl⟩
    exact ⟨_, G, ω, rfl, .refl _ _ _, hgn, hωn, fun b hb => .inl hb, ⟨⟨hω, _, e', hh, hsz, hG, hc⟩, trivial⟩, .tup [] #[] rfl (by simp)⟩
set_option maxHeartbeats 2000000 in
set_option maxRecDepth 100000 in
theorem string_row (L : Lays.n169 P ρ) (t5 : P.underlying (ρ.t 5) = some (.int .u8)) (cb : P.cellsOf (ρ.t 5) = 1) (b g cap : Nat) (l : List UInt8) (p : Value) (cur : Array Value) (w : World) (h0 : l ≠ [])
    (hbk : w.heap[b]? = some (.cells #[p, .slice (some ⟨g, 0, none⟩) l.length cap] (ρ.t 72) (0, 0))) (hg : w.heap[g]? = some (.cells cur (ρ.t 5) (0, 0))) (hnc : l.length ≤ cap) (hcm : cap ≤ maxLen) (hcs : cur.size = cap * 1)
    (hcell : ∀ j x, l[j]? = some x → w.cell? ⟨g, j, none⟩ = some (.int .u8 x.toNat)) :
    Calls P (ρ.f 169) #[.pointer (some ⟨b, 0, none⟩)] w fun e w' => e = .returned (.string ⟨l.toArray⟩) ∧ w' = w.drew.freeze ⟨g, 0, none⟩ l.length := by
  have hl0 : l.length ≠ 0 := by simpa using h0
  have c1 : w.drew.cell? ⟨b, 1, none⟩ = some (.slice (some ⟨g, 0, none⟩) l.length cap) := by
    have : w.drew.heap[b]? = some (.cells #[p, .slice (some ⟨g, 0, none⟩) l.length cap] (ρ.t 72) (0, 0)) := hbk
    rw [Lib.cell_of_heap this]; rfl
  have hSD : (Builtin.unsafeSliceData_ #[(ρ.t 37)] (ρ.t 127) #[.slice (some ⟨g, 0, none⟩) l.length cap]).run P w.drew = .ok (.pointer (some ⟨g, 0, none⟩)) w.drew := Lib.run_unsafeSliceData_row _ _ _ _ _ _ (by omega)
  have hUS : (Builtin.unsafeString_ #[(ρ.t 127), (ρ.t 3)] (ρ.t 9) #[.pointer (some ⟨g, 0, none⟩), .int .i64 l.length]).run P w.drew = .ok (.string ⟨l.toArray⟩) (w.drew.freeze ⟨g, 0, none⟩ l.length) := by
    refine Lib.run_unsafeString_row w.drew (ρ.t 127) (ρ.t 3) (ρ.t 9) (ρ.t 5) L.t127 cb g cur.size (by have hg' : w.drew.heap[g]? = some (.cells cur (ρ.t 5) (0, 0)) := hg; simp [World.shape?, hg']) l h0 (by omega) (by unfold maxLen at hcm; omega) ?_
    intro j x hx
    have := hcell j x hx
    have ha : (⟨g, 0, none⟩ : Addr).add j = ⟨g, j, none⟩ := by unfold Addr.add; split <;> simp_all
    rw [ha]; exact this
  have mixed := L.mixed
  have t72 := L.t72; have a72 := L.a72; have z72 := L.z72; have u72 := run_underlying L.t72
  have t70 := L.t70; have a70 := L.a70; have z70 := L.z70; have u70 := run_underlying L.t70
  have t37 := L.t37; have a37 := L.a37; have z37 := L.z37; have u37 := run_underlying L.t37
  have t127 := L.t127; have a127 := L.a127; have z127 := L.z127; have u127 := run_underlying L.t127
  have t3 := L.t3; have a3 := L.a3; have z3 := L.z3; have u3 := run_underlying L.t3
  have t9 := L.t9; have a9 := L.a9; have z9 := L.z9; have u9 := run_underlying L.t9
  go_enter L.f169, Body.n169_ntmps ρ
  go_wp2
  go_region_o
  all_goals (go_wp2; go_ret; exact ⟨rfl, rfl⟩)
set_option maxHeartbeats 2000000 in
set_option maxRecDepth 100000 in
theorem string_nil (L : Lays.n169 P ρ) (b : Nat) (p : Value) (w : World) (hbk : w.heap[b]? = some (.cells #[p, .slice none 0 0] (ρ.t 72) (0, 0))) :
    Calls P (ρ.f 169) #[.pointer (some ⟨b, 0, none⟩)] w fun e w' => e = .returned (.string ⟨#[]⟩) ∧ w' = w.drew := by
  have hUS : ∀ (W : World) (q : Option Addr), (Builtin.unsafeString_ #[(ρ.t 127), (ρ.t 3)] (ρ.t 9) #[.pointer q, .int .i64 0]).run P W = .ok (.string .empty) W := fun W q => Lib.run_unsafeString_none W _ _ _ q
  have c1 : w.drew.cell? ⟨b, 1, none⟩ = some (.slice none 0 0) := by
    have : w.drew.heap[b]? = some (.cells #[p, .slice none 0 0] (ρ.t 72) (0, 0)) := hbk
    rw [Lib.cell_of_heap this]; rfl
  have hSD : (Builtin.unsafeSliceData_ #[(ρ.t 37)] (ρ.t 127) #[.slice none 0 0]).run P w.drew = .ok (.pointer none) w.drew := rfl
  have mixed := L.mixed
  have t72 := L.t72; have a72 := L.a72; have z72 := L.z72; have u72 := run_underlying L.t72
  have t70 := L.t70; have a70 := L.a70; have z70 := L.z70; have u70 := run_underlying L.t70
  have t37 := L.t37; have a37 := L.a37; have z37 := L.z37; have u37 := run_underlying L.t37
  have t127 := L.t127; have a127 := L.a127; have z127 := L.z127; have u127 := run_underlying L.t127
  have t3 := L.t3; have a3 := L.a3; have z3 := L.z3; have u3 := run_underlying L.t3
  have t9 := L.t9; have a9 := L.a9; have z9 := L.z9; have u9 := run_underlying L.t9
  go_enter L.f169, Body.n169_ntmps ρ
  go_wp2
  go_region_o
  all_goals (go_wp2; go_ret; exact ⟨rfl, rfl⟩)
set_option maxHeartbeats 2000000 in
set_option maxRecDepth 100000 in
theorem string_room (L : Lays.n169 P ρ) (b g cap : Nat) (p : Value) (w : World) (hc0 : cap ≠ 0) (hbk : w.heap[b]? = some (.cells #[p, .slice (some ⟨g, 0, none⟩) 0 cap] (ρ.t 72) (0, 0))) :
    Calls P (ρ.f 169) #[.pointer (some ⟨b, 0, none⟩)] w fun e w' => e = .returned (.string ⟨#[]⟩) ∧ w' = w.drew := by
  have hUS : ∀ (W : World) (q : Option Addr), (Builtin.unsafeString_ #[(ρ.t 127), (ρ.t 3)] (ρ.t 9) #[.pointer q, .int .i64 0]).run P W = .ok (.string .empty) W := fun W q => Lib.run_unsafeString_none W _ _ _ q
  have c1 : w.drew.cell? ⟨b, 1, none⟩ = some (.slice (some ⟨g, 0, none⟩) 0 cap) := by
    have : w.drew.heap[b]? = some (.cells #[p, .slice (some ⟨g, 0, none⟩) 0 cap] (ρ.t 72) (0, 0)) := hbk
    rw [Lib.cell_of_heap this]; rfl
  have hSD : (Builtin.unsafeSliceData_ #[(ρ.t 37)] (ρ.t 127) #[.slice (some ⟨g, 0, none⟩) 0 cap]).run P w.drew = .ok (.pointer (some ⟨g, 0, none⟩)) w.drew := Lib.run_unsafeSliceData_row _ _ _ _ _ _ hc0
  clear hc0
  have mixed := L.mixed
  have t72 := L.t72; have a72 := L.a72; have z72 := L.z72; have u72 := run_underlying L.t72
  have t70 := L.t70; have a70 := L.a70; have z70 := L.z70; have u70 := run_underlying L.t70
  have t37 := L.t37; have a37 := L.a37; have z37 := L.z37; have u37 := run_underlying L.t37
  have t127 := L.t127; have a127 := L.a127; have z127 := L.z127; have u127 := run_underlying L.t127
  have t3 := L.t3; have a3 := L.a3; have z3 := L.z3; have u3 := run_underlying L.t3
  have t9 := L.t9; have a9 := L.a9; have z9 := L.z9; have u9 := run_underlying L.t9
  go_enter L.f169, Body.n169_ntmps ρ
  go_wp2
  go_region_o
  all_goals (go_wp2; go_ret; exact ⟨rfl, rfl⟩)
set_option maxHeartbeats 2000000 in
set_option maxRecDepth 100000 in
theorem string_noroom (L : Lays.n169 P ρ) (b g : Nat) (p : Value) (cur : Array Value) (w : World) (hbk : w.heap[b]? = some (.cells #[p, .slice (some ⟨g, 0, none⟩) 0 0] (ρ.t 72) (0, 0))) (hg : w.heap[g]? = some (.cells cur (ρ.t 5) (0, 0))) :
    Calls P (ρ.f 169) #[.pointer (some ⟨b, 0, none⟩)] w fun e w' => e = .returned (.string ⟨#[]⟩) ∧ ∃ o, w' = (w.alloc o).drew := by
  have hUS : ∀ (W : World) (q : Option Addr), (Builtin.unsafeString_ #[(ρ.t 127), (ρ.t 3)] (ρ.t 9) #[.pointer q, .int .i64 0]).run P W = .ok (.string .empty) W := fun W q => Lib.run_unsafeString_none W _ _ _ q
  have hlt : b < w.heap.size := by
    rcases Nat.lt_or_ge b w.heap.size with h' | h'
    · exact h'
    · simp [Array.getElem?_eq_none h'] at hbk
  have c1 : w.drew.cell? ⟨b, 1, none⟩ = some (.slice (some ⟨g, 0, none⟩) 0 0) := by
    have : w.drew.heap[b]? = some (.cells #[p, .slice (some ⟨g, 0, none⟩) 0 0] (ρ.t 72) (0, 0)) := hbk
    rw [Lib.cell_of_heap this]; rfl
  have hSD : (Builtin.unsafeSliceData_ #[(ρ.t 37)] (ρ.t 127) #[.slice (some ⟨g, 0, none⟩) 0 0]).run P w.drew = .ok (.pointer (some ⟨w.drew.heap.size, 0, none⟩)) (w.drew.alloc (.view ⟨g, 0, none⟩ (ρ.t 5))) :=
    Lib.run_unsafeSliceData_zero w.drew _ _ (ρ.t 5) L.t127 ⟨g, 0, none⟩ 0 ((ρ.t 5), cur.size) (by have hg' : w.drew.heap[g]? = some (.cells cur (ρ.t 5) (0, 0)) := hg; simp [World.shape?, hg'])
  have c2 : (w.drew.alloc (.view ⟨g, 0, none⟩ (ρ.t 5))).cell? ⟨b, 1, none⟩ = some (.slice (some ⟨g, 0, none⟩) 0 0) := by
    have : (w.drew.alloc (.view ⟨g, 0, none⟩ (ρ.t 5))).heap[b]? = _ := (heap_alloc_old w.drew _ hlt).trans hbk
    rw [Lib.cell_of_heap this]; rfl
  have c3 : (w.alloc (.view ⟨g, 0, none⟩ (ρ.t 5))).drew.cell? ⟨b, 1, none⟩ = some (.slice (some ⟨g, 0, none⟩) 0 0) := c2
  have c0 : w.cell? ⟨b, 1, none⟩ = some (.slice (some ⟨g, 0, none⟩) 0 0) := c1
  have mixed := L.mixed
  have t72 := L.t72; have a72 := L.a72; have z72 := L.z72; have u72 := run_underlying L.t72
  have t70 := L.t70; have a70 := L.a70; have z70 := L.z70; have u70 := run_underlying L.t70
  have t37 := L.t37; have a37 := L.a37; have z37 := L.z37; have u37 := run_underlying L.t37
  have t127 := L.t127; have a127 := L.a127; have z127 := L.z127; have u127 := run_underlying L.t127
  have t3 := L.t3; have a3 := L.a3; have z3 := L.z3; have u3 := run_underlying L.t3
  have t9 := L.t9; have a9 := L.a9; have z9 := L.z9; have u9 := run_underlying L.t9
  go_enter L.f169, Body.n169_ntmps ρ
  go_wp2
  go_region_o
  all_goals (go_wp2; go_ret; exact ⟨rfl, _, rfl⟩)
theorem bRows_flat : ∀ l : List UInt8, (bRows l).flatten = l.map fun b => PV.int .u8 b.toNat
  | [] => rfl
  | b :: l => by
    have := bRows_flat l
    simp only [bRows, List.map_cons, List.flatten_cons, List.singleton_append] at this ⊢
    rw [this]
theorem bRows_len0 (l : List UInt8) : (bRows l).length = l.length := by simp [bRows]
theorem freeze_other {w : World} {g n : Nat} (b : Nat) (h : b ≠ g) : (w.freeze ⟨g, 0, none⟩ n).heap[b]? = w.heap[b]? := by
  unfold World.freeze
  split
  · rfl
  · simp [Array.getElem?_modify, Ne.symm h]
theorem freeze_size {w : World} {g n : Nat} : (w.freeze ⟨g, 0, none⟩ n).heap.size = w.heap.size := by
  unfold World.freeze
  split <;> simp
theorem freeze_cell {w : World} {g n : Nat} {cur : Array Value} {e : TypeId} (hg : w.heap[g]? = some (.cells cur e (0, 0))) (b off : Nat) : (w.freeze ⟨g, 0, none⟩ n).cell? ⟨b, off, none⟩ = w.cell? ⟨b, off, none⟩ := by
  by_cases h : b = g
  · subst h
    unfold World.freeze
    split
    · rfl
    · simp only [World.cell?, Array.getElem?_modify, hg, Option.map_some, if_true]
  · exact World.cell?_of_block (a := ⟨b, off, none⟩) (freeze_other b h)
theorem freeze_evo {T : Nat → Prop} {w : World} {G : Nat → Nat} {g n : Nat} {cur : Array Value} {e : TypeId} (hg : w.heap[g]? = some (.cells cur e (0, 0))) (hT : T g) : Evo T w G (w.drew.freeze ⟨g, 0, none⟩ n) G := by
  have h0 : ∀ n, (w.drew.freeze ⟨g, 0, none⟩ n).os = w.os ∧ (w.drew.freeze ⟨g, 0, none⟩ n).tape = w.tape ∧ (w.drew.freeze ⟨g, 0, none⟩ n).output = w.output := fun n => by
    unfold World.freeze
    split <;> exact ⟨rfl, rfl, rfl⟩
  have hg' : w.drew.heap[g]? = some (.cells cur e (0, 0)) := hg
  refine ⟨(h0 n).1, (h0 n).2.1, (h0 n).2.2, by rw [freeze_size]; exact Nat.le_refl _, ⟨fun _ => Nat.le_refl _, fun b off _ => ?_, fun b sh hs => ?_⟩, fun b _ ht => ⟨?_, rfl⟩⟩
  · rw [freeze_cell hg']; rfl
  · by_cases e : b = g
    · subst e
      rw [← hs]
      unfold World.freeze
      split
      · rfl
      · simp only [World.shape?, Array.getElem?_modify, if_true, hg', hg, Option.map_some]
    · rw [shape_of_block (freeze_other b e)]; exact hs
  · rw [freeze_other b (fun e => ht (e ▸ hT))]; rfl
theorem acall_String (L : Lays.n169 P ρ) (t5 : P.underlying (ρ.t 5) = some (.int .u8)) (cb : P.cellsOf (ρ.t 5) = 1) : S_BString (ρ.t 72) (ρ.t 5) (ACall P (ρ.f 169)) := by
  intro x l
  refine ⟨fun va w => enters_of L.f169 (by kernel_rfl) rfl va w, fun w G β ω va hgn hωn hargs => ?_⟩
  obtain ⟨rfl, hω, arr, e', hh, hsz, hG, hc⟩ := arg_r hargs
  simp only [Option.getD_some] at hh
  obtain ⟨a0, a1, rfl⟩ := arr_two (hsz.2 (by simp))
  have h0 := hc 0 x a0 rfl rfl
  have h1 : ORepE (some (ρ.t 5)) w G ω (.cell 0 1) 1 (bRows l) a1 := hc 1 _ a1 rfl rfl
  have hrep := h1.rep
  obtain ⟨e2, xs, hor, hc1, hxl, hxr, ho1, hg⟩ := h1
  simp only [Option.getD_some] at hor
  rw [bRows_len0] at hor
  have hfl : (bRows l).flatten.length = l.length := by rw [bRows_flat]; simp
  -- nothing was changed but what is drawn
  have calm : ∀ w', Evo (fun b => ω b ≠ none) w G w' G → (∀ b, b < w.heap.size → w'.heap[b]? = w.heap[b]?) → ∃ v G' ω', Ending.returned (.string ⟨l.toArray⟩) = .returned v ∧ Evo (fun b => ω b ≠ none) w G w' G' ∧ (∀ b, w'.heap.size ≤ b → G' b = 0) ∧ (∀ b, ω' b ≠ none → b < w'.heap.size) ∧
      (∀ b, ω' b ≠ none → ω b ≠ none ∨ w.heap.size ≤ b) ∧ OutsRep w' G' β ω' 0 [.r (.cellsE (some (ρ.t 72)) [x, .ownE (some (ρ.t 5)) 1 (bRows l)])] [.cellsE (some (ρ.t 72)) [x, .val (.sl 1 (bRows l))]] ∧ RVRep w' G' ω' 1 (.val (.str l)) v := by
    intro w' hev hold
    have hb0 : β 0 < w.heap.size := hωn _ (by rw [hω]; simp)
    refine ⟨_, G, ω, rfl, hev, fun b hb => hgn b (Nat.le_trans hev.size hb), fun b hb => Nat.lt_of_lt_of_le (hωn b hb) hev.size, fun b hb => .inl hb, ⟨⟨hω, _, e', by rw [hold _ hb0]; exact hh, hsz, hG, fun i t y ht hy => ?_⟩, trivial⟩, .str l⟩
    rcases i with _ | _ | i
    · simp at ht hy; subst ht; subst hy
      exact CRep.mono h0 hev.ext (fun g hg => ⟨hold g (hωn g (by rw [hg]; simp)), rfl, hg⟩)
    · simp at ht hy; subst ht; subst hy
      exact ⟨hrep.mono hev.ext, rfl⟩
    · simp at ht
  have hdr : Evo (fun b => ω b ≠ none) w G w.drew G := ⟨rfl, rfl, rfl, Nat.le_refl _, ⟨fun _ => Nat.le_refl _, fun _ _ _ => rfl, fun _ _ h => h⟩, fun _ _ _ => ⟨rfl, rfl⟩⟩
  rcases hor.2 with ⟨rfl, hl0⟩ | ⟨g, cap, cur, rfl, _, hgc, hnc, hcm, hcs, htake⟩
  · have hl : l = [] := List.eq_nil_of_length_eq_zero hl0
    subst hl
    refine (string_nil L (β 0) a0 w hh).mono ?_
    rintro e w' ⟨rfl, rfl⟩
    exact calm _ hdr (fun _ _ => rfl)
  · obtain ⟨hωg, hGg⟩ := hg g rfl
    by_cases hl : l = []
    · subst hl
      by_cases hc0 : cap = 0
      · subst hc0
        refine (string_noroom L (β 0) g a0 cur w hh hgc).mono ?_
        rintro e w' ⟨rfl, o, rfl⟩
        have hev : Evo (fun b => ω b ≠ none) w G (w.alloc o).drew G := by
          refine ⟨rfl, rfl, rfl, by show w.heap.size ≤ (w.alloc o).heap.size; simp, ⟨fun _ => Nat.le_refl _, fun b off hb => ?_, fun b sh hs => (shape_of_block (w := w) (w' := w.alloc o) (heap_alloc_old w o (shape_lt hs))).trans hs⟩, fun b hb _ => ⟨heap_alloc_old w o hb, rfl⟩⟩
          have hb' : b < w.heap.size := by
            rcases Nat.lt_or_ge b w.heap.size with h' | h'
            · exact h'
            · have := hgn b h'; omega
          exact World.cell?_of_block (w := w) (w' := w.alloc o) (a := ⟨b, off, none⟩) (heap_alloc_old w o hb')
        exact calm _ hev (fun b hb => heap_alloc_old w o hb)
      · refine (string_room L (β 0) g cap a0 w hc0 hh).mono ?_
        rintro e w' ⟨rfl, rfl⟩
        exact calm _ hdr (fun _ _ => rfl)
    · have hcell : ∀ j x, l[j]? = some x → w.cell? ⟨g, j, none⟩ = some (.int .u8 x.toNat) := fun j x hx => by
        have hj : j < xs.length := by rw [hxl, hfl]; exact (List.getElem?_eq_some_iff.1 hx).1
        have hr := hxr j (.int .u8 x.toNat) xs[j] (by rw [bRows_flat]; simp [hx]) (List.getElem?_eq_getElem hj)
        have hv : xs[j] = .int .u8 x.toNat := by
          generalize hp : PV.int .u8 x.toNat = q at hr
          generalize xs[j] = u at hr
          cases hr <;> simp at hp
          obtain ⟨rfl, rfl⟩ := hp
          rfl
        have := hor.cells (g := g) rfl j xs[j] (List.getElem?_eq_getElem hj)
        have ha : (⟨g, 0, none⟩ : Addr).add j = ⟨g, j, none⟩ := by unfold Addr.add; split <;> simp_all
        rw [ha, hv] at this
        exact this
      refine (string_row L t5 cb (β 0) g cap l a0 cur w hl hh hgc hnc hcm hcs hcell).mono ?_
      rintro e w' ⟨rfl, rfl⟩
      have hgb : β 0 ≠ g := fun e => by rw [e, hωg] at hω; cases hω
      have hev : Evo (fun b => ω b ≠ none) w G (w.drew.freeze ⟨g, 0, none⟩ l.length) G := freeze_evo hgc (by rw [hωg]; simp)
      refine ⟨_, G, upd ω g none, rfl, hev, fun b hb => hgn b (by rw [freeze_size] at hb; exact hb), fun b hb => ?_, fun b hb => ?_, ⟨⟨by rw [upd_ne _ _ _ _ hgb]; exact hω, _, e', by rw [freeze_other _ hgb]; exact hh, hsz, hG, fun i t y ht hy => ?_⟩, trivial⟩, .str l⟩
      · rw [freeze_size]
        by_cases e : b = g
        · subst e; rw [upd_eq] at hb; exact absurd rfl hb
        · rw [upd_ne _ _ _ _ e] at hb; exact hωn b hb
      · by_cases e : b = g
        · subst e; rw [upd_eq] at hb; exact absurd rfl hb
        · rw [upd_ne _ _ _ _ e] at hb; exact .inl hb
      · rcases i with _ | _ | i
        · simp at ht hy; subst ht; subst hy
          refine CRep.mono h0 hev.ext (fun g' hg' => ?_)
          have hne : g' ≠ g := fun e => by rw [e, hωg] at hg'; cases hg'
          exact ⟨(freeze_other g' hne), rfl, by rw [upd_ne _ _ _ _ hne]; exact hg'⟩
        · simp at ht hy; subst ht; subst hy
          exact ⟨hrep.mono hev.ext, rfl⟩
        · simp at ht
end
end Go.AR

/-! Numbers and texts as bytes: what the functions give. -/
namespace Go.AR
open Go
section
variable {C : CallRel} {F : Nat → FuncId}
/-- A number's bytes. -/
def vint (n : Nat) : List UInt8 := if n < 128 then [UInt8.ofNat n] else UInt8.ofNat (n % 128 + 128) :: vint (n / 128)
termination_by n
decreasing_by omega
def pInt (n : Int) : List UInt8 := vint n.toNat
def pText (s : List UInt8) : List UInt8 := vint s.length ++ s
theorem vint_lt {n : Nat} (h : n < 128) : vint n = [UInt8.ofNat n] := by rw [vint, if_pos h]
theorem vint_ge {n : Nat} (h : ¬ n < 128) : vint n = UInt8.ofNat (n % 128 + 128) :: vint (n / 128) := by rw [vint, if_neg h]
def i64ok (n : Int) : Prop := -9223372036854775808 ≤ n ∧ n ≤ 9223372036854775807
def S_i2s (R : Rel) : Prop := ∀ n : Int, i64ok n → R [.v (.int .i64 n)] (.val (.str (pInt n))) []
def S_ptext (R : Rel) : Prop := ∀ s : List UInt8, s.length ≤ 4611686018427387904 → R [.v (.str s)] (.val (.str (pText s))) []
def S_WriteByte (e er : TypeId) (R : Rel) : Prop := ∀ (x : TV) (l : List UInt8) (c : UInt8), bldOk x → l.length + 1 ≤ 140737488355328 → R [.r (.cellsE (some e) [x, .ownE (some er) 1 (bRows l)]), .v (.int .u8 c.toNat)] (.val .nilif) [.cellsE (some e) [.self, .ownE (some er) 1 (bRows (l ++ [c]))]]
theorem g_WriteByte (hC : S_copyCheck (F n_T_strings_Builder) (C (F n_strings_Builder_copyCheck))) : S_WriteByte (F n_T_strings_Builder) (F n_T_uint8) ((c_strings_Builder_WriteByte F).gives C) := by
  intro x l c hx hl
  refine gives_of rfl ?_
  unfold c_strings_Builder_WriteByte
  simp only [walk, Nat.reduceLT, Nat.reduceBEq, Nat.reduceAdd, Nat.reduceLeDiff, reduceIte, Int.reduceLT, Int.reduceLE, Int.reduceEq, Int.reduceToNat, Int.reduceBEq]
  refine callWp_of (hC x _ hx) ?_
  have h1 : (bRows l).length + 1 ≤ 140737488355328 := by rw [bRows_len]; exact hl
  simp only [walk, Nat.reduceLT, Nat.reduceBEq, Nat.reduceAdd, Nat.reduceLeDiff, reduceIte, Int.reduceLT, Int.reduceLE, Int.reduceEq, Int.reduceToNat, Int.reduceBEq, h1, bRows_app]
theorem S_self : bldOk .self := .inr rfl
theorem S_nilp : bldOk (.val .nilp) := .inl rfl
theorem g_pack_Int (hW : S_WriteByte (F n_T_strings_Builder) (F n_T_uint8) (C (F n_strings_Builder_WriteByte))) (hS : S_BString (F n_T_strings_Builder) (F n_T_uint8) (C (F n_strings_Builder_String))) : S_i2s ((c_pack_Int F).gives C) := by
  intro n hn
  refine gives_of rfl ?_
  unfold c_pack_Int
  simp only [walk, Nat.reduceLT, Nat.reduceBEq, Nat.reduceAdd, Nat.reduceLeDiff, reduceIte, Int.reduceLT, Int.reduceLE, Int.reduceEq, Int.reduceToNat, Int.reduceBEq]
  refine awp_loop_ind (X := Int × TV × List UInt8) (fun x => ⟨[(0, .val (.int .i64 x.1)), (2, .val (.str [])), (3, .lp 3 0)], [(3, .cellsE (some (F n_T_strings_Builder)) [x.2.1, .ownE (some (F n_T_uint8)) 1 (bRows x.2.2)])]⟩)
    (fun x => bldOk x.2.1 ∧ x.2.2 ++ pInt x.1 = pInt n ∧ (x.2.2 = [] ∨ 1 ≤ x.1) ∧ x.1 ≤ 9223372036854775807 ∧ x.1.toNat * 128 ^ x.2.2.length ≤ n.toNat) (fun x => x.1.toNat) (n, .val .nilp, []) ⟨S_nilp, rfl, .inl rfl, hn.2, by simp⟩ rfl ?_
  rintro R ⟨k, x, l⟩ ⟨hx, he, h0, h1, h2⟩ ih
  simp only at hx he h0 h1 h2 ih ⊢
  simp only [walk, Nat.reduceLT, Nat.reduceBEq, Nat.reduceAdd, Nat.reduceLeDiff, reduceIte, Int.reduceLT, Int.reduceLE, Int.reduceEq, Int.reduceToNat, Int.reduceBEq]
  have hlen : l.length ≤ 70 := by
    rcases h0 with rfl | h0
    · simp
    · have h9 : n.toNat < 128 ^ 10 := by have := hn.2; omega
      have : 128 ^ l.length < 128 ^ 10 := Nat.lt_of_le_of_lt (Nat.le_trans (Nat.le_mul_of_pos_left _ (by omega)) h2) h9
      have := (Nat.pow_lt_pow_iff_right (by decide)).1 this
      omega
  by_cases h3 : k ≥ 128
  · obtain ⟨q, rfl⟩ : ∃ q : Nat, k = q := ⟨k.toNat, by omega⟩
    have e1 : (128 : Int) ≤ q := h3
    simp only [walk, Nat.reduceLT, Nat.reduceBEq, Nat.reduceAdd, Nat.reduceLeDiff, reduceIte, Int.reduceLT, Int.reduceLE, Int.reduceEq, Int.reduceToNat, Int.reduceBEq, h3, i64_and127]
    rw [i64_or128 (by omega), u8_of]
    refine callWp_of (hW x l _ hx (by omega)) ?_
    simp only [walk, Nat.reduceLT, Nat.reduceBEq, Nat.reduceAdd, Nat.reduceLeDiff, reduceIte, Int.reduceLT, Int.reduceLE, Int.reduceEq, Int.reduceToNat, Int.reduceBEq, i64_shr7]
    refine ih (((q / 128 : Nat) : Int), .self, l ++ [UInt8.ofNat (q % 128 + 128)]) ⟨S_self, ?_, .inr (by simp only; omega), by simp only; omega, ?_⟩ (by simp only; omega)
    · rw [← he]
      simp only [pInt, Int.toNat_natCast]
      rw [vint_ge (n := q) (by omega)]
      simp
    · simp only [List.length_append, List.length_cons, List.length_nil, Int.toNat_natCast] at h2 ⊢
      rw [Nat.zero_add, Nat.pow_succ]
      refine Nat.le_trans ?_ h2
      rw [Nat.mul_comm (128 ^ l.length), ← Nat.mul_assoc]
      exact Nat.mul_le_mul_right _ (by omega)
  · have e1 : ¬ (128 : Int) ≤ k := h3
    have e2 : max 0 k = ((k.toNat : Nat) : Int) := by omega
    have e3 : max k 0 = ((k.toNat : Nat) : Int) := by omega
    simp only [walk, Nat.reduceLT, Nat.reduceBEq, Nat.reduceAdd, Nat.reduceLeDiff, reduceIte, Int.reduceLT, Int.reduceLE, Int.reduceEq, Int.reduceToNat, Int.reduceBEq, h3, e2, e3, u8_of]
    refine callWp_of (hW x l _ hx (by omega)) ?_
    simp only [walk, Nat.reduceLT, Nat.reduceBEq, Nat.reduceAdd, Nat.reduceLeDiff, reduceIte, Int.reduceLT, Int.reduceLE, Int.reduceEq, Int.reduceToNat, Int.reduceBEq]
    refine callWp_of (hS .self _) ?_
    simp only [walk, Nat.reduceLT, Nat.reduceBEq, Nat.reduceAdd, Nat.reduceLeDiff, reduceIte, Int.reduceLT, Int.reduceLE, Int.reduceEq, Int.reduceToNat, Int.reduceBEq]
    rw [← he, pInt, vint_lt (by omega)]
theorem vint_pos (n : Nat) : 1 ≤ (vint n).length := by
  rw [vint]; split <;> simp
theorem vint_len : ∀ (k n : Nat), n < 128 ^ k → (vint n).length ≤ k + 1
  | 0, n, h => by rw [vint_lt (by simp at h; omega)]; simp
  | k + 1, n, h => by
    rw [vint]
    split
    · simp
    · have := vint_len k (n / 128) (by rw [Nat.pow_succ] at h; omega)
      simp only [List.length_cons]; omega
theorem pInt_len {n : Int} (h : i64ok n) : (pInt n).length ≤ 11 := vint_len 10 _ (by have := h.2; omega)
theorem rec_pref02_Int (ha : ∀ xs rv outs, (c_pref02_Int F).gives C xs rv outs → C (F n_pref02_Int) xs rv outs) : S_i2s (C (F n_pref02_Int)) := by
  have key : ∀ (k : Nat) (n : Int), i64ok n → n.toNat ≤ k → C (F n_pref02_Int) [.v (.int .i64 n)] (.val (.str (pInt n))) [] := by
    intro k
    induction k using Nat.strongRecOn with
    | _ k ih =>
      intro n hn hk
      refine ha _ _ _ (gives_of rfl ?_)
      unfold c_pref02_Int
      simp only [walk, Nat.reduceLT, Nat.reduceBEq, Nat.reduceAdd, Nat.reduceLeDiff, reduceIte, Int.reduceLT, Int.reduceLE, Int.reduceEq, Int.reduceToNat, Int.reduceBEq]
      by_cases h1 : n < 128
      · simp only [walk, Nat.reduceLT, Nat.reduceBEq, Nat.reduceAdd, Nat.reduceLeDiff, reduceIte, Int.reduceLT, Int.reduceLE, Int.reduceEq, Int.reduceToNat, Int.reduceBEq, h1]
        by_cases h2 : n < 0
        · have e0 : IntKind.u8.wrap 0 = ((UInt8.ofNat 0).toNat : Int) := by decide
          simp only [walk, Nat.reduceLT, Nat.reduceBEq, Nat.reduceAdd, Nat.reduceLeDiff, reduceIte, Int.reduceLT, Int.reduceLE, Int.reduceEq, Int.reduceToNat, Int.reduceBEq, h2, e0, bytes_cons, bytes_nil]
          rw [pInt, vint_lt (by omega), show n.toNat = 0 by omega]
        · obtain ⟨q, rfl⟩ : ∃ q : Nat, n = q := ⟨n.toNat, by omega⟩
          simp only [walk, Nat.reduceLT, Nat.reduceBEq, Nat.reduceAdd, Nat.reduceLeDiff, reduceIte, Int.reduceLT, Int.reduceLE, Int.reduceEq, Int.reduceToNat, Int.reduceBEq, h2, u8_of, bytes_cons, bytes_nil]
          rw [pInt, vint_lt (by omega)]
          rfl
      · obtain ⟨q, rfl⟩ : ∃ q : Nat, n = q := ⟨n.toNat, by omega⟩
        have e1 : (q : Int).tmod 128 = ((q % 128 : Nat) : Int) := by rw [Int.tmod_eq_emod_of_nonneg (by omega)]; rfl
        have e2 : (q : Int).tdiv 128 = ((q / 128 : Nat) : Int) := by rw [Int.tdiv_eq_ediv_of_nonneg (by omega)]; rfl
        have e3 : IntKind.i64.wrap (((q % 128 : Nat) : Int) + 128) = ((q % 128 + 128 : Nat) : Int) := wrap64 (by omega) (by omega)
        have h3 : i64ok ((q / 128 : Nat) : Int) := by have := hn.2; unfold i64ok; omega
        simp only [walk, Nat.reduceLT, Nat.reduceBEq, Nat.reduceAdd, Nat.reduceLeDiff, reduceIte, Int.reduceLT, Int.reduceLE, Int.reduceEq, Int.reduceToNat, Int.reduceBEq, h1, Int.reduceNeg, e1, e2, e3, u8_of, bytes_cons, bytes_nil]
        rw [i64_wrap (by have := hn.2; omega)]
        refine callWp_of (ih (q / 128) (by simp at hk; omega) _ h3 (by simp)) ?_
        have hl := pInt_len h3
        simp only [walk, Nat.reduceLT, Nat.reduceBEq, Nat.reduceAdd, Nat.reduceLeDiff, reduceIte, Int.reduceLT, Int.reduceLE, Int.reduceEq, Int.reduceToNat, Int.reduceBEq]
        rw [bins_add (by simp only [List.length_cons, List.length_nil]; omega)]
        simp only [walk, Nat.reduceLT, Nat.reduceBEq, Nat.reduceAdd, Nat.reduceLeDiff, reduceIte, Int.reduceLT, Int.reduceLE, Int.reduceEq, Int.reduceToNat, Int.reduceBEq]
        rw [pInt, pInt, Int.toNat_natCast, Int.toNat_natCast, vint_ge (n := q) (by omega)]
        rfl
  exact fun n hn => key n.toNat n hn (Nat.le_refl _)
theorem g_pack_Text (hI : S_i2s (C (F n_pack_Int))) : S_ptext ((c_pack_Text F).gives C) := by
  intro s hs
  refine gives_of rfl ?_
  unfold c_pack_Text
  have h1 : i64ok (s.length : Int) := by unfold i64ok; omega
  simp only [walk, Nat.reduceLT, Nat.reduceBEq, Nat.reduceAdd, Nat.reduceLeDiff, reduceIte, Int.reduceLT, Int.reduceLE, Int.reduceEq, Int.reduceToNat, Int.reduceBEq]
  refine callWp_of (hI _ h1) ?_
  have := pInt_len h1
  simp only [walk, Nat.reduceLT, Nat.reduceBEq, Nat.reduceAdd, Nat.reduceLeDiff, reduceIte, Int.reduceLT, Int.reduceLE, Int.reduceEq, Int.reduceToNat, Int.reduceBEq]
  rw [bins_add (by omega)]
  simp only [walk, Nat.reduceLT, Nat.reduceBEq, Nat.reduceAdd, Nat.reduceLeDiff, reduceIte, Int.reduceLT, Int.reduceLE, Int.reduceEq, Int.reduceToNat, Int.reduceBEq, pText, pInt]
theorem g_pref02_Text (hI : S_i2s (C (F n_pref02_Int))) : S_ptext ((c_pref02_Text F).gives C) := by
  intro s hs
  refine gives_of rfl ?_
  unfold c_pref02_Text
  have h1 : i64ok (s.length : Int) := by unfold i64ok; omega
  simp only [walk, Nat.reduceLT, Nat.reduceBEq, Nat.reduceAdd, Nat.reduceLeDiff, reduceIte, Int.reduceLT, Int.reduceLE, Int.reduceEq, Int.reduceToNat, Int.reduceBEq]
  refine callWp_of (hI _ h1) ?_
  have := pInt_len h1
  simp only [walk, Nat.reduceLT, Nat.reduceBEq, Nat.reduceAdd, Nat.reduceLeDiff, reduceIte, Int.reduceLT, Int.reduceLE, Int.reduceEq, Int.reduceToNat, Int.reduceBEq]
  rw [bins_add (by omega)]
  simp only [walk, Nat.reduceLT, Nat.reduceBEq, Nat.reduceAdd, Nat.reduceLeDiff, reduceIte, Int.reduceLT, Int.reduceLE, Int.reduceEq, Int.reduceToNat, Int.reduceBEq, pText, pInt]
end
end Go.AR
