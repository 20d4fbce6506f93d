import Derived.Test.YtlhahjlnhkokcaaG26
import Derived.Test.YtlhahjlnhkokcaaG03
import Derived.Shelf.Spec.SlicesInsertGrow
set_option linter.all false
/-! slices.Insert, of one element, at any type of elements. -/
namespace Go.AR
open Go Go.Proofs Go.Shelf Go.RowKit Go.Lib
noncomputable def insFn (ρ : Ren) (nm : String) (ta : Array TypeId) : Func := { Body2.n22 ρ with name := nm, targs := ta }
structure LIns (P : Program) (ρ : Ren) (nm : String) (ta : Array TypeId) (e : Nat) (bytes : Nat) (z : Value) : Prop where
  mixed : P.follows .mixedOrders = true
  f22 : P.funcs[ρ.f 22]? = some (insFn ρ nm ta)
  ov : ∀ (va : Array Value) (w : World) (v : Value), (Extern.SlicesOverlaps.overlaps #[ρ.t 24, ρ.t 24] #[ρ.t 4] va).run P w = .ok v w → (callFunc (ρ.f 29) va).run P w = .ok (.value v) w
  t0 : P.underlying (ρ.t 0) = some (TypeDesc.tuple #[])
  a0 : ∀ w, (isAgg (ρ.t 0)).run P w = .ok false w
  z0 : ∀ w, (Go.sizeOf (ρ.t 0)).run P w = .ok 1 w
  v0 : ∀ w, (zeroValue (ρ.t 0)).run P w = .ok (Value.tuple #[]) w
  t3 : P.underlying (ρ.t 3) = some (TypeDesc.int IntKind.i64)
  a3 : ∀ w, (isAgg (ρ.t 3)).run P w = .ok false w
  z3 : ∀ w, (Go.sizeOf (ρ.t 3)).run P w = .ok 1 w
  v3 : ∀ w, (zeroValue (ρ.t 3)).run P w = .ok (Value.int IntKind.i64 0) w
  t4 : P.underlying (ρ.t 4) = some (TypeDesc.bool)
  a4 : ∀ w, (isAgg (ρ.t 4)).run P w = .ok false w
  z4 : ∀ w, (Go.sizeOf (ρ.t 4)).run P w = .ok 1 w
  v4 : ∀ w, (zeroValue (ρ.t 4)).run P w = .ok (Value.bool false) w
  z9 : ∀ w, (Go.sizeOf (ρ.t 9)).run P w = .ok e w
  t24 : P.underlying (ρ.t 24) = some (TypeDesc.slice (ρ.t 9))
  a24 : ∀ w, (isAgg (ρ.t 24)).run P w = .ok false w
  z24 : ∀ w, (Go.sizeOf (ρ.t 24)).run P w = .ok 1 w
  v24 : ∀ w, (zeroValue (ρ.t 24)).run P w = .ok (Value.slice none 0 0) w
  i9 : (P.info? (ρ.t 9)).map (fun i => (i.zero, i.size, i.bytes)) = some (some z, e, bytes)
  nmok : nm ≠ "runtime.NumGoroutine"
  pos : 0 < e
  bpos : 0 < bytes
  zc : z.cells.size = e
section
variable {P : Program} {ρ : Ren} {nm : String} {ta : Array TypeId} {e bytes : Nat} {z : Value}
theorem run_copy_cellsE (w : World) (dT sT ty elem : TypeId) (e k b o dLen dCap : Nat) (a : Addr) (sLen sCap : Nat) (cs : List Value)
    (hu : P.underlying dT = some (.slice elem)) (hs : (P.info? elem).map (·.size) = some e) (hk : Nat.min sLen dLen = k) (hn : cs.length = k * e)
    (hsrc : ∀ j v, cs[j]? = some v → w.cell? (a.add j) = some v) (hc : ∀ j, j < cs.length → (w.cell? ⟨b, o + j, none⟩).isSome = true) (hf : ∀ j, j < cs.length → w.frozen? ⟨b, o + j, none⟩ = false) (h1 : ∀ v ∈ cs, v.oneCell' = true) :
    (Builtin.copy_ #[dT, sT] ty #[.slice (some ⟨b, o, none⟩) dLen dCap, .slice (some a) sLen sCap]).run P w = .ok (goInt k) (w.setCells b o cs) := by
  have hl := run_loadCells_list (P := P) w a cs hsrc
  have hst := run_storeCells_cells (P := P) b o cs 0 w (by simpa using hc) (by simpa using hf) h1
  cases hq : P.info? elem with
  | none => simp [hq] at hs
  | some i =>
    have hi : i.size = e := by simpa [hq] using hs
    simp [Builtin.copy_, run_underlying hu, Builtin.lenOf, Builtin.firstCells, sizeOf, typeInfo, hq, hi, hk, ← hn, hl, hst]
end
end Go.AR

/-! slices.Insert of one element, for the abstract machine. -/
namespace Go.AR
open Go Go.Proofs Go.Shelf Go.RowKit Go.Lib
abbrev ARel := List Arg → RV → List Blk → Prop
theorem setCells_row {b : Nat} {e : TypeId} : ∀ (vs : List Value) (o : Nat) (w : World) (cur : Array Value), w.heap[b]? = some (.cells cur e (0, 0)) → ∃ cur', (w.setCells b o vs).heap[b]? = some (.cells cur' e (0, 0)) ∧ cur'.size = cur.size
  | [], o, w, cur, h => ⟨cur, h, rfl⟩
  | v :: vs, o, w, cur, h => by
    obtain ⟨c', h1, h2⟩ := setCells_row vs (o + 1) _ _ (heap_setCell_same w b o cur e v h)
    exact ⟨c', h1, by rw [h2]; simp⟩
section
variable {P : Program} {ρ : Ren} {nm : String} {ta : Array TypeId} {c bytes : Nat} {z : Value}
end
end Go.AR
