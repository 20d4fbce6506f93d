import Derived.Test.YtkankogmljifiaaDoorG32
import Derived.Test.YtkankogmljifiaaDoorG34
import Derived.Test.YtkankogmljifiaaDoorG35
set_option linter.all false
/-! Operations: what was told is read again. -/
namespace Go.AR
open Go
theorem oOk_z : oOk zop := ⟨⟨by simp [zop], by simp [zop]⟩, by simp [zop, z0], by simp [zop]⟩
end Go.AR

/-! Operations: the laws. -/
namespace Go.AR
open Go
section
variable {C : CallRel} {F : Nat → FuncId}
theorem right_a : rightB [97] = true := (right_iff _).2 ⟨1, .cons (by decide) (by decide) .nil, by omega, by omega⟩
end
end Go.AR

/-! Operations: what is read, the law. -/
namespace Go.AR
open Go
theorem rdIn_ok {k : Int} {p : List (List UInt8)} {s : List UInt8} {b : Int} (hp : pOk p) (hs : s.length ≤ 20000000) : oOk (rdIn k p s b).1 ∧ (rdIn k p s b).2.1 <:+ s := by
  have hv := rdVal_len s b
  have hvs := rdVal_suf s b
  have hz : z0.2.2.length ≤ 20000000 := by simp [z0]
  unfold rdIn
  by_cases h3 : k = 3
  · rw [if_pos h3]; exact ⟨⟨hp, hz, by simp⟩, rI_suf s b⟩
  rw [if_neg h3]
  by_cases h1 : k = 1 ∨ k = 4
  · rw [if_pos h1]
    have := rdSeen_len (rdVal s b).2.1 (rdVal s b).2.2
    exact ⟨⟨hp, by simp only; omega, by simp only; omega⟩, (rdSeen_suf _ _).trans hvs⟩
  rw [if_neg h1]
  by_cases h2 : k = 2
  · rw [if_pos h2]; exact ⟨⟨hp, by simp only; omega, by simp⟩, hvs⟩
  rw [if_neg h2]
  by_cases h5 : k = 5
  · rw [if_pos h5]
    have := rdSeen_len s b
    exact ⟨⟨hp, hz, by simp only; omega⟩, rdSeen_suf s b⟩
  rw [if_neg h5]; exact ⟨⟨hp, hz, by simp⟩, List.suffix_refl _⟩
theorem rdOp_ok {s : List UInt8} {b : Int} (hs : s.length ≤ 20000000) : oOk (rdOp s b).1 ∧ (rdOp s b).2.1 <:+ s := by
  rw [rdOp_eq]
  have h1 := rI_suf s b
  have l1 := h1.length_le
  by_cases h0 : (rI s b).1 = 0
  · rw [if_pos h0]; exact ⟨oOk_z, h1⟩
  rw [if_neg h0]
  have h2 := rPath_suf (rI s b).2.1 (rI s b).2.2
  have l2 := h2.length_le
  have hp := rPath_ok (s := (rI s b).2.1) (b := (rI s b).2.2) (by omega)
  have hi := rdIn_ok (k := (rI s b).1) (b := (rPath (rI s b).2.1 (rI s b).2.2).2.2) hp (s := (rPath (rI s b).2.1 (rI s b).2.2).2.1) (by omega)
  generalize rdIn (rI s b).1 (rPath (rI s b).2.1 (rI s b).2.2).1 (rPath (rI s b).2.1 (rI s b).2.2).2.1 (rPath (rI s b).2.1 (rI s b).2.2).2.2 = q at *
  refine ⟨?_, hi.2.trans (h2.trans h1)⟩
  unfold rdEnd
  dsimp only
  by_cases hc : (if q.2.2 = 0 then oCheck q.1 else q.2.2) = 0
  · rw [if_pos hc]; exact hi.1
  · rw [if_neg hc]; exact oOk_z
section
variable {C : CallRel} {F : Nat → FuncId}
end
end Go.AR

/-! Transactions, by definition. -/
namespace Go.AR
open Go
structure Tx where
  d : Dt
  u : Int
  t : Int
  un : Bool
  ops : List Ov
deriving DecidableEq
def zt : Tx := ⟨(0, 0), 0, 0, false, []⟩
/-- What is wrong with the first that may not be. -/
def opsCheck (un : Bool) : List Ov → Int
  | [] => 0
  | o :: l => if oCheck o ≠ 0 ∧ (un && oGone o) = false then oCheck o else opsCheck un l
def tCheck (x : Tx) : Int :=
  if dotOk x.d = false ∨ x.u < 0 ∨ x.u > 7 ∨ x.t < 1 ∨ x.t > 1099511627776 then 2
  else if x.ops.length = 0 then 11 else if x.ops.length > 16 then 7 else opsCheck x.un x.ops
def tcmpT (a b : Tx) : Int := if icmp a.t b.t ≠ 0 then icmp a.t b.t else dcmp a.d b.d
theorem opsCheck_split (un : Bool) : ∀ (l : List Ov) (k : Nat), (∀ j, j < k → ∀ h : j < l.length, oCheck l[j] = 0 ∨ (un && oGone l[j]) = true) → opsCheck un l = opsCheck un (l.drop k)
  | l, 0, _ => rfl
  | [], k + 1, _ => rfl
  | o :: l, k + 1, h => by
    have h0 := h 0 (by omega) (by simp)
    simp only [List.getElem_cons_zero] at h0
    have ih := opsCheck_split un l k (fun j hj hl => by have := h (j + 1) (by omega) (by simp; omega); rwa [List.getElem_cons_succ] at this)
    rw [opsCheck, List.drop_succ_cons, ← ih, if_neg]
    rintro ⟨h1, h2⟩
    rcases h0 with h0 | h0
    · exact h1 h0
    · rw [h0] at h2; cases h2
end Go.AR
