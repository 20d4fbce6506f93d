import Derived.Test.YtfipbmlnklmjoaaDoorG31
import Derived.Test.YtfipbmlnklmjoaaDoorG33
import Derived.Test.YtfipbmlnklmjoaaDoorG09
set_option linter.all false
/-! Paths, by definition. -/
namespace Go.AR
open Go
/-- Which text stands first. -/
def tcmp (x y : List UInt8) : Int := if Op.bytesLess x y = true then -1 else if x = y then 0 else 1
theorem bl_irrefl : ∀ x : List UInt8, Op.bytesLess x x = false
  | [] => rfl
  | a :: x => by simp [Op.bytesLess, bl_irrefl x]
theorem bl_trans : ∀ x y z : List UInt8, Op.bytesLess x y = true → Op.bytesLess y z = true → Op.bytesLess x z = true
  | _, _, [], _, h => by simp [Op.bytesLess] at h
  | _, [], _ :: _, h, _ => by simp [Op.bytesLess] at h
  | [], _ :: _, _ :: _, _, _ => rfl
  | a :: x, b :: y, c :: z, h, k => by
    simp only [Op.bytesLess, Bool.or_eq_true, decide_eq_true_eq, Bool.and_eq_true, beq_iff_eq] at h k ⊢
    rcases h with h | ⟨rfl, h⟩
    · rcases k with k | ⟨rfl, k⟩
      · exact .inl (UInt8.lt_trans h k)
      · exact .inl h
    · rcases k with k | ⟨rfl, k⟩
      · exact .inl k
      · exact .inr ⟨rfl, bl_trans x y z h k⟩
theorem bl_tri : ∀ x y : List UInt8, Op.bytesLess x y = true ∨ x = y ∨ Op.bytesLess y x = true
  | [], [] => .inr (.inl rfl)
  | [], _ :: _ => .inl rfl
  | _ :: _, [] => .inr (.inr rfl)
  | a :: x, b :: y => by
    simp only [Op.bytesLess, Bool.or_eq_true, decide_eq_true_eq, Bool.and_eq_true, beq_iff_eq, List.cons.injEq]
    rcases Nat.lt_trichotomy a.toNat b.toNat with h | h | h
    · exact .inl (.inl h)
    · have e : a = b := UInt8.toNat_inj.1 h
      rcases bl_tri x y with h1 | h1 | h1
      · exact .inl (.inr ⟨e, h1⟩)
      · exact .inr (.inl ⟨e, h1⟩)
      · exact .inr (.inr (.inr ⟨e.symm, h1⟩))
    · exact .inr (.inr (.inl h))
theorem tcmp_self (x : List UInt8) : tcmp x x = 0 := by simp [tcmp, bl_irrefl]
theorem tcmp_zero {x y : List UInt8} : tcmp x y = 0 ↔ x = y := by
  unfold tcmp
  constructor
  · intro h
    split at h
    · cases h
    · split at h
      · assumption
      · cases h
  · rintro rfl; simp [bl_irrefl]
theorem tcmp_neg (x y : List UInt8) : tcmp y x = - tcmp x y := by
  unfold tcmp
  rcases bl_tri x y with h | rfl | h
  · have h1 : Op.bytesLess y x = false := by
      rw [Bool.eq_false_iff]; intro h2
      have := bl_trans x y x h h2; rw [bl_irrefl] at this; cases this
    have hne : y ≠ x := by rintro rfl; rw [bl_irrefl] at h; cases h
    simp [h, h1, hne]
  · simp [bl_irrefl]
  · have h1 : Op.bytesLess x y = false := by
      rw [Bool.eq_false_iff]; intro h2
      have := bl_trans x y x h2 h; rw [bl_irrefl] at this; cases this
    have hne : x ≠ y := by rintro rfl; rw [bl_irrefl] at h; cases h
    simp [h, h1, hne]
theorem tcmp_cases (x y : List UInt8) : tcmp x y = -1 ∨ tcmp x y = 0 ∨ tcmp x y = 1 := by
  unfold tcmp; split
  · exact .inl rfl
  · split
    · exact .inr (.inl rfl)
    · exact .inr (.inr rfl)
theorem tcmp_trans {x y z : List UInt8} (h : tcmp x y = -1) (k : tcmp y z = -1) : tcmp x z = -1 := by
  have e : ∀ a b : List UInt8, tcmp a b = -1 ↔ Op.bytesLess a b = true := by
    intro a b
    unfold tcmp
    by_cases h : Op.bytesLess a b = true
    · simp [h]
    · simp only [if_neg h]
      constructor
      · intro h2; split at h2 <;> cases h2
      · intro h2; exact absurd h2 h
  rw [e] at h k ⊢
  exact bl_trans x y z h k
theorem tcmp_cons (a b : UInt8) (x y : List UInt8) : tcmp (a :: x) (b :: y) = if a = b then tcmp x y else icmp a.toNat b.toNat := by
  unfold tcmp icmp
  simp only [Op.bytesLess, List.cons.injEq]
  by_cases h : a = b
  · subst h
    simp [UInt8.lt_irrefl]
  · rw [if_neg h]
    have hne : a.toNat ≠ b.toNat := fun e => h (UInt8.toNat_inj.1 e)
    by_cases h2 : a < b
    · have : a.toNat < b.toNat := h2
      have h3 : (a.toNat : Int) < b.toNat := by omega
      simp [h2, h3]
    · have : ¬ a.toNat < b.toNat := h2
      have h3 : ¬ (a.toNat : Int) < b.toNat := by omega
      have h4 : (a.toNat : Int) > b.toNat := by omega
      simp only [h2, h, h3, h4]
      simp [h]
/-- Which path stands first: part by part. -/
def pCmp : List (List UInt8) → List (List UInt8) → Int
  | [], [] => 0
  | [], _ :: _ => -1
  | _ :: _, [] => 1
  | x :: a, y :: b => if tcmp x y ≠ 0 then tcmp x y else pCmp a b
theorem pCmp_self : ∀ a, pCmp a a = 0
  | [] => rfl
  | x :: a => by simp [pCmp, tcmp_self, pCmp_self a]
theorem pCmp_zero : ∀ {a b}, pCmp a b = 0 ↔ a = b
  | [], [] => by simp [pCmp]
  | [], _ :: _ => by simp [pCmp]
  | _ :: _, [] => by simp [pCmp]
  | x :: a, y :: b => by
    simp only [pCmp, List.cons.injEq]
    by_cases h : tcmp x y = 0
    · rw [if_neg (by simp [h]), pCmp_zero]
      simp [tcmp_zero.1 h]
    · rw [if_pos h]
      constructor
      · intro h2; exact absurd h2 h
      · rintro ⟨rfl, _⟩; exact absurd (tcmp_self x) h
theorem pCmp_neg : ∀ a b, pCmp b a = - pCmp a b
  | [], [] => rfl
  | [], _ :: _ => rfl
  | _ :: _, [] => rfl
  | x :: a, y :: b => by
    simp only [pCmp]
    rw [tcmp_neg x y]
    by_cases h : tcmp x y = 0
    · simp only [h]; simpa using pCmp_neg a b
    · rw [if_pos h, if_pos (by omega)]
theorem pCmp_cases : ∀ a b, pCmp a b = -1 ∨ pCmp a b = 0 ∨ pCmp a b = 1
  | [], [] => .inr (.inl rfl)
  | [], _ :: _ => .inl rfl
  | _ :: _, [] => .inr (.inr rfl)
  | x :: a, y :: b => by
    simp only [pCmp]
    split
    · exact tcmp_cases x y
    · exact pCmp_cases a b
theorem pCmp_trans : ∀ {a b c}, pCmp a b = -1 → pCmp b c = -1 → pCmp a c = -1
  | [], [], _, h, _ => by simp [pCmp] at h
  | _ :: _, [], _, h, _ => by simp [pCmp] at h
  | _, _ :: _, [], _, h => by simp [pCmp] at h
  | [], _ :: _, _ :: _, _, _ => rfl
  | x :: a, y :: b, z :: c, h, k => by
    simp only [pCmp] at h k ⊢
    by_cases h1 : tcmp x y = 0
    · have := tcmp_zero.1 h1; subst this
      rw [if_neg (by simp [h1])] at h
      by_cases h2 : tcmp x z = 0
      · rw [if_neg (by simp [h2])] at k ⊢
        exact pCmp_trans h k
      · rw [if_pos h2] at k ⊢; exact k
    · rw [if_pos h1] at h
      by_cases h2 : tcmp y z = 0
      · have := tcmp_zero.1 h2; subst this
        rw [if_pos h1]; exact h
      · rw [if_pos h2] at k
        have := tcmp_trans h k
        rw [if_pos (by omega)]; exact this
/-- A path begins with another one. -/
def under (p above : List (List UInt8)) : Bool := decide (above.length ≤ p.length) && (p.take above.length == above)
theorem under_iff {p q} : under p q = true ↔ ∃ r, p = q ++ r := by
  unfold under
  rw [Bool.and_eq_true, decide_eq_true_eq, beq_iff_eq]
  constructor
  · rintro ⟨h, h2⟩
    exact ⟨p.drop q.length, by rw [← h2]; simp [Nat.min_eq_left h]⟩
  · rintro ⟨r, rfl⟩; simp
theorem under_cmp {p q} (h : under p q = true) : ¬ pCmp p q < 0 := by
  obtain ⟨r, rfl⟩ := under_iff.1 h
  have : ∀ (q r : List (List UInt8)), pCmp (q ++ r) q = if r = [] then 0 else 1 := by
    intro q
    induction q with
    | nil => intro r; cases r <;> rfl
    | cons x q ih => intro r; simp only [List.cons_append, pCmp, tcmp_self]; simpa using ih r
  rw [this]
  split <;> omega
theorem under_two {a b c} (h : under c a = true) (k : under c b = true) : under a b = true ∨ under b a = true := by
  obtain ⟨r, rfl⟩ := under_iff.1 h
  obtain ⟨s, e⟩ := under_iff.1 k
  rcases List.append_eq_append_iff.1 e with ⟨t, h1, _⟩ | ⟨t, h1, _⟩
  · exact .inr (under_iff.2 ⟨t, h1⟩)
  · exact .inl (under_iff.2 ⟨t, h1⟩)
def pCheck (p : List (List UInt8)) : Int := if p.length = 0 then 8 else if 8 < p.length then 9 else if p.all rightB = true then 0 else 8
def pShort (p : List (List UInt8)) : Bool := decide (p.length ≤ 12) && p.all fun s => decide (s.length ≤ 120)
def pCode (p : List (List UInt8)) : List UInt8 := pInt p.length ++ (p.map pText).flatten
/-- Parts that are read. -/
def rdTexts : Nat → List UInt8 → Int → List (List UInt8) × List UInt8 × Int
  | 0, s, b => ([], s, b)
  | n + 1, s, b => ((rText s b).1 :: (rdTexts n (rText s b).2.1 (rText s b).2.2).1, (rdTexts n (rText s b).2.1 (rText s b).2.2).2)
def failP (e : Int) (b : Int) : Int := if b = 0 then e else b
def rPath (s : List UInt8) (b : Int) : List (List UInt8) × List UInt8 × Int :=
  let m := rMany 8 s b
  let q := rdTexts m.1.toNat m.2.1 m.2.2
  let e := if q.2.2 = 0 then pCheck q.1 else q.2.2
  (if e = 0 then q.1 else [], q.2.1, e)
def pParse (s : List UInt8) : List (List UInt8) × Int := if s = [] then ([], 8) else match spl s [] [] false with
  | none => ([], 8)
  | some p => if pCheck p = 0 then (p, 0) else ([], pCheck p)
end Go.AR
