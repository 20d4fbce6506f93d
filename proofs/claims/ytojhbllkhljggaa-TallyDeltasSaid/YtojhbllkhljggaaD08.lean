import Derived.Test.YtojhbllkhljggaaWalk3
set_option linter.all false
/-! Counts of dots: plain. -/
namespace Go.AR
abbrev Dt := Int × Int
abbrev Ud := Dt × Int
def icmp (x y : Int) : Int := if x < y then -1 else if x > y then 1 else 0
def dcmp (a b : Dt) : Int := if icmp a.1 b.1 ≠ 0 then icmp a.1 b.1 else icmp a.2 b.2
theorem dcmp_cases (a b : Dt) : (dcmp a b = -1 ∧ (a.1 < b.1 ∨ (a.1 = b.1 ∧ a.2 < b.2))) ∨ (dcmp a b = 0 ∧ a = b) ∨ (dcmp a b = 1 ∧ (b.1 < a.1 ∨ (a.1 = b.1 ∧ b.2 < a.2))) := by
  obtain ⟨a1, a2⟩ := a; obtain ⟨b1, b2⟩ := b
  unfold dcmp icmp
  simp only
  by_cases h1 : a1 < b1
  · simp [h1]
  · by_cases h2 : a1 > b1
    · simp [h1, h2]
    · have : a1 = b1 := by omega
      subst this
      by_cases h3 : a2 < b2
      · simp [h3]
      · by_cases h4 : a2 > b2
        · simp [h3, h4]
        · have : a2 = b2 := by omega
          subst this
          simp
theorem dcmp_neg {a b : Dt} : dcmp a b < 0 ↔ (a.1 < b.1 ∨ (a.1 = b.1 ∧ a.2 < b.2)) := by
  rcases dcmp_cases a b with ⟨h, k⟩ | ⟨h, rfl⟩ | ⟨h, k⟩ <;> rw [h] <;> omega
theorem dcmp_zero {a b : Dt} : dcmp a b = 0 ↔ a = b := by
  rcases dcmp_cases a b with ⟨h, k⟩ | ⟨h, rfl⟩ | ⟨h, k⟩ <;> rw [h]
  · constructor
    · intro h; omega
    · rintro rfl; omega
  · simp
  · constructor
    · intro h; omega
    · rintro rfl; omega
theorem dcmp_pos {a b : Dt} : dcmp a b > 0 ↔ dcmp b a < 0 := by
  rw [dcmp_neg]
  rcases dcmp_cases a b with ⟨h, k⟩ | ⟨h, rfl⟩ | ⟨h, k⟩ <;> rw [h] <;> omega
theorem dcmp_trans {a b c : Dt} (h : dcmp a b < 0) (k : dcmp b c < 0) : dcmp a c < 0 := by rw [dcmp_neg] at *; omega
theorem dcmp_m1 {a b : Dt} : dcmp a b = -1 ↔ dcmp a b < 0 := by
  rcases dcmp_cases a b with ⟨h, k⟩ | ⟨h, rfl⟩ | ⟨h, k⟩ <;> rw [h] <;> omega
/-- May a dot, a count be? -/
def dotOk (d : Dt) : Bool := decide (0 ≤ d.1) && decide (d.1 < 16) && decide (1 ≤ d.2) && decide (d.2 ≤ 1048576)
def uOk (u : Ud) : Bool := dotOk u.1 && decide (1 ≤ u.2) && decide (u.2 ≤ 64)
def z3 : Ud := ((0, 0), 0)
def okAt (l : List Ud) (j : Nat) : Bool := uOk (l.getD j z3) && (j == 0 || decide (dcmp (l.getD (j - 1) z3).1 (l.getD j z3).1 < 0))
def rightU (l : List Ud) : Bool := (List.range l.length).all (okAt l)
theorem rightU_iff {l : List Ud} : rightU l = true ↔ ∀ j, j < l.length → okAt l j = true := by simp [rightU, List.all_eq_true]
theorem rightU_no {l : List Ud} {j : Nat} (hj : j < l.length) (h : okAt l j = false) : rightU l = false := by
  rw [← Bool.not_eq_true, rightU_iff]
  intro k
  rw [k j hj] at h; cases h
def getU : List Ud → Dt → Int
  | [], _ => 0
  | u :: l, d => if u.1 = d then u.2 else getU l d
theorem getU_at : ∀ {l : List Ud} {d : Dt} {k : Nat}, (∀ j, j < k → (l.getD j z3).1 ≠ d) → k < l.length → (l.getD k z3).1 = d → getU l d = (l.getD k z3).2
  | [], _, _, _, h, _ => by simp at h
  | u :: l, d, 0, _, _, e => by simp at e; simp [getU, e]
  | u :: l, d, k + 1, h, hk, e => by
    have h0 := h 0 (by omega)
    simp at h0
    simp only [getU, if_neg h0]
    have := getU_at (l := l) (d := d) (k := k) (fun j hj => by simpa using h (j + 1) (by omega)) (by simpa using hk) (by simpa using e)
    simpa using this
theorem getU_none : ∀ {l : List Ud} {d : Dt}, (∀ j, j < l.length → (l.getD j z3).1 ≠ d) → getU l d = 0
  | [], _, _ => rfl
  | u :: l, d, h => by
    have h0 := h 0 (by simp)
    simp at h0
    simp only [getU, if_neg h0]
    exact getU_none (fun j hj => by simpa using h (j + 1) (by simpa using hj))
def sortU (l : List Ud) : Prop := ∀ i j, i < j → j < l.length → dcmp (l.getD i z3).1 (l.getD j z3).1 < 0
theorem sort_of_right {l : List Ud} (h : rightU l = true) : sortU l := by
  intro i j hij hj
  induction j with
  | zero => omega
  | succ j ih =>
    have hs : dcmp (l.getD j z3).1 (l.getD (j + 1) z3).1 < 0 := by
      have := rightU_iff.1 h (j + 1) hj
      simp [okAt] at this
      simpa using this.2
    by_cases e : i = j
    · subst e; exact hs
    · exact dcmp_trans (ih (by omega) (by omega)) hs
/-- Where a dot stands, or would. -/
def lowU (l : List Ud) (d : Dt) : Nat := (l.filter fun u => decide (dcmp u.1 d < 0)).length
def hasU (l : List Ud) (d : Dt) : Bool := l.any fun u => decide (u.1 = d)
theorem lowU_of : ∀ {l : List Ud} {d : Dt} {i : Nat}, i ≤ l.length → (∀ k, k < i → dcmp (l.getD k z3).1 d < 0) → (∀ k, i ≤ k → k < l.length → ¬ dcmp (l.getD k z3).1 d < 0) → lowU l d = i
  | [], d, i, h, _, _ => by simp at h; subst h; rfl
  | u :: l, d, 0, _, _, h2 => by
    have h0 := h2 0 (by omega) (by simp)
    simp only [List.getD_cons_zero] at h0
    have := lowU_of (l := l) (d := d) (i := 0) (by omega) (by omega) (fun k _ hk => by simpa using h2 (k + 1) (by omega) (by simpa using hk))
    unfold lowU at this ⊢
    rw [List.filter_cons_of_neg (by simpa using h0)]; exact this
  | u :: l, d, i + 1, hi, h1, h2 => by
    have h0 := h1 0 (by omega)
    simp only [List.getD_cons_zero] at h0
    have := lowU_of (l := l) (d := d) (i := i) (by simpa using hi) (fun k hk => by simpa using h1 (k + 1) (by omega)) (fun k hk hl => by simpa using h2 (k + 1) (by omega) (by simpa using hl))
    unfold lowU at this ⊢
    rw [List.filter_cons_of_pos (by simpa using h0), List.length_cons, this]
theorem hasU_iff {l : List Ud} {d : Dt} : hasU l d = true ↔ ∃ k, k < l.length ∧ (l.getD k z3).1 = d := by
  simp only [hasU, List.any_eq_true, decide_eq_true_eq]
  constructor
  · rintro ⟨u, hu, rfl⟩
    obtain ⟨k, hk, rfl⟩ := List.getElem_of_mem hu
    exact ⟨k, hk, by simp [List.getD_eq_getElem?_getD, hk]⟩
  · rintro ⟨k, hk, e⟩
    refine ⟨l[k], List.getElem_mem hk, ?_⟩
    simpa [List.getD_eq_getElem?_getD, hk] using e
/-- What stands at the place: the dot, just if it is there. -/
theorem hasU_low {l : List Ud} {d : Dt} {i : Nat} (hi : i ≤ l.length) (h1 : ∀ k, k < i → dcmp (l.getD k z3).1 d < 0) (h2 : ∀ k, i ≤ k → k < l.length → ¬ dcmp (l.getD k z3).1 d < 0) (hs : sortU l) :
    hasU l d = (decide (i < l.length) && decide (dcmp (l.getD i z3).1 d = 0)) := by
  rw [Bool.eq_iff_iff, hasU_iff, Bool.and_eq_true, decide_eq_true_eq, decide_eq_true_eq, dcmp_zero]
  constructor
  · rintro ⟨k, hk, e⟩
    have h3 : ¬ k < i := fun h => by have := h1 k h; rw [e] at this; rw [dcmp_neg] at this; omega
    by_cases e2 : k = i
    · subst e2; exact ⟨hk, e⟩
    · have := hs i k (by omega) hk
      rw [e] at this
      exact absurd this (h2 i (Nat.le_refl _) (by omega))
  · rintro ⟨h, e⟩
    exact ⟨i, h, e⟩
def putU (l : List Ud) (u : Ud) : List Ud :=
  if uOk u = false then l else if hasU l u.1 = false then l.take (lowU l u.1) ++ u :: l.drop (lowU l u.1) else if (l.getD (lowU l u.1) z3).2 ≥ u.2 then l else l.set (lowU l u.1) u
def mergeU : List Ud → List Ud → List Ud
  | [], b => b
  | x :: a, [] => x :: a
  | x :: a, y :: b => if dcmp x.1 y.1 < 0 then x :: mergeU a (y :: b) else if dcmp x.1 y.1 > 0 then y :: mergeU (x :: a) b else (x.1, max x.2 y.2) :: mergeU a b
termination_by a b => a.length + b.length
def overU (a b : List Ud) : List Ud := a.filter fun u => decide (u.2 > getU b u.1)
/-- The document's Put, one step. -/
def pStep (u : Ud) (st : List Ud × Bool) (x : Ud) : List Ud × Bool :=
  let s1 := if !st.2 && decide (dcmp u.1 x.1 ≤ 0) then (st.1 ++ [u], true) else st
  if dcmp u.1 x.1 ≠ 0 then (s1.1 ++ [x], s1.2) else s1
def rPut (l : List Ud) (u : Ud) : List Ud :=
  if uOk u = false ∨ getU l u.1 ≥ u.2 then l else let st := l.foldl (pStep u) ([], false); if st.2 = true then st.1 else st.1 ++ [u]
def rJoin (a b : List Ud) : List Ud := b.foldl rPut a
def raiseU (l : List Ud) (d : Dt) : Ud × Int := if dotOk d = false then (z3, 2) else if getU l d ≥ 64 then (z3, 14) else ((d, getU l d + 1), 0)
end Go.AR
