import Derived.Test.YtmplidjdcmfeaaaDoorG30
set_option linter.all false
/-! Chapter 2's laws. -/
namespace Go.AR
open Go
section
variable {C : CallRel} {F : Nat → FuncId}
theorem scan_vint (pre rest : List UInt8) : ∀ (k i m acc : Nat), pre.length = i → m < 128 ^ k → (1 ≤ m ∨ i = 0 ∧ 1 ≤ k) → ∀ pre2 : List UInt8, pre2.length = i → scanI (pre2 ++ (vint m ++ rest)) k i acc = (((acc + m * 128 ^ i : Nat) : Int), i + (vint m).length, 0) := by
  intro k
  induction k generalizing pre with
  | zero =>
    intro i m acc _ hm h1 pre2 hp
    simp at hm
    omega
  | succ k ih =>
    intro i m acc hpre hm h1 pre2 hp
    unfold scanI
    by_cases h : m < 128
    · rw [vint_lt h, List.getElem?_append_right (by omega), hp, Nat.sub_self]
      simp only [List.cons_append, List.getElem?_cons_zero, List.nil_append]
      have e : (UInt8.ofNat m).toNat = m := by simp; omega
      rw [e, if_pos h, if_neg (by omega)]
      rfl
    · rw [vint_ge h, List.getElem?_append_right (by omega), hp, Nat.sub_self]
      simp only [List.cons_append, List.getElem?_cons_zero]
      have e : (UInt8.ofNat (m % 128 + 128)).toNat = m % 128 + 128 := by simp; omega
      rw [e, if_neg (by omega)]
      have := ih (pre := pre2 ++ [UInt8.ofNat (m % 128 + 128)]) (i + 1) (m / 128) (acc + (m % 128 + 128 - 128) * 128 ^ i) (by simp [hp]) (by rw [Nat.pow_succ] at hm; omega) (.inl (by omega)) (pre2 ++ [UInt8.ofNat (m % 128 + 128)]) (by simp [hp])
      rw [List.append_assoc] at this
      simp only [List.cons_append, List.nil_append] at this
      rw [this]
      simp only [List.length_cons]
      have e2 : acc + (m % 128 + 128 - 128) * 128 ^ i + m / 128 * 128 ^ (i + 1) = acc + m * 128 ^ i := by
        rw [Nat.pow_succ, Nat.mul_comm (128 ^ i), ← Nat.mul_assoc, Nat.add_assoc, ← Nat.add_mul]
        congr 2; omega
      rw [e2, Nat.add_assoc, Nat.add_comm 1]
theorem readI_vint (m : Nat) (h : m < 72057594037927936) (rest : List UInt8) : readI (vint m ++ rest) = ((m : Int), (vint m).length, 0) := by
  have := scan_vint [] rest 8 0 m 0 rfl (by omega) (.inr ⟨rfl, by decide⟩) [] rfl
  simpa [readI] using this
theorem rI_vint (m : Nat) (h : m < 72057594037927936) (rest : List UInt8) : rI (vint m ++ rest) 0 = ((m : Int), rest, 0) := by
  unfold rI
  rw [if_pos rfl, readI_vint m h rest]
  simp
theorem rText_pText (s rest : List UInt8) (h : s.length < 72057594037927936) : rText (pText s ++ rest) 0 = (s, rest, 0) := by
  unfold rText pText
  rw [List.append_assoc, rI_vint _ h]
  simp
  omega
/-- What was read is just what it is told as. -/
theorem scan_back (s : List UInt8) : ∀ (k i acc : Nat) (v : Int) (j : Nat), scanI s k i acc = (v, j, 0) → ∃ m : Nat, v = ((acc + m * 128 ^ i : Nat) : Int) ∧ i + (vint m).length = j ∧ j ≤ s.length ∧ (s.drop i).take (j - i) = vint m ∧ (1 ≤ m ∨ i = 0)
  | 0, i, acc, v, j, h => by simp [scanI] at h
  | k + 1, i, acc, v, j, h => by
    unfold scanI at h
    split at h
    · simp at h
    · rename_i c hc
      have hi : i < s.length := (List.getElem?_eq_some_iff.1 hc).1
      have hd : s.drop i = c :: s.drop (i + 1) := by
        rw [List.drop_eq_getElem_cons hi]
        congr 1
        exact (List.getElem?_eq_some_iff.1 hc).2
      split at h
      · rename_i hlt
        split at h
        · simp at h
        · rename_i hz
          simp only [Prod.mk.injEq, and_true] at h
          obtain ⟨rfl, rfl⟩ := h
          refine ⟨c.toNat, rfl, by rw [vint_lt hlt]; rfl, by omega, ?_, by omega⟩
          rw [hd, show i + 1 - i = 1 by omega, vint_lt hlt]
          simp
      · rename_i hge
        have hlt := c.toNat_lt
        obtain ⟨m, h1, h2, h3, h4, h5⟩ := scan_back s k (i + 1) _ v j h
        have h6 : ¬ (c.toNat - 128 + 128 * m) < 128 := by omega
        have e1 : (c.toNat - 128 + 128 * m) / 128 = m := by omega
        have e2 : (c.toNat - 128 + 128 * m) % 128 + 128 = c.toNat := by omega
        refine ⟨c.toNat - 128 + 128 * m, ?_, ?_, h3, ?_, by omega⟩
        · rw [h1]
          congr 1
          rw [Nat.pow_succ, Nat.mul_comm (128 ^ i), ← Nat.mul_assoc, Nat.add_mul, Nat.mul_comm 128 m]
          omega
        · rw [vint_ge h6, e1, List.length_cons]; omega
        · rw [hd, vint_ge h6, e1, e2, show j - i = (j - (i + 1)) + 1 by have := vint_pos m; omega, List.take_succ_cons, h4]
          simp
theorem readI_back {s : List UInt8} {v : Int} {j : Nat} (h : readI s = (v, j, 0)) : pInt v = s.take j ∧ (pInt v).length = j ∧ j ≤ s.length := by
  obtain ⟨m, h1, h2, h3, h4, _⟩ := scan_back s 8 0 0 v j h
  have : v.toNat = m := by rw [h1]; simp
  unfold pInt
  rw [this, ← h4]
  simp at h2 ⊢
  omega
theorem rI_back {s : List UInt8} (h : (rI s 0).2.2 = 0) : pInt (rI s 0).1 ++ (rI s 0).2.1 = s := by
  unfold rI at h ⊢
  rw [if_pos rfl] at h ⊢
  generalize hr : readI s = q at h ⊢
  obtain ⟨v, j, e⟩ := q
  simp only at h ⊢
  subst h
  have := (readI_back hr).1
  rw [this, List.take_append_drop]
theorem once {s : List UInt8} (h : (rText (rI s 0).2.1 (rI s 0).2.2).2.2 = 0) : (pInt (rI s 0).1 ++ pText (rText (rI s 0).2.1 (rI s 0).2.2).1) ++ (rText (rI s 0).2.1 (rI s 0).2.2).2.1 = s := by
  have hb : (rI s 0).2.2 = 0 := by
    rw [← Classical.not_not (a := (rI s 0).2.2 = 0)]
    intro hne
    apply hne
    unfold rText at h
    have : rI (rI s 0).2.1 (rI s 0).2.2 = (0, (rI s 0).2.1, (rI s 0).2.2) := by rw [rI, if_neg hne]
    rw [this] at h
    simp only at h
    rw [if_neg hne] at h
    exact h
  have e1 := rI_back hb
  rw [hb] at h ⊢
  generalize (rI s 0).2.1 = s1 at h e1
  generalize (rI s 0).1 = v at e1
  rw [List.append_assoc, ← e1]
  congr 1
  unfold rText at h ⊢
  have hl := rI_lt s1 0
  have e2 := fun h => rI_back (s := s1) h
  generalize rI s1 0 = r at h e2 hl
  obtain ⟨m, s2, b2⟩ := r
  simp only at h e2 hl ⊢
  by_cases h0 : b2 = 0
  · rw [if_pos h0] at h ⊢
    by_cases h1 : m > s2.length
    · rw [if_pos h1] at h; simp at h
    · rw [if_neg h1]
      rw [← e1, ← e2 h0] at *
      simp only [pText]
      rw [List.append_assoc, List.take_append_drop]
      congr 1
      rw [pInt, List.length_take]
      congr 1
      omega
  · rw [if_neg h0] at h
    exact absurd h h0
theorem rText_len (s : List UInt8) (b : Int) : (rText s b).1.length + (rText s b).2.1.length ≤ s.length := by
  have := rI_lt s b
  unfold rText
  generalize rI s b = r at this
  obtain ⟨n, s1, b1⟩ := r
  simp only at this ⊢
  split
  · split
    · simp only [List.length_nil]; omega
    · simp only [List.length_take, List.length_drop]; omega
  · simp only [List.length_nil]; omega
end
end Go.AR
