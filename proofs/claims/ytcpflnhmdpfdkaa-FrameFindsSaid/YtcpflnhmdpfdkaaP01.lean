import Derived.Test.YtcpflnhmdpfdkaaS01
set_option linter.all false
/-! Chapter 01: plain facts on sums, and the laws. -/
namespace Go.AR
open Go
theorem more_more (s t : List UInt8) : more (more 0 s) t = more 0 (s ++ t) := by
  unfold more
  rw [BitVec.not_not, crc_append]
theorem sealed_len (s : List UInt8) : (sealed s).length = s.length + 4 := by simp [sealed, bytes4]
theorem open_sealed (s : List UInt8) : openL (sealed s) = (s, true) := by
  unfold openL
  rw [if_neg (by rw [sealed_len]; omega), sealed_len, Nat.add_sub_cancel]
  have e1 : (sealed s).take s.length = s := by simp [sealed]
  have e2 : (sealed s).drop s.length = bytes4 (more 0 s) := by simp [sealed]
  rw [e1, e2, if_pos rfl]
theorem bytes4_inj {a b : BitVec 32} (h : bytes4 a = bytes4 b) : a = b := by
  simp only [bytes4, List.cons.injEq, and_true] at h
  obtain ⟨h0, h1, h2, h3⟩ := h
  have f : ∀ n m : Nat, UInt8.ofNat n = UInt8.ofNat m → n % 256 = m % 256 := fun n m e => by
    have := congrArg UInt8.toNat e
    simpa using this
  have g0 := f _ _ h0; have g1 := f _ _ h1; have g2 := f _ _ h2; have g3 := f _ _ h3
  simp only [BitVec.toNat_ushiftRight, Nat.shiftRight_eq_div_pow] at g1 g2 g3
  have ha := a.isLt; have hb := b.isLt
  apply BitVec.eq_of_toNat_eq
  omega
theorem changed_out (l : List UInt8) (a : Int) (x : UInt8) (h : a < 0 ∨ (l.length : Int) ≤ a) : changed l a x = l := by
  unfold changed
  apply List.ext_getElem?
  intro i
  rw [List.getElem?_mapIdx]
  by_cases hi : i < l.length
  · rw [List.getElem?_eq_getElem hi]
    simp only [Option.map_some]
    rw [if_neg (by omega)]
  · rw [List.getElem?_eq_none (by omega)]; rfl
theorem changed_app (l r : List UInt8) (a : Int) (x : UInt8) : changed (l ++ r) a x = changed l a x ++ changed r (a - l.length) x := by
  unfold changed
  rw [List.mapIdx_append]
  congr 1
  apply List.ext_getElem?
  intro i
  simp only [List.getElem?_mapIdx]
  cases r[i]? with
  | none => rfl
  | some w =>
    simp only [Option.map_some]
    by_cases h : ((i : Nat) : Int) = a - l.length
    · rw [if_pos (by omega), if_pos h]
    · rw [if_neg (by omega), if_neg h]
theorem changed_in (l : List UInt8) {i : Nat} (h : i < l.length) (x : UInt8) : changed l i x = l.take i ++ (l[i] ^^^ x) :: l.drop (i + 1) := by
  have e : l = l.take i ++ ([l[i]] ++ l.drop (i + 1)) := by simp
  have hl : (l.take i).length = i := by simp; omega
  conv => lhs; rw [e]
  rw [changed_app, changed_app, changed_out (l.take i) _ _ (by right; omega), changed_out (l.drop (i + 1)) _ _ (by left; simp; omega), hl]
  simp [changed]
theorem xor_ne {v x : UInt8} (h : x ≠ 0) : v ^^^ x ≠ v := by
  intro e
  apply h
  have := congrArg (v ^^^ ·) e
  simpa [← UInt8.xor_assoc] using this
theorem crc_changed (l : List UInt8) {i : Nat} (h : i < l.length) {x : UInt8} (hx : x ≠ 0) (c : BitVec 32) : crc c (changed l i x) ≠ crc c l := by
  rw [changed_in l h]
  intro e
  conv at e => rhs; rw [show l = l.take i ++ l[i] :: l.drop (i + 1) by simp]
  rw [crc_append, crc_append] at e
  exact xor_ne hx (byteS_inj2 (crc_inj (l.drop (i + 1)) e))
theorem more_changed (l : List UInt8) (a : Int) {x : UInt8} (hx : x ≠ 0) (h0 : 0 ≤ a) (h1 : a < l.length) : more 0 (changed l a x) ≠ more 0 l := by
  obtain ⟨i, rfl⟩ := Int.eq_ofNat_of_zero_le h0
  intro e
  unfold more at e
  have e' := congrArg (~~~ ·) e
  simp only [BitVec.not_not] at e'
  exact crc_changed l (by omega) hx _ e'
theorem changed_ne (l : List UInt8) (a : Int) {x : UInt8} (hx : x ≠ 0) (h0 : 0 ≤ a) (h1 : a < l.length) : changed l a x ≠ l := fun e => more_changed l a hx h0 h1 (by rw [e])
theorem open_changed (s : List UInt8) (a : Int) {x : UInt8} (hx : x ≠ 0) : (openL (changed (sealed s) a x)).2 = (decide (a < 0) || decide (a ≥ (sealed s).length)) := by
  by_cases ho : a < 0 ∨ ((sealed s).length : Int) ≤ a
  · rw [changed_out _ _ _ ho, open_sealed]
    rcases ho with h | h
    · simp [h]
    · have : a ≥ ((sealed s).length : Int) := h
      simp [this]
  · have h0 : ¬ a < 0 := fun h => ho (.inl h)
    have h1 : ¬ a ≥ ((sealed s).length : Int) := fun h => ho (.inr h)
    simp only [h0, h1, decide_false, Bool.or_self]
    rw [sealed_len] at h1
    unfold openL
    rw [changed_len, sealed_len, if_neg (by omega), Nat.add_sub_cancel]
    have e1 : (changed (sealed s) a x).take s.length = changed s a x := by
      rw [sealed, changed_app, List.take_left' (changed_len s a x)]
    have e2 : (changed (sealed s) a x).drop s.length = changed (bytes4 (more 0 s)) (a - s.length) x := by
      rw [sealed, changed_app, List.drop_left' (changed_len s a x)]
    rw [e1, e2, if_neg]
    intro e
    by_cases hs : a < s.length
    · rw [changed_out (bytes4 (more 0 s)) _ _ (by left; omega)] at e
      exact more_changed s a hx (by omega) hs (bytes4_inj e)
    · rw [changed_out s _ _ (by right; omega)] at e
      exact changed_ne (bytes4 (more 0 s)) (a - s.length) hx (by omega) (by rw [bytes4_len]; omega) e.symm
section
variable {C : CallRel} {F : Nat → FuncId}
def S_lawStrU32 (R : Rel) : Prop := ∀ (s : List UInt8) (n : BitVec 32), s.length ≤ 9223372036854775807 → R [.v (.str s), .v (u32P n)] (.val (.bool true)) []
theorem g_SumTells (hA : S_yes (C (F n_plaw01_awake))) (o1 : S_of (C (F n_sum_Of))) (o2 : S_of (C (F n_pref01_Of))) (m1 : S_more (C (F n_sum_More))) (m2 : S_more (C (F n_pref01_More)))
    (b1 : S_bytes (C (F n_sum_Bytes))) (b2 : S_bytes (C (F n_pref01_Bytes))) : S_lawStrU32 ((c_plaw01_SumTells F).gives C) := by
  intro s n hs
  refine gives_of rfl ?_
  unfold c_plaw01_SumTells
  simp only [walk, Nat.reduceLT, Nat.reduceBEq, Nat.reduceAdd, Nat.reduceLeDiff, reduceIte, Int.reduceLT, Int.reduceLE, Int.reduceEq, Int.reduceToNat, Int.reduceBEq]
  by_cases h : (s.length : Int) > 2000
  · simp only [h, walk, Nat.reduceLT, Nat.reduceBEq, Nat.reduceAdd, Nat.reduceLeDiff, reduceIte, Int.reduceLT, Int.reduceLE, Int.reduceEq, Int.reduceToNat, Int.reduceBEq]
    refine callWp_of hA ?_
    simp only [walk, Nat.reduceLT, Nat.reduceBEq, Nat.reduceAdd, Nat.reduceLeDiff, reduceIte, Int.reduceLT, Int.reduceLE, Int.reduceEq, Int.reduceToNat, Int.reduceBEq]
  · simp only [h, walk, Nat.reduceLT, Nat.reduceBEq, Nat.reduceAdd, Nat.reduceLeDiff, reduceIte, Int.reduceLT, Int.reduceLE, Int.reduceEq, Int.reduceToNat, Int.reduceBEq]
    refine callWp_of (o1 s hs) ?_
    simp only [walk, Nat.reduceLT, Nat.reduceBEq, Nat.reduceAdd, Nat.reduceLeDiff, reduceIte, Int.reduceLT, Int.reduceLE, Int.reduceEq, Int.reduceToNat, Int.reduceBEq]
    refine callWp_of (o2 s hs) ?_
    simp only [beq_self_eq_true, walk, Nat.reduceLT, Nat.reduceBEq, Nat.reduceAdd, Nat.reduceLeDiff, reduceIte, Int.reduceLT, Int.reduceLE, Int.reduceEq, Int.reduceToNat, Int.reduceBEq]
    refine callWp_of (m1 n s hs) ?_
    simp only [walk, Nat.reduceLT, Nat.reduceBEq, Nat.reduceAdd, Nat.reduceLeDiff, reduceIte, Int.reduceLT, Int.reduceLE, Int.reduceEq, Int.reduceToNat, Int.reduceBEq]
    refine callWp_of (m2 n s hs) ?_
    simp only [beq_self_eq_true, walk, Nat.reduceLT, Nat.reduceBEq, Nat.reduceAdd, Nat.reduceLeDiff, reduceIte, Int.reduceLT, Int.reduceLE, Int.reduceEq, Int.reduceToNat, Int.reduceBEq]
    refine callWp_of (b1 n) ?_
    simp only [walk, Nat.reduceLT, Nat.reduceBEq, Nat.reduceAdd, Nat.reduceLeDiff, reduceIte, Int.reduceLT, Int.reduceLE, Int.reduceEq, Int.reduceToNat, Int.reduceBEq]
    refine callWp_of (b2 n) ?_
    simp only [beq_self_eq_true, walk, Nat.reduceLT, Nat.reduceBEq, Nat.reduceAdd, Nat.reduceLeDiff, reduceIte, Int.reduceLT, Int.reduceLE, Int.reduceEq, Int.reduceToNat, Int.reduceBEq]
    refine callWp_of hA ?_
    simp only [walk, Nat.reduceLT, Nat.reduceBEq, Nat.reduceAdd, Nat.reduceLeDiff, reduceIte, Int.reduceLT, Int.reduceLE, Int.reduceEq, Int.reduceToNat, Int.reduceBEq]
def S_lawStr2 (R : Rel) : Prop := ∀ (s t : List UInt8), R [.v (.str s), .v (.str t)] (.val (.bool true)) []
theorem g_SumGoes (hA : S_yes (C (F n_plaw01_awake))) (o1 : S_of (C (F n_sum_Of))) (m1 : S_more (C (F n_sum_More))) : S_lawStr2 ((c_plaw01_SumGoes F).gives C) := by
  intro s t
  refine gives_of rfl ?_
  unfold c_plaw01_SumGoes
  simp only [walk, Nat.reduceLT, Nat.reduceBEq, Nat.reduceAdd, Nat.reduceLeDiff, reduceIte, Int.reduceLT, Int.reduceLE, Int.reduceEq, Int.reduceToNat, Int.reduceBEq]
  by_cases h : (s.length : Int) > 2000
  · simp only [h, walk, Nat.reduceLT, Nat.reduceBEq, Nat.reduceAdd, Nat.reduceLeDiff, reduceIte, Int.reduceLT, Int.reduceLE, Int.reduceEq, Int.reduceToNat, Int.reduceBEq]
    refine callWp_of hA ?_
    simp only [walk, Nat.reduceLT, Nat.reduceBEq, Nat.reduceAdd, Nat.reduceLeDiff, reduceIte, Int.reduceLT, Int.reduceLE, Int.reduceEq, Int.reduceToNat, Int.reduceBEq]
  · by_cases h2 : (t.length : Int) > 2000
    · simp only [h, h2, walk, Nat.reduceLT, Nat.reduceBEq, Nat.reduceAdd, Nat.reduceLeDiff, reduceIte, Int.reduceLT, Int.reduceLE, Int.reduceEq, Int.reduceToNat, Int.reduceBEq]
      refine callWp_of hA ?_
      simp only [walk, Nat.reduceLT, Nat.reduceBEq, Nat.reduceAdd, Nat.reduceLeDiff, reduceIte, Int.reduceLT, Int.reduceLE, Int.reduceEq, Int.reduceToNat, Int.reduceBEq]
    · simp only [h, h2, walk, Nat.reduceLT, Nat.reduceBEq, Nat.reduceAdd, Nat.reduceLeDiff, reduceIte, Int.reduceLT, Int.reduceLE, Int.reduceEq, Int.reduceToNat, Int.reduceBEq]
      refine callWp_of (o1 s (by omega)) ?_
      simp only [walk, Nat.reduceLT, Nat.reduceBEq, Nat.reduceAdd, Nat.reduceLeDiff, reduceIte, Int.reduceLT, Int.reduceLE, Int.reduceEq, Int.reduceToNat, Int.reduceBEq]
      refine callWp_of (m1 _ t (by omega)) ?_
      simp only [walk, Nat.reduceLT, Nat.reduceBEq, Nat.reduceAdd, Nat.reduceLeDiff, reduceIte, Int.reduceLT, Int.reduceLE, Int.reduceEq, Int.reduceToNat, Int.reduceBEq]
      rw [bins_add (by omega)]
      simp only [walk, Nat.reduceLT, Nat.reduceBEq, Nat.reduceAdd, Nat.reduceLeDiff, reduceIte, Int.reduceLT, Int.reduceLE, Int.reduceEq, Int.reduceToNat, Int.reduceBEq]
      refine callWp_of (o1 (s ++ t) (by simp; omega)) ?_
      rw [more_more]
      simp only [beq_self_eq_true, walk, Nat.reduceLT, Nat.reduceBEq, Nat.reduceAdd, Nat.reduceLeDiff, reduceIte, Int.reduceLT, Int.reduceLE, Int.reduceEq, Int.reduceToNat, Int.reduceBEq]
      refine callWp_of hA ?_
      simp only [walk, Nat.reduceLT, Nat.reduceBEq, Nat.reduceAdd, Nat.reduceLeDiff, reduceIte, Int.reduceLT, Int.reduceLE, Int.reduceEq, Int.reduceToNat, Int.reduceBEq]
def S_lawStr1 (R : Rel) : Prop := ∀ (s : List UInt8), R [.v (.str s)] (.val (.bool true)) []
theorem g_SumOpens (hA : S_yes (C (F n_plaw01_awake))) (hS : S_strstr (C (F n_sum_Sealed)) sealed) (o1 : S_open (C (F n_sum_Open))) (o2 : S_open (C (F n_pref01_Open))) : S_lawStr1 ((c_plaw01_SumOpens F).gives C) := by
  intro s
  refine gives_of rfl ?_
  unfold c_plaw01_SumOpens
  simp only [walk, Nat.reduceLT, Nat.reduceBEq, Nat.reduceAdd, Nat.reduceLeDiff, reduceIte, Int.reduceLT, Int.reduceLE, Int.reduceEq, Int.reduceToNat, Int.reduceBEq]
  by_cases h : (s.length : Int) > 2000
  · simp only [h, walk, Nat.reduceLT, Nat.reduceBEq, Nat.reduceAdd, Nat.reduceLeDiff, reduceIte, Int.reduceLT, Int.reduceLE, Int.reduceEq, Int.reduceToNat, Int.reduceBEq]
    refine callWp_of hA ?_
    simp only [walk, Nat.reduceLT, Nat.reduceBEq, Nat.reduceAdd, Nat.reduceLeDiff, reduceIte, Int.reduceLT, Int.reduceLE, Int.reduceEq, Int.reduceToNat, Int.reduceBEq]
  · simp only [h, walk, Nat.reduceLT, Nat.reduceBEq, Nat.reduceAdd, Nat.reduceLeDiff, reduceIte, Int.reduceLT, Int.reduceLE, Int.reduceEq, Int.reduceToNat, Int.reduceBEq]
    refine callWp_of (hS s (by omega)) ?_
    simp only [walk, Nat.reduceLT, Nat.reduceBEq, Nat.reduceAdd, Nat.reduceLeDiff, reduceIte, Int.reduceLT, Int.reduceLE, Int.reduceEq, Int.reduceToNat, Int.reduceBEq]
    refine callWp_of (o1 _ (by rw [sealed_len]; omega)) ?_
    rw [open_sealed]
    simp only [walk, Nat.reduceLT, Nat.reduceBEq, Nat.reduceAdd, Nat.reduceLeDiff, reduceIte, Int.reduceLT, Int.reduceLE, Int.reduceEq, Int.reduceToNat, Int.reduceBEq]
    refine callWp_of (o1 s (by omega)) ?_
    simp only [walk, Nat.reduceLT, Nat.reduceBEq, Nat.reduceAdd, Nat.reduceLeDiff, reduceIte, Int.reduceLT, Int.reduceLE, Int.reduceEq, Int.reduceToNat, Int.reduceBEq]
    refine callWp_of (o2 s (by omega)) ?_
    simp only [beq_self_eq_true, walk, Nat.reduceLT, Nat.reduceBEq, Nat.reduceAdd, Nat.reduceLeDiff, reduceIte, Int.reduceLT, Int.reduceLE, Int.reduceEq, Int.reduceToNat, Int.reduceBEq]
    refine callWp_of hA ?_
    simp only [walk, Nat.reduceLT, Nat.reduceBEq, Nat.reduceAdd, Nat.reduceLeDiff, reduceIte, Int.reduceLT, Int.reduceLE, Int.reduceEq, Int.reduceToNat, Int.reduceBEq]
def S_lawFinds (R : Rel) : Prop := ∀ (s : List UInt8) (a : Int) (x : UInt8), R [.v (.str s), .v (.int .i64 a), .v (.int .u8 x.toNat)] (.val (.bool true)) []
theorem g_SumFinds (hA : S_yes (C (F n_plaw01_awake))) (hS : S_strstr (C (F n_sum_Sealed)) sealed) (o1 : S_open (C (F n_sum_Open))) (hO : S_of (C (F n_sum_Of))) (hC : S_changed (C (F n_pref01_Changed))) : S_lawFinds ((c_plaw01_SumFinds F).gives C) := by
  intro s a x
  refine gives_of rfl ?_
  unfold c_plaw01_SumFinds
  simp only [walk, Nat.reduceLT, Nat.reduceBEq, Nat.reduceAdd, Nat.reduceLeDiff, reduceIte, Int.reduceLT, Int.reduceLE, Int.reduceEq, Int.reduceToNat, Int.reduceBEq]
  by_cases h : (s.length : Int) > 2000
  · simp only [h, walk, Nat.reduceLT, Nat.reduceBEq, Nat.reduceAdd, Nat.reduceLeDiff, reduceIte, Int.reduceLT, Int.reduceLE, Int.reduceEq, Int.reduceToNat, Int.reduceBEq]
    refine callWp_of hA ?_
    simp only [walk, Nat.reduceLT, Nat.reduceBEq, Nat.reduceAdd, Nat.reduceLeDiff, reduceIte, Int.reduceLT, Int.reduceLE, Int.reduceEq, Int.reduceToNat, Int.reduceBEq]
  · simp only [h, walk, Nat.reduceLT, Nat.reduceBEq, Nat.reduceAdd, Nat.reduceLeDiff, reduceIte, Int.reduceLT, Int.reduceLE, Int.reduceEq, Int.reduceToNat, Int.reduceBEq]
    by_cases hx : x = 0
    · have e : ((x.toNat : Int) == 0) = true := by rw [hx]; rfl
      simp only [e, walk, Nat.reduceLT, Nat.reduceBEq, Nat.reduceAdd, Nat.reduceLeDiff, reduceIte, Int.reduceLT, Int.reduceLE, Int.reduceEq, Int.reduceToNat, Int.reduceBEq]
      refine callWp_of hA ?_
      simp only [walk, Nat.reduceLT, Nat.reduceBEq, Nat.reduceAdd, Nat.reduceLeDiff, reduceIte, Int.reduceLT, Int.reduceLE, Int.reduceEq, Int.reduceToNat, Int.reduceBEq]
    · have e : ((x.toNat : Int) == 0) = false := by
        rw [← Bool.not_eq_true, beq_iff_eq]
        intro e
        exact hx (UInt8.toNat_inj.1 (by simpa using e))
      have hl : (sealed s).length ≤ 1000000000 := by rw [sealed_len]; omega
      have e2 := open_changed s a hx
      have tail : ∀ b : Bool, b = (decide (a < 0) || decide (a ≥ (sealed s).length)) → (b == (decide (a < 0) || decide (a ≥ (sealed s).length))) = true := fun b e => by rw [e]; exact beq_self_eq_true _
      simp only [e, walk, Nat.reduceLT, Nat.reduceBEq, Nat.reduceAdd, Nat.reduceLeDiff, reduceIte, Int.reduceLT, Int.reduceLE, Int.reduceEq, Int.reduceToNat, Int.reduceBEq]
      refine callWp_of (hS s (by omega)) ?_
      simp only [walk, Nat.reduceLT, Nat.reduceBEq, Nat.reduceAdd, Nat.reduceLeDiff, reduceIte, Int.reduceLT, Int.reduceLE, Int.reduceEq, Int.reduceToNat, Int.reduceBEq]
      by_cases h0 : a ≥ 0
      · by_cases h1 : a < s.length
        · have e3 : (((more 0 (changed s a x)).toNat : Int) == ((more 0 s).toNat : Int)) = false := by
            rw [← Bool.not_eq_true, beq_iff_eq]
            intro e
            exact more_changed s a hx h0 h1 (BitVec.eq_of_toNat_eq (by omega))
          simp only [h0, h1, walk, Nat.reduceLT, Nat.reduceBEq, Nat.reduceAdd, Nat.reduceLeDiff, reduceIte, Int.reduceLT, Int.reduceLE, Int.reduceEq, Int.reduceToNat, Int.reduceBEq]
          refine callWp_of (hC s a x (by omega)) ?_
          simp only [walk, Nat.reduceLT, Nat.reduceBEq, Nat.reduceAdd, Nat.reduceLeDiff, reduceIte, Int.reduceLT, Int.reduceLE, Int.reduceEq, Int.reduceToNat, Int.reduceBEq]
          refine callWp_of (hO _ (by rw [changed_len]; omega)) ?_
          simp only [walk, Nat.reduceLT, Nat.reduceBEq, Nat.reduceAdd, Nat.reduceLeDiff, reduceIte, Int.reduceLT, Int.reduceLE, Int.reduceEq, Int.reduceToNat, Int.reduceBEq]
          refine callWp_of (hO s (by omega)) ?_
          simp only [e3, walk, Nat.reduceLT, Nat.reduceBEq, Nat.reduceAdd, Nat.reduceLeDiff, reduceIte, Int.reduceLT, Int.reduceLE, Int.reduceEq, Int.reduceToNat, Int.reduceBEq]
          refine callWp_of (hC (sealed s) a x hl) ?_
          simp only [walk, Nat.reduceLT, Nat.reduceBEq, Nat.reduceAdd, Nat.reduceLeDiff, reduceIte, Int.reduceLT, Int.reduceLE, Int.reduceEq, Int.reduceToNat, Int.reduceBEq]
          refine callWp_of (o1 _ (by rw [changed_len]; exact hl)) ?_
          rw [e2]
          have h2 : ¬ a < 0 := by omega
          have h3 : ¬ a ≥ ((sealed s).length : Int) := by rw [sealed_len]; omega
          simp only [h2, h3, beq_self_eq_true, walk, Nat.reduceLT, Nat.reduceBEq, Nat.reduceAdd, Nat.reduceLeDiff, reduceIte, Int.reduceLT, Int.reduceLE, Int.reduceEq, Int.reduceToNat, Int.reduceBEq]
          refine callWp_of hA ?_
          simp only [walk, Nat.reduceLT, Nat.reduceBEq, Nat.reduceAdd, Nat.reduceLeDiff, reduceIte, Int.reduceLT, Int.reduceLE, Int.reduceEq, Int.reduceToNat, Int.reduceBEq]
        · simp only [h0, h1, walk, Nat.reduceLT, Nat.reduceBEq, Nat.reduceAdd, Nat.reduceLeDiff, reduceIte, Int.reduceLT, Int.reduceLE, Int.reduceEq, Int.reduceToNat, Int.reduceBEq]
          refine callWp_of (hC (sealed s) a x hl) ?_
          simp only [walk, Nat.reduceLT, Nat.reduceBEq, Nat.reduceAdd, Nat.reduceLeDiff, reduceIte, Int.reduceLT, Int.reduceLE, Int.reduceEq, Int.reduceToNat, Int.reduceBEq]
          refine callWp_of (o1 _ (by rw [changed_len]; exact hl)) ?_
          rw [e2]
          have h2 : ¬ a < 0 := by omega
          by_cases h3 : a ≥ ((sealed s).length : Int)
          · simp only [h2, h3, beq_self_eq_true, walk, Nat.reduceLT, Nat.reduceBEq, Nat.reduceAdd, Nat.reduceLeDiff, reduceIte, Int.reduceLT, Int.reduceLE, Int.reduceEq, Int.reduceToNat, Int.reduceBEq]
            refine callWp_of hA ?_
            simp only [walk, Nat.reduceLT, Nat.reduceBEq, Nat.reduceAdd, Nat.reduceLeDiff, reduceIte, Int.reduceLT, Int.reduceLE, Int.reduceEq, Int.reduceToNat, Int.reduceBEq]
          · simp only [h2, h3, beq_self_eq_true, walk, Nat.reduceLT, Nat.reduceBEq, Nat.reduceAdd, Nat.reduceLeDiff, reduceIte, Int.reduceLT, Int.reduceLE, Int.reduceEq, Int.reduceToNat, Int.reduceBEq]
            refine callWp_of hA ?_
            simp only [walk, Nat.reduceLT, Nat.reduceBEq, Nat.reduceAdd, Nat.reduceLeDiff, reduceIte, Int.reduceLT, Int.reduceLE, Int.reduceEq, Int.reduceToNat, Int.reduceBEq]
      · have h2 : a < 0 := by omega
        simp only [h0, walk, Nat.reduceLT, Nat.reduceBEq, Nat.reduceAdd, Nat.reduceLeDiff, reduceIte, Int.reduceLT, Int.reduceLE, Int.reduceEq, Int.reduceToNat, Int.reduceBEq]
        refine callWp_of (hC (sealed s) a x hl) ?_
        simp only [walk, Nat.reduceLT, Nat.reduceBEq, Nat.reduceAdd, Nat.reduceLeDiff, reduceIte, Int.reduceLT, Int.reduceLE, Int.reduceEq, Int.reduceToNat, Int.reduceBEq]
        refine callWp_of (o1 _ (by rw [changed_len]; exact hl)) ?_
        rw [e2]
        simp only [h2, beq_self_eq_true, walk, Nat.reduceLT, Nat.reduceBEq, Nat.reduceAdd, Nat.reduceLeDiff, reduceIte, Int.reduceLT, Int.reduceLE, Int.reduceEq, Int.reduceToNat, Int.reduceBEq]
        refine callWp_of hA ?_
        simp only [walk, Nat.reduceLT, Nat.reduceBEq, Nat.reduceAdd, Nat.reduceLeDiff, reduceIte, Int.reduceLT, Int.reduceLE, Int.reduceEq, Int.reduceToNat, Int.reduceBEq]
end
end Go.AR
