import Derived.Test.YteombjhaanohiaaSp05
set_option linter.all false
/-! The document's vectors: join, right; and the count. -/
namespace Go.AR
open Go
section
variable {C : CallRel} {F : Nat → FuncId}
theorem getE {a : List Int} {i : Nat} (h : i < a.length) : a[i]? = some (a.getD i 0) := by
  rw [List.getD_eq_getElem?_getD, List.getElem?_eq_getElem h]; rfl
/-- A list whose first numbers are another one's. -/
def Upto (i : Nat) (c t s : List Int) : Prop := c.length = 16 ∧ ∀ j, c[j]? = if j < i then t[j]? else s[j]?
theorem Upto.next {i : Nat} {c t s : List Int} (h : Upto i c t s) (hi : i < 16) {x : Int} (hx : t[i]? = some x) : Upto (i + 1) (c.set i x) t s := by
  obtain ⟨h1, h2⟩ := h
  refine ⟨by simpa using h1, fun j => ?_⟩
  rw [List.getElem?_set]
  split
  · rename_i e; subst e
    rw [if_pos (by omega), if_pos (by omega), hx]
  · rw [h2 j]
    by_cases hji : j < i
    · rw [if_pos hji, if_pos (by omega)]
    · rw [if_neg hji, if_neg (by omega)]
theorem Upto.same {i : Nat} {c t s : List Int} (h : Upto i c t s) (hx : t[i]? = s[i]?) : Upto (i + 1) c t s := by
  obtain ⟨h1, h2⟩ := h
  refine ⟨h1, fun j => ?_⟩
  rw [h2 j]
  by_cases hji : j < i
  · rw [if_pos hji, if_pos (by omega)]
  · rw [if_neg hji]
    by_cases e : j = i
    · subst e; rw [if_pos (by omega), hx]
    · rw [if_neg (by omega)]
theorem Upto.done {c t s : List Int} (h : Upto 16 c t s) (ht : t.length = 16) : c = t := by
  apply List.ext_getElem?
  intro j
  by_cases hj : j < 16
  · rw [h.2 j, if_pos hj]
  · rw [List.getElem?_eq_none (by have := h.1; omega), List.getElem?_eq_none (by omega)]
theorem g_pref05_Join : S_vec_op ((c_pref05_Join F).gives C) max := by
  intro a b ha hb
  refine gives_of rfl ?_
  unfold c_pref05_Join
  simp only [walk, Nat.reduceLT, Nat.reduceBEq, Nat.reduceAdd, Nat.reduceLeDiff, reduceIte, Int.reduceLT, Int.reduceLE, Int.reduceEq, Int.reduceToNat, Int.reduceBEq, ha, hb]
  refine awp_loop_ind (X := Nat × List Int) (fun x => ⟨[(0, .val (vecP a)), (1, .val (vecP b)), (2, .lp 2 0), (3, .lp 3 0), (4, .lp 4 0), (5, .lp 5 0), (6, .val (.int .i64 x.1))],
      [(2, .cells ((a.map (.int .i64)).map .val)), (3, .cells ((b.map (.int .i64)).map .val)), (4, .cells (List.replicate 16 (.val (.int .i64 0)))), (5, .cells ((x.2.map (.int .i64)).map .val))]⟩)
    (fun x => x.1 ≤ 16 ∧ Upto x.1 x.2 (List.zipWith max a b) a) (fun x => 16 - x.1) (0, a) ⟨by omega, ha, by simp⟩ rfl ?_
  rintro R ⟨i, c⟩ ⟨hi, hu⟩ ih
  simp only at hi hu ih ⊢
  simp only [walk, Nat.reduceLT, Nat.reduceBEq, Nat.reduceAdd, Nat.reduceLeDiff, reduceIte, Int.reduceLT, Int.reduceLE, Int.reduceEq, Int.reduceToNat, Int.reduceBEq]
  by_cases h : i = 16
  · have h1 : ¬ ((i : Int) < 16) := by omega
    subst h
    have e := hu.done (by simp [ha, hb])
    simp only [h1, walk, Nat.reduceLT, Nat.reduceBEq, Nat.reduceAdd, Nat.reduceLeDiff, reduceIte, Int.reduceLT, Int.reduceLE, Int.reduceEq, Int.reduceToNat, Int.reduceBEq, hu.1]
    rw [e]
  · have h1 : ((i : Int) < 16) := by omega
    have h0 : i < 16 := by omega
    have h2 := getE (a := a) (i := i) (by omega)
    have h3 := getE (a := b) (i := i) (by omega)
    have hz : (List.zipWith max a b)[i]? = some (max (a.getD i 0) (b.getD i 0)) := by rw [List.getElem?_zipWith, h2, h3]
    have hc := hu.1
    simp only [h1, h2, h3, walk, Nat.reduceLT, Nat.reduceBEq, Nat.reduceAdd, Nat.reduceLeDiff, reduceIte, Int.reduceLT, Int.reduceLE, Int.reduceEq, Int.reduceToNat, Int.reduceBEq]
    by_cases h4 : b.getD i 0 > a.getD i 0
    · simp only [h0, h1, h2, h3, h4, hc, walk, Nat.reduceLT, Nat.reduceBEq, Nat.reduceAdd, Nat.reduceLeDiff, reduceIte, Int.reduceLT, Int.reduceLE, Int.reduceEq, Int.reduceToNat, Int.reduceBEq]
      rw [wrap64 (by omega) (by omega)]
      refine ih (i + 1, c.set i (b.getD i 0)) ⟨by simp only; omega, ?_⟩ (by simp only; omega)
      exact hu.next h0 (by rw [hz]; congr 1; omega)
    · simp only [h0, h1, h2, h3, h4, hc, walk, Nat.reduceLT, Nat.reduceBEq, Nat.reduceAdd, Nat.reduceLeDiff, reduceIte, Int.reduceLT, Int.reduceLE, Int.reduceEq, Int.reduceToNat, Int.reduceBEq]
      rw [wrap64 (by omega) (by omega)]
      refine ih (i + 1, c) ⟨by simp only; omega, ?_⟩ (by simp only; omega)
      exact hu.same (by rw [hz, h2]; congr 1; omega)
def okN (x : Int) : Bool := decide (0 ≤ x) && decide (x ≤ 1048576)
def rightV (v : List Int) : Bool := v.all okN
def S_vec_Right (R : Rel) : Prop := ∀ v : List Int, v.length = 16 → R [.v (vecP v)] (.val (.bool (rightV v))) []
theorem rightV_of {v : List Int} (hv : v.length = 16) (h : ∀ j, j < 16 → okN (v.getD j 0) = true) : rightV v = true := by
  unfold rightV
  rw [List.all_eq_true]
  intro x hx
  obtain ⟨j, hj⟩ := List.mem_iff_getElem?.1 hx
  have hlt : j < v.length := (List.getElem?_eq_some_iff.1 hj).1
  have := h j (by omega)
  rw [List.getD_eq_getElem?_getD, hj] at this
  exact this
theorem rightV_not {v : List Int} {j : Nat} (hv : v.length = 16) (hj : j < 16) (h : okN (v.getD j 0) = false) : rightV v = false := by
  unfold rightV
  rw [← Bool.not_eq_true, List.all_eq_true]
  intro hh
  have := hh (v.getD j 0) (List.mem_iff_getElem?.2 ⟨j, getE (by omega)⟩)
  rw [h] at this; cases this
theorem g_pref05_Right : S_vec_Right ((c_pref05_Right F).gives C) := by
  intro v hv
  refine gives_of rfl ?_
  unfold c_pref05_Right
  simp only [walk, Nat.reduceLT, Nat.reduceBEq, Nat.reduceAdd, Nat.reduceLeDiff, reduceIte, Int.reduceLT, Int.reduceLE, Int.reduceEq, Int.reduceToNat, Int.reduceBEq]
  refine awp_loop_ind (X := Nat) (fun i => ⟨[(0, .val (vecP v)), (1, .lp 1 0), (2, .val (.bool false)), (3, .val (.int .i64 i))], [(1, .cells ((v.map (.int .i64)).map .val))]⟩)
    (fun i => i ≤ 16 ∧ ∀ j, j < i → okN (v.getD j 0) = true) (fun i => 16 - i) 0 ⟨by omega, by intro j hj; omega⟩ rfl ?_
  rintro R i ⟨hi, hj⟩ ih
  simp only [walk, Nat.reduceLT, Nat.reduceBEq, Nat.reduceAdd, Nat.reduceLeDiff, reduceIte, Int.reduceLT, Int.reduceLE, Int.reduceEq, Int.reduceToNat, Int.reduceBEq]
  by_cases h : i = 16
  · have h1 : ¬ ((i : Int) < 16) := by omega
    have e : rightV v = true := rightV_of hv (fun j h => hj j (by omega))
    simp only [h1, e, walk, Nat.reduceLT, Nat.reduceBEq, Nat.reduceAdd, Nat.reduceLeDiff, reduceIte, Int.reduceLT, Int.reduceLE, Int.reduceEq, Int.reduceToNat, Int.reduceBEq]
  · have h1 : ((i : Int) < 16) := by omega
    have h2 := getE (a := v) (i := i) (by omega)
    by_cases h3 : v.getD i 0 < 0
    · have e : rightV v = false := rightV_not hv (j := i) (by omega) (by unfold okN; rw [← Bool.not_eq_true, Bool.and_eq_true, decide_eq_true_eq]; omega)
      simp only [h1, h2, h3, e, walk, Nat.reduceLT, Nat.reduceBEq, Nat.reduceAdd, Nat.reduceLeDiff, reduceIte, Int.reduceLT, Int.reduceLE, Int.reduceEq, Int.reduceToNat, Int.reduceBEq]
    · by_cases h4 : v.getD i 0 > 1048576
      · have e : rightV v = false := rightV_not hv (j := i) (by omega) (by unfold okN; rw [← Bool.not_eq_true, Bool.and_eq_true, decide_eq_true_eq, decide_eq_true_eq]; omega)
        simp only [h1, h2, h3, h4, e, walk, Nat.reduceLT, Nat.reduceBEq, Nat.reduceAdd, Nat.reduceLeDiff, reduceIte, Int.reduceLT, Int.reduceLE, Int.reduceEq, Int.reduceToNat, Int.reduceBEq]
      · simp only [h1, h2, h3, h4, walk, Nat.reduceLT, Nat.reduceBEq, Nat.reduceAdd, Nat.reduceLeDiff, reduceIte, Int.reduceLT, Int.reduceLE, Int.reduceEq, Int.reduceToNat, Int.reduceBEq]
        rw [wrap64 (by omega) (by omega)]
        refine ih (i + 1) ⟨by omega, fun j hj' => ?_⟩ (by omega)
        by_cases hji : j = i
        · subst hji; unfold okN; rw [Bool.and_eq_true, decide_eq_true_eq, decide_eq_true_eq]; omega
        · exact hj j (by omega)
end
end Go.AR
