import Derived.Test.YtillphnjhefioaaG33
import Derived.Test.YtillphnjhefioaaG31
import Derived.Test.YtillphnjhefioaaG30
set_option linter.all false
/-! Transactions in a row. -/
namespace Go.AR
open Go
def riseAt (l : List Tx) (j : Nat) : Bool := j == 0 || decide (dcmp (l.getD (j - 1) zt).d (l.getD j zt).d < 0)
def risesT (l : List Tx) : Bool := (List.range l.length).all (riseAt l)
theorem rise0 (l : List Tx) (j : Nat) (h : j < 1) : riseAt l j = true := by
  have e : j = 0 := by omega
  subst e
  rfl
theorem risesT_iff {l : List Tx} : risesT l = true ↔ ∀ j, j < l.length → riseAt l j = true := by simp [risesT, List.all_eq_true]
theorem risesT_no {l : List Tx} {j : Nat} (hj : j < l.length) (h : riseAt l j = false) : risesT l = false := by
  rw [← Bool.not_eq_true, risesT_iff]
  intro k
  rw [k j hj] at h; cases h
theorem sort_of_rises {l : List Tx} (h : risesT l = true) : sortT l := by
  intro i j hij hj
  induction j with
  | zero => omega
  | succ j ih =>
    have hs : dcmp (l.getD j zt).d (l.getD (j + 1) zt).d < 0 := by
      have := risesT_iff.1 h (j + 1) hj
      simp only [riseAt, Nat.add_sub_cancel, Bool.or_eq_true, beq_iff_eq, decide_eq_true_eq] at this
      rcases this with h | h
      · omega
      · exact h
    by_cases e : i = j
    · subst e; exact hs
    · exact dcmp_trans (ih (by omega) (by omega)) hs
def putT (l : List Tx) (x : Tx) : List Tx := if hasT l x.d = true then l else l.take (lowT l x.d) ++ x :: l.drop (lowT l x.d)
theorem lowT_le (l : List Tx) (d : Dt) : lowT l d ≤ l.length := by unfold lowT; exact List.length_filter_le _ _
section
variable {C : CallRel} {F : Nat → FuncId}
def S_tRises (R : Rel) : Prop := ∀ l : List Tx, l.length ≤ 2000000 → R [.v (tsP l)] (.val (.bool (risesT l))) []
def S_tClone (R : Rel) : Prop := ∀ l : List Tx, l.length ≤ 2000000 → R [.v (tsP l)] (.exc 6 (tRows l)) []
def S_tPut (R : Rel) : Prop := ∀ (l : List Tx) (x : Tx), l.length ≤ 1000000 → sortT l → R [.v (tsP l), .v (tP x)] (.val (tsP (putT l x))) []
theorem g_txn_Put_1 (h : S_dcmp (C (F n_dot_Compare))) : S_tdcmp ((c_txn_Put_1 F).gives C) := by
  intro a e
  refine gives_of rfl ?_
  unfold c_txn_Put_1
  simp only [walk, Nat.reduceLT, Nat.reduceBEq, Nat.reduceAdd, Nat.reduceLeDiff, reduceIte, Int.reduceLT, Int.reduceLE, Int.reduceEq, Int.reduceToNat, Int.reduceBEq]
  refine callWp_of (h a.d e) ?_
  simp only [walk, Nat.reduceLT, Nat.reduceBEq, Nat.reduceAdd, Nat.reduceLeDiff, reduceIte, Int.reduceLT, Int.reduceLE, Int.reduceEq, Int.reduceToNat, Int.reduceBEq]
theorem g_slices_Clone_Txn : S_tClone ((c_slices_Clone_api_Txn_api_Txn F).gives C) := by
  intro l hl
  refine gives_of rfl ?_
  unfold c_slices_Clone_api_Txn_api_Txn
  cases l with
  | nil =>
    have e0 : tsP [] = .sl 6 [] := rfl
    have e1 : tRows [] = [] := rfl
    have hb : (0 + 0) * 64 ≤ 140737488355328 := by decide
    rw [e0, e1]
    simp only [walk, Nat.reduceLT, Nat.reduceBEq, Nat.reduceAdd, Nat.reduceLeDiff, reduceIte, Int.reduceLT, Int.reduceLE, Int.reduceEq, Int.reduceToNat, Int.reduceBEq, hb, List.append_nil, and_self]
  | cons x l =>
    have e0 : tsP (x :: l) = .sl 6 (tCells x :: tRows l) := rfl
    have e1 : tRows (x :: l) = tCells x :: tRows l := rfl
    have hb : (l.length + 1) * 64 ≤ 140737488355328 := by simp only [List.length_cons] at hl; omega
    rw [e0, e1]
    simp only [walk, Nat.reduceLT, Nat.reduceBEq, Nat.reduceAdd, Nat.reduceLeDiff, reduceIte, Int.reduceLT, Int.reduceLE, Int.reduceEq, Int.reduceToNat, Int.reduceBEq, tRows_len, hb, List.nil_append]
theorem g_txn_Put (hB : S_tbs C (C (F n_slices_BinarySearchFunc_api_Txn_api_Txn_api_Dot))) (h1 : S_tdcmp (C (F n_txn_Put_1))) (hc : S_tClone (C (F n_slices_Clone_api_Txn_api_Txn))) (hi : S_Insert 6 64 (C (F n_slices_Insert_api_Txn_api_Txn))) : S_tPut ((c_txn_Put F).gives C) := by
  intro l x hl hs
  refine gives_of rfl ?_
  unfold c_txn_Put putT
  simp only [walk, Nat.reduceLT, Nat.reduceBEq, Nat.reduceAdd, Nat.reduceLeDiff, reduceIte, Int.reduceLT, Int.reduceLE, Int.reduceEq, Int.reduceToNat, Int.reduceBEq]
  refine callWp_of (hB l x.d (F n_txn_Put_1) (by omega) hs h1) ?_
  cases hh : hasT l x.d with
  | true => simp only [walk, Nat.reduceLT, Nat.reduceBEq, Nat.reduceAdd, Nat.reduceLeDiff, reduceIte, Int.reduceLT, Int.reduceLE, Int.reduceEq, Int.reduceToNat, Int.reduceBEq]
  | false =>
    simp only [walk, Nat.reduceLT, Nat.reduceBEq, Nat.reduceAdd, Nat.reduceLeDiff, reduceIte, Int.reduceLT, Int.reduceLE, Int.reduceEq, Int.reduceToNat, Int.reduceBEq, Bool.false_eq_true]
    refine callWp_of (hc l (by omega)) ?_
    have hlo := lowT_le l x.d
    simp only [walk, Nat.reduceLT, Nat.reduceBEq, Nat.reduceAdd, Nat.reduceLeDiff, reduceIte, Int.reduceLT, Int.reduceLE, Int.reduceEq, Int.reduceToNat, Int.reduceBEq]
    refine callWp_of (hi (tRows l) (lowT l x.d) (tCells x) (by rw [tRows_len]; exact hlo) (by rw [tRows_len]; omega) (by rw [tRows_len]; omega)) ?_
    have er : (tRows l).take (lowT l x.d) ++ tCells x :: (tRows l).drop (lowT l x.d) = tRows (l.take (lowT l x.d) ++ x :: l.drop (lowT l x.d)) := by simp [tRows]
    simp only [walk, Nat.reduceLT, Nat.reduceBEq, Nat.reduceAdd, Nat.reduceLeDiff, reduceIte, Int.reduceLT, Int.reduceLE, Int.reduceEq, Int.reduceToNat, Int.reduceBEq]
    rw [show ((tRows l).take (lowT l x.d) ++ [PV.int .i64 x.d.1, .int .i64 x.d.2, .int .i64 x.u, .int .i64 x.t, .bool x.un, osP x.ops] :: (tRows l).drop (lowT l x.d)) = tRows (l.take (lowT l x.d) ++ x :: l.drop (lowT l x.d)) from er]
theorem g_pref12_Rises (h : S_dcmp (C (F n_pref04_Compare))) : S_tRises ((c_pref12_Rises F).gives C) := by
  intro l hl
  refine gives_of rfl ?_
  unfold c_pref12_Rises
  simp only [walk, Nat.reduceLT, Nat.reduceBEq, Nat.reduceAdd, Nat.reduceLeDiff, reduceIte, Int.reduceLT, Int.reduceLE, Int.reduceEq, Int.reduceToNat, Int.reduceBEq]
  refine awp_loop_ind (X := Nat) (fun k => ⟨[(0, .val (tsP l)), (2, .val (.bool false)), (3, .val (.int .i64 k))], []⟩)
    (fun k => 1 ≤ k ∧ ∀ j, j < k → j < l.length → riseAt l j = true) (fun k => l.length - k) 1 ⟨by omega, fun j hj _ => rise0 l j hj⟩ rfl ?_
  rintro R k ⟨hk, hJ⟩ ih
  simp only [walk, Nat.reduceLT, Nat.reduceBEq, Nat.reduceAdd, Nat.reduceLeDiff, reduceIte, Int.reduceLT, Int.reduceLE, Int.reduceEq, Int.reduceToNat, Int.reduceBEq, tRows_len]
  by_cases c : k < l.length
  · have c1 : (k : Int) < l.length := by omega
    have c0 : (0 : Int) ≤ k := by omega
    have e1 : IntKind.i64.wrap ((k : Int) + 1) = ((k + 1 : Nat) : Int) := wrap64 (by omega) (by omega)
    have w1 : IntKind.i64.wrap ((k : Int) - 1) = ((k - 1 : Nat) : Int) := by rw [wrap64 (by omega) (by omega)]; omega
    have c2 : k - 1 < l.length := by omega
    have c3 : ((k - 1 : Nat) : Int) < l.length := by omega
    have c4 : (0 : Int) ≤ ((k - 1 : Nat) : Int) := by omega
    have hat : riseAt l k = decide (dcmp l[k - 1].d l[k].d < 0) := by
      unfold riseAt
      rw [getT_at c, getT_at c2, show (k == 0) = false by rw [beq_eq_false_iff_ne]; omega, Bool.false_or]
    simp only [walk, Nat.reduceLT, Nat.reduceBEq, Nat.reduceAdd, Nat.reduceLeDiff, reduceIte, Int.reduceLT, Int.reduceLE, Int.reduceEq, Int.reduceToNat, Int.reduceBEq, c1, c3, w1, tRows_get c, tRows_get c2, tRows_len]
    refine callWp_of (h l[k - 1].d l[k].d) ?_
    by_cases hd : dcmp l[k - 1].d l[k].d < 0
    · have e2 : (dcmp l[k - 1].d l[k].d != -1) = false := by rw [dcmp_m1.2 hd]; rfl
      simp only [walk, Nat.reduceLT, Nat.reduceBEq, Nat.reduceAdd, Nat.reduceLeDiff, reduceIte, Int.reduceLT, Int.reduceLE, Int.reduceEq, Int.reduceToNat, Int.reduceBEq, e2, e1]
      refine ih (k + 1) ⟨by omega, fun j hj hjl => ?_⟩ (by omega)
      by_cases e : j = k
      · subst e; rw [hat]; simpa using hd
      · exact hJ j (by omega) hjl
    · have e2 : (dcmp l[k - 1].d l[k].d != -1) = true := by
        rw [bne, Bool.not_eq_true', beq_eq_false_iff_ne]
        exact fun e => hd (by omega)
      have hf : risesT l = false := risesT_no c (by rw [hat]; simpa using hd)
      simp only [walk, Nat.reduceLT, Nat.reduceBEq, Nat.reduceAdd, Nat.reduceLeDiff, reduceIte, Int.reduceLT, Int.reduceLE, Int.reduceEq, Int.reduceToNat, Int.reduceBEq, e2, hf]
  · have c1 : ¬ (k : Int) < l.length := by omega
    have ht : risesT l = true := risesT_iff.2 (fun j hj => hJ j (by omega) hj)
    simp only [walk, Nat.reduceLT, Nat.reduceBEq, Nat.reduceAdd, Nat.reduceLeDiff, reduceIte, Int.reduceLT, Int.reduceLE, Int.reduceEq, Int.reduceToNat, Int.reduceBEq, c1, ht]
end
end Go.AR

/-! Transactions in a row, the plain laws. -/
namespace Go.AR
open Go
theorem sortT_pw {l : List Tx} : sortT l ↔ l.Pairwise (fun a b => dcmp a.d b.d < 0) := by
  rw [List.pairwise_iff_getElem]
  constructor
  · intro h i j hi hj hij
    have := h i j hij hj
    rw [getT_at hi, getT_at hj] at this
    exact this
  · intro h i j hij hj
    rw [getT_at (by omega), getT_at hj]
    exact h i j (by omega) hj hij
theorem dcmp_self (d : Dt) : dcmp d d = 0 := dcmp_zero.2 rfl
theorem dcmp_asym {a b : Dt} (h : dcmp a b < 0) : ¬ dcmp b a < 0 := by rw [dcmp_neg] at *; omega
theorem low_ex : ∀ {l : List Tx} (d : Dt), sortT l → ∃ i, i ≤ l.length ∧ (∀ k, k < i → dcmp (l.getD k zt).d d < 0) ∧ ∀ k, i ≤ k → k < l.length → ¬ dcmp (l.getD k zt).d d < 0
  | [], d, _ => ⟨0, by simp, by omega, by simp⟩
  | u :: l, d, hs => by
    have hp := sortT_pw.1 hs
    rw [List.pairwise_cons] at hp
    by_cases hu : dcmp u.d d < 0
    · obtain ⟨i, h1, h2, h3⟩ := low_ex d (sortT_pw.2 hp.2)
      refine ⟨i + 1, by simp; omega, fun k hk => ?_, fun k hk hl => ?_⟩
      · cases k with
        | zero => simpa using hu
        | succ k => simpa using h2 k (by omega)
      · cases k with
        | zero => omega
        | succ k => simpa using h3 k (by omega) (by simpa using hl)
    · refine ⟨0, by omega, by omega, fun k _ hl hc => ?_⟩
      cases k with
      | zero => exact hu (by simpa using hc)
      | succ k =>
        have hl' : k < l.length := by simpa using hl
        simp only [List.getD_cons_succ, getT_at hl'] at hc
        exact hu (dcmp_trans (hp.1 l[k] (List.getElem_mem hl')) hc)
theorem low_spec {l : List Tx} (d : Dt) (hs : sortT l) : (∀ k, k < lowT l d → dcmp (l.getD k zt).d d < 0) ∧ ∀ k, lowT l d ≤ k → k < l.length → ¬ dcmp (l.getD k zt).d d < 0 := by
  obtain ⟨i, h1, h2, h3⟩ := low_ex d hs
  rw [lowT_of h1 h2 h3]
  exact ⟨h2, h3⟩
theorem put_mem {l : List Tx} {x y : Tx} (h : y ∈ putT l x) : y = x ∨ y ∈ l := by
  unfold putT at h
  split at h
  · exact .inr h
  · rcases List.mem_append.1 h with h | h
    · exact .inr (List.mem_of_mem_take h)
    · rcases List.mem_cons.1 h with h | h
      · exact .inl h
      · exact .inr (List.mem_of_mem_drop h)
theorem put_len (l : List Tx) (x : Tx) : (putT l x).length = if hasT l x.d = true then l.length else l.length + 1 := by
  unfold putT
  split
  · rfl
  · have := lowT_le l x.d
    simp; omega
theorem hasT_mem {l : List Tx} {d : Dt} : hasT l d = true ↔ ∃ x, x ∈ l ∧ x.d = d := by
  simp [hasT, List.any_eq_true]
end Go.AR

/-! Transactions in a row: the document's places. -/
namespace Go.AR
open Go
section
variable {C : CallRel} {F : Nat → FuncId}
theorem g_pref12_Find : S_tFind ((c_pref12_Find F).gives C) := by
  intro l d hl hs
  refine gives_of rfl ?_
  unfold c_pref12_Find
  simp only [walk, Nat.reduceLT, Nat.reduceBEq, Nat.reduceAdd, Nat.reduceLeDiff, reduceIte, Int.reduceLT, Int.reduceLE, Int.reduceEq, Int.reduceToNat, Int.reduceBEq]
  refine awp_loop_ind (X := Nat) (fun k => ⟨[(0, .val (tsP l)), (1, .val (dP d)), (3, .lp 3 0), (4, .val (.int .i64 0)), (5, .val (.int .i64 k))], [(3, .cells [.val (.int .i64 d.1), .val (.int .i64 d.2)])]⟩)
    (fun k => k ≤ l.length ∧ ∀ j, j < k → (l.getD j zt).d ≠ d) (fun k => l.length - k) 0 ⟨by omega, by omega⟩ rfl ?_
  rintro R k ⟨hk, hJ⟩ ih
  simp only [walk, Nat.reduceLT, Nat.reduceBEq, Nat.reduceAdd, Nat.reduceLeDiff, reduceIte, Int.reduceLT, Int.reduceLE, Int.reduceEq, Int.reduceToNat, Int.reduceBEq, tRows_len]
  by_cases c : k < l.length
  · have c1 : (k : Int) < l.length := by omega
    have c0 : (0 : Int) ≤ k := by omega
    have e1 : IntKind.i64.wrap ((k : Int) + 1) = ((k + 1 : Nat) : Int) := wrap64 (by omega) (by omega)
    have hat := getT_at c
    simp only [walk, Nat.reduceLT, Nat.reduceBEq, Nat.reduceAdd, Nat.reduceLeDiff, reduceIte, Int.reduceLT, Int.reduceLE, Int.reduceEq, Int.reduceToNat, Int.reduceBEq, c1, tRows_get c, eq_d]
    by_cases he : l[k].d = d
    · have hh : hasT l d = true := hasT_iff.2 ⟨k, c, by rw [hat]; exact he⟩
      have hlow : lowT l d = k := lowT_of hk (fun j hj => by have := hs j k hj c; rwa [hat, he] at this) (fun j hj hjl hc => by
        by_cases e : j = k
        · subst e; rw [hat, he, dcmp_self] at hc; omega
        · have := hs k j (by omega) hjl
          rw [hat, he] at this
          exact dcmp_asym this hc)
      simp only [walk, Nat.reduceLT, Nat.reduceBEq, Nat.reduceAdd, Nat.reduceLeDiff, reduceIte, Int.reduceLT, Int.reduceLE, Int.reduceEq, Int.reduceToNat, Int.reduceBEq, he, findT, hh, hlow]
    · simp only [walk, Nat.reduceLT, Nat.reduceBEq, Nat.reduceAdd, Nat.reduceLeDiff, reduceIte, Int.reduceLT, Int.reduceLE, Int.reduceEq, Int.reduceToNat, Int.reduceBEq, he, e1]
      exact ih (k + 1) ⟨by omega, fun j hj => by
        by_cases e : j = k
        · subst e; rw [hat]; exact he
        · exact hJ j (by omega)⟩ (by omega)
  · have c1 : ¬ (k : Int) < l.length := by omega
    have hh : hasT l d = false := by
      rw [← Bool.not_eq_true, hasT_iff]
      rintro ⟨j, hj, e⟩
      exact hJ j (by omega) e
    simp only [walk, Nat.reduceLT, Nat.reduceBEq, Nat.reduceAdd, Nat.reduceLeDiff, reduceIte, Int.reduceLT, Int.reduceLE, Int.reduceEq, Int.reduceToNat, Int.reduceBEq, c1, findT, hh, Bool.false_eq_true]
end
end Go.AR

/-! Transactions: what was told is read again. -/
namespace Go.AR
open Go
def goodT (most : Int) (l : List Tx) : Bool := decide ((l.length : Int) ≤ most) && (risesT l && l.all fun x => tShort x && decide (tCheck x = 0))
end Go.AR

/-! Transactions, many: told. -/
namespace Go.AR
open Go
section
variable {C : CallRel} {F : Nat → FuncId}
def S_tGood (R : Rel) : Prop := ∀ (l : List Tx) (most : Int), most ≤ 2000000 → R [.v (tsP l), .v (.int .i64 most)] (.val (.bool (goodT most l))) []
theorem g_pref12_Good (hR : S_tRises (C (F n_pref12_Rises))) (hS : S_tShort (C (F n_pref12_Short))) (hC : S_tCheck (C (F n_pref12_Check))) : S_tGood ((c_pref12_Good F).gives C) := by
  intro l most hm
  refine gives_of rfl ?_
  unfold c_pref12_Good goodT
  simp only [walk, Nat.reduceLT, Nat.reduceBEq, Nat.reduceAdd, Nat.reduceLeDiff, reduceIte, Int.reduceLT, Int.reduceLE, Int.reduceEq, Int.reduceToNat, Int.reduceBEq, tRows_len]
  by_cases hl : (l.length : Int) > most
  · have hl2 : ¬ (l.length : Int) ≤ most := by omega
    simp only [walk, Nat.reduceLT, Nat.reduceBEq, Nat.reduceAdd, Nat.reduceLeDiff, reduceIte, Int.reduceLT, Int.reduceLE, Int.reduceEq, Int.reduceToNat, Int.reduceBEq, hl, hl2]
  · have hl2 : (l.length : Int) ≤ most := by omega
    simp only [walk, Nat.reduceLT, Nat.reduceBEq, Nat.reduceAdd, Nat.reduceLeDiff, reduceIte, Int.reduceLT, Int.reduceLE, Int.reduceEq, Int.reduceToNat, Int.reduceBEq, hl, hl2]
    refine callWp_of (hR l (by omega)) ?_
    cases hr : risesT l with
    | false => simp only [walk, Nat.reduceLT, Nat.reduceBEq, Nat.reduceAdd, Nat.reduceLeDiff, reduceIte, Int.reduceLT, Int.reduceLE, Int.reduceEq, Int.reduceToNat, Int.reduceBEq]
    | true =>
      simp only [walk, Nat.reduceLT, Nat.reduceBEq, Nat.reduceAdd, Nat.reduceLeDiff, reduceIte, Int.reduceLT, Int.reduceLE, Int.reduceEq, Int.reduceToNat, Int.reduceBEq]
      refine awp_loop_ind (X := Nat) (fun k => ⟨[(0, .val (tsP l)), (1, .val (.int .i64 most)), (4, .val (.bool false)), (5, .val (.int .i64 k)), (14, .val (.bool false))], []⟩)
        (fun k => k ≤ l.length ∧ ((l.take k).all fun x => tShort x && decide (tCheck x = 0)) = true) (fun k => l.length - k) 0 ⟨by omega, by simp⟩ rfl ?_
      rintro R k ⟨hk, hJ⟩ ih
      simp only [walk, Nat.reduceLT, Nat.reduceBEq, Nat.reduceAdd, Nat.reduceLeDiff, reduceIte, Int.reduceLT, Int.reduceLE, Int.reduceEq, Int.reduceToNat, Int.reduceBEq, tRows_len]
      by_cases c : k < l.length
      · have c1 : (k : Int) < l.length := by omega
        have c0 : (0 : Int) ≤ k := by omega
        have e1 : IntKind.i64.wrap ((k : Int) + 1) = ((k + 1 : Nat) : Int) := wrap64 (by omega) (by omega)
        have nope : (tShort l[k] && decide (tCheck l[k] = 0)) = false → (l.all fun x => tShort x && decide (tCheck x = 0)) = false := fun hno => by
          rw [Bool.eq_false_iff]; intro h
          have := List.all_eq_true.1 h _ (List.getElem_mem c)
          rw [hno] at this; cases this
        simp only [walk, Nat.reduceLT, Nat.reduceBEq, Nat.reduceAdd, Nat.reduceLeDiff, reduceIte, Int.reduceLT, Int.reduceLE, Int.reduceEq, Int.reduceToNat, Int.reduceBEq, c1, tRows_get c, tRows_len]
        refine callWp_of (hS l[k]) ?_
        cases hs : tShort l[k] with
        | false =>
          have hf := nope (by rw [hs]; rfl)
          simp only [walk, Nat.reduceLT, Nat.reduceBEq, Nat.reduceAdd, Nat.reduceLeDiff, reduceIte, Int.reduceLT, Int.reduceLE, Int.reduceEq, Int.reduceToNat, Int.reduceBEq, hf]
        | true =>
          simp only [walk, Nat.reduceLT, Nat.reduceBEq, Nat.reduceAdd, Nat.reduceLeDiff, reduceIte, Int.reduceLT, Int.reduceLE, Int.reduceEq, Int.reduceToNat, Int.reduceBEq, c1, tRows_get c, tRows_len]
          refine callWp_of (hC l[k] (tShort_ok hs).2.2) ?_
          by_cases hc : tCheck l[k] = 0
          · simp only [walk, Nat.reduceLT, Nat.reduceBEq, Nat.reduceAdd, Nat.reduceLeDiff, reduceIte, Int.reduceLT, Int.reduceLE, Int.reduceEq, Int.reduceToNat, Int.reduceBEq, hc, bne_self_eq_false, e1]
            refine ih (k + 1) ⟨by omega, ?_⟩ (by omega)
            rw [List.take_add_one, List.getElem?_eq_getElem c, List.all_append, hJ]
            simp [hs, hc]
          · have hc' : (tCheck l[k] != 0) = true := by simp [hc]
            have hf := nope (by rw [decide_eq_false hc, Bool.and_false])
            simp only [walk, Nat.reduceLT, Nat.reduceBEq, Nat.reduceAdd, Nat.reduceLeDiff, reduceIte, Int.reduceLT, Int.reduceLE, Int.reduceEq, Int.reduceToNat, Int.reduceBEq, hc', hf]
      · have c1 : ¬ (k : Int) < l.length := by omega
        rw [List.take_of_length_le (by omega)] at hJ
        simp only [walk, Nat.reduceLT, Nat.reduceBEq, Nat.reduceAdd, Nat.reduceLeDiff, reduceIte, Int.reduceLT, Int.reduceLE, Int.reduceEq, Int.reduceToNat, Int.reduceBEq, c1, hJ]
end
end Go.AR

/-! Which operations count, by definition. -/
namespace Go.AR
open Go
structure It where
  x : Ud
  o : Ov
  t : Int
deriving DecidableEq
def seenU (u : List Ud) (d : Dt) : Bool := decide ((getU u d).tmod 2 = 0)
/-- Is an operation covered by one of a transaction that counts? -/
def covL (l : List Tx) (u : List Ud) (r : Ud) : Bool := l.any fun t => seenU u t.d && t.ops.any fun o => hasR o.rs r
def itemsO (gone : Ud → Bool) (d : Dt) (tm : Int) : Nat → List Ov → List It
  | _, [] => []
  | i, o :: os => (if (decide (o.k = 1) || decide (o.k = 2) || decide (o.k = 3)) && !gone (d, (i : Int)) then [⟨(d, (i : Int)), o, tm⟩] else []) ++ itemsO gone d tm (i + 1) os
def itemsT (gone : Ud → Bool) (u : List Ud) (t : Tx) : List It := if seenU u t.d = true then itemsO gone t.d t.t 0 t.ops else []
def allL (l : List Tx) (u : List Ud) : List It := l.flatMap (itemsT (covL l u) u)
/-! The map: its keys, in the order in which they came. -/
def addK (rs : List Ud) (r : Ud) : List Ud := if r ∈ rs then rs else rs ++ [r]
def keysL (l : List Tx) (u : List Ud) : List Ud := l.foldl (fun m t => if seenU u t.d = true then t.ops.foldl (fun m o => o.rs.foldl addK m) m else m) []
abbrev kP (r : Ud) : PV := .agg [.int .i64 r.1.1, .int .i64 r.1.2, .int .i64 r.2]
def mkM (rs : List Ud) : List (PV × PV) := rs.map fun r => (kP r, .bool true)
theorem setP_mk (r : Ud) : ∀ rs : List Ud, setP [.i, .i, .i] (kP r) (.bool true) (mkM rs) = some (mkM (addK rs r))
  | [] => by simp [mkM, setP, addK]
  | x :: rs => by
    have ih := setP_mk r rs
    have e := eq_r r x
    simp only [mkM, List.map_cons, setP] at ih ⊢
    rw [e]
    by_cases h : r = x
    · subst h
      simp [addK]
    · simp only [h, decide_false]
      rw [ih]
      by_cases h2 : r ∈ rs
      · simp [addK, h, h2]
      · simp [addK, h, h2]
theorem findP_mk (r : Ud) : ∀ rs : List Ud, findP [.i, .i, .i] (kP r) (mkM rs) = some (if r ∈ rs then some (.bool true) else none)
  | [] => by simp [mkM, findP]
  | x :: rs => by
    have ih := findP_mk r rs
    have e := eq_r r x
    simp only [mkM, List.map_cons, findP] at ih ⊢
    rw [e]
    by_cases h : r = x
    · subst h; simp
    · simp only [h, decide_false]
      rw [ih]
      simp [h]
theorem mem_addK {rs : List Ud} {r x : Ud} : x ∈ addK rs r ↔ x ∈ rs ∨ x = r := by
  unfold addK
  by_cases h : r ∈ rs
  · rw [if_pos h]
    constructor
    · exact .inl
    · rintro (h2 | rfl)
      · exact h2
      · exact h
  · rw [if_neg h]; simp
theorem mem_addAll (x : Ud) : ∀ (rs m : List Ud), x ∈ rs.foldl addK m ↔ x ∈ m ∨ x ∈ rs
  | [], m => by simp
  | r :: rs, m => by
    rw [List.foldl_cons, mem_addAll x rs, mem_addK, List.mem_cons]
    constructor
    · rintro ((h | h) | h)
      · exact .inl h
      · exact .inr (.inl h)
      · exact .inr (.inr h)
    · rintro (h | h | h)
      · exact .inl (.inl h)
      · exact .inl (.inr h)
      · exact .inr h
theorem mem_addOps (x : Ud) : ∀ (os : List Ov) (m : List Ud), x ∈ os.foldl (fun m o => o.rs.foldl addK m) m ↔ x ∈ m ∨ ∃ o ∈ os, x ∈ o.rs
  | [], m => by simp
  | o :: os, m => by
    rw [List.foldl_cons, mem_addOps x os, mem_addAll]
    simp only [List.mem_cons, exists_eq_or_imp]
    constructor
    · rintro ((h | h) | h)
      · exact .inl h
      · exact .inr (.inl h)
      · exact .inr (.inr h)
    · rintro (h | h | h)
      · exact .inl (.inl h)
      · exact .inl (.inr h)
      · exact .inr h
theorem mem_addTxs (x : Ud) (u : List Ud) : ∀ (l : List Tx) (m : List Ud), x ∈ l.foldl (fun m t => if seenU u t.d = true then t.ops.foldl (fun m o => o.rs.foldl addK m) m else m) m ↔ x ∈ m ∨ ∃ t ∈ l, seenU u t.d = true ∧ ∃ o ∈ t.ops, x ∈ o.rs
  | [], m => by simp
  | t :: l, m => by
    rw [List.foldl_cons, mem_addTxs x u l]
    simp only [List.mem_cons, exists_eq_or_imp]
    by_cases h : seenU u t.d = true
    · rw [if_pos h, mem_addOps]
      simp only [h, true_and]
      constructor
      · rintro ((h | h) | h)
        · exact .inl h
        · exact .inr (.inl h)
        · exact .inr (.inr h)
      · rintro (h | h | h)
        · exact .inl (.inl h)
        · exact .inl (.inr h)
        · exact .inr h
    · rw [if_neg h]
      simp only [h, Bool.false_eq_true, false_and, false_or]
theorem keys_cov (l : List Tx) (u : List Ud) (r : Ud) : r ∈ keysL l u ↔ covL l u r = true := by
  unfold keysL
  rw [mem_addTxs]
  simp only [List.not_mem_nil, false_or, covL, List.any_eq_true, Bool.and_eq_true, hasR, decide_eq_true_eq]
  constructor
  · rintro ⟨t, ht, h1, o, ho, h2⟩
    exact ⟨t, ht, h1, o, ho, r, h2, rfl⟩
  · rintro ⟨t, ht, h1, o, ho, x, h2, rfl⟩
    exact ⟨t, ht, h1, o, ho, h2⟩
theorem find_cov (l : List Tx) (u : List Ud) (r : Ud) : findP [.i, .i, .i] (kP r) (mkM (keysL l u)) = some (if covL l u r = true then some (.bool true) else none) := by
  rw [findP_mk]
  by_cases h : covL l u r = true
  · rw [if_pos ((keys_cov l u r).2 h), if_pos h]
  · rw [if_neg (fun e => h ((keys_cov l u r).1 e)), if_neg h]
end Go.AR
