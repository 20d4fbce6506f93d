import Derived.Test.YtphggkbbjnpaeaaG30
import Derived.Test.YtphggkbbjnpaeaaG31
set_option linter.all false
/-! Transactions in a row. -/
namespace Go.AR
open Go
def riseAt (l : List Tx) (j : Nat) : Bool := j == 0 || decide (dcmp (l.getD (j - 1) zt).d (l.getD j zt).d < 0)
def risesT (l : List Tx) : Bool := (List.range l.length).all (riseAt l)
theorem rise0 (l : List Tx) (j : Nat) (h : j < 1) : riseAt l j = true := by
  have e : j = 0 := by omega
  subst e
  rfl
theorem risesT_iff {l : List Tx} : risesT l = true ↔ ∀ j, j < l.length → riseAt l j = true := by simp [risesT, List.all_eq_true]
theorem risesT_no {l : List Tx} {j : Nat} (hj : j < l.length) (h : riseAt l j = false) : risesT l = false := by
  rw [← Bool.not_eq_true, risesT_iff]
  intro k
  rw [k j hj] at h; cases h
section
variable {C : CallRel} {F : Nat → FuncId}
def S_tRises (R : Rel) : Prop := ∀ l : List Tx, l.length ≤ 2000000 → R [.v (tsP l)] (.val (.bool (risesT l))) []
theorem g_pref12_Rises (h : S_dcmp (C (F n_pref04_Compare))) : S_tRises ((c_pref12_Rises F).gives C) := by
  intro l hl
  refine gives_of rfl ?_
  unfold c_pref12_Rises
  simp only [walk, Nat.reduceLT, Nat.reduceBEq, Nat.reduceAdd, Nat.reduceLeDiff, reduceIte, Int.reduceLT, Int.reduceLE, Int.reduceEq, Int.reduceToNat, Int.reduceBEq]
  refine awp_loop_ind (X := Nat) (fun k => ⟨[(0, .val (tsP l)), (2, .val (.bool false)), (3, .val (.int .i64 k))], []⟩)
    (fun k => 1 ≤ k ∧ ∀ j, j < k → j < l.length → riseAt l j = true) (fun k => l.length - k) 1 ⟨by omega, fun j hj _ => rise0 l j hj⟩ rfl ?_
  rintro R k ⟨hk, hJ⟩ ih
  simp only [walk, Nat.reduceLT, Nat.reduceBEq, Nat.reduceAdd, Nat.reduceLeDiff, reduceIte, Int.reduceLT, Int.reduceLE, Int.reduceEq, Int.reduceToNat, Int.reduceBEq, tRows_len]
  by_cases c : k < l.length
  · have c1 : (k : Int) < l.length := by omega
    have c0 : (0 : Int) ≤ k := by omega
    have e1 : IntKind.i64.wrap ((k : Int) + 1) = ((k + 1 : Nat) : Int) := wrap64 (by omega) (by omega)
    have w1 : IntKind.i64.wrap ((k : Int) - 1) = ((k - 1 : Nat) : Int) := by rw [wrap64 (by omega) (by omega)]; omega
    have c2 : k - 1 < l.length := by omega
    have c3 : ((k - 1 : Nat) : Int) < l.length := by omega
    have c4 : (0 : Int) ≤ ((k - 1 : Nat) : Int) := by omega
    have hat : riseAt l k = decide (dcmp l[k - 1].d l[k].d < 0) := by
      unfold riseAt
      rw [getT_at c, getT_at c2, show (k == 0) = false by rw [beq_eq_false_iff_ne]; omega, Bool.false_or]
    simp only [walk, Nat.reduceLT, Nat.reduceBEq, Nat.reduceAdd, Nat.reduceLeDiff, reduceIte, Int.reduceLT, Int.reduceLE, Int.reduceEq, Int.reduceToNat, Int.reduceBEq, c1, c3, w1, tRows_get c, tRows_get c2, tRows_len]
    refine callWp_of (h l[k - 1].d l[k].d) ?_
    by_cases hd : dcmp l[k - 1].d l[k].d < 0
    · have e2 : (dcmp l[k - 1].d l[k].d != -1) = false := by rw [dcmp_m1.2 hd]; rfl
      simp only [walk, Nat.reduceLT, Nat.reduceBEq, Nat.reduceAdd, Nat.reduceLeDiff, reduceIte, Int.reduceLT, Int.reduceLE, Int.reduceEq, Int.reduceToNat, Int.reduceBEq, e2, e1]
      refine ih (k + 1) ⟨by omega, fun j hj hjl => ?_⟩ (by omega)
      by_cases e : j = k
      · subst e; rw [hat]; simpa using hd
      · exact hJ j (by omega) hjl
    · have e2 : (dcmp l[k - 1].d l[k].d != -1) = true := by
        rw [bne, Bool.not_eq_true', beq_eq_false_iff_ne]
        exact fun e => hd (by omega)
      have hf : risesT l = false := risesT_no c (by rw [hat]; simpa using hd)
      simp only [walk, Nat.reduceLT, Nat.reduceBEq, Nat.reduceAdd, Nat.reduceLeDiff, reduceIte, Int.reduceLT, Int.reduceLE, Int.reduceEq, Int.reduceToNat, Int.reduceBEq, e2, hf]
  · have c1 : ¬ (k : Int) < l.length := by omega
    have ht : risesT l = true := risesT_iff.2 (fun j hj => hJ j (by omega) hj)
    simp only [walk, Nat.reduceLT, Nat.reduceBEq, Nat.reduceAdd, Nat.reduceLeDiff, reduceIte, Int.reduceLT, Int.reduceLE, Int.reduceEq, Int.reduceToNat, Int.reduceBEq, c1, ht]
end
end Go.AR

/-! Transactions: what was told is read again. -/
namespace Go.AR
open Go
def goodT (most : Int) (l : List Tx) : Bool := decide ((l.length : Int) ≤ most) && (risesT l && l.all fun x => tShort x && decide (tCheck x = 0))
end Go.AR

/-! Transactions, many: told. -/
namespace Go.AR
open Go
section
variable {C : CallRel} {F : Nat → FuncId}
def S_tGood (R : Rel) : Prop := ∀ (l : List Tx) (most : Int), most ≤ 2000000 → R [.v (tsP l), .v (.int .i64 most)] (.val (.bool (goodT most l))) []
theorem g_pref12_Good (hR : S_tRises (C (F n_pref12_Rises))) (hS : S_tShort (C (F n_pref12_Short))) (hC : S_tCheck (C (F n_pref12_Check))) : S_tGood ((c_pref12_Good F).gives C) := by
  intro l most hm
  refine gives_of rfl ?_
  unfold c_pref12_Good goodT
  simp only [walk, Nat.reduceLT, Nat.reduceBEq, Nat.reduceAdd, Nat.reduceLeDiff, reduceIte, Int.reduceLT, Int.reduceLE, Int.reduceEq, Int.reduceToNat, Int.reduceBEq, tRows_len]
  by_cases hl : (l.length : Int) > most
  · have hl2 : ¬ (l.length : Int) ≤ most := by omega
    simp only [walk, Nat.reduceLT, Nat.reduceBEq, Nat.reduceAdd, Nat.reduceLeDiff, reduceIte, Int.reduceLT, Int.reduceLE, Int.reduceEq, Int.reduceToNat, Int.reduceBEq, hl, hl2]
  · have hl2 : (l.length : Int) ≤ most := by omega
    simp only [walk, Nat.reduceLT, Nat.reduceBEq, Nat.reduceAdd, Nat.reduceLeDiff, reduceIte, Int.reduceLT, Int.reduceLE, Int.reduceEq, Int.reduceToNat, Int.reduceBEq, hl, hl2]
    refine callWp_of (hR l (by omega)) ?_
    cases hr : risesT l with
    | false => simp only [walk, Nat.reduceLT, Nat.reduceBEq, Nat.reduceAdd, Nat.reduceLeDiff, reduceIte, Int.reduceLT, Int.reduceLE, Int.reduceEq, Int.reduceToNat, Int.reduceBEq]
    | true =>
      simp only [walk, Nat.reduceLT, Nat.reduceBEq, Nat.reduceAdd, Nat.reduceLeDiff, reduceIte, Int.reduceLT, Int.reduceLE, Int.reduceEq, Int.reduceToNat, Int.reduceBEq]
      refine awp_loop_ind (X := Nat) (fun k => ⟨[(0, .val (tsP l)), (1, .val (.int .i64 most)), (4, .val (.bool false)), (5, .val (.int .i64 k)), (14, .val (.bool false))], []⟩)
        (fun k => k ≤ l.length ∧ ((l.take k).all fun x => tShort x && decide (tCheck x = 0)) = true) (fun k => l.length - k) 0 ⟨by omega, by simp⟩ rfl ?_
      rintro R k ⟨hk, hJ⟩ ih
      simp only [walk, Nat.reduceLT, Nat.reduceBEq, Nat.reduceAdd, Nat.reduceLeDiff, reduceIte, Int.reduceLT, Int.reduceLE, Int.reduceEq, Int.reduceToNat, Int.reduceBEq, tRows_len]
      by_cases c : k < l.length
      · have c1 : (k : Int) < l.length := by omega
        have c0 : (0 : Int) ≤ k := by omega
        have e1 : IntKind.i64.wrap ((k : Int) + 1) = ((k + 1 : Nat) : Int) := wrap64 (by omega) (by omega)
        have nope : (tShort l[k] && decide (tCheck l[k] = 0)) = false → (l.all fun x => tShort x && decide (tCheck x = 0)) = false := fun hno => by
          rw [Bool.eq_false_iff]; intro h
          have := List.all_eq_true.1 h _ (List.getElem_mem c)
          rw [hno] at this; cases this
        simp only [walk, Nat.reduceLT, Nat.reduceBEq, Nat.reduceAdd, Nat.reduceLeDiff, reduceIte, Int.reduceLT, Int.reduceLE, Int.reduceEq, Int.reduceToNat, Int.reduceBEq, c1, tRows_get c, tRows_len]
        refine callWp_of (hS l[k]) ?_
        cases hs : tShort l[k] with
        | false =>
          have hf := nope (by rw [hs]; rfl)
          simp only [walk, Nat.reduceLT, Nat.reduceBEq, Nat.reduceAdd, Nat.reduceLeDiff, reduceIte, Int.reduceLT, Int.reduceLE, Int.reduceEq, Int.reduceToNat, Int.reduceBEq, hf]
        | true =>
          simp only [walk, Nat.reduceLT, Nat.reduceBEq, Nat.reduceAdd, Nat.reduceLeDiff, reduceIte, Int.reduceLT, Int.reduceLE, Int.reduceEq, Int.reduceToNat, Int.reduceBEq, c1, tRows_get c, tRows_len]
          refine callWp_of (hC l[k] (tShort_ok hs).2.2) ?_
          by_cases hc : tCheck l[k] = 0
          · simp only [walk, Nat.reduceLT, Nat.reduceBEq, Nat.reduceAdd, Nat.reduceLeDiff, reduceIte, Int.reduceLT, Int.reduceLE, Int.reduceEq, Int.reduceToNat, Int.reduceBEq, hc, bne_self_eq_false, e1]
            refine ih (k + 1) ⟨by omega, ?_⟩ (by omega)
            rw [List.take_add_one, List.getElem?_eq_getElem c, List.all_append, hJ]
            simp [hs, hc]
          · have hc' : (tCheck l[k] != 0) = true := by simp [hc]
            have hf := nope (by rw [decide_eq_false hc, Bool.and_false])
            simp only [walk, Nat.reduceLT, Nat.reduceBEq, Nat.reduceAdd, Nat.reduceLeDiff, reduceIte, Int.reduceLT, Int.reduceLE, Int.reduceEq, Int.reduceToNat, Int.reduceBEq, hc', hf]
      · have c1 : ¬ (k : Int) < l.length := by omega
        rw [List.take_of_length_le (by omega)] at hJ
        simp only [walk, Nat.reduceLT, Nat.reduceBEq, Nat.reduceAdd, Nat.reduceLeDiff, reduceIte, Int.reduceLT, Int.reduceLE, Int.reduceEq, Int.reduceToNat, Int.reduceBEq, c1, hJ]
end
end Go.AR

/-! Which operations count, by definition. -/
namespace Go.AR
open Go
structure It where
  x : Ud
  o : Ov
  t : Int
deriving DecidableEq
def seenU (u : List Ud) (d : Dt) : Bool := decide ((getU u d).tmod 2 = 0)
/-- Is an operation covered by one of a transaction that counts? -/
def covL (l : List Tx) (u : List Ud) (r : Ud) : Bool := l.any fun t => seenU u t.d && t.ops.any fun o => hasR o.rs r
def itemsO (gone : Ud → Bool) (d : Dt) (tm : Int) : Nat → List Ov → List It
  | _, [] => []
  | i, o :: os => (if (decide (o.k = 1) || decide (o.k = 2) || decide (o.k = 3)) && !gone (d, (i : Int)) then [⟨(d, (i : Int)), o, tm⟩] else []) ++ itemsO gone d tm (i + 1) os
def itemsT (gone : Ud → Bool) (u : List Ud) (t : Tx) : List It := if seenU u t.d = true then itemsO gone t.d t.t 0 t.ops else []
def allL (l : List Tx) (u : List Ud) : List It := l.flatMap (itemsT (covL l u) u)
/-! The map: its keys, in the order in which they came. -/
def addK (rs : List Ud) (r : Ud) : List Ud := if r ∈ rs then rs else rs ++ [r]
def keysL (l : List Tx) (u : List Ud) : List Ud := l.foldl (fun m t => if seenU u t.d = true then t.ops.foldl (fun m o => o.rs.foldl addK m) m else m) []
abbrev kP (r : Ud) : PV := .agg [.int .i64 r.1.1, .int .i64 r.1.2, .int .i64 r.2]
def mkM (rs : List Ud) : List (PV × PV) := rs.map fun r => (kP r, .bool true)
theorem setP_mk (r : Ud) : ∀ rs : List Ud, setP [.i, .i, .i] (kP r) (.bool true) (mkM rs) = some (mkM (addK rs r))
  | [] => by simp [mkM, setP, addK]
  | x :: rs => by
    have ih := setP_mk r rs
    have e := eq_r r x
    simp only [mkM, List.map_cons, setP] at ih ⊢
    rw [e]
    by_cases h : r = x
    · subst h
      simp [addK]
    · simp only [h, decide_false]
      rw [ih]
      by_cases h2 : r ∈ rs
      · simp [addK, h, h2]
      · simp [addK, h, h2]
theorem findP_mk (r : Ud) : ∀ rs : List Ud, findP [.i, .i, .i] (kP r) (mkM rs) = some (if r ∈ rs then some (.bool true) else none)
  | [] => by simp [mkM, findP]
  | x :: rs => by
    have ih := findP_mk r rs
    have e := eq_r r x
    simp only [mkM, List.map_cons, findP] at ih ⊢
    rw [e]
    by_cases h : r = x
    · subst h; simp
    · simp only [h, decide_false]
      rw [ih]
      simp [h]
theorem mem_addK {rs : List Ud} {r x : Ud} : x ∈ addK rs r ↔ x ∈ rs ∨ x = r := by
  unfold addK
  by_cases h : r ∈ rs
  · rw [if_pos h]
    constructor
    · exact .inl
    · rintro (h2 | rfl)
      · exact h2
      · exact h
  · rw [if_neg h]; simp
theorem mem_addAll (x : Ud) : ∀ (rs m : List Ud), x ∈ rs.foldl addK m ↔ x ∈ m ∨ x ∈ rs
  | [], m => by simp
  | r :: rs, m => by
    rw [List.foldl_cons, mem_addAll x rs, mem_addK, List.mem_cons]
    constructor
    · rintro ((h | h) | h)
      · exact .inl h
      · exact .inr (.inl h)
      · exact .inr (.inr h)
    · rintro (h | h | h)
      · exact .inl (.inl h)
      · exact .inl (.inr h)
      · exact .inr h
theorem mem_addOps (x : Ud) : ∀ (os : List Ov) (m : List Ud), x ∈ os.foldl (fun m o => o.rs.foldl addK m) m ↔ x ∈ m ∨ ∃ o ∈ os, x ∈ o.rs
  | [], m => by simp
  | o :: os, m => by
    rw [List.foldl_cons, mem_addOps x os, mem_addAll]
    simp only [List.mem_cons, exists_eq_or_imp]
    constructor
    · rintro ((h | h) | h)
      · exact .inl h
      · exact .inr (.inl h)
      · exact .inr (.inr h)
    · rintro (h | h | h)
      · exact .inl (.inl h)
      · exact .inl (.inr h)
      · exact .inr h
theorem mem_addTxs (x : Ud) (u : List Ud) : ∀ (l : List Tx) (m : List Ud), x ∈ l.foldl (fun m t => if seenU u t.d = true then t.ops.foldl (fun m o => o.rs.foldl addK m) m else m) m ↔ x ∈ m ∨ ∃ t ∈ l, seenU u t.d = true ∧ ∃ o ∈ t.ops, x ∈ o.rs
  | [], m => by simp
  | t :: l, m => by
    rw [List.foldl_cons, mem_addTxs x u l]
    simp only [List.mem_cons, exists_eq_or_imp]
    by_cases h : seenU u t.d = true
    · rw [if_pos h, mem_addOps]
      simp only [h, true_and]
      constructor
      · rintro ((h | h) | h)
        · exact .inl h
        · exact .inr (.inl h)
        · exact .inr (.inr h)
      · rintro (h | h | h)
        · exact .inl (.inl h)
        · exact .inl (.inr h)
        · exact .inr h
    · rw [if_neg h]
      simp only [h, Bool.false_eq_true, false_and, false_or]
theorem keys_cov (l : List Tx) (u : List Ud) (r : Ud) : r ∈ keysL l u ↔ covL l u r = true := by
  unfold keysL
  rw [mem_addTxs]
  simp only [List.not_mem_nil, false_or, covL, List.any_eq_true, Bool.and_eq_true, hasR, decide_eq_true_eq]
  constructor
  · rintro ⟨t, ht, h1, o, ho, h2⟩
    exact ⟨t, ht, h1, o, ho, r, h2, rfl⟩
  · rintro ⟨t, ht, h1, o, ho, x, h2, rfl⟩
    exact ⟨t, ht, h1, o, ho, h2⟩
theorem find_cov (l : List Tx) (u : List Ud) (r : Ud) : findP [.i, .i, .i] (kP r) (mkM (keysL l u)) = some (if covL l u r = true then some (.bool true) else none) := by
  rw [findP_mk]
  by_cases h : covL l u r = true
  · rw [if_pos ((keys_cov l u r).2 h), if_pos h]
  · rw [if_neg (fun e => h ((keys_cov l u r).1 e)), if_neg h]
end Go.AR
