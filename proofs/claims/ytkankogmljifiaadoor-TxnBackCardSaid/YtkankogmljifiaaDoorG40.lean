import Derived.Test.YtkankogmljifiaaDoorG38
import Derived.Test.YtkankogmljifiaaDoorG39
import Derived.Test.YtkankogmljifiaaDoorG35
set_option linter.all false
/-! Transactions in a row. -/
namespace Go.AR
open Go
def riseAt (l : List Tx) (j : Nat) : Bool := j == 0 || decide (dcmp (l.getD (j - 1) zt).d (l.getD j zt).d < 0)
def risesT (l : List Tx) : Bool := (List.range l.length).all (riseAt l)
theorem rise0 (l : List Tx) (j : Nat) (h : j < 1) : riseAt l j = true := by
  have e : j = 0 := by omega
  subst e
  rfl
theorem risesT_iff {l : List Tx} : risesT l = true ↔ ∀ j, j < l.length → riseAt l j = true := by simp [risesT, List.all_eq_true]
theorem risesT_no {l : List Tx} {j : Nat} (hj : j < l.length) (h : riseAt l j = false) : risesT l = false := by
  rw [← Bool.not_eq_true, risesT_iff]
  intro k
  rw [k j hj] at h; cases h
section
variable {C : CallRel} {F : Nat → FuncId}
def S_tRises (R : Rel) : Prop := ∀ l : List Tx, l.length ≤ 2000000 → R [.v (tsP l)] (.val (.bool (risesT l))) []
def S_tAll (R : Rel) : Prop := ∀ a b : List Tx, a.length ≤ 2000000 → (∀ x ∈ a, tOk x) → R [.v (tsP a), .v (tsP b)] (.val (.bool (decide (a = b)))) []
theorem g_pref12_Rises (h : S_dcmp (C (F n_pref04_Compare))) : S_tRises ((c_pref12_Rises F).gives C) := by
  intro l hl
  refine gives_of rfl ?_
  unfold c_pref12_Rises
  simp only [walk, Nat.reduceLT, Nat.reduceBEq, Nat.reduceAdd, Nat.reduceLeDiff, reduceIte, Int.reduceLT, Int.reduceLE, Int.reduceEq, Int.reduceToNat, Int.reduceBEq]
  refine awp_loop_ind (X := Nat) (fun k => ⟨[(0, .val (tsP l)), (2, .val (.bool false)), (3, .val (.int .i64 k))], []⟩)
    (fun k => 1 ≤ k ∧ ∀ j, j < k → j < l.length → riseAt l j = true) (fun k => l.length - k) 1 ⟨by omega, fun j hj _ => rise0 l j hj⟩ rfl ?_
  rintro R k ⟨hk, hJ⟩ ih
  simp only [walk, Nat.reduceLT, Nat.reduceBEq, Nat.reduceAdd, Nat.reduceLeDiff, reduceIte, Int.reduceLT, Int.reduceLE, Int.reduceEq, Int.reduceToNat, Int.reduceBEq, tRows_len]
  by_cases c : k < l.length
  · have c1 : (k : Int) < l.length := by omega
    have c0 : (0 : Int) ≤ k := by omega
    have e1 : IntKind.i64.wrap ((k : Int) + 1) = ((k + 1 : Nat) : Int) := wrap64 (by omega) (by omega)
    have w1 : IntKind.i64.wrap ((k : Int) - 1) = ((k - 1 : Nat) : Int) := by rw [wrap64 (by omega) (by omega)]; omega
    have c2 : k - 1 < l.length := by omega
    have c3 : ((k - 1 : Nat) : Int) < l.length := by omega
    have c4 : (0 : Int) ≤ ((k - 1 : Nat) : Int) := by omega
    have hat : riseAt l k = decide (dcmp l[k - 1].d l[k].d < 0) := by
      unfold riseAt
      rw [getT_at c, getT_at c2, show (k == 0) = false by rw [beq_eq_false_iff_ne]; omega, Bool.false_or]
    simp only [walk, Nat.reduceLT, Nat.reduceBEq, Nat.reduceAdd, Nat.reduceLeDiff, reduceIte, Int.reduceLT, Int.reduceLE, Int.reduceEq, Int.reduceToNat, Int.reduceBEq, c1, c3, w1, tRows_get c, tRows_get c2, tRows_len]
    refine callWp_of (h l[k - 1].d l[k].d) ?_
    by_cases hd : dcmp l[k - 1].d l[k].d < 0
    · have e2 : (dcmp l[k - 1].d l[k].d != -1) = false := by rw [dcmp_m1.2 hd]; rfl
      simp only [walk, Nat.reduceLT, Nat.reduceBEq, Nat.reduceAdd, Nat.reduceLeDiff, reduceIte, Int.reduceLT, Int.reduceLE, Int.reduceEq, Int.reduceToNat, Int.reduceBEq, e2, e1]
      refine ih (k + 1) ⟨by omega, fun j hj hjl => ?_⟩ (by omega)
      by_cases e : j = k
      · subst e; rw [hat]; simpa using hd
      · exact hJ j (by omega) hjl
    · have e2 : (dcmp l[k - 1].d l[k].d != -1) = true := by
        rw [bne, Bool.not_eq_true', beq_eq_false_iff_ne]
        exact fun e => hd (by omega)
      have hf : risesT l = false := risesT_no c (by rw [hat]; simpa using hd)
      simp only [walk, Nat.reduceLT, Nat.reduceBEq, Nat.reduceAdd, Nat.reduceLeDiff, reduceIte, Int.reduceLT, Int.reduceLE, Int.reduceEq, Int.reduceToNat, Int.reduceBEq, e2, hf]
  · have c1 : ¬ (k : Int) < l.length := by omega
    have ht : risesT l = true := risesT_iff.2 (fun j hj => hJ j (by omega) hj)
    simp only [walk, Nat.reduceLT, Nat.reduceBEq, Nat.reduceAdd, Nat.reduceLeDiff, reduceIte, Int.reduceLT, Int.reduceLE, Int.reduceEq, Int.reduceToNat, Int.reduceBEq, c1, ht]
theorem g_txn_Rises (h : S_dcmp (C (F n_dot_Compare))) : S_tRises ((c_txn_Rises F).gives C) := by
  intro l hl
  refine gives_of rfl ?_
  unfold c_txn_Rises
  simp only [walk, Nat.reduceLT, Nat.reduceBEq, Nat.reduceAdd, Nat.reduceLeDiff, reduceIte, Int.reduceLT, Int.reduceLE, Int.reduceEq, Int.reduceToNat, Int.reduceBEq, tRows_len]
  refine awp_loop_ind (X := Nat) (fun k => ⟨[(0, .val (tsP l)), (2, .val (.bool false)), (5, .val (tsP l)), (6, .val (.int .i64 l.length)), (7, .val (.int .i64 k))], []⟩)
    (fun k => ∀ j, j < k → j < l.length → riseAt l j = true) (fun k => l.length - k) 0 (by omega) rfl ?_
  rintro R k hJ ih
  simp only [walk, Nat.reduceLT, Nat.reduceBEq, Nat.reduceAdd, Nat.reduceLeDiff, reduceIte, Int.reduceLT, Int.reduceLE, Int.reduceEq, Int.reduceToNat, Int.reduceBEq]
  by_cases c : k < l.length
  · have c1 : (k : Int) < l.length := by omega
    have c0 : (0 : Int) ≤ k := by omega
    have e1 : IntKind.i64.wrap ((k : Int) + 1) = ((k + 1 : Nat) : Int) := wrap64 (by omega) (by omega)
    have next : riseAt l k = true → _ := fun h => ih (k + 1) (fun j hj hjl => by
      by_cases e : j = k
      · subst e; exact h
      · exact hJ j (by omega) hjl) (by omega)
    by_cases hk0 : (k : Int) > 0
    · have w1 : IntKind.i64.wrap ((k : Int) - 1) = ((k - 1 : Nat) : Int) := by rw [wrap64 (by omega) (by omega)]; omega
      have c2 : k - 1 < l.length := by omega
      have c3 : ((k - 1 : Nat) : Int) < l.length := by omega
      have c4 : (0 : Int) ≤ ((k - 1 : Nat) : Int) := by omega
      have hat : riseAt l k = decide (dcmp l[k - 1].d l[k].d < 0) := by
        unfold riseAt
        rw [getT_at c, getT_at c2, show (k == 0) = false by rw [beq_eq_false_iff_ne]; omega, Bool.false_or]
      simp only [walk, Nat.reduceLT, Nat.reduceBEq, Nat.reduceAdd, Nat.reduceLeDiff, reduceIte, Int.reduceLT, Int.reduceLE, Int.reduceEq, Int.reduceToNat, Int.reduceBEq, c1, c3, w1, hk0, tRows_get c, tRows_get c2, tRows_len]
      refine callWp_of (h l[k - 1].d l[k].d) ?_
      by_cases hd : dcmp l[k - 1].d l[k].d < 0
      · have e2 : ¬ dcmp l[k - 1].d l[k].d ≥ 0 := by omega
        simp only [walk, Nat.reduceLT, Nat.reduceBEq, Nat.reduceAdd, Nat.reduceLeDiff, reduceIte, Int.reduceLT, Int.reduceLE, Int.reduceEq, Int.reduceToNat, Int.reduceBEq, e2, e1]
        exact next (by rw [hat]; simpa using hd)
      · have e2 : dcmp l[k - 1].d l[k].d ≥ 0 := by omega
        have hf : risesT l = false := risesT_no c (by rw [hat]; simpa using hd)
        simp only [walk, Nat.reduceLT, Nat.reduceBEq, Nat.reduceAdd, Nat.reduceLeDiff, reduceIte, Int.reduceLT, Int.reduceLE, Int.reduceEq, Int.reduceToNat, Int.reduceBEq, e2, hf]
    · have hz : riseAt l k = true := by
        unfold riseAt
        rw [show (k == 0) = true by rw [beq_iff_eq]; omega, Bool.true_or]
      simp only [walk, Nat.reduceLT, Nat.reduceBEq, Nat.reduceAdd, Nat.reduceLeDiff, reduceIte, Int.reduceLT, Int.reduceLE, Int.reduceEq, Int.reduceToNat, Int.reduceBEq, c1, hk0, tRows_get c, e1]
      exact next hz
  · have c1 : ¬ (k : Int) < l.length := by omega
    have ht : risesT l = true := risesT_iff.2 (fun j hj => hJ j (by omega) hj)
    simp only [walk, Nat.reduceLT, Nat.reduceBEq, Nat.reduceAdd, Nat.reduceLeDiff, reduceIte, Int.reduceLT, Int.reduceLE, Int.reduceEq, Int.reduceToNat, Int.reduceBEq, c1, ht]
theorem g_pref12_All (h : S_tSame (C (F n_pref12_Same))) : S_tAll ((c_pref12_All F).gives C) := by
  intro a b ha hok
  refine gives_of rfl ?_
  unfold c_pref12_All
  simp only [walk, Nat.reduceLT, Nat.reduceBEq, Nat.reduceAdd, Nat.reduceLeDiff, reduceIte, Int.reduceLT, Int.reduceLE, Int.reduceEq, Int.reduceToNat, Int.reduceBEq, tRows_len, ine, ne_eq, decide_not]
  by_cases hl : a.length = b.length
  · have hl' : (a.length : Int) = b.length := by omega
    simp only [walk, Nat.reduceLT, Nat.reduceBEq, Nat.reduceAdd, Nat.reduceLeDiff, reduceIte, Int.reduceLT, Int.reduceLE, Int.reduceEq, Int.reduceToNat, Int.reduceBEq, hl', tRows_len]
    refine awp_loop_ind (X := Nat) (fun k => ⟨[(0, .val (tsP a)), (1, .val (tsP b)), (4, .val (.bool false)), (5, .val (.int .i64 k)), (10, .val (.bool false))], []⟩)
      (fun k => k ≤ a.length ∧ a.take k = b.take k) (fun k => a.length - k) 0 ⟨by omega, by simp⟩ rfl ?_
    rintro R k ⟨hk, hJ⟩ ih
    simp only [walk, Nat.reduceLT, Nat.reduceBEq, Nat.reduceAdd, Nat.reduceLeDiff, reduceIte, Int.reduceLT, Int.reduceLE, Int.reduceEq, Int.reduceToNat, Int.reduceBEq, tRows_len]
    by_cases c : k < a.length
    · have c1 : (k : Int) < b.length := by omega
      have cb : k < b.length := by omega
      have c0 : (0 : Int) ≤ k := by omega
      have e1 : IntKind.i64.wrap ((k : Int) + 1) = ((k + 1 : Nat) : Int) := wrap64 (by omega) (by omega)
      simp only [walk, Nat.reduceLT, Nat.reduceBEq, Nat.reduceAdd, Nat.reduceLeDiff, reduceIte, Int.reduceLT, Int.reduceLE, Int.reduceEq, Int.reduceToNat, Int.reduceBEq, c1, hl', tRows_get c, tRows_get cb, tRows_len]
      refine callWp_of (h a[k] b[k] (hok _ (List.getElem_mem c))) ?_
      by_cases he : a[k] = b[k]
      · simp only [walk, Nat.reduceLT, Nat.reduceBEq, Nat.reduceAdd, Nat.reduceLeDiff, reduceIte, Int.reduceLT, Int.reduceLE, Int.reduceEq, Int.reduceToNat, Int.reduceBEq, he, e1]
        refine ih (k + 1) ⟨by omega, ?_⟩ (by omega)
        rw [List.take_add_one, List.take_add_one, hJ, List.getElem?_eq_getElem c, List.getElem?_eq_getElem cb, he]
      · have hf : ¬ a = b := by
          rintro rfl
          exact he rfl
        simp only [walk, Nat.reduceLT, Nat.reduceBEq, Nat.reduceAdd, Nat.reduceLeDiff, reduceIte, Int.reduceLT, Int.reduceLE, Int.reduceEq, Int.reduceToNat, Int.reduceBEq, he, hf]
    · have c1 : ¬ (k : Int) < b.length := by omega
      rw [List.take_of_length_le (by omega), List.take_of_length_le (by omega)] at hJ
      subst hJ
      simp only [walk, Nat.reduceLT, Nat.reduceBEq, Nat.reduceAdd, Nat.reduceLeDiff, reduceIte, Int.reduceLT, Int.reduceLE, Int.reduceEq, Int.reduceToNat, Int.reduceBEq, c1]
  · have hl' : ¬ (a.length : Int) = b.length := by omega
    have hf : ¬ a = b := by
      rintro rfl
      exact hl rfl
    simp only [walk, Nat.reduceLT, Nat.reduceBEq, Nat.reduceAdd, Nat.reduceLeDiff, reduceIte, Int.reduceLT, Int.reduceLE, Int.reduceEq, Int.reduceToNat, Int.reduceBEq, hl', hf]
end
end Go.AR

/-! Transactions: what is read. -/
namespace Go.AR
open Go
def rdOps : Nat → List UInt8 → Int → List Ov × List UInt8 × Int
  | 0, s, b => ([], s, b)
  | n + 1, s, b => let o := rdOp s b; let r := rdOps n o.2.1 o.2.2; (o.1 :: r.1, r.2)
/-- What is left once the inside is read. -/
def tEnd (q : Tx × List UInt8 × Int) : Tx × List UInt8 × Int :=
  (if (if q.2.2 = 0 then tCheck q.1 else q.2.2) = 0 then q.1 else zt, q.2.1, if q.2.2 = 0 then tCheck q.1 else q.2.2)
def rdIns (d : Dt) (u t : Int) (un : Bool) (s : List UInt8) (b : Int) : Tx × List UInt8 × Int :=
  let n := rMany 16 s b; let q := rdOps n.1.toNat n.2.1 n.2.2; (⟨d, u, t, un, q.1⟩, q.2)
def rdTx (s : List UInt8) (b : Int) : Tx × List UInt8 × Int :=
  let d := rdDot s b; let u := rI d.2.1 d.2.2; let t := rI u.2.1 u.2.2; let m := rI t.2.1 t.2.2
  tEnd (rdIns d.1 u.1 t.1 (decide (m.1 = 1)) m.2.1 (if m.2.2 = 0 ∧ m.1 > 1 then 3 else m.2.2))
theorem rdOps_step (n : Nat) (s : List UInt8) (b : Int) (l : List Ov) (k : Nat) (h : k < n) :
    (l ++ (rdOps (n - k) s b).1, (rdOps (n - k) s b).2) = ((l ++ [(rdOp s b).1]) ++ (rdOps (n - (k + 1)) (rdOp s b).2.1 (rdOp s b).2.2).1, (rdOps (n - (k + 1)) (rdOp s b).2.1 (rdOp s b).2.2).2) := by
  rw [show n - k = (n - (k + 1)) + 1 by omega, rdOps]
  simp
theorem nils6b : nilsOf [.int .i64 0, .int .i64 0, .int .i64 0, .int .i64 0, .bool false, .sl 7 []] [(0, 2), (2, 1), (3, 1)] = [5] := rfl
theorem tag6 {a b c d : Int} : tagT [.int .i64 a, .int .i64 b, .int .i64 c, .int .i64 d, .bool false, .sl 7 []] [5] 0 = [.val (.int .i64 a), .val (.int .i64 b), .val (.int .i64 c), .val (.int .i64 d), .val (.bool false), .own 7 []] := rfl
abbrev z6B : Blk := .cells [.val (.int .i64 0), .val (.int .i64 0), .val (.int .i64 0), .val (.int .i64 0), .val (.bool false), .own 7 []]
abbrev tB' (d : Dt) (u t : Int) (un : Bool) (l : List Ov) : Blk := .cells [.val (.int .i64 d.1), .val (.int .i64 d.2), .val (.int .i64 u), .val (.int .i64 t), .val (.bool un), .own 7 (oRows l)]
theorem oRows_app (l : List Ov) (o : Ov) : oRows l ++ [oCells o] = oRows (l ++ [o]) := by simp [oRows]
section
variable {C : CallRel} {F : Nat → FuncId}
def S_tRead (R : Rel) : Prop := ∀ s b, s.length ≤ 20000000 → R [.r (rdr s b)] (.val (tP (rdTx s b).1)) [rdr (rdTx s b).2.1 (rdTx s b).2.2]
theorem g_txn_Read (hD : S_dRead (C (F n_dot_Read))) (hI : S_rInt (C (F n_pack_Reader_Int))) (hF : S_Fault (C (F n_pack_Reader_Fault))) (hX : S_Fail (C (F n_pack_Reader_Fail))) (hM : S_rMany (C (F n_pack_Reader_Many))) (hO : S_oRead (C (F n_op_Read))) (hC : S_tCheck (C (F n_txn_Check))) : S_tRead ((c_txn_Read F).gives C) := by
  intro s b hs
  have hsL : sLen s := by unfold sLen; omega
  refine gives_of rfl ?_
  unfold c_txn_Read rdTx
  simp only [walk, Nat.reduceLT, Nat.reduceBEq, Nat.reduceAdd, Nat.reduceLeDiff, reduceIte, Int.reduceLT, Int.reduceLE, Int.reduceEq, Int.reduceToNat, Int.reduceBEq]
  refine callWp_of (hD s b hsL) ?_
  have l1 := (rdDot_suf s b).length_le
  generalize rdDot s b = x1 at *
  obtain ⟨d, s1, b1⟩ := x1
  simp only at l1
  simp only [walk, Nat.reduceLT, Nat.reduceBEq, Nat.reduceAdd, Nat.reduceLeDiff, reduceIte, Int.reduceLT, Int.reduceLE, Int.reduceEq, Int.reduceToNat, Int.reduceBEq]
  refine callWp_of (hI s1 b1 (by unfold sLen; omega)) ?_
  have l2 := (rI_suf s1 b1).length_le
  generalize rI s1 b1 = x2 at *
  obtain ⟨u, s2, b2⟩ := x2
  simp only at l2
  simp only [walk, Nat.reduceLT, Nat.reduceBEq, Nat.reduceAdd, Nat.reduceLeDiff, reduceIte, Int.reduceLT, Int.reduceLE, Int.reduceEq, Int.reduceToNat, Int.reduceBEq]
  refine callWp_of (hI s2 b2 (by unfold sLen; omega)) ?_
  have l3 := (rI_suf s2 b2).length_le
  generalize rI s2 b2 = x3 at *
  obtain ⟨t, s3, b3⟩ := x3
  simp only at l3
  simp only [walk, Nat.reduceLT, Nat.reduceBEq, Nat.reduceAdd, Nat.reduceLeDiff, reduceIte, Int.reduceLT, Int.reduceLE, Int.reduceEq, Int.reduceToNat, Int.reduceBEq, nils6b, tag6]
  refine callWp_of (hI s3 b3 (by unfold sLen; omega)) ?_
  have l4 := (rI_suf s3 b3).length_le
  generalize rI s3 b3 = x4 at *
  obtain ⟨m, s4, b4⟩ := x4
  simp only at l4
  simp only [walk, Nat.reduceLT, Nat.reduceBEq, Nat.reduceAdd, Nat.reduceLeDiff, reduceIte, Int.reduceLT, Int.reduceLE, Int.reduceEq, Int.reduceToNat, Int.reduceBEq, ieq]
  refine callWp_of (hF s4 b4) ?_
  by_cases hb : b4 = 0
  · by_cases hm : m > 1
    · simp only [walk, Nat.reduceLT, Nat.reduceBEq, Nat.reduceAdd, Nat.reduceLeDiff, reduceIte, Int.reduceLT, Int.reduceLE, Int.reduceEq, Int.reduceToNat, Int.reduceBEq, ieq, hb, hm, and_self]
      refine callWp_of (hX s4 0 3) ?_
      simp only [walk, Nat.reduceLT, Nat.reduceBEq, Nat.reduceAdd, Nat.reduceLeDiff, reduceIte, Int.reduceLT, Int.reduceLE, Int.reduceEq, Int.reduceToNat, Int.reduceBEq, failB]
      refine callWp_of (hM s4 3 16 (by unfold sLen; omega)) ?_
      have hmm := rMany_lt 16 s4 3 (by omega)
      have hsuf := (rMany_suf 16 s4 3).length_le
      unfold rdIns
      generalize rMany 16 s4 3 = n at *
      obtain ⟨n1, s5, b5⟩ := n
      simp only at hmm hsuf
      simp only [walk, Nat.reduceLT, Nat.reduceBEq, Nat.reduceAdd, Nat.reduceLeDiff, reduceIte, Int.reduceLT, Int.reduceLE, Int.reduceEq, Int.reduceToNat, Int.reduceBEq]
      generalize hq : rdOps n1.toNat s5 b5 = q at *
      refine awp_loop_ind (X := Nat × List Ov × List UInt8 × Int) (fun x => ⟨[(0, .lp 0 0), (2, .lp 2 0), (3, .lp 3 0), (4, .val (.int .i64 m)), (23, .val (.bool true)), (27, .val (.int .i64 n1)), (28, .val (.int .i64 x.1))], [(0, rdr x.2.2.1 x.2.2.2), (2, z6B), (3, tB' d u t (decide (m = 1)) x.2.1)]⟩)
        (fun x => x.1 ≤ n1.toNat ∧ x.2.1.length = x.1 ∧ (∀ o ∈ x.2.1, oOk o) ∧ x.2.2.1.length ≤ 20000000 ∧ (x.2.1 ++ (rdOps (n1.toNat - x.1) x.2.2.1 x.2.2.2).1, (rdOps (n1.toNat - x.1) x.2.2.1 x.2.2.2).2) = q) (fun x => n1.toNat - x.1) (0, [], s5, b5) ⟨by omega, by simp, by simp, by simp only; omega, by simpa using hq⟩ rfl ?_
      rintro R ⟨j, l, tt, e⟩ ⟨g1, g2, g3, g4, hJ⟩ ih
      simp only at g1 g2 g3 g4 hJ
      have hb2 : (l.length + 1) * 96 ≤ 140737488355328 := by omega
      simp only [walk, Nat.reduceLT, Nat.reduceBEq, Nat.reduceAdd, Nat.reduceLeDiff, reduceIte, Int.reduceLT, Int.reduceLE, Int.reduceEq, Int.reduceToNat, Int.reduceBEq]
      by_cases c : j < n1.toNat
      · have c1 : (j : Int) < n1 := by omega
        have e1 : IntKind.i64.wrap ((j : Int) + 1) = ((j + 1 : Nat) : Int) := wrap64 (by omega) (by omega)
        simp only [walk, Nat.reduceLT, Nat.reduceBEq, Nat.reduceAdd, Nat.reduceLeDiff, reduceIte, Int.reduceLT, Int.reduceLE, Int.reduceEq, Int.reduceToNat, Int.reduceBEq, c1]
        refine callWp_of (hO tt e g4) ?_
        rw [rdOps_step _ _ _ _ _ c] at hJ
        obtain ⟨k1, k2⟩ := rdOp_ok (s := tt) (b := e) g4
        have k3 := k2.length_le
        have step := ih (j + 1, l ++ [(rdOp tt e).1], (rdOp tt e).2.1, (rdOp tt e).2.2) ⟨by simp only; omega, by simp; omega, fun o ho => by
          rcases List.mem_append.1 ho with ho | ho
          · exact g3 o ho
          · rw [List.mem_singleton.1 ho]; exact k1, by simp only; omega, hJ⟩ (by simp only; omega)
        unfold tB' at step
        rw [← oRows_app] at step
        simp only [walk, Nat.reduceLT, Nat.reduceBEq, Nat.reduceAdd, Nat.reduceLeDiff, reduceIte, Int.reduceLT, Int.reduceLE, Int.reduceEq, Int.reduceToNat, Int.reduceBEq, oRows_len, hb2, e1]
        exact step
      · have c1 : ¬ (j : Int) < n1 := by omega
        rw [show n1.toNat - j = 0 by omega, rdOps] at hJ
        simp only [List.append_nil] at hJ
        subst hJ
        simp only [walk, Nat.reduceLT, Nat.reduceBEq, Nat.reduceAdd, Nat.reduceLeDiff, reduceIte, Int.reduceLT, Int.reduceLE, Int.reduceEq, Int.reduceToNat, Int.reduceBEq, c1]
        refine callWp_of (hF tt e) ?_
        have hok : tOk ⟨d, u, t, decide (m = 1), l⟩ := ⟨by simp only; omega, g3⟩
        unfold tEnd
        by_cases he : e = 0
        · simp only [walk, Nat.reduceLT, Nat.reduceBEq, Nat.reduceAdd, Nat.reduceLeDiff, reduceIte, Int.reduceLT, Int.reduceLE, Int.reduceEq, Int.reduceToNat, Int.reduceBEq, ieq, he]
          refine callWp_of (hC ⟨d, u, t, decide (m = 1), l⟩ hok) ?_
          generalize hc : tCheck ⟨d, u, t, decide (m = 1), l⟩ = cc
          simp only [walk, Nat.reduceLT, Nat.reduceBEq, Nat.reduceAdd, Nat.reduceLeDiff, reduceIte, Int.reduceLT, Int.reduceLE, Int.reduceEq, Int.reduceToNat, Int.reduceBEq]
          refine callWp_of (hX tt 0 cc) ?_
          simp only [walk, Nat.reduceLT, Nat.reduceBEq, Nat.reduceAdd, Nat.reduceLeDiff, reduceIte, Int.reduceLT, Int.reduceLE, Int.reduceEq, Int.reduceToNat, Int.reduceBEq, failB]
          refine callWp_of (hF tt cc) ?_
          by_cases h0 : cc = 0
          · simp only [walk, Nat.reduceLT, Nat.reduceBEq, Nat.reduceAdd, Nat.reduceLeDiff, reduceIte, Int.reduceLT, Int.reduceLE, Int.reduceEq, Int.reduceToNat, Int.reduceBEq, ine, ne_eq, decide_not, hc, h0]
            all_goals rfl
          · simp only [walk, Nat.reduceLT, Nat.reduceBEq, Nat.reduceAdd, Nat.reduceLeDiff, reduceIte, Int.reduceLT, Int.reduceLE, Int.reduceEq, Int.reduceToNat, Int.reduceBEq, ine, ne_eq, decide_not, hc, h0]
            all_goals rfl
        · simp only [walk, Nat.reduceLT, Nat.reduceBEq, Nat.reduceAdd, Nat.reduceLeDiff, reduceIte, Int.reduceLT, Int.reduceLE, Int.reduceEq, Int.reduceToNat, Int.reduceBEq, ieq, he]
          refine callWp_of (hF tt e) ?_
          simp only [walk, Nat.reduceLT, Nat.reduceBEq, Nat.reduceAdd, Nat.reduceLeDiff, reduceIte, Int.reduceLT, Int.reduceLE, Int.reduceEq, Int.reduceToNat, Int.reduceBEq, ine, ne_eq, decide_not, he]
          all_goals rfl
    · simp only [walk, Nat.reduceLT, Nat.reduceBEq, Nat.reduceAdd, Nat.reduceLeDiff, reduceIte, Int.reduceLT, Int.reduceLE, Int.reduceEq, Int.reduceToNat, Int.reduceBEq, ieq, hb, hm, and_false]
      refine callWp_of (hM s4 0 16 (by unfold sLen; omega)) ?_
      have hmm := rMany_lt 16 s4 0 (by omega)
      have hsuf := (rMany_suf 16 s4 0).length_le
      unfold rdIns
      generalize rMany 16 s4 0 = n at *
      obtain ⟨n1, s5, b5⟩ := n
      simp only at hmm hsuf
      simp only [walk, Nat.reduceLT, Nat.reduceBEq, Nat.reduceAdd, Nat.reduceLeDiff, reduceIte, Int.reduceLT, Int.reduceLE, Int.reduceEq, Int.reduceToNat, Int.reduceBEq]
      generalize hq : rdOps n1.toNat s5 b5 = q at *
      refine awp_loop_ind (X := Nat × List Ov × List UInt8 × Int) (fun x => ⟨[(0, .lp 0 0), (2, .lp 2 0), (3, .lp 3 0), (4, .val (.int .i64 m)), (23, .val (.bool false)), (27, .val (.int .i64 n1)), (28, .val (.int .i64 x.1))], [(0, rdr x.2.2.1 x.2.2.2), (2, z6B), (3, tB' d u t (decide (m = 1)) x.2.1)]⟩)
        (fun x => x.1 ≤ n1.toNat ∧ x.2.1.length = x.1 ∧ (∀ o ∈ x.2.1, oOk o) ∧ x.2.2.1.length ≤ 20000000 ∧ (x.2.1 ++ (rdOps (n1.toNat - x.1) x.2.2.1 x.2.2.2).1, (rdOps (n1.toNat - x.1) x.2.2.1 x.2.2.2).2) = q) (fun x => n1.toNat - x.1) (0, [], s5, b5) ⟨by omega, by simp, by simp, by simp only; omega, by simpa using hq⟩ rfl ?_
      rintro R ⟨j, l, tt, e⟩ ⟨g1, g2, g3, g4, hJ⟩ ih
      simp only at g1 g2 g3 g4 hJ
      have hb2 : (l.length + 1) * 96 ≤ 140737488355328 := by omega
      simp only [walk, Nat.reduceLT, Nat.reduceBEq, Nat.reduceAdd, Nat.reduceLeDiff, reduceIte, Int.reduceLT, Int.reduceLE, Int.reduceEq, Int.reduceToNat, Int.reduceBEq]
      by_cases c : j < n1.toNat
      · have c1 : (j : Int) < n1 := by omega
        have e1 : IntKind.i64.wrap ((j : Int) + 1) = ((j + 1 : Nat) : Int) := wrap64 (by omega) (by omega)
        simp only [walk, Nat.reduceLT, Nat.reduceBEq, Nat.reduceAdd, Nat.reduceLeDiff, reduceIte, Int.reduceLT, Int.reduceLE, Int.reduceEq, Int.reduceToNat, Int.reduceBEq, c1]
        refine callWp_of (hO tt e g4) ?_
        rw [rdOps_step _ _ _ _ _ c] at hJ
        obtain ⟨k1, k2⟩ := rdOp_ok (s := tt) (b := e) g4
        have k3 := k2.length_le
        have step := ih (j + 1, l ++ [(rdOp tt e).1], (rdOp tt e).2.1, (rdOp tt e).2.2) ⟨by simp only; omega, by simp; omega, fun o ho => by
          rcases List.mem_append.1 ho with ho | ho
          · exact g3 o ho
          · rw [List.mem_singleton.1 ho]; exact k1, by simp only; omega, hJ⟩ (by simp only; omega)
        unfold tB' at step
        rw [← oRows_app] at step
        simp only [walk, Nat.reduceLT, Nat.reduceBEq, Nat.reduceAdd, Nat.reduceLeDiff, reduceIte, Int.reduceLT, Int.reduceLE, Int.reduceEq, Int.reduceToNat, Int.reduceBEq, oRows_len, hb2, e1]
        exact step
      · have c1 : ¬ (j : Int) < n1 := by omega
        rw [show n1.toNat - j = 0 by omega, rdOps] at hJ
        simp only [List.append_nil] at hJ
        subst hJ
        simp only [walk, Nat.reduceLT, Nat.reduceBEq, Nat.reduceAdd, Nat.reduceLeDiff, reduceIte, Int.reduceLT, Int.reduceLE, Int.reduceEq, Int.reduceToNat, Int.reduceBEq, c1]
        refine callWp_of (hF tt e) ?_
        have hok : tOk ⟨d, u, t, decide (m = 1), l⟩ := ⟨by simp only; omega, g3⟩
        unfold tEnd
        by_cases he : e = 0
        · simp only [walk, Nat.reduceLT, Nat.reduceBEq, Nat.reduceAdd, Nat.reduceLeDiff, reduceIte, Int.reduceLT, Int.reduceLE, Int.reduceEq, Int.reduceToNat, Int.reduceBEq, ieq, he]
          refine callWp_of (hC ⟨d, u, t, decide (m = 1), l⟩ hok) ?_
          generalize hc : tCheck ⟨d, u, t, decide (m = 1), l⟩ = cc
          simp only [walk, Nat.reduceLT, Nat.reduceBEq, Nat.reduceAdd, Nat.reduceLeDiff, reduceIte, Int.reduceLT, Int.reduceLE, Int.reduceEq, Int.reduceToNat, Int.reduceBEq]
          refine callWp_of (hX tt 0 cc) ?_
          simp only [walk, Nat.reduceLT, Nat.reduceBEq, Nat.reduceAdd, Nat.reduceLeDiff, reduceIte, Int.reduceLT, Int.reduceLE, Int.reduceEq, Int.reduceToNat, Int.reduceBEq, failB]
          refine callWp_of (hF tt cc) ?_
          by_cases h0 : cc = 0
          · simp only [walk, Nat.reduceLT, Nat.reduceBEq, Nat.reduceAdd, Nat.reduceLeDiff, reduceIte, Int.reduceLT, Int.reduceLE, Int.reduceEq, Int.reduceToNat, Int.reduceBEq, ine, ne_eq, decide_not, hc, h0]
            all_goals rfl
          · simp only [walk, Nat.reduceLT, Nat.reduceBEq, Nat.reduceAdd, Nat.reduceLeDiff, reduceIte, Int.reduceLT, Int.reduceLE, Int.reduceEq, Int.reduceToNat, Int.reduceBEq, ine, ne_eq, decide_not, hc, h0]
            all_goals rfl
        · simp only [walk, Nat.reduceLT, Nat.reduceBEq, Nat.reduceAdd, Nat.reduceLeDiff, reduceIte, Int.reduceLT, Int.reduceLE, Int.reduceEq, Int.reduceToNat, Int.reduceBEq, ieq, he]
          refine callWp_of (hF tt e) ?_
          simp only [walk, Nat.reduceLT, Nat.reduceBEq, Nat.reduceAdd, Nat.reduceLeDiff, reduceIte, Int.reduceLT, Int.reduceLE, Int.reduceEq, Int.reduceToNat, Int.reduceBEq, ine, ne_eq, decide_not, he]
          all_goals rfl
  · simp only [walk, Nat.reduceLT, Nat.reduceBEq, Nat.reduceAdd, Nat.reduceLeDiff, reduceIte, Int.reduceLT, Int.reduceLE, Int.reduceEq, Int.reduceToNat, Int.reduceBEq, ieq, hb, false_and]
    refine callWp_of (hM s4 b4 16 (by unfold sLen; omega)) ?_
    have hmm := rMany_lt 16 s4 b4 (by omega)
    have hsuf := (rMany_suf 16 s4 b4).length_le
    unfold rdIns
    generalize rMany 16 s4 b4 = n at *
    obtain ⟨n1, s5, b5⟩ := n
    simp only at hmm hsuf
    simp only [walk, Nat.reduceLT, Nat.reduceBEq, Nat.reduceAdd, Nat.reduceLeDiff, reduceIte, Int.reduceLT, Int.reduceLE, Int.reduceEq, Int.reduceToNat, Int.reduceBEq]
    generalize hq : rdOps n1.toNat s5 b5 = q at *
    refine awp_loop_ind (X := Nat × List Ov × List UInt8 × Int) (fun x => ⟨[(0, .lp 0 0), (2, .lp 2 0), (3, .lp 3 0), (4, .val (.int .i64 m)), (23, .val (.bool false)), (27, .val (.int .i64 n1)), (28, .val (.int .i64 x.1))], [(0, rdr x.2.2.1 x.2.2.2), (2, z6B), (3, tB' d u t (decide (m = 1)) x.2.1)]⟩)
      (fun x => x.1 ≤ n1.toNat ∧ x.2.1.length = x.1 ∧ (∀ o ∈ x.2.1, oOk o) ∧ x.2.2.1.length ≤ 20000000 ∧ (x.2.1 ++ (rdOps (n1.toNat - x.1) x.2.2.1 x.2.2.2).1, (rdOps (n1.toNat - x.1) x.2.2.1 x.2.2.2).2) = q) (fun x => n1.toNat - x.1) (0, [], s5, b5) ⟨by omega, by simp, by simp, by simp only; omega, by simpa using hq⟩ rfl ?_
    rintro R ⟨j, l, tt, e⟩ ⟨g1, g2, g3, g4, hJ⟩ ih
    simp only at g1 g2 g3 g4 hJ
    have hb2 : (l.length + 1) * 96 ≤ 140737488355328 := by omega
    simp only [walk, Nat.reduceLT, Nat.reduceBEq, Nat.reduceAdd, Nat.reduceLeDiff, reduceIte, Int.reduceLT, Int.reduceLE, Int.reduceEq, Int.reduceToNat, Int.reduceBEq]
    by_cases c : j < n1.toNat
    · have c1 : (j : Int) < n1 := by omega
      have e1 : IntKind.i64.wrap ((j : Int) + 1) = ((j + 1 : Nat) : Int) := wrap64 (by omega) (by omega)
      simp only [walk, Nat.reduceLT, Nat.reduceBEq, Nat.reduceAdd, Nat.reduceLeDiff, reduceIte, Int.reduceLT, Int.reduceLE, Int.reduceEq, Int.reduceToNat, Int.reduceBEq, c1]
      refine callWp_of (hO tt e g4) ?_
      rw [rdOps_step _ _ _ _ _ c] at hJ
      obtain ⟨k1, k2⟩ := rdOp_ok (s := tt) (b := e) g4
      have k3 := k2.length_le
      have step := ih (j + 1, l ++ [(rdOp tt e).1], (rdOp tt e).2.1, (rdOp tt e).2.2) ⟨by simp only; omega, by simp; omega, fun o ho => by
        rcases List.mem_append.1 ho with ho | ho
        · exact g3 o ho
        · rw [List.mem_singleton.1 ho]; exact k1, by simp only; omega, hJ⟩ (by simp only; omega)
      unfold tB' at step
      rw [← oRows_app] at step
      simp only [walk, Nat.reduceLT, Nat.reduceBEq, Nat.reduceAdd, Nat.reduceLeDiff, reduceIte, Int.reduceLT, Int.reduceLE, Int.reduceEq, Int.reduceToNat, Int.reduceBEq, oRows_len, hb2, e1]
      exact step
    · have c1 : ¬ (j : Int) < n1 := by omega
      rw [show n1.toNat - j = 0 by omega, rdOps] at hJ
      simp only [List.append_nil] at hJ
      subst hJ
      simp only [walk, Nat.reduceLT, Nat.reduceBEq, Nat.reduceAdd, Nat.reduceLeDiff, reduceIte, Int.reduceLT, Int.reduceLE, Int.reduceEq, Int.reduceToNat, Int.reduceBEq, c1]
      refine callWp_of (hF tt e) ?_
      have hok : tOk ⟨d, u, t, decide (m = 1), l⟩ := ⟨by simp only; omega, g3⟩
      unfold tEnd
      by_cases he : e = 0
      · simp only [walk, Nat.reduceLT, Nat.reduceBEq, Nat.reduceAdd, Nat.reduceLeDiff, reduceIte, Int.reduceLT, Int.reduceLE, Int.reduceEq, Int.reduceToNat, Int.reduceBEq, ieq, he]
        refine callWp_of (hC ⟨d, u, t, decide (m = 1), l⟩ hok) ?_
        generalize hc : tCheck ⟨d, u, t, decide (m = 1), l⟩ = cc
        simp only [walk, Nat.reduceLT, Nat.reduceBEq, Nat.reduceAdd, Nat.reduceLeDiff, reduceIte, Int.reduceLT, Int.reduceLE, Int.reduceEq, Int.reduceToNat, Int.reduceBEq]
        refine callWp_of (hX tt 0 cc) ?_
        simp only [walk, Nat.reduceLT, Nat.reduceBEq, Nat.reduceAdd, Nat.reduceLeDiff, reduceIte, Int.reduceLT, Int.reduceLE, Int.reduceEq, Int.reduceToNat, Int.reduceBEq, failB]
        refine callWp_of (hF tt cc) ?_
        by_cases h0 : cc = 0
        · simp only [walk, Nat.reduceLT, Nat.reduceBEq, Nat.reduceAdd, Nat.reduceLeDiff, reduceIte, Int.reduceLT, Int.reduceLE, Int.reduceEq, Int.reduceToNat, Int.reduceBEq, ine, ne_eq, decide_not, hc, h0]
          all_goals rfl
        · simp only [walk, Nat.reduceLT, Nat.reduceBEq, Nat.reduceAdd, Nat.reduceLeDiff, reduceIte, Int.reduceLT, Int.reduceLE, Int.reduceEq, Int.reduceToNat, Int.reduceBEq, ine, ne_eq, decide_not, hc, h0]
          all_goals rfl
      · simp only [walk, Nat.reduceLT, Nat.reduceBEq, Nat.reduceAdd, Nat.reduceLeDiff, reduceIte, Int.reduceLT, Int.reduceLE, Int.reduceEq, Int.reduceToNat, Int.reduceBEq, ieq, he]
        refine callWp_of (hF tt e) ?_
        simp only [walk, Nat.reduceLT, Nat.reduceBEq, Nat.reduceAdd, Nat.reduceLeDiff, reduceIte, Int.reduceLT, Int.reduceLE, Int.reduceEq, Int.reduceToNat, Int.reduceBEq, ine, ne_eq, decide_not, he]
        all_goals rfl
end
end Go.AR

/-! Transactions, many: read. -/
namespace Go.AR
open Go
def rdTxs : Nat → List UInt8 → Int → List Tx × List UInt8 × Int
  | 0, s, b => ([], s, b)
  | n + 1, s, b => let o := rdTx s b; let r := rdTxs n o.2.1 o.2.2; (o.1 :: r.1, r.2)
def lEnd (q : List Tx × List UInt8 × Int) : List Tx × List UInt8 × Int :=
  (if (if q.2.2 = 0 ∧ risesT q.1 = false then 2 else q.2.2) = 0 then q.1 else [], q.2.1, if q.2.2 = 0 ∧ risesT q.1 = false then 2 else q.2.2)
def rList (most : Int) (s : List UInt8) (b : Int) : List Tx × List UInt8 × Int :=
  let m := rMany most s b; lEnd (rdTxs m.1.toNat m.2.1 m.2.2)
theorem rdTxs_step (n : Nat) (s : List UInt8) (b : Int) (l : List Tx) (k : Nat) (h : k < n) :
    (l ++ (rdTxs (n - k) s b).1, (rdTxs (n - k) s b).2) = ((l ++ [(rdTx s b).1]) ++ (rdTxs (n - (k + 1)) (rdTx s b).2.1 (rdTx s b).2.2).1, (rdTxs (n - (k + 1)) (rdTx s b).2.1 (rdTx s b).2.2).2) := by
  rw [show n - k = (n - (k + 1)) + 1 by omega, rdTxs]
  simp
theorem rdOps_ok : ∀ (n : Nat) {s : List UInt8} {b : Int}, s.length ≤ 20000000 → (∀ o ∈ (rdOps n s b).1, oOk o) ∧ (rdOps n s b).2.1 <:+ s ∧ (rdOps n s b).1.length = n
  | 0, s, b, _ => ⟨by simp [rdOps], List.suffix_refl _, rfl⟩
  | n + 1, s, b, h => by
    obtain ⟨k1, k2⟩ := rdOp_ok (s := s) (b := b) h
    obtain ⟨i1, i2, i3⟩ := rdOps_ok n (s := (rdOp s b).2.1) (b := (rdOp s b).2.2) (by have := k2.length_le; omega)
    refine ⟨fun o ho => ?_, i2.trans k2, by simp [rdOps, i3]⟩
    simp only [rdOps] at ho
    rcases List.mem_cons.1 ho with rfl | ho
    · exact k1
    · exact i1 o ho
theorem tOk_z : tOk zt := ⟨by simp [zt], by simp [zt]⟩
theorem rdTx_ok {s : List UInt8} {b : Int} (hs : s.length ≤ 20000000) : tOk (rdTx s b).1 ∧ (rdTx s b).2.1 <:+ s := by
  unfold rdTx
  dsimp only
  have s1 := rdDot_suf s b
  generalize rdDot s b = x1 at *
  have s2 := (rI_suf x1.2.1 x1.2.2).trans s1
  generalize rI x1.2.1 x1.2.2 = x2 at *
  have s3 := (rI_suf x2.2.1 x2.2.2).trans s2
  generalize rI x2.2.1 x2.2.2 = x3 at *
  have s4 := (rI_suf x3.2.1 x3.2.2).trans s3
  generalize rI x3.2.1 x3.2.2 = x4 at *
  generalize (if x4.2.2 = 0 ∧ x4.1 > 1 then 3 else x4.2.2) = b5
  unfold rdIns
  dsimp only
  have hm := rMany_lt 16 x4.2.1 b5 (by omega)
  have s5 := (rMany_suf 16 x4.2.1 b5).trans s4
  generalize rMany 16 x4.2.1 b5 = m at *
  obtain ⟨i1, i2, i3⟩ := rdOps_ok m.1.toNat (s := m.2.1) (b := m.2.2) (by have := s5.length_le; omega)
  generalize rdOps m.1.toNat m.2.1 m.2.2 = q at *
  refine ⟨?_, i2.trans s5⟩
  have key : ∀ (e : Int) (x : Tx), tOk x → tOk (if e = 0 then x else zt) := by
    intro e x hx; by_cases h : e = 0
    · rw [if_pos h]; exact hx
    · rw [if_neg h]; exact tOk_z
  unfold tEnd
  exact key _ _ ⟨by simp only; omega, i1⟩
/-- How many can be told. -/
theorem rMany_few (most : Int) (s : List UInt8) (b : Int) (h : most ≤ 1000000 ∨ s.length ≤ 1000000) : 0 ≤ (rMany most s b).1 ∧ (rMany most s b).1 ≤ 1000000 := by
  have hr := rI_lt s b
  unfold rMany
  dsimp only
  by_cases h0 : (rI s b).2.2 = 0
  · rw [if_pos h0]
    by_cases h1 : (rI s b).1 > most
    · rw [if_pos h1]; exact ⟨by simp, by simp⟩
    · rw [if_neg h1]
      by_cases h2 : (rI s b).1 > (rI s b).2.1.length
      · rw [if_pos h2]; exact ⟨by simp, by simp⟩
      · rw [if_neg h2]; exact ⟨hr.1, by omega⟩
  · rw [if_neg h0]; exact ⟨by simp, by simp⟩
section
variable {C : CallRel} {F : Nat → FuncId}
def S_tsRead (R : Rel) : Prop := ∀ s b (most : Int), s.length ≤ 20000000 → (most ≤ 1000000 ∨ s.length ≤ 1000000) → R [.r (rdr s b), .v (.int .i64 most)] (.val (tsP (rList most s b).1)) [rdr (rList most s b).2.1 (rList most s b).2.2]
theorem g_txn_ReadList (hM : S_rMany (C (F n_pack_Reader_Many))) (hT : S_tRead (C (F n_txn_Read))) (hF : S_Fault (C (F n_pack_Reader_Fault))) (hR : S_tRises (C (F n_txn_Rises))) (hX : S_Fail (C (F n_pack_Reader_Fail))) : S_tsRead ((c_txn_ReadList F).gives C) := by
  intro s b most hs hw
  refine gives_of rfl ?_
  unfold c_txn_ReadList rList
  simp only [walk, Nat.reduceLT, Nat.reduceBEq, Nat.reduceAdd, Nat.reduceLeDiff, reduceIte, Int.reduceLT, Int.reduceLE, Int.reduceEq, Int.reduceToNat, Int.reduceBEq]
  refine callWp_of (hM s b most (by unfold sLen; omega)) ?_
  have hmm := rMany_few most s b hw
  have hsuf := (rMany_suf most s b).length_le
  generalize rMany most s b = n at *
  obtain ⟨n1, s5, b5⟩ := n
  simp only at hmm hsuf
  simp only [walk, Nat.reduceLT, Nat.reduceBEq, Nat.reduceAdd, Nat.reduceLeDiff, reduceIte, Int.reduceLT, Int.reduceLE, Int.reduceEq, Int.reduceToNat, Int.reduceBEq]
  generalize hq : rdTxs n1.toNat s5 b5 = q at *
  refine awp_loop_ind (X := Nat × List Tx × List UInt8 × Int) (fun x => ⟨[(0, .lp 0 0), (1, .val (.int .i64 most)), (4, .val (.sl 6 [])), (5, .own 6 (tRows x.2.1)), (8, .val (.int .i64 n1)), (9, .val (.int .i64 x.1))], [(0, rdr x.2.2.1 x.2.2.2)]⟩)
    (fun x => x.1 ≤ n1.toNat ∧ x.2.1.length = x.1 ∧ x.2.2.1.length ≤ 20000000 ∧ (x.2.1 ++ (rdTxs (n1.toNat - x.1) x.2.2.1 x.2.2.2).1, (rdTxs (n1.toNat - x.1) x.2.2.1 x.2.2.2).2) = q) (fun x => n1.toNat - x.1) (0, [], s5, b5) ⟨by omega, by simp, by simp only; omega, by simpa using hq⟩ rfl ?_
  rintro R ⟨j, l, tt, e⟩ ⟨g1, g2, g4, hJ⟩ ih
  simp only at g1 g2 g4 hJ
  have hb2 : (l.length + 1) * 64 ≤ 140737488355328 := by omega
  simp only [walk, Nat.reduceLT, Nat.reduceBEq, Nat.reduceAdd, Nat.reduceLeDiff, reduceIte, Int.reduceLT, Int.reduceLE, Int.reduceEq, Int.reduceToNat, Int.reduceBEq]
  by_cases c : j < n1.toNat
  · have c1 : (j : Int) < n1 := by omega
    have e1 : IntKind.i64.wrap ((j : Int) + 1) = ((j + 1 : Nat) : Int) := wrap64 (by omega) (by omega)
    simp only [walk, Nat.reduceLT, Nat.reduceBEq, Nat.reduceAdd, Nat.reduceLeDiff, reduceIte, Int.reduceLT, Int.reduceLE, Int.reduceEq, Int.reduceToNat, Int.reduceBEq, c1]
    refine callWp_of (hT tt e g4) ?_
    rw [rdTxs_step _ _ _ _ _ c] at hJ
    obtain ⟨k1, k2⟩ := rdTx_ok (s := tt) (b := e) g4
    have k3 := k2.length_le
    have step := ih (j + 1, l ++ [(rdTx tt e).1], (rdTx tt e).2.1, (rdTx tt e).2.2) ⟨by simp only; omega, by simp; omega, by simp only; omega, hJ⟩ (by simp only; omega)
    rw [← tRows_app] at step
    simp only [walk, Nat.reduceLT, Nat.reduceBEq, Nat.reduceAdd, Nat.reduceLeDiff, reduceIte, Int.reduceLT, Int.reduceLE, Int.reduceEq, Int.reduceToNat, Int.reduceBEq, tRows_len, hb2, e1]
    exact step
  · have c1 : ¬ (j : Int) < n1 := by omega
    rw [show n1.toNat - j = 0 by omega, rdTxs] at hJ
    simp only [List.append_nil] at hJ
    subst hJ
    simp only [walk, Nat.reduceLT, Nat.reduceBEq, Nat.reduceAdd, Nat.reduceLeDiff, reduceIte, Int.reduceLT, Int.reduceLE, Int.reduceEq, Int.reduceToNat, Int.reduceBEq, c1]
    refine callWp_of (hF tt e) ?_
    unfold lEnd
    by_cases he : e = 0
    · simp only [walk, Nat.reduceLT, Nat.reduceBEq, Nat.reduceAdd, Nat.reduceLeDiff, reduceIte, Int.reduceLT, Int.reduceLE, Int.reduceEq, Int.reduceToNat, Int.reduceBEq, ieq, he]
      refine callWp_of (hR l (by omega)) ?_
      cases hr : risesT l with
      | true =>
        simp only [walk, Nat.reduceLT, Nat.reduceBEq, Nat.reduceAdd, Nat.reduceLeDiff, reduceIte, Int.reduceLT, Int.reduceLE, Int.reduceEq, Int.reduceToNat, Int.reduceBEq]
        refine callWp_of (hF tt 0) ?_
        simp only [walk, Nat.reduceLT, Nat.reduceBEq, Nat.reduceAdd, Nat.reduceLeDiff, reduceIte, Int.reduceLT, Int.reduceLE, Int.reduceEq, Int.reduceToNat, Int.reduceBEq, ine, ne_eq, decide_not, and_false]
      | false =>
        simp only [walk, Nat.reduceLT, Nat.reduceBEq, Nat.reduceAdd, Nat.reduceLeDiff, reduceIte, Int.reduceLT, Int.reduceLE, Int.reduceEq, Int.reduceToNat, Int.reduceBEq]
        refine callWp_of (hX tt 0 2) ?_
        simp only [walk, Nat.reduceLT, Nat.reduceBEq, Nat.reduceAdd, Nat.reduceLeDiff, reduceIte, Int.reduceLT, Int.reduceLE, Int.reduceEq, Int.reduceToNat, Int.reduceBEq, failB]
        refine callWp_of (hF tt 2) ?_
        simp only [walk, Nat.reduceLT, Nat.reduceBEq, Nat.reduceAdd, Nat.reduceLeDiff, reduceIte, Int.reduceLT, Int.reduceLE, Int.reduceEq, Int.reduceToNat, Int.reduceBEq, ine, ne_eq, decide_not, and_self]
        all_goals rfl
    · simp only [walk, Nat.reduceLT, Nat.reduceBEq, Nat.reduceAdd, Nat.reduceLeDiff, reduceIte, Int.reduceLT, Int.reduceLE, Int.reduceEq, Int.reduceToNat, Int.reduceBEq, ieq, he]
      refine callWp_of (hF tt e) ?_
      simp only [walk, Nat.reduceLT, Nat.reduceBEq, Nat.reduceAdd, Nat.reduceLeDiff, reduceIte, Int.reduceLT, Int.reduceLE, Int.reduceEq, Int.reduceToNat, Int.reduceBEq, ine, ne_eq, decide_not, he, false_and]
      all_goals rfl
end
end Go.AR

/-! Transactions: what was told is read again. -/
namespace Go.AR
open Go
theorem oCode_pos (o : Ov) : 1 ≤ (oCode o).length := by
  have := vint_pos o.k.toNat
  unfold oCode pInt
  rw [List.length_append]; omega
theorem ops_ge : ∀ (l : List Ov), l.length ≤ ((l.map oCode).flatten).length
  | [] => by simp
  | o :: l => by
    have := ops_ge l
    have h := oCode_pos o
    rw [List.map_cons, List.flatten_cons, List.length_append, List.length_cons]
    omega
theorem rdOps_code : ∀ (l : List Ov) (rest : List UInt8), (∀ o ∈ l, oCheck o = 0 ∨ oGone o = true) → rdOps l.length ((l.map oCode).flatten ++ rest) 0 = (l, rest, 0)
  | [], rest, _ => rfl
  | o :: l, rest, h => by
    rw [List.length_cons, rdOps, List.map_cons, List.flatten_cons, List.append_assoc, rdOp_code (h o (by simp))]
    simp only
    rw [rdOps_code l rest (fun t ht => h t (by simp [ht]))]
theorem rdTx_code {x : Tx} (h : tCheck x = 0) (rest : List UInt8) : rdTx (tCode x ++ rest) 0 = (x, rest, 0) := by
  obtain ⟨c1, c2, c3, c4, c5, c6, c7, c8⟩ := tcheck_zero h
  have hg := ops_ge x.ops
  obtain ⟨d, u, t, un, ops⟩ := x
  simp only at c1 c2 c3 c4 c5 c6 c7 c8 hg
  have hd := dotOk_iff.1 c1
  have hun : 0 ≤ unI un ∧ unI un ≤ 1 := by cases un <;> simp [unI]
  have hdec : decide (unI un = 1) = un := by cases un <;> rfl
  unfold rdTx tCode osCode
  simp only [List.append_assoc]
  rw [rdDot_code c1]
  simp only
  rw [rI_pInt c2 (by omega)]
  simp only
  rw [rI_pInt (by omega) (by omega)]
  simp only
  rw [rI_pInt hun.1 (by omega)]
  simp only
  rw [if_neg (by omega), hdec]
  unfold rdIns
  rw [pInt, Int.toNat_natCast, rMany_vint 16 ops.length _ (by omega) (by omega) (by rw [List.length_append]; omega)]
  simp only [Int.toNat_natCast]
  rw [rdOps_code ops rest (fun o ho => (c8 o ho).imp id (·.2))]
  simp [tEnd, h]
def lCode (l : List Tx) : List UInt8 := pInt l.length ++ (l.map tCode).flatten
theorem tCode_pos (x : Tx) : 1 ≤ (tCode x).length := by
  have := vint_pos x.d.1.toNat
  unfold tCode dCode pInt
  simp only [List.length_append]; omega
theorem txs_ge : ∀ (l : List Tx), l.length ≤ ((l.map tCode).flatten).length
  | [] => by simp
  | x :: l => by
    have := txs_ge l
    have h := tCode_pos x
    rw [List.map_cons, List.flatten_cons, List.length_append, List.length_cons]
    omega
theorem rdTxs_code : ∀ (l : List Tx) (rest : List UInt8), (∀ x ∈ l, tCheck x = 0) → rdTxs l.length ((l.map tCode).flatten ++ rest) 0 = (l, rest, 0)
  | [], rest, _ => rfl
  | x :: l, rest, h => by
    rw [List.length_cons, rdTxs, List.map_cons, List.flatten_cons, List.append_assoc, rdTx_code (h x (by simp))]
    simp only
    rw [rdTxs_code l rest (fun t ht => h t (by simp [ht]))]
theorem rList_code {l : List Tx} (h : ∀ x ∈ l, tCheck x = 0) (hr : risesT l = true) (hl : l.length ≤ 30) : rList 30 (lCode l) 0 = (l, [], 0) := by
  have hg := txs_ge l
  unfold rList lCode
  rw [pInt, Int.toNat_natCast, rMany_vint 30 l.length _ (by omega) (by omega) (by omega)]
  simp only [Int.toNat_natCast]
  have := rdTxs_code l [] h
  rw [List.append_nil] at this
  rw [this]
  simp [lEnd, hr]
theorem tCode_len {x : Tx} (hs : tShort x = true) (h : tCheck x = 0) : (tCode x).length ≤ 600000 := by
  obtain ⟨s1, s2, s3⟩ := tShort_ok hs
  obtain ⟨c1, c2, c3, c4, c5, c6, c7, c8⟩ := tcheck_zero h
  have hf := tfit_of hs h
  have l1 := dCode_len hf.2.1
  have l2 := pInt_len hf.2.2.1
  have l3 := pInt_len hf.2.2.2.1
  have l4 := pInt_len (unI_ok x.un)
  have l5 := pInt_len (n := x.ops.length) (i64ok_nat (by omega))
  have key : ∀ (l : List Ov), (∀ o ∈ l, (oCode o).length ≤ 31100) → ((l.map oCode).flatten).length ≤ l.length * 31100 := by
    intro l
    induction l with
    | nil => simp
    | cons r l ih =>
      intro h
      have h1 := h r (by simp)
      have h2 := ih (fun t ht => h t (by simp [ht]))
      rw [List.map_cons, List.flatten_cons, List.length_append, List.length_cons]; omega
  have l6 := key x.ops (fun o ho => oCode_len31 (s2 o ho) ((c8 o ho).imp id (·.2)))
  unfold tCode osCode
  simp only [List.length_append]
  omega
def goodT (most : Int) (l : List Tx) : Bool := decide ((l.length : Int) ≤ most) && (risesT l && l.all fun x => tShort x && decide (tCheck x = 0))
end Go.AR

/-! Transactions: the laws of order and places. -/
namespace Go.AR
open Go
section
variable {C : CallRel} {F : Nat → FuncId}
def S_tOrder (R : Rel) : Prop := ∀ l : List Tx, R [.v (tsP l)] (.val (.bool true)) []
end
end Go.AR
