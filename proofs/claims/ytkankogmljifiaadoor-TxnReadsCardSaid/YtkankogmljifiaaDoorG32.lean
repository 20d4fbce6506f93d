import Derived.Test.YtkankogmljifiaaDoorG31
import Derived.Test.YtkankogmljifiaaDoorG25
import Derived.Test.YtkankogmljifiaaDoorG09
import Derived.Test.YtkankogmljifiaaDoorG08
import Derived.Test.YtkankogmljifiaaDoorG27
import Derived.Test.YtkankogmljifiaaDoorG04
import Derived.Shelf.Strings.OnBuilder
set_option linter.all false
/-! Paths: bytes, texts, readers. -/
namespace Go.AR
open Go
section
variable {C : CallRel} {F : Nat → FuncId}
def S_pRead (R : Rel) : Prop := ∀ s b, s.length ≤ 20000000 → R [.r (rdr s b)] (.val (ptP (rPath s b).1)) [rdr (rPath s b).2.1 (rPath s b).2.2]
def S_XPath (R : Rel) : Prop := ∀ S s b, S.length ≤ 20000000 → s <:+ S → R [.r (X S s b)] (.val (ptP (rPath s b).1)) [X S (rPath s b).2.1 (rPath s b).2.2]
theorem rMany_lt (m : Int) (s : List UInt8) (b : Int) (hm : 0 ≤ m) : 0 ≤ (rMany m s b).1 ∧ (rMany m s b).1 ≤ m := by
  have := rI_lt s b
  unfold rMany
  dsimp only
  split
  · split
    · exact ⟨by simp, hm⟩
    · split
      · exact ⟨by simp, hm⟩
      · exact ⟨this.1, by omega⟩
  · exact ⟨by simp, hm⟩
theorem rdTexts_len : ∀ (n : Nat) (s : List UInt8) (b : Int), (rdTexts n s b).1.length = n ∧ (∀ t ∈ (rdTexts n s b).1, t.length ≤ s.length)
  | 0, s, b => by simp [rdTexts]
  | n + 1, s, b => by
    have ih := rdTexts_len n (rText s b).2.1 (rText s b).2.2
    have h := rText_len s b
    simp only [rdTexts, List.length_cons, ih.1, true_and]
    intro t ht
    rcases List.mem_cons.1 ht with rfl | ht
    · omega
    · have := ih.2 t ht; omega
theorem rdTexts_suf : ∀ (n : Nat) (s : List UInt8) (b : Int), (rdTexts n s b).2.1 <:+ s
  | 0, s, b => List.suffix_refl _
  | n + 1, s, b => (rdTexts_suf n _ _).trans (rText_suf s b)
theorem rPath_suf (s : List UInt8) (b : Int) : (rPath s b).2.1 <:+ s := (rdTexts_suf _ _ _).trans (rMany_suf 8 s b)
theorem rdTexts_step (n : Nat) (s : List UInt8) (b : Int) (l : List (List UInt8)) (k : Nat) (h : k < n) :
    (l ++ (rdTexts (n - k) s b).1, (rdTexts (n - k) s b).2) = ((l ++ [(rText s b).1]) ++ (rdTexts (n - (k + 1)) (rText s b).2.1 (rText s b).2.2).1, (rdTexts (n - (k + 1)) (rText s b).2.1 (rText s b).2.2).2) := by
  rw [show n - k = (n - (k + 1)) + 1 by omega, rdTexts]
  simp
def rPathOf (q : List (List UInt8) × List UInt8 × Int) : List (List UInt8) × List UInt8 × Int :=
  (if (if q.2.2 = 0 then pCheck q.1 else q.2.2) = 0 then q.1 else [], q.2.1, if q.2.2 = 0 then pCheck q.1 else q.2.2)
theorem rPath_eq (s : List UInt8) (b : Int) : rPath s b = rPathOf (rdTexts (rMany 8 s b).1.toNat (rMany 8 s b).2.1 (rMany 8 s b).2.2) := rfl
theorem rd_ok {s : List UInt8} {b : Int} (hs : s.length ≤ 20000000) : pOk (rdTexts (rMany 8 s b).1.toNat (rMany 8 s b).2.1 (rMany 8 s b).2.2).1 := by
  have hm := rMany_lt 8 s b (by omega)
  have h := rdTexts_len (rMany 8 s b).1.toNat (rMany 8 s b).2.1 (rMany 8 s b).2.2
  have hl := (rMany_suf 8 s b).length_le
  exact ⟨by rw [h.1]; omega, fun t ht => by have := h.2 t ht; omega⟩
theorem g_path_Read (hM : S_rMany (C (F n_pack_Reader_Many))) (hT : S_rText (C (F n_pack_Reader_Text))) (hF : S_Fault (C (F n_pack_Reader_Fault))) (hC : S_pCheck (C (F n_path_Check))) (hX : S_Fail (C (F n_pack_Reader_Fail))) : S_pRead ((c_path_Read F).gives C) := by
  intro s b hs
  refine gives_of rfl ?_
  unfold c_path_Read
  simp only [walk, Nat.reduceLT, Nat.reduceBEq, Nat.reduceAdd, Nat.reduceLeDiff, reduceIte, Int.reduceLT, Int.reduceLE, Int.reduceEq, Int.reduceToNat, Int.reduceBEq]
  refine callWp_of (hM s b 8 (by unfold sLen; omega)) ?_
  have hm := rMany_lt 8 s b (by omega)
  have hsuf := rMany_suf 8 s b
  have hok := rd_ok (b := b) hs
  rw [rPath_eq]
  generalize rMany 8 s b = m at *
  obtain ⟨m1, s1, b1⟩ := m
  simp only at hm hsuf hok
  have hs1 := hsuf.length_le
  simp only [walk, Nat.reduceLT, Nat.reduceBEq, Nat.reduceAdd, Nat.reduceLeDiff, reduceIte, Int.reduceLT, Int.reduceLE, Int.reduceEq, Int.reduceToNat, Int.reduceBEq]
  generalize hq : rdTexts m1.toNat s1 b1 = q at *
  refine awp_loop_ind (X := Nat × List (List UInt8) × List UInt8 × Int) (fun x => ⟨[(0, .lp 0 0), (2, .val (.sl 1 [])), (3, .own 1 (xRows x.2.1)), (5, .val (.int .i64 m1)), (6, .val (.int .i64 x.1))], [(0, rdr x.2.2.1 x.2.2.2)]⟩)
    (fun x => x.1 ≤ m1.toNat ∧ x.2.1.length = x.1 ∧ x.2.2.1.length ≤ s.length ∧ (x.2.1 ++ (rdTexts (m1.toNat - x.1) x.2.2.1 x.2.2.2).1, (rdTexts (m1.toNat - x.1) x.2.2.1 x.2.2.2).2) = q) (fun x => m1.toNat - x.1) (0, [], s1, b1) ⟨by omega, by simp, by simp only; omega, by simpa using hq⟩ (by simp [xRows]) ?_
  rintro R ⟨k, l, t, e⟩ ⟨h1, h2, h3, hJ⟩ ih
  simp only at h1 h2 h3 hJ
  have hb2 : (l.length + 1) * 16 ≤ 140737488355328 := by omega
  simp only [walk, Nat.reduceLT, Nat.reduceBEq, Nat.reduceAdd, Nat.reduceLeDiff, reduceIte, Int.reduceLT, Int.reduceLE, Int.reduceEq, Int.reduceToNat, Int.reduceBEq]
  by_cases c : k < m1.toNat
  · have c1 : (k : Int) < m1 := by omega
    have e1 : IntKind.i64.wrap ((k : Int) + 1) = ((k + 1 : Nat) : Int) := wrap64 (by omega) (by omega)
    simp only [walk, Nat.reduceLT, Nat.reduceBEq, Nat.reduceAdd, Nat.reduceLeDiff, reduceIte, Int.reduceLT, Int.reduceLE, Int.reduceEq, Int.reduceToNat, Int.reduceBEq, c1]
    refine callWp_of (hT t e (by unfold sLen; omega)) ?_
    have hl := (rText_suf t e).length_le
    rw [rdTexts_step _ _ _ _ _ c] at hJ
    have step := ih (k + 1, l ++ [(rText t e).1], (rText t e).2.1, (rText t e).2.2) ⟨by simp only; omega, by simp; omega, by simp only; omega, hJ⟩ (by simp only; omega)
    rw [← xRows_app] at step
    simp only [walk, Nat.reduceLT, Nat.reduceBEq, Nat.reduceAdd, Nat.reduceLeDiff, reduceIte, Int.reduceLT, Int.reduceLE, Int.reduceEq, Int.reduceToNat, Int.reduceBEq, xRows_len, hb2, e1]
    exact step
  · have c1 : ¬ (k : Int) < m1 := by omega
    rw [show m1.toNat - k = 0 by omega, rdTexts] at hJ
    simp only [List.append_nil] at hJ
    simp only [walk, Nat.reduceLT, Nat.reduceBEq, Nat.reduceAdd, Nat.reduceLeDiff, reduceIte, Int.reduceLT, Int.reduceLE, Int.reduceEq, Int.reduceToNat, Int.reduceBEq, c1]
    refine callWp_of (hF t e) ?_
    subst hJ
    unfold rPathOf
    dsimp only at hok ⊢
    by_cases he : e = 0
    · have he' : (e == 0) = true := by rw [beq_iff_eq]; exact he
      simp only [walk, Nat.reduceLT, Nat.reduceBEq, Nat.reduceAdd, Nat.reduceLeDiff, reduceIte, Int.reduceLT, Int.reduceLE, Int.reduceEq, Int.reduceToNat, Int.reduceBEq, he']
      refine callWp_of (hC l hok) ?_
      simp only [walk, Nat.reduceLT, Nat.reduceBEq, Nat.reduceAdd, Nat.reduceLeDiff, reduceIte, Int.reduceLT, Int.reduceLE, Int.reduceEq, Int.reduceToNat, Int.reduceBEq]
      refine callWp_of (hX t e _) ?_
      simp only [walk, Nat.reduceLT, Nat.reduceBEq, Nat.reduceAdd, Nat.reduceLeDiff, reduceIte, Int.reduceLT, Int.reduceLE, Int.reduceEq, Int.reduceToNat, Int.reduceBEq]
      refine callWp_of (hF t _) ?_
      rw [failB, if_pos he]
      by_cases hc : pCheck l = 0
      · have hc' : (pCheck l != 0) = false := by simp [hc]
        simp only [walk, Nat.reduceLT, Nat.reduceBEq, Nat.reduceAdd, Nat.reduceLeDiff, reduceIte, Int.reduceLT, Int.reduceLE, Int.reduceEq, Int.reduceToNat, Int.reduceBEq, bne_self_eq_false, he, hc]
      · have hc' : (pCheck l != 0) = true := by simp [hc]
        simp only [walk, Nat.reduceLT, Nat.reduceBEq, Nat.reduceAdd, Nat.reduceLeDiff, reduceIte, Int.reduceLT, Int.reduceLE, Int.reduceEq, Int.reduceToNat, Int.reduceBEq, hc', he, hc]
        rfl
    · have he' : (e == 0) = false := by rw [beq_eq_false_iff_ne]; exact he
      have he2 : (e != 0) = true := by simp [he]
      simp only [walk, Nat.reduceLT, Nat.reduceBEq, Nat.reduceAdd, Nat.reduceLeDiff, reduceIte, Int.reduceLT, Int.reduceLE, Int.reduceEq, Int.reduceToNat, Int.reduceBEq, he']
      refine callWp_of (hF t _) ?_
      simp only [walk, Nat.reduceLT, Nat.reduceBEq, Nat.reduceAdd, Nat.reduceLeDiff, reduceIte, Int.reduceLT, Int.reduceLE, Int.reduceEq, Int.reduceToNat, Int.reduceBEq, he2, he]
      rfl
theorem g_pref10_Read (hM : S_XMany (C (F n_pref02_Reader_Many))) (hT : S_XText (C (F n_pref02_Reader_Text))) (hC : S_pCheck (C (F n_pref10_Check))) (hX : S_XFail (C (F n_pref02_Reader_Fail))) : S_XPath ((c_pref10_Read F).gives C) := by
  intro S s b hS hs
  refine gives_of rfl ?_
  unfold c_pref10_Read
  simp only [walk, Nat.reduceLT, Nat.reduceBEq, Nat.reduceAdd, Nat.reduceLeDiff, reduceIte, Int.reduceLT, Int.reduceLE, Int.reduceEq, Int.reduceToNat, Int.reduceBEq]
  refine callWp_of (hM S s b 8 (by unfold sLen; omega) hs) ?_
  have hm := rMany_lt 8 s b (by omega)
  have hsuf := (rMany_suf 8 s b).trans hs
  have hok := rd_ok (b := b) (Nat.le_trans hs.length_le hS)
  rw [rPath_eq]
  generalize rMany 8 s b = m at *
  obtain ⟨m1, s1, b1⟩ := m
  simp only at hm hsuf hok
  simp only [walk, Nat.reduceLT, Nat.reduceBEq, Nat.reduceAdd, Nat.reduceLeDiff, reduceIte, Int.reduceLT, Int.reduceLE, Int.reduceEq, Int.reduceToNat, Int.reduceBEq]
  generalize hq : rdTexts m1.toNat s1 b1 = q at *
  refine awp_loop_ind (X := Nat × List (List UInt8) × List UInt8 × Int) (fun x => ⟨[(0, .lp 0 0), (2, .val (.sl 1 [])), (3, .val (.int .i64 m1)), (4, .own 1 (xRows x.2.1)), (5, .val (.int .i64 x.1))], [(0, X S x.2.2.1 x.2.2.2)]⟩)
    (fun x => x.1 ≤ m1.toNat ∧ x.2.1.length = x.1 ∧ x.2.2.1 <:+ S ∧ (x.2.1 ++ (rdTexts (m1.toNat - x.1) x.2.2.1 x.2.2.2).1, (rdTexts (m1.toNat - x.1) x.2.2.1 x.2.2.2).2) = q) (fun x => m1.toNat - x.1) (0, [], s1, b1) ⟨by omega, by simp, hsuf, by simpa using hq⟩ (by simp [xRows]) ?_
  rintro R ⟨k, l, t, e⟩ ⟨h1, h2, h3, hJ⟩ ih
  simp only at h1 h2 h3 hJ
  have hb2 : (l.length + 1) * 16 ≤ 140737488355328 := by omega
  simp only [walk, Nat.reduceLT, Nat.reduceBEq, Nat.reduceAdd, Nat.reduceLeDiff, reduceIte, Int.reduceLT, Int.reduceLE, Int.reduceEq, Int.reduceToNat, Int.reduceBEq]
  by_cases c : k < m1.toNat
  · have c1 : (k : Int) < m1 := by omega
    have e1 : IntKind.i64.wrap ((k : Int) + 1) = ((k + 1 : Nat) : Int) := wrap64 (by omega) (by omega)
    simp only [walk, Nat.reduceLT, Nat.reduceBEq, Nat.reduceAdd, Nat.reduceLeDiff, reduceIte, Int.reduceLT, Int.reduceLE, Int.reduceEq, Int.reduceToNat, Int.reduceBEq, c1]
    refine callWp_of (hT S t e (by unfold sLen; omega) h3) ?_
    rw [rdTexts_step _ _ _ _ _ c] at hJ
    have step := ih (k + 1, l ++ [(rText t e).1], (rText t e).2.1, (rText t e).2.2) ⟨by simp only; omega, by simp; omega, (rText_suf t e).trans h3, hJ⟩ (by simp only; omega)
    rw [← xRows_app] at step
    simp only [walk, Nat.reduceLT, Nat.reduceBEq, Nat.reduceAdd, Nat.reduceLeDiff, reduceIte, Int.reduceLT, Int.reduceLE, Int.reduceEq, Int.reduceToNat, Int.reduceBEq, xRows_len, hb2, e1]
    exact step
  · have c1 : ¬ (k : Int) < m1 := by omega
    rw [show m1.toNat - k = 0 by omega, rdTexts] at hJ
    simp only [List.append_nil] at hJ
    simp only [walk, Nat.reduceLT, Nat.reduceBEq, Nat.reduceAdd, Nat.reduceLeDiff, reduceIte, Int.reduceLT, Int.reduceLE, Int.reduceEq, Int.reduceToNat, Int.reduceBEq, c1, X, xdr]
    subst hJ
    unfold rPathOf
    dsimp only at hok ⊢
    by_cases he : e = 0
    · have he' : (e == 0) = true := by rw [beq_iff_eq]; exact he
      simp only [walk, Nat.reduceLT, Nat.reduceBEq, Nat.reduceAdd, Nat.reduceLeDiff, reduceIte, Int.reduceLT, Int.reduceLE, Int.reduceEq, Int.reduceToNat, Int.reduceBEq, he']
      refine callWp_of (hC l hok) ?_
      simp only [walk, Nat.reduceLT, Nat.reduceBEq, Nat.reduceAdd, Nat.reduceLeDiff, reduceIte, Int.reduceLT, Int.reduceLE, Int.reduceEq, Int.reduceToNat, Int.reduceBEq]
      refine callWp_of (hX S t e _) ?_
      simp only [walk, Nat.reduceLT, Nat.reduceBEq, Nat.reduceAdd, Nat.reduceLeDiff, reduceIte, Int.reduceLT, Int.reduceLE, Int.reduceEq, Int.reduceToNat, Int.reduceBEq, X, xdr]
      rw [failB, if_pos he]
      by_cases hc : pCheck l = 0
      · have hc' : (pCheck l != 0) = false := by simp [hc]
        simp only [walk, Nat.reduceLT, Nat.reduceBEq, Nat.reduceAdd, Nat.reduceLeDiff, reduceIte, Int.reduceLT, Int.reduceLE, Int.reduceEq, Int.reduceToNat, Int.reduceBEq, bne_self_eq_false, he, hc]
      · have hc' : (pCheck l != 0) = true := by simp [hc]
        simp only [walk, Nat.reduceLT, Nat.reduceBEq, Nat.reduceAdd, Nat.reduceLeDiff, reduceIte, Int.reduceLT, Int.reduceLE, Int.reduceEq, Int.reduceToNat, Int.reduceBEq, hc', he, hc]
        rfl
    · have he' : (e == 0) = false := by rw [beq_eq_false_iff_ne]; exact he
      have he2 : (e != 0) = true := by simp [he]
      simp only [walk, Nat.reduceLT, Nat.reduceBEq, Nat.reduceAdd, Nat.reduceLeDiff, reduceIte, Int.reduceLT, Int.reduceLE, Int.reduceEq, Int.reduceToNat, Int.reduceBEq, he', he2, he]
      rfl
end
end Go.AR

/-! Operations: named operations, and values. -/
namespace Go.AR
open Go
section
variable {C : CallRel} {F : Nat → FuncId}
theorem eq_r (a b : Ud) : eqCells [.i, .i, .i] [.int .i64 a.1.1, .int .i64 a.1.2, .int .i64 a.2] [.int .i64 b.1.1, .int .i64 b.1.2, .int .i64 b.2] = some (decide (a = b)) := by
  obtain ⟨⟨a1, a2⟩, a3⟩ := a; obtain ⟨⟨b1, b2⟩, b3⟩ := b
  simp only [eqCells, eqB, if_true]
  congr 1
  rw [Bool.eq_iff_iff]
  simp [and_assoc]
abbrev vCells (v : Vl) : List PV := [.int .i64 v.1, .int .i64 v.2.1, .str v.2.2]
abbrev vP (v : Vl) : PV := .agg (vCells v)
theorem eq_v (a b : Vl) : eqCells [.i, .i, .s] [.int .i64 a.1, .int .i64 a.2.1, .str a.2.2] [.int .i64 b.1, .int .i64 b.2.1, .str b.2.2] = some (decide (a = b)) := by
  obtain ⟨a1, a2, a3⟩ := a; obtain ⟨b1, b2, b3⟩ := b
  simp only [eqCells, eqB, if_true]
  congr 1
  rw [Bool.eq_iff_iff]
  simp
theorem eq_v0 (a : Vl) : eqCells [.i, .i, .s] [.int .i64 a.1, .int .i64 a.2.1, .str a.2.2] [.int .i64 0, .int .i64 0, .str []] = some (decide (a = z0)) := eq_v a z0
def S_rcmp (R : Rel) : Prop := ∀ a b : Ud, R [.v (uP a), .v (uP b)] (.val (.int .i64 (rcmp a b))) []
def S_refs (R : Rel) : Prop := ∀ l : List Ud, l.length ≤ 2000000 → R [.v (usP l)] (.val (.bool (refsOk l))) []
def S_rsame (R : Rel) : Prop := ∀ a b : List Ud, a.length ≤ 2000000 → R [.v (usP a), .v (usP b)] (.val (.bool (decide (a = b)))) []
def S_vOk (R : Rel) : Prop := ∀ v : Vl, v.2.2.length ≤ 20000000 → R [.v (vP v)] (.val (.bool (vOk v))) []
def S_unfold (R : Rel) : Prop := ∀ n : Int, 0 ≤ n → n < 72057594037927936 → R [.v (.int .i64 n)] (.val (.int .i64 (unfoldI n))) []
def S_dRead (R : Rel) : Prop := ∀ s b, sLen s → R [.r (rdr s b)] (.val (dP (rdDot s b).1)) [rdr (rdDot s b).2.1 (rdDot s b).2.2]
def S_XDot (R : Rel) : Prop := ∀ S s b, sLen S → s <:+ S → R [.r (X S s b)] (.val (dP (rdDot s b).1)) [X S (rdDot s b).2.1 (rdDot s b).2.2]
def S_vRead (R : Rel) : Prop := ∀ s b, s.length ≤ 20000000 → R [.r (rdr s b)] (.val (vP (rdVal s b).1)) [rdr (rdVal s b).2.1 (rdVal s b).2.2]
def S_XVal (R : Rel) : Prop := ∀ S s b, S.length ≤ 20000000 → s <:+ S → R [.r (X S s b)] (.val (vP (rdVal s b).1)) [X S (rdVal s b).2.1 (rdVal s b).2.2]
theorem g_dot_Refs (h : S_dcmp (C (F n_dot_Compare))) (h2 : S_icmp (C (F n_cmp_Compare_int))) (ho : S_or2 (C (F n_cmp_Or_int))) : S_rcmp ((c_dot_Refs F).gives C) := by
  intro a b
  refine gives_of rfl ?_
  unfold c_dot_Refs
  simp only [walk, Nat.reduceLT, Nat.reduceBEq, Nat.reduceAdd, Nat.reduceLeDiff, reduceIte, Int.reduceLT, Int.reduceLE, Int.reduceEq, Int.reduceToNat, Int.reduceBEq]
  refine callWp_of (h a.1 b.1) ?_
  simp only [walk, Nat.reduceLT, Nat.reduceBEq, Nat.reduceAdd, Nat.reduceLeDiff, reduceIte, Int.reduceLT, Int.reduceLE, Int.reduceEq, Int.reduceToNat, Int.reduceBEq]
  refine callWp_of (h2 _ _) ?_
  simp only [walk, Nat.reduceLT, Nat.reduceBEq, Nat.reduceAdd, Nat.reduceLeDiff, reduceIte, Int.reduceLT, Int.reduceLE, Int.reduceEq, Int.reduceToNat, Int.reduceBEq]
  refine callWp_of (ho _ _) ?_
  simp only [walk, Nat.reduceLT, Nat.reduceBEq, Nat.reduceAdd, Nat.reduceLeDiff, reduceIte, Int.reduceLT, Int.reduceLE, Int.reduceEq, Int.reduceToNat, Int.reduceBEq, rcmp]
theorem g_pref04_Refs (h : S_dcmp (C (F n_pref04_Compare))) (h2 : S_icmp (C (F n_pref04_ints))) : S_rcmp ((c_pref04_Refs F).gives C) := by
  intro a b
  refine gives_of rfl ?_
  unfold c_pref04_Refs rcmp
  simp only [walk, Nat.reduceLT, Nat.reduceBEq, Nat.reduceAdd, Nat.reduceLeDiff, reduceIte, Int.reduceLT, Int.reduceLE, Int.reduceEq, Int.reduceToNat, Int.reduceBEq]
  refine callWp_of (h a.1 b.1) ?_
  by_cases h1 : dcmp a.1 b.1 = 0
  · have e : (dcmp a.1 b.1 != 0) = false := by simp [h1]
    simp only [walk, Nat.reduceLT, Nat.reduceBEq, Nat.reduceAdd, Nat.reduceLeDiff, reduceIte, Int.reduceLT, Int.reduceLE, Int.reduceEq, Int.reduceToNat, Int.reduceBEq, e]
    refine callWp_of (h2 _ _) ?_
    simp only [walk, Nat.reduceLT, Nat.reduceBEq, Nat.reduceAdd, Nat.reduceLeDiff, reduceIte, Int.reduceLT, Int.reduceLE, Int.reduceEq, Int.reduceToNat, Int.reduceBEq, h1, ne_eq]
  · have e : (dcmp a.1 b.1 != 0) = true := by simp [h1]
    simp only [walk, Nat.reduceLT, Nat.reduceBEq, Nat.reduceAdd, Nat.reduceLeDiff, reduceIte, Int.reduceLT, Int.reduceLE, Int.reduceEq, Int.reduceToNat, Int.reduceBEq, e]
    refine callWp_of (h a.1 b.1) ?_
    simp only [walk, Nat.reduceLT, Nat.reduceBEq, Nat.reduceAdd, Nat.reduceLeDiff, reduceIte, Int.reduceLT, Int.reduceLE, Int.reduceEq, Int.reduceToNat, Int.reduceBEq, h1, ne_eq]
theorem g_value_Right (hR : S_runes .i32 (C (F n_name_Runes))) : S_vOk ((c_value_Right F).gives C) := by
  intro v hv
  obtain ⟨k, n, s⟩ := v
  simp only at hv
  refine gives_of rfl ?_
  unfold c_value_Right vOk
  simp only [walk, Nat.reduceLT, Nat.reduceBEq, Nat.reduceAdd, Nat.reduceLeDiff, reduceIte, Int.reduceLT, Int.reduceLE, Int.reduceEq, Int.reduceToNat, Int.reduceBEq]
  by_cases h1 : k = 1
  · have e1 : (k == 1) = true := by simp [h1]
    simp only [walk, Nat.reduceLT, Nat.reduceBEq, Nat.reduceAdd, Nat.reduceLeDiff, reduceIte, Int.reduceLT, Int.reduceLE, Int.reduceEq, Int.reduceToNat, Int.reduceBEq, e1]
    by_cases h2 : s = []
    · have e2 : (s == []) = true := by simp [h2]
      simp only [walk, Nat.reduceLT, Nat.reduceBEq, Nat.reduceAdd, Nat.reduceLeDiff, reduceIte, Int.reduceLT, Int.reduceLE, Int.reduceEq, Int.reduceToNat, Int.reduceBEq, e2, h1, h2, beq_self_eq_true]
      by_cases h3 : -2147483647 ≤ n <;> simp only [walk, Nat.reduceLT, Nat.reduceBEq, Nat.reduceAdd, Nat.reduceLeDiff, reduceIte, Int.reduceLT, Int.reduceLE, Int.reduceEq, Int.reduceToNat, Int.reduceBEq, h3, ge_iff_le]
    · have e2 : (s == []) = false := by rw [beq_eq_false_iff_ne]; exact h2
      simp only [walk, Nat.reduceLT, Nat.reduceBEq, Nat.reduceAdd, Nat.reduceLeDiff, reduceIte, Int.reduceLT, Int.reduceLE, Int.reduceEq, Int.reduceToNat, Int.reduceBEq, e2, h1, h2]
  · have e1 : (k == 1) = false := by rw [beq_eq_false_iff_ne]; exact h1
    simp only [walk, Nat.reduceLT, Nat.reduceBEq, Nat.reduceAdd, Nat.reduceLeDiff, reduceIte, Int.reduceLT, Int.reduceLE, Int.reduceEq, Int.reduceToNat, Int.reduceBEq, e1]
    by_cases h2 : k = 2
    · have e2 : (k == 2) = true := by simp [h2]
      simp only [walk, Nat.reduceLT, Nat.reduceBEq, Nat.reduceAdd, Nat.reduceLeDiff, reduceIte, Int.reduceLT, Int.reduceLE, Int.reduceEq, Int.reduceToNat, Int.reduceBEq, e2]
      refine callWp_of (hR s hv) ?_
      cases hr : runes s [] with
      | none => simp only [walk, Nat.reduceLT, Nat.reduceBEq, Nat.reduceAdd, Nat.reduceLeDiff, reduceIte, Int.reduceLT, Int.reduceLE, Int.reduceEq, Int.reduceToNat, Int.reduceBEq, runesP, h1, h2, Option.isSome_none]
      | some l =>
        simp only [walk, Nat.reduceLT, Nat.reduceBEq, Nat.reduceAdd, Nat.reduceLeDiff, reduceIte, Int.reduceLT, Int.reduceLE, Int.reduceEq, Int.reduceToNat, Int.reduceBEq, runesP]
        by_cases h3 : n = 0
        · have e3 : (n == 0) = true := by simp [h3]
          have e4 : ((s.length : Int) ≤ 64) = (s.length ≤ 64) := by apply propext; omega
          simp only [walk, Nat.reduceLT, Nat.reduceBEq, Nat.reduceAdd, Nat.reduceLeDiff, reduceIte, Int.reduceLT, Int.reduceLE, Int.reduceEq, Int.reduceToNat, Int.reduceBEq, e3, h1, h2, h3, Option.isSome_some, e4]
        · have e3 : (n == 0) = false := by rw [beq_eq_false_iff_ne]; exact h3
          simp only [walk, Nat.reduceLT, Nat.reduceBEq, Nat.reduceAdd, Nat.reduceLeDiff, reduceIte, Int.reduceLT, Int.reduceLE, Int.reduceEq, Int.reduceToNat, Int.reduceBEq, e3, h1, h2, h3, Option.isSome_some]
    · have e2 : (k == 2) = false := by rw [beq_eq_false_iff_ne]; exact h2
      simp only [walk, Nat.reduceLT, Nat.reduceBEq, Nat.reduceAdd, Nat.reduceLeDiff, reduceIte, Int.reduceLT, Int.reduceLE, Int.reduceEq, Int.reduceToNat, Int.reduceBEq, e2]
      by_cases h3 : k = 3
      · have e3 : (k == 3) = true := by simp [h3]
        simp only [walk, Nat.reduceLT, Nat.reduceBEq, Nat.reduceAdd, Nat.reduceLeDiff, reduceIte, Int.reduceLT, Int.reduceLE, Int.reduceEq, Int.reduceToNat, Int.reduceBEq, e3, h1, h2, h3]
        by_cases h4 : s = []
        · have e4 : (s == []) = true := by simp [h4]
          simp only [walk, Nat.reduceLT, Nat.reduceBEq, Nat.reduceAdd, Nat.reduceLeDiff, reduceIte, Int.reduceLT, Int.reduceLE, Int.reduceEq, Int.reduceToNat, Int.reduceBEq, h4, beq_self_eq_true]
          by_cases h5 : n = 0
          · have e5 : (n == 0) = true := by simp [h5]
            simp only [walk, Nat.reduceLT, Nat.reduceBEq, Nat.reduceAdd, Nat.reduceLeDiff, reduceIte, Int.reduceLT, Int.reduceLE, Int.reduceEq, Int.reduceToNat, Int.reduceBEq, e5, h5]
          · have e5 : (n == 0) = false := by rw [beq_eq_false_iff_ne]; exact h5
            simp only [walk, Nat.reduceLT, Nat.reduceBEq, Nat.reduceAdd, Nat.reduceLeDiff, reduceIte, Int.reduceLT, Int.reduceLE, Int.reduceEq, Int.reduceToNat, Int.reduceBEq, e5]
            have e6 : (n == 1) = (decide (0 ≤ n) && decide (n ≤ 1)) := by
              rw [Bool.eq_iff_iff]; simp; omega
            simp only [walk, Nat.reduceLT, Nat.reduceBEq, Nat.reduceAdd, Nat.reduceLeDiff, reduceIte, Int.reduceLT, Int.reduceLE, Int.reduceEq, Int.reduceToNat, Int.reduceBEq, e6]
        · have e4 : (s == []) = false := by rw [beq_eq_false_iff_ne]; exact h4
          simp only [walk, Nat.reduceLT, Nat.reduceBEq, Nat.reduceAdd, Nat.reduceLeDiff, reduceIte, Int.reduceLT, Int.reduceLE, Int.reduceEq, Int.reduceToNat, Int.reduceBEq, e4, h4]
      · have e3 : (k == 3) = false := by rw [beq_eq_false_iff_ne]; exact h3
        simp only [walk, Nat.reduceLT, Nat.reduceBEq, Nat.reduceAdd, Nat.reduceLeDiff, reduceIte, Int.reduceLT, Int.reduceLE, Int.reduceEq, Int.reduceToNat, Int.reduceBEq, e3, h1, h2, h3]
theorem g_pref09_Right (hR : S_runes .i64 (C (F n_pref03_Runes))) : S_vOk ((c_pref09_Right F).gives C) := by
  intro v hv
  obtain ⟨k, n, s⟩ := v
  simp only at hv
  refine gives_of rfl ?_
  unfold c_pref09_Right vOk
  simp only [walk, Nat.reduceLT, Nat.reduceBEq, Nat.reduceAdd, Nat.reduceLeDiff, reduceIte, Int.reduceLT, Int.reduceLE, Int.reduceEq, Int.reduceToNat, Int.reduceBEq]
  by_cases h1 : k = 1
  · have e1 : (k == 1) = true := by simp [h1]
    simp only [walk, Nat.reduceLT, Nat.reduceBEq, Nat.reduceAdd, Nat.reduceLeDiff, reduceIte, Int.reduceLT, Int.reduceLE, Int.reduceEq, Int.reduceToNat, Int.reduceBEq, e1]
    by_cases h2 : s = []
    · have e2 : (s == []) = true := by simp [h2]
      simp only [walk, Nat.reduceLT, Nat.reduceBEq, Nat.reduceAdd, Nat.reduceLeDiff, reduceIte, Int.reduceLT, Int.reduceLE, Int.reduceEq, Int.reduceToNat, Int.reduceBEq, e2, h1, h2, beq_self_eq_true]
      by_cases h3 : -2147483647 ≤ n <;> simp only [walk, Nat.reduceLT, Nat.reduceBEq, Nat.reduceAdd, Nat.reduceLeDiff, reduceIte, Int.reduceLT, Int.reduceLE, Int.reduceEq, Int.reduceToNat, Int.reduceBEq, h3, ge_iff_le]
    · have e2 : (s == []) = false := by rw [beq_eq_false_iff_ne]; exact h2
      simp only [walk, Nat.reduceLT, Nat.reduceBEq, Nat.reduceAdd, Nat.reduceLeDiff, reduceIte, Int.reduceLT, Int.reduceLE, Int.reduceEq, Int.reduceToNat, Int.reduceBEq, e2, h1, h2]
  · have e1 : (k == 1) = false := by rw [beq_eq_false_iff_ne]; exact h1
    simp only [walk, Nat.reduceLT, Nat.reduceBEq, Nat.reduceAdd, Nat.reduceLeDiff, reduceIte, Int.reduceLT, Int.reduceLE, Int.reduceEq, Int.reduceToNat, Int.reduceBEq, e1]
    by_cases h2 : k = 2
    · have e2 : (k == 2) = true := by simp [h2]
      simp only [walk, Nat.reduceLT, Nat.reduceBEq, Nat.reduceAdd, Nat.reduceLeDiff, reduceIte, Int.reduceLT, Int.reduceLE, Int.reduceEq, Int.reduceToNat, Int.reduceBEq, e2]
      refine callWp_of (hR s hv) ?_
      by_cases h3 : n = 0
      · have e3 : (n == 0) = true := by simp [h3]
        cases hr : runes s [] with
        | none => simp only [walk, Nat.reduceLT, Nat.reduceBEq, Nat.reduceAdd, Nat.reduceLeDiff, reduceIte, Int.reduceLT, Int.reduceLE, Int.reduceEq, Int.reduceToNat, Int.reduceBEq, runesP, h1, h2, h3, e3, Option.isSome_none]
        | some l =>
          have e4 : ((s.length : Int) ≤ 64) = (s.length ≤ 64) := by apply propext; omega
          simp only [walk, Nat.reduceLT, Nat.reduceBEq, Nat.reduceAdd, Nat.reduceLeDiff, reduceIte, Int.reduceLT, Int.reduceLE, Int.reduceEq, Int.reduceToNat, Int.reduceBEq, runesP, e3, h1, h2, h3, Option.isSome_some, e4]
      · have e3 : (n == 0) = false := by rw [beq_eq_false_iff_ne]; exact h3
        cases hr : runes s [] <;> simp only [walk, Nat.reduceLT, Nat.reduceBEq, Nat.reduceAdd, Nat.reduceLeDiff, reduceIte, Int.reduceLT, Int.reduceLE, Int.reduceEq, Int.reduceToNat, Int.reduceBEq, runesP, e3, h1, h2, h3]
    · have e2 : (k == 2) = false := by rw [beq_eq_false_iff_ne]; exact h2
      simp only [walk, Nat.reduceLT, Nat.reduceBEq, Nat.reduceAdd, Nat.reduceLeDiff, reduceIte, Int.reduceLT, Int.reduceLE, Int.reduceEq, Int.reduceToNat, Int.reduceBEq, e2]
      by_cases h3 : k = 3
      · have e3 : (k == 3) = true := by simp [h3]
        simp only [walk, Nat.reduceLT, Nat.reduceBEq, Nat.reduceAdd, Nat.reduceLeDiff, reduceIte, Int.reduceLT, Int.reduceLE, Int.reduceEq, Int.reduceToNat, Int.reduceBEq, e3, h1, h2, h3]
        by_cases h4 : s = []
        · have e4 : (s == []) = true := by simp [h4]
          simp only [walk, Nat.reduceLT, Nat.reduceBEq, Nat.reduceAdd, Nat.reduceLeDiff, reduceIte, Int.reduceLT, Int.reduceLE, Int.reduceEq, Int.reduceToNat, Int.reduceBEq, h4, beq_self_eq_true]
          by_cases h5 : 0 ≤ n
          · simp only [walk, Nat.reduceLT, Nat.reduceBEq, Nat.reduceAdd, Nat.reduceLeDiff, reduceIte, Int.reduceLT, Int.reduceLE, Int.reduceEq, Int.reduceToNat, Int.reduceBEq, h5, ge_iff_le]
          · simp only [walk, Nat.reduceLT, Nat.reduceBEq, Nat.reduceAdd, Nat.reduceLeDiff, reduceIte, Int.reduceLT, Int.reduceLE, Int.reduceEq, Int.reduceToNat, Int.reduceBEq, h5, ge_iff_le]
        · have e4 : (s == []) = false := by rw [beq_eq_false_iff_ne]; exact h4
          simp only [walk, Nat.reduceLT, Nat.reduceBEq, Nat.reduceAdd, Nat.reduceLeDiff, reduceIte, Int.reduceLT, Int.reduceLE, Int.reduceEq, Int.reduceToNat, Int.reduceBEq, e4, h4]
      · have e3 : (k == 3) = false := by rw [beq_eq_false_iff_ne]; exact h3
        simp only [walk, Nat.reduceLT, Nat.reduceBEq, Nat.reduceAdd, Nat.reduceLeDiff, reduceIte, Int.reduceLT, Int.reduceLE, Int.reduceEq, Int.reduceToNat, Int.reduceBEq, e3, h1, h2, h3]
theorem g_value_Unfold : S_unfold ((c_value_Unfold F).gives C) := by
  intro n h1 h2
  refine gives_of rfl ?_
  unfold c_value_Unfold unfoldI
  have e1 : n.tmod 2 = n % 2 := Int.tmod_eq_emod_of_nonneg h1
  have q0 : n.tdiv 2 = n / 2 := Int.tdiv_eq_ediv_of_nonneg h1
  have w1 : IntKind.i64.wrap (n + 1) = n + 1 := wrap64 (by omega) (by omega)
  have w2 : IntKind.i64.wrap (0 - (n + 1)) = 0 - (n + 1) := wrap64 (by omega) (by omega)
  have q1 : (0 - (n + 1)).tdiv 2 = -((n + 1) / 2) := by
    rw [Int.zero_sub, Int.neg_tdiv, Int.tdiv_eq_ediv_of_nonneg (by omega)]
  have w3 : IntKind.i64.wrap (-((n + 1) / 2)) = -((n + 1) / 2) := wrap64 (by omega) (by omega)
  have w4 : IntKind.i64.wrap (n / 2) = n / 2 := wrap64 (by omega) (by omega)
  simp only [walk, Nat.reduceLT, Nat.reduceBEq, Nat.reduceAdd, Nat.reduceLeDiff, reduceIte, Int.reduceLT, Int.reduceLE, Int.reduceEq, Int.reduceToNat, Int.reduceBEq, e1]
  by_cases h : n % 2 = 1
  · simp only [walk, Nat.reduceLT, Nat.reduceBEq, Nat.reduceAdd, Nat.reduceLeDiff, reduceIte, Int.reduceLT, Int.reduceLE, Int.reduceEq, Int.reduceToNat, Int.reduceBEq, h, w1, w2, q1, w3]
  · have h' : (n % 2 == 1) = false := by rw [beq_eq_false_iff_ne]; exact h
    simp only [walk, Nat.reduceLT, Nat.reduceBEq, Nat.reduceAdd, Nat.reduceLeDiff, reduceIte, Int.reduceLT, Int.reduceLE, Int.reduceEq, Int.reduceToNat, Int.reduceBEq, h', h, q0, w4]
theorem g_pref09_Unfold : S_unfold ((c_pref09_Unfold F).gives C) := by
  intro n h1 h2
  refine gives_of rfl ?_
  unfold c_pref09_Unfold unfoldI
  have e1 : n.tmod 2 = n % 2 := Int.tmod_eq_emod_of_nonneg h1
  have q0 : n.tdiv 2 = n / 2 := Int.tdiv_eq_ediv_of_nonneg h1
  have w4 : IntKind.i64.wrap (n / 2) = n / 2 := wrap64 (by omega) (by omega)
  simp only [walk, Nat.reduceLT, Nat.reduceBEq, Nat.reduceAdd, Nat.reduceLeDiff, reduceIte, Int.reduceLT, Int.reduceLE, Int.reduceEq, Int.reduceToNat, Int.reduceBEq, e1]
  by_cases h : n % 2 = 1
  · have h' : (n % 2 == 0) = false := by rw [beq_eq_false_iff_ne]; omega
    have w2 : IntKind.i64.wrap (0 - n / 2) = 0 - n / 2 := wrap64 (by omega) (by omega)
    have w3 : IntKind.i64.wrap (0 - n / 2 - 1) = -((n + 1) / 2) := by rw [wrap64 (by omega) (by omega)]; omega
    simp only [walk, Nat.reduceLT, Nat.reduceBEq, Nat.reduceAdd, Nat.reduceLeDiff, reduceIte, Int.reduceLT, Int.reduceLE, Int.reduceEq, Int.reduceToNat, Int.reduceBEq, h', h, q0, w4, w2, w3]
  · have h' : (n % 2 == 0) = true := by rw [beq_iff_eq]; omega
    simp only [walk, Nat.reduceLT, Nat.reduceBEq, Nat.reduceAdd, Nat.reduceLeDiff, reduceIte, Int.reduceLT, Int.reduceLE, Int.reduceEq, Int.reduceToNat, Int.reduceBEq, h', h, q0, w4]
theorem sLen_rI {s : List UInt8} (b : Int) (h : sLen s) : sLen (rI s b).2.1 := by
  have := (rI_suf s b).length_le
  unfold sLen at *; omega
theorem g_dot_Read (hI : S_rInt (C (F n_pack_Reader_Int))) (hF : S_Fault (C (F n_pack_Reader_Fault))) (hR : S_dotOk (C (F n_dot_Right))) (hX : S_Fail (C (F n_pack_Reader_Fail))) : S_dRead ((c_dot_Read F).gives C) := by
  intro s b hs
  refine gives_of rfl ?_
  unfold c_dot_Read rdDot
  simp only [walk, Nat.reduceLT, Nat.reduceBEq, Nat.reduceAdd, Nat.reduceLeDiff, reduceIte, Int.reduceLT, Int.reduceLE, Int.reduceEq, Int.reduceToNat, Int.reduceBEq]
  refine callWp_of (hI s b hs) ?_
  have h1 := sLen_rI b hs
  generalize rI s b = x at *
  obtain ⟨x1, s1, b1⟩ := x
  simp only [walk, Nat.reduceLT, Nat.reduceBEq, Nat.reduceAdd, Nat.reduceLeDiff, reduceIte, Int.reduceLT, Int.reduceLE, Int.reduceEq, Int.reduceToNat, Int.reduceBEq]
  refine callWp_of (hI s1 b1 h1) ?_
  generalize rI s1 b1 = y at *
  obtain ⟨y1, s2, b2⟩ := y
  simp only [walk, Nat.reduceLT, Nat.reduceBEq, Nat.reduceAdd, Nat.reduceLeDiff, reduceIte, Int.reduceLT, Int.reduceLE, Int.reduceEq, Int.reduceToNat, Int.reduceBEq]
  refine callWp_of (hF s2 b2) ?_
  by_cases hb : b2 = 0
  · have e : (b2 == 0) = true := by simp [hb]
    simp only [walk, Nat.reduceLT, Nat.reduceBEq, Nat.reduceAdd, Nat.reduceLeDiff, reduceIte, Int.reduceLT, Int.reduceLE, Int.reduceEq, Int.reduceToNat, Int.reduceBEq, e]
    refine callWp_of (hR (x1, y1)) ?_
    cases hd : dotOk (x1, y1) with
    | true =>
      simp only [walk, Nat.reduceLT, Nat.reduceBEq, Nat.reduceAdd, Nat.reduceLeDiff, reduceIte, Int.reduceLT, Int.reduceLE, Int.reduceEq, Int.reduceToNat, Int.reduceBEq]
      refine callWp_of (hF s2 b2) ?_
      simp only [walk, Nat.reduceLT, Nat.reduceBEq, Nat.reduceAdd, Nat.reduceLeDiff, reduceIte, Int.reduceLT, Int.reduceLE, Int.reduceEq, Int.reduceToNat, Int.reduceBEq, hb, bne_self_eq_false, and_false]
    | false =>
      simp only [walk, Nat.reduceLT, Nat.reduceBEq, Nat.reduceAdd, Nat.reduceLeDiff, reduceIte, Int.reduceLT, Int.reduceLE, Int.reduceEq, Int.reduceToNat, Int.reduceBEq]
      refine callWp_of (hX s2 b2 2) ?_
      simp only [walk, Nat.reduceLT, Nat.reduceBEq, Nat.reduceAdd, Nat.reduceLeDiff, reduceIte, Int.reduceLT, Int.reduceLE, Int.reduceEq, Int.reduceToNat, Int.reduceBEq]
      refine callWp_of (hF s2 _) ?_
      have e2 : ((2 : Int) != 0) = true := rfl
      simp only [walk, Nat.reduceLT, Nat.reduceBEq, Nat.reduceAdd, Nat.reduceLeDiff, reduceIte, Int.reduceLT, Int.reduceLE, Int.reduceEq, Int.reduceToNat, Int.reduceBEq, failB, hb, e2, and_self]
  · have e : (b2 == 0) = false := by rw [beq_eq_false_iff_ne]; exact hb
    have e2 : (b2 != 0) = true := by simp [hb]
    simp only [walk, Nat.reduceLT, Nat.reduceBEq, Nat.reduceAdd, Nat.reduceLeDiff, reduceIte, Int.reduceLT, Int.reduceLE, Int.reduceEq, Int.reduceToNat, Int.reduceBEq, e]
    refine callWp_of (hF s2 b2) ?_
    simp only [walk, Nat.reduceLT, Nat.reduceBEq, Nat.reduceAdd, Nat.reduceLeDiff, reduceIte, Int.reduceLT, Int.reduceLE, Int.reduceEq, Int.reduceToNat, Int.reduceBEq, e2, hb, false_and]
theorem g_pref04_Read (hI : S_XInt (C (F n_pref02_Reader_Int))) (hR : S_dotOk (C (F n_pref04_Right))) : S_XDot ((c_pref04_Read F).gives C) := by
  intro S s b hS hs
  refine gives_of rfl ?_
  unfold c_pref04_Read rdDot
  simp only [walk, Nat.reduceLT, Nat.reduceBEq, Nat.reduceAdd, Nat.reduceLeDiff, reduceIte, Int.reduceLT, Int.reduceLE, Int.reduceEq, Int.reduceToNat, Int.reduceBEq]
  refine callWp_of (hI S s b hS hs) ?_
  have h1 := (rI_suf s b).trans hs
  generalize rI s b = x at *
  obtain ⟨x1, s1, b1⟩ := x
  simp only [walk, Nat.reduceLT, Nat.reduceBEq, Nat.reduceAdd, Nat.reduceLeDiff, reduceIte, Int.reduceLT, Int.reduceLE, Int.reduceEq, Int.reduceToNat, Int.reduceBEq]
  refine callWp_of (hI S s1 b1 hS h1) ?_
  generalize rI s1 b1 = y at *
  obtain ⟨y1, s2, b2⟩ := y
  simp only [walk, Nat.reduceLT, Nat.reduceBEq, Nat.reduceAdd, Nat.reduceLeDiff, reduceIte, Int.reduceLT, Int.reduceLE, Int.reduceEq, Int.reduceToNat, Int.reduceBEq, X, xdr]
  by_cases hb : b2 = 0
  · have e : (b2 == 0) = true := by simp [hb]
    simp only [walk, Nat.reduceLT, Nat.reduceBEq, Nat.reduceAdd, Nat.reduceLeDiff, reduceIte, Int.reduceLT, Int.reduceLE, Int.reduceEq, Int.reduceToNat, Int.reduceBEq, e]
    refine callWp_of (hR (x1, y1)) ?_
    cases hd : dotOk (x1, y1) with
    | true =>
      simp only [walk, Nat.reduceLT, Nat.reduceBEq, Nat.reduceAdd, Nat.reduceLeDiff, reduceIte, Int.reduceLT, Int.reduceLE, Int.reduceEq, Int.reduceToNat, Int.reduceBEq, hb, bne_self_eq_false, and_false]
    | false =>
      have e2 : ((2 : Int) != 0) = true := rfl
      simp only [walk, Nat.reduceLT, Nat.reduceBEq, Nat.reduceAdd, Nat.reduceLeDiff, reduceIte, Int.reduceLT, Int.reduceLE, Int.reduceEq, Int.reduceToNat, Int.reduceBEq, hb, e2, and_self]
  · have e : (b2 == 0) = false := by rw [beq_eq_false_iff_ne]; exact hb
    have e2 : (b2 != 0) = true := by simp [hb]
    simp only [walk, Nat.reduceLT, Nat.reduceBEq, Nat.reduceAdd, Nat.reduceLeDiff, reduceIte, Int.reduceLT, Int.reduceLE, Int.reduceEq, Int.reduceToNat, Int.reduceBEq, e, e2, hb, false_and]
end
end Go.AR

/-! Paths: the laws. -/
namespace Go.AR
open Go
theorem lead_le {c k least c0 : Nat} (h : lead c = some (k, least, c0)) : k ≤ 3 := by
  unfold lead at h
  split at h
  · cases h; omega
  · split at h
    · cases h; omega
    · split at h
      · cases h; omega
      · cases h
theorem chr4 (l : List UInt8) : (chr l).2 ≤ 4 := by
  unfold chr
  repeat' split
  all_goals simp
  rename_i h1 _ _ _ _ _
  exact lead_le h1
theorem Wd.len {l : List UInt8} {n : Nat} (h : Wd l n) : l.length ≤ 4 * n := by
  induction h with
  | nil => simp
  | cons h hm hr ih =>
    rename_i l n
    have := chr4 l
    rw [List.length_drop] at ih
    omega
theorem right_len {s : List UInt8} (h : rightB s = true) : s.length ≤ 96 ∧ s ≠ [] := by
  obtain ⟨n, hw, h1, h2⟩ := (right_iff s).1 h
  have := hw.len
  refine ⟨by omega, ?_⟩
  rintro rfl
  cases hw with
  | nil => omega
  | cons h => exact h rfl
theorem pCheck_zero {p : List (List UInt8)} (h : pCheck p = 0) : p ≠ [] ∧ p.length ≤ 8 ∧ ∀ s ∈ p, rightB s = true := by
  unfold pCheck at h
  by_cases h0 : p.length = 0
  · rw [if_pos h0] at h; cases h
  · rw [if_neg h0] at h
    by_cases h8 : 8 < p.length
    · rw [if_pos h8] at h; cases h
    · rw [if_neg h8] at h
      by_cases ha : p.all rightB = true
      · exact ⟨by rintro rfl; exact h0 rfl, by omega, List.all_eq_true.1 ha⟩
      · rw [if_neg ha] at h; cases h
theorem check_ok {p : List (List UInt8)} (h : pCheck p = 0) : pOk p := by
  obtain ⟨_, h1, h2⟩ := pCheck_zero h
  exact ⟨by omega, fun s hs => by have := (right_len (h2 s hs)).1; omega⟩
section
variable {C : CallRel} {F : Nat → FuncId}
end
end Go.AR
