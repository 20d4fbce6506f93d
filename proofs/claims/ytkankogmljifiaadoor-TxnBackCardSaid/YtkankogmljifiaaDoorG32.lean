import Derived.Test.YtkankogmljifiaaDoorG31
import Derived.Test.YtkankogmljifiaaDoorG25
import Derived.Test.YtkankogmljifiaaDoorG09
import Derived.Test.YtkankogmljifiaaDoorG08
import Derived.Test.YtkankogmljifiaaDoorG30
import Derived.Test.YtkankogmljifiaaDoorG04
import Derived.Shelf.Strings.OnBuilder
set_option linter.all false
/-! Paths: bytes, texts, readers. -/
namespace Go.AR
open Go
section
variable {C : CallRel} {F : Nat → FuncId}
def S_pCode (R : Rel) : Prop := ∀ p, pOk p → R [.v (ptP p)] (.val (.str (pCode p))) []
def S_pRead (R : Rel) : Prop := ∀ s b, s.length ≤ 20000000 → R [.r (rdr s b)] (.val (ptP (rPath s b).1)) [rdr (rPath s b).2.1 (rPath s b).2.2]
theorem i64ok_nat {n : Nat} (h : n ≤ 9223372036854775807) : i64ok (n : Int) := ⟨by omega, by omega⟩
theorem pText_len (s : List UInt8) (h : s.length ≤ 20000000) : (pText s).length ≤ 20000011 := by
  have : (vint s.length).length ≤ 11 := vint_len 10 _ (by omega)
  unfold pText; rw [List.length_append]; omega
theorem pParts_len : ∀ (p : List (List UInt8)), (∀ s ∈ p, s.length ≤ 20000000) → ((p.map pText).flatten).length ≤ p.length * 20000011
  | [], _ => by simp
  | s :: p, h => by
    have h1 := pText_len s (h s (by simp))
    have h2 := pParts_len p (fun t ht => h t (by simp [ht]))
    rw [List.map_cons, List.flatten_cons, List.length_append, List.length_cons]; omega
theorem code_take (p : List (List UInt8)) (k : Nat) (h : k < p.length) : (pInt p.length ++ ((p.take k).map pText).flatten) ++ pText p[k] = pInt p.length ++ ((p.take (k + 1)).map pText).flatten := by
  rw [List.take_add_one, List.getElem?_eq_getElem h, Option.toList_some, List.map_append, List.flatten_append, List.append_assoc]
  simp only [List.map_cons, List.map_nil, List.flatten_cons, List.flatten_nil, List.append_nil]
theorem code_len (p : List (List UInt8)) (hp : pOk p) (k : Nat) (h : k < p.length) : (pInt p.length ++ ((p.take k).map pText).flatten).length + (pText p[k]).length ≤ 9223372036854775807 := by
  have h1 := pParts_len (p.take k) (fun s hs => hp.2 s (List.mem_of_mem_take hs))
  have h2 := pInt_len (n := p.length) (i64ok_nat (by have := hp.1; omega))
  have h3 := pText_len p[k] (hp.2 _ (List.getElem_mem h))
  have h4 := hp.1
  rw [List.length_take, Nat.min_eq_left (by omega)] at h1
  rw [List.length_append]
  omega
theorem g_path_Code (hI : S_i2s (C (F n_pack_Int))) (hT : S_ptext (C (F n_pack_Text))) : S_pCode ((c_path_Code F).gives C) := by
  intro p hp
  refine gives_of rfl ?_
  unfold c_path_Code
  have hl := hp.1
  simp only [walk, Nat.reduceLT, Nat.reduceBEq, Nat.reduceAdd, Nat.reduceLeDiff, reduceIte, Int.reduceLT, Int.reduceLE, Int.reduceEq, Int.reduceToNat, Int.reduceBEq, xRows_len]
  refine callWp_of (hI p.length (i64ok_nat (by omega))) ?_
  simp only [walk, Nat.reduceLT, Nat.reduceBEq, Nat.reduceAdd, Nat.reduceLeDiff, reduceIte, Int.reduceLT, Int.reduceLE, Int.reduceEq, Int.reduceToNat, Int.reduceBEq, xRows_len]
  refine awp_loop_ind (X := Nat) (fun k => ⟨[(0, .val (ptP p)), (2, .val (.str [])), (3, .val (.str (pInt p.length ++ ((p.take k).map pText).flatten))), (9, .val (ptP p)), (10, .val (.int .i64 p.length)), (11, .val (.int .i64 k))], []⟩)
    (fun k => k ≤ p.length) (fun k => p.length - k) 0 (by omega) (by simp) ?_
  rintro R k hk ih
  simp only [walk, Nat.reduceLT, Nat.reduceBEq, Nat.reduceAdd, Nat.reduceLeDiff, reduceIte, Int.reduceLT, Int.reduceLE, Int.reduceEq, Int.reduceToNat, Int.reduceBEq]
  by_cases c : k < p.length
  · have c1 : (k : Int) < p.length := by omega
    have c0 : (0 : Int) ≤ k := by omega
    have e1 : IntKind.i64.wrap ((k : Int) + 1) = ((k + 1 : Nat) : Int) := wrap64 (by omega) (by omega)
    have step := ih (k + 1) (by omega) (by omega)
    rw [← code_take p k c] at step
    have hb := code_len p hp k c
    simp only [walk, Nat.reduceLT, Nat.reduceBEq, Nat.reduceAdd, Nat.reduceLeDiff, reduceIte, Int.reduceLT, Int.reduceLE, Int.reduceEq, Int.reduceToNat, Int.reduceBEq, c1, xRows_get p k c]
    refine callWp_of (hT p[k] (by have := hp.2 _ (List.getElem_mem c); omega)) ?_
    simp only [walk, Nat.reduceLT, Nat.reduceBEq, Nat.reduceAdd, Nat.reduceLeDiff, reduceIte, Int.reduceLT, Int.reduceLE, Int.reduceEq, Int.reduceToNat, Int.reduceBEq]
    rw [bins_add hb]
    simp only [walk, Nat.reduceLT, Nat.reduceBEq, Nat.reduceAdd, Nat.reduceLeDiff, reduceIte, Int.reduceLT, Int.reduceLE, Int.reduceEq, Int.reduceToNat, Int.reduceBEq, e1]
    exact step
  · have c1 : ¬ (k : Int) < p.length := by omega
    rw [List.take_of_length_le (by omega)]
    simp only [walk, Nat.reduceLT, Nat.reduceBEq, Nat.reduceAdd, Nat.reduceLeDiff, reduceIte, Int.reduceLT, Int.reduceLE, Int.reduceEq, Int.reduceToNat, Int.reduceBEq, c1, pCode]
theorem g_pref10_Code (hI : S_i2s (C (F n_pref02_Int))) (hT : S_ptext (C (F n_pref02_Text))) : S_pCode ((c_pref10_Code F).gives C) := by
  intro p hp
  refine gives_of rfl ?_
  unfold c_pref10_Code
  have hl := hp.1
  simp only [walk, Nat.reduceLT, Nat.reduceBEq, Nat.reduceAdd, Nat.reduceLeDiff, reduceIte, Int.reduceLT, Int.reduceLE, Int.reduceEq, Int.reduceToNat, Int.reduceBEq, xRows_len]
  refine callWp_of (hI p.length (i64ok_nat (by omega))) ?_
  simp only [walk, Nat.reduceLT, Nat.reduceBEq, Nat.reduceAdd, Nat.reduceLeDiff, reduceIte, Int.reduceLT, Int.reduceLE, Int.reduceEq, Int.reduceToNat, Int.reduceBEq, xRows_len]
  refine awp_loop_ind (X := Nat) (fun k => ⟨[(0, .val (ptP p)), (2, .val (.str [])), (3, .val (.str (pInt p.length ++ ((p.take k).map pText).flatten))), (4, .val (.int .i64 k))], []⟩)
    (fun k => k ≤ p.length) (fun k => p.length - k) 0 (by omega) (by simp) ?_
  rintro R k hk ih
  simp only [walk, Nat.reduceLT, Nat.reduceBEq, Nat.reduceAdd, Nat.reduceLeDiff, reduceIte, Int.reduceLT, Int.reduceLE, Int.reduceEq, Int.reduceToNat, Int.reduceBEq, xRows_len]
  by_cases c : k < p.length
  · have c1 : (k : Int) < p.length := by omega
    have c0 : (0 : Int) ≤ k := by omega
    have e1 : IntKind.i64.wrap ((k : Int) + 1) = ((k + 1 : Nat) : Int) := wrap64 (by omega) (by omega)
    have step := ih (k + 1) (by omega) (by omega)
    rw [← code_take p k c] at step
    have hb := code_len p hp k c
    simp only [walk, Nat.reduceLT, Nat.reduceBEq, Nat.reduceAdd, Nat.reduceLeDiff, reduceIte, Int.reduceLT, Int.reduceLE, Int.reduceEq, Int.reduceToNat, Int.reduceBEq, c1, xRows_get p k c]
    refine callWp_of (hT p[k] (by have := hp.2 _ (List.getElem_mem c); omega)) ?_
    simp only [walk, Nat.reduceLT, Nat.reduceBEq, Nat.reduceAdd, Nat.reduceLeDiff, reduceIte, Int.reduceLT, Int.reduceLE, Int.reduceEq, Int.reduceToNat, Int.reduceBEq]
    rw [bins_add hb]
    simp only [walk, Nat.reduceLT, Nat.reduceBEq, Nat.reduceAdd, Nat.reduceLeDiff, reduceIte, Int.reduceLT, Int.reduceLE, Int.reduceEq, Int.reduceToNat, Int.reduceBEq, e1]
    exact step
  · have c1 : ¬ (k : Int) < p.length := by omega
    rw [List.take_of_length_le (by omega)]
    simp only [walk, Nat.reduceLT, Nat.reduceBEq, Nat.reduceAdd, Nat.reduceLeDiff, reduceIte, Int.reduceLT, Int.reduceLE, Int.reduceEq, Int.reduceToNat, Int.reduceBEq, c1, pCode]
theorem rMany_lt (m : Int) (s : List UInt8) (b : Int) (hm : 0 ≤ m) : 0 ≤ (rMany m s b).1 ∧ (rMany m s b).1 ≤ m := by
  have := rI_lt s b
  unfold rMany
  dsimp only
  split
  · split
    · exact ⟨by simp, hm⟩
    · split
      · exact ⟨by simp, hm⟩
      · exact ⟨this.1, by omega⟩
  · exact ⟨by simp, hm⟩
theorem rdTexts_len : ∀ (n : Nat) (s : List UInt8) (b : Int), (rdTexts n s b).1.length = n ∧ (∀ t ∈ (rdTexts n s b).1, t.length ≤ s.length)
  | 0, s, b => by simp [rdTexts]
  | n + 1, s, b => by
    have ih := rdTexts_len n (rText s b).2.1 (rText s b).2.2
    have h := rText_len s b
    simp only [rdTexts, List.length_cons, ih.1, true_and]
    intro t ht
    rcases List.mem_cons.1 ht with rfl | ht
    · omega
    · have := ih.2 t ht; omega
theorem rdTexts_suf : ∀ (n : Nat) (s : List UInt8) (b : Int), (rdTexts n s b).2.1 <:+ s
  | 0, s, b => List.suffix_refl _
  | n + 1, s, b => (rdTexts_suf n _ _).trans (rText_suf s b)
theorem rPath_suf (s : List UInt8) (b : Int) : (rPath s b).2.1 <:+ s := (rdTexts_suf _ _ _).trans (rMany_suf 8 s b)
theorem rdTexts_step (n : Nat) (s : List UInt8) (b : Int) (l : List (List UInt8)) (k : Nat) (h : k < n) :
    (l ++ (rdTexts (n - k) s b).1, (rdTexts (n - k) s b).2) = ((l ++ [(rText s b).1]) ++ (rdTexts (n - (k + 1)) (rText s b).2.1 (rText s b).2.2).1, (rdTexts (n - (k + 1)) (rText s b).2.1 (rText s b).2.2).2) := by
  rw [show n - k = (n - (k + 1)) + 1 by omega, rdTexts]
  simp
def rPathOf (q : List (List UInt8) × List UInt8 × Int) : List (List UInt8) × List UInt8 × Int :=
  (if (if q.2.2 = 0 then pCheck q.1 else q.2.2) = 0 then q.1 else [], q.2.1, if q.2.2 = 0 then pCheck q.1 else q.2.2)
theorem rPath_eq (s : List UInt8) (b : Int) : rPath s b = rPathOf (rdTexts (rMany 8 s b).1.toNat (rMany 8 s b).2.1 (rMany 8 s b).2.2) := rfl
theorem rd_ok {s : List UInt8} {b : Int} (hs : s.length ≤ 20000000) : pOk (rdTexts (rMany 8 s b).1.toNat (rMany 8 s b).2.1 (rMany 8 s b).2.2).1 := by
  have hm := rMany_lt 8 s b (by omega)
  have h := rdTexts_len (rMany 8 s b).1.toNat (rMany 8 s b).2.1 (rMany 8 s b).2.2
  have hl := (rMany_suf 8 s b).length_le
  exact ⟨by rw [h.1]; omega, fun t ht => by have := h.2 t ht; omega⟩
theorem g_path_Read (hM : S_rMany (C (F n_pack_Reader_Many))) (hT : S_rText (C (F n_pack_Reader_Text))) (hF : S_Fault (C (F n_pack_Reader_Fault))) (hC : S_pCheck (C (F n_path_Check))) (hX : S_Fail (C (F n_pack_Reader_Fail))) : S_pRead ((c_path_Read F).gives C) := by
  intro s b hs
  refine gives_of rfl ?_
  unfold c_path_Read
  simp only [walk, Nat.reduceLT, Nat.reduceBEq, Nat.reduceAdd, Nat.reduceLeDiff, reduceIte, Int.reduceLT, Int.reduceLE, Int.reduceEq, Int.reduceToNat, Int.reduceBEq]
  refine callWp_of (hM s b 8 (by unfold sLen; omega)) ?_
  have hm := rMany_lt 8 s b (by omega)
  have hsuf := rMany_suf 8 s b
  have hok := rd_ok (b := b) hs
  rw [rPath_eq]
  generalize rMany 8 s b = m at *
  obtain ⟨m1, s1, b1⟩ := m
  simp only at hm hsuf hok
  have hs1 := hsuf.length_le
  simp only [walk, Nat.reduceLT, Nat.reduceBEq, Nat.reduceAdd, Nat.reduceLeDiff, reduceIte, Int.reduceLT, Int.reduceLE, Int.reduceEq, Int.reduceToNat, Int.reduceBEq]
  generalize hq : rdTexts m1.toNat s1 b1 = q at *
  refine awp_loop_ind (X := Nat × List (List UInt8) × List UInt8 × Int) (fun x => ⟨[(0, .lp 0 0), (2, .val (.sl 1 [])), (3, .own 1 (xRows x.2.1)), (5, .val (.int .i64 m1)), (6, .val (.int .i64 x.1))], [(0, rdr x.2.2.1 x.2.2.2)]⟩)
    (fun x => x.1 ≤ m1.toNat ∧ x.2.1.length = x.1 ∧ x.2.2.1.length ≤ s.length ∧ (x.2.1 ++ (rdTexts (m1.toNat - x.1) x.2.2.1 x.2.2.2).1, (rdTexts (m1.toNat - x.1) x.2.2.1 x.2.2.2).2) = q) (fun x => m1.toNat - x.1) (0, [], s1, b1) ⟨by omega, by simp, by simp only; omega, by simpa using hq⟩ (by simp [xRows]) ?_
  rintro R ⟨k, l, t, e⟩ ⟨h1, h2, h3, hJ⟩ ih
  simp only at h1 h2 h3 hJ
  have hb2 : (l.length + 1) * 16 ≤ 140737488355328 := by omega
  simp only [walk, Nat.reduceLT, Nat.reduceBEq, Nat.reduceAdd, Nat.reduceLeDiff, reduceIte, Int.reduceLT, Int.reduceLE, Int.reduceEq, Int.reduceToNat, Int.reduceBEq]
  by_cases c : k < m1.toNat
  · have c1 : (k : Int) < m1 := by omega
    have e1 : IntKind.i64.wrap ((k : Int) + 1) = ((k + 1 : Nat) : Int) := wrap64 (by omega) (by omega)
    simp only [walk, Nat.reduceLT, Nat.reduceBEq, Nat.reduceAdd, Nat.reduceLeDiff, reduceIte, Int.reduceLT, Int.reduceLE, Int.reduceEq, Int.reduceToNat, Int.reduceBEq, c1]
    refine callWp_of (hT t e (by unfold sLen; omega)) ?_
    have hl := (rText_suf t e).length_le
    rw [rdTexts_step _ _ _ _ _ c] at hJ
    have step := ih (k + 1, l ++ [(rText t e).1], (rText t e).2.1, (rText t e).2.2) ⟨by simp only; omega, by simp; omega, by simp only; omega, hJ⟩ (by simp only; omega)
    rw [← xRows_app] at step
    simp only [walk, Nat.reduceLT, Nat.reduceBEq, Nat.reduceAdd, Nat.reduceLeDiff, reduceIte, Int.reduceLT, Int.reduceLE, Int.reduceEq, Int.reduceToNat, Int.reduceBEq, xRows_len, hb2, e1]
    exact step
  · have c1 : ¬ (k : Int) < m1 := by omega
    rw [show m1.toNat - k = 0 by omega, rdTexts] at hJ
    simp only [List.append_nil] at hJ
    simp only [walk, Nat.reduceLT, Nat.reduceBEq, Nat.reduceAdd, Nat.reduceLeDiff, reduceIte, Int.reduceLT, Int.reduceLE, Int.reduceEq, Int.reduceToNat, Int.reduceBEq, c1]
    refine callWp_of (hF t e) ?_
    subst hJ
    unfold rPathOf
    dsimp only at hok ⊢
    by_cases he : e = 0
    · have he' : (e == 0) = true := by rw [beq_iff_eq]; exact he
      simp only [walk, Nat.reduceLT, Nat.reduceBEq, Nat.reduceAdd, Nat.reduceLeDiff, reduceIte, Int.reduceLT, Int.reduceLE, Int.reduceEq, Int.reduceToNat, Int.reduceBEq, he']
      refine callWp_of (hC l hok) ?_
      simp only [walk, Nat.reduceLT, Nat.reduceBEq, Nat.reduceAdd, Nat.reduceLeDiff, reduceIte, Int.reduceLT, Int.reduceLE, Int.reduceEq, Int.reduceToNat, Int.reduceBEq]
      refine callWp_of (hX t e _) ?_
      simp only [walk, Nat.reduceLT, Nat.reduceBEq, Nat.reduceAdd, Nat.reduceLeDiff, reduceIte, Int.reduceLT, Int.reduceLE, Int.reduceEq, Int.reduceToNat, Int.reduceBEq]
      refine callWp_of (hF t _) ?_
      rw [failB, if_pos he]
      by_cases hc : pCheck l = 0
      · have hc' : (pCheck l != 0) = false := by simp [hc]
        simp only [walk, Nat.reduceLT, Nat.reduceBEq, Nat.reduceAdd, Nat.reduceLeDiff, reduceIte, Int.reduceLT, Int.reduceLE, Int.reduceEq, Int.reduceToNat, Int.reduceBEq, bne_self_eq_false, he, hc]
      · have hc' : (pCheck l != 0) = true := by simp [hc]
        simp only [walk, Nat.reduceLT, Nat.reduceBEq, Nat.reduceAdd, Nat.reduceLeDiff, reduceIte, Int.reduceLT, Int.reduceLE, Int.reduceEq, Int.reduceToNat, Int.reduceBEq, hc', he, hc]
        rfl
    · have he' : (e == 0) = false := by rw [beq_eq_false_iff_ne]; exact he
      have he2 : (e != 0) = true := by simp [he]
      simp only [walk, Nat.reduceLT, Nat.reduceBEq, Nat.reduceAdd, Nat.reduceLeDiff, reduceIte, Int.reduceLT, Int.reduceLE, Int.reduceEq, Int.reduceToNat, Int.reduceBEq, he']
      refine callWp_of (hF t _) ?_
      simp only [walk, Nat.reduceLT, Nat.reduceBEq, Nat.reduceAdd, Nat.reduceLeDiff, reduceIte, Int.reduceLT, Int.reduceLE, Int.reduceEq, Int.reduceToNat, Int.reduceBEq, he2, he]
      rfl
end
end Go.AR

/-! Operations: named operations, and values. -/
namespace Go.AR
open Go
section
variable {C : CallRel} {F : Nat → FuncId}
theorem eq_r (a b : Ud) : eqCells [.i, .i, .i] [.int .i64 a.1.1, .int .i64 a.1.2, .int .i64 a.2] [.int .i64 b.1.1, .int .i64 b.1.2, .int .i64 b.2] = some (decide (a = b)) := by
  obtain ⟨⟨a1, a2⟩, a3⟩ := a; obtain ⟨⟨b1, b2⟩, b3⟩ := b
  simp only [eqCells, eqB, if_true]
  congr 1
  rw [Bool.eq_iff_iff]
  simp [and_assoc]
abbrev vCells (v : Vl) : List PV := [.int .i64 v.1, .int .i64 v.2.1, .str v.2.2]
abbrev vP (v : Vl) : PV := .agg (vCells v)
theorem eq_v (a b : Vl) : eqCells [.i, .i, .s] [.int .i64 a.1, .int .i64 a.2.1, .str a.2.2] [.int .i64 b.1, .int .i64 b.2.1, .str b.2.2] = some (decide (a = b)) := by
  obtain ⟨a1, a2, a3⟩ := a; obtain ⟨b1, b2, b3⟩ := b
  simp only [eqCells, eqB, if_true]
  congr 1
  rw [Bool.eq_iff_iff]
  simp
theorem eq_v0 (a : Vl) : eqCells [.i, .i, .s] [.int .i64 a.1, .int .i64 a.2.1, .str a.2.2] [.int .i64 0, .int .i64 0, .str []] = some (decide (a = z0)) := eq_v a z0
def S_rcmp (R : Rel) : Prop := ∀ a b : Ud, R [.v (uP a), .v (uP b)] (.val (.int .i64 (rcmp a b))) []
def S_refs (R : Rel) : Prop := ∀ l : List Ud, l.length ≤ 2000000 → R [.v (usP l)] (.val (.bool (refsOk l))) []
def S_rsame (R : Rel) : Prop := ∀ a b : List Ud, a.length ≤ 2000000 → R [.v (usP a), .v (usP b)] (.val (.bool (decide (a = b)))) []
def S_vOk (R : Rel) : Prop := ∀ v : Vl, v.2.2.length ≤ 20000000 → R [.v (vP v)] (.val (.bool (vOk v))) []
def S_fold (R : Rel) : Prop := ∀ n : Int, -2147483648 ≤ n → n ≤ 2147483648 → R [.v (.int .i64 n)] (.val (.int .i64 (fold n))) []
def S_unfold (R : Rel) : Prop := ∀ n : Int, 0 ≤ n → n < 72057594037927936 → R [.v (.int .i64 n)] (.val (.int .i64 (unfoldI n))) []
def vFit (v : Vl) : Prop := i64ok v.1 ∧ -2147483648 ≤ v.2.1 ∧ v.2.1 ≤ 2147483648 ∧ v.2.2.length ≤ 20000000
def dFit (d : Dt) : Prop := i64ok d.1 ∧ i64ok d.2
def S_vCode (R : Rel) : Prop := ∀ v : Vl, vFit v → R [.v (vP v)] (.val (.str (vCode v))) []
def S_dCode (R : Rel) : Prop := ∀ d : Dt, dFit d → R [.v (dP d)] (.val (.str (dCode d))) []
def S_dRead (R : Rel) : Prop := ∀ s b, sLen s → R [.r (rdr s b)] (.val (dP (rdDot s b).1)) [rdr (rdDot s b).2.1 (rdDot s b).2.2]
def S_vRead (R : Rel) : Prop := ∀ s b, s.length ≤ 20000000 → R [.r (rdr s b)] (.val (vP (rdVal s b).1)) [rdr (rdVal s b).2.1 (rdVal s b).2.2]
theorem g_dot_Refs (h : S_dcmp (C (F n_dot_Compare))) (h2 : S_icmp (C (F n_cmp_Compare_int))) (ho : S_or2 (C (F n_cmp_Or_int))) : S_rcmp ((c_dot_Refs F).gives C) := by
  intro a b
  refine gives_of rfl ?_
  unfold c_dot_Refs
  simp only [walk, Nat.reduceLT, Nat.reduceBEq, Nat.reduceAdd, Nat.reduceLeDiff, reduceIte, Int.reduceLT, Int.reduceLE, Int.reduceEq, Int.reduceToNat, Int.reduceBEq]
  refine callWp_of (h a.1 b.1) ?_
  simp only [walk, Nat.reduceLT, Nat.reduceBEq, Nat.reduceAdd, Nat.reduceLeDiff, reduceIte, Int.reduceLT, Int.reduceLE, Int.reduceEq, Int.reduceToNat, Int.reduceBEq]
  refine callWp_of (h2 _ _) ?_
  simp only [walk, Nat.reduceLT, Nat.reduceBEq, Nat.reduceAdd, Nat.reduceLeDiff, reduceIte, Int.reduceLT, Int.reduceLE, Int.reduceEq, Int.reduceToNat, Int.reduceBEq]
  refine callWp_of (ho _ _) ?_
  simp only [walk, Nat.reduceLT, Nat.reduceBEq, Nat.reduceAdd, Nat.reduceLeDiff, reduceIte, Int.reduceLT, Int.reduceLE, Int.reduceEq, Int.reduceToNat, Int.reduceBEq, rcmp]
theorem g_pref04_Refs (h : S_dcmp (C (F n_pref04_Compare))) (h2 : S_icmp (C (F n_pref04_ints))) : S_rcmp ((c_pref04_Refs F).gives C) := by
  intro a b
  refine gives_of rfl ?_
  unfold c_pref04_Refs rcmp
  simp only [walk, Nat.reduceLT, Nat.reduceBEq, Nat.reduceAdd, Nat.reduceLeDiff, reduceIte, Int.reduceLT, Int.reduceLE, Int.reduceEq, Int.reduceToNat, Int.reduceBEq]
  refine callWp_of (h a.1 b.1) ?_
  by_cases h1 : dcmp a.1 b.1 = 0
  · have e : (dcmp a.1 b.1 != 0) = false := by simp [h1]
    simp only [walk, Nat.reduceLT, Nat.reduceBEq, Nat.reduceAdd, Nat.reduceLeDiff, reduceIte, Int.reduceLT, Int.reduceLE, Int.reduceEq, Int.reduceToNat, Int.reduceBEq, e]
    refine callWp_of (h2 _ _) ?_
    simp only [walk, Nat.reduceLT, Nat.reduceBEq, Nat.reduceAdd, Nat.reduceLeDiff, reduceIte, Int.reduceLT, Int.reduceLE, Int.reduceEq, Int.reduceToNat, Int.reduceBEq, h1, ne_eq]
  · have e : (dcmp a.1 b.1 != 0) = true := by simp [h1]
    simp only [walk, Nat.reduceLT, Nat.reduceBEq, Nat.reduceAdd, Nat.reduceLeDiff, reduceIte, Int.reduceLT, Int.reduceLE, Int.reduceEq, Int.reduceToNat, Int.reduceBEq, e]
    refine callWp_of (h a.1 b.1) ?_
    simp only [walk, Nat.reduceLT, Nat.reduceBEq, Nat.reduceAdd, Nat.reduceLeDiff, reduceIte, Int.reduceLT, Int.reduceLE, Int.reduceEq, Int.reduceToNat, Int.reduceBEq, h1, ne_eq]
theorem g_value_Right (hR : S_runes .i32 (C (F n_name_Runes))) : S_vOk ((c_value_Right F).gives C) := by
  intro v hv
  obtain ⟨k, n, s⟩ := v
  simp only at hv
  refine gives_of rfl ?_
  unfold c_value_Right vOk
  simp only [walk, Nat.reduceLT, Nat.reduceBEq, Nat.reduceAdd, Nat.reduceLeDiff, reduceIte, Int.reduceLT, Int.reduceLE, Int.reduceEq, Int.reduceToNat, Int.reduceBEq]
  by_cases h1 : k = 1
  · have e1 : (k == 1) = true := by simp [h1]
    simp only [walk, Nat.reduceLT, Nat.reduceBEq, Nat.reduceAdd, Nat.reduceLeDiff, reduceIte, Int.reduceLT, Int.reduceLE, Int.reduceEq, Int.reduceToNat, Int.reduceBEq, e1]
    by_cases h2 : s = []
    · have e2 : (s == []) = true := by simp [h2]
      simp only [walk, Nat.reduceLT, Nat.reduceBEq, Nat.reduceAdd, Nat.reduceLeDiff, reduceIte, Int.reduceLT, Int.reduceLE, Int.reduceEq, Int.reduceToNat, Int.reduceBEq, e2, h1, h2, beq_self_eq_true]
      by_cases h3 : -2147483647 ≤ n <;> simp only [walk, Nat.reduceLT, Nat.reduceBEq, Nat.reduceAdd, Nat.reduceLeDiff, reduceIte, Int.reduceLT, Int.reduceLE, Int.reduceEq, Int.reduceToNat, Int.reduceBEq, h3, ge_iff_le]
    · have e2 : (s == []) = false := by rw [beq_eq_false_iff_ne]; exact h2
      simp only [walk, Nat.reduceLT, Nat.reduceBEq, Nat.reduceAdd, Nat.reduceLeDiff, reduceIte, Int.reduceLT, Int.reduceLE, Int.reduceEq, Int.reduceToNat, Int.reduceBEq, e2, h1, h2]
  · have e1 : (k == 1) = false := by rw [beq_eq_false_iff_ne]; exact h1
    simp only [walk, Nat.reduceLT, Nat.reduceBEq, Nat.reduceAdd, Nat.reduceLeDiff, reduceIte, Int.reduceLT, Int.reduceLE, Int.reduceEq, Int.reduceToNat, Int.reduceBEq, e1]
    by_cases h2 : k = 2
    · have e2 : (k == 2) = true := by simp [h2]
      simp only [walk, Nat.reduceLT, Nat.reduceBEq, Nat.reduceAdd, Nat.reduceLeDiff, reduceIte, Int.reduceLT, Int.reduceLE, Int.reduceEq, Int.reduceToNat, Int.reduceBEq, e2]
      refine callWp_of (hR s hv) ?_
      cases hr : runes s [] with
      | none => simp only [walk, Nat.reduceLT, Nat.reduceBEq, Nat.reduceAdd, Nat.reduceLeDiff, reduceIte, Int.reduceLT, Int.reduceLE, Int.reduceEq, Int.reduceToNat, Int.reduceBEq, runesP, h1, h2, Option.isSome_none]
      | some l =>
        simp only [walk, Nat.reduceLT, Nat.reduceBEq, Nat.reduceAdd, Nat.reduceLeDiff, reduceIte, Int.reduceLT, Int.reduceLE, Int.reduceEq, Int.reduceToNat, Int.reduceBEq, runesP]
        by_cases h3 : n = 0
        · have e3 : (n == 0) = true := by simp [h3]
          have e4 : ((s.length : Int) ≤ 64) = (s.length ≤ 64) := by apply propext; omega
          simp only [walk, Nat.reduceLT, Nat.reduceBEq, Nat.reduceAdd, Nat.reduceLeDiff, reduceIte, Int.reduceLT, Int.reduceLE, Int.reduceEq, Int.reduceToNat, Int.reduceBEq, e3, h1, h2, h3, Option.isSome_some, e4]
        · have e3 : (n == 0) = false := by rw [beq_eq_false_iff_ne]; exact h3
          simp only [walk, Nat.reduceLT, Nat.reduceBEq, Nat.reduceAdd, Nat.reduceLeDiff, reduceIte, Int.reduceLT, Int.reduceLE, Int.reduceEq, Int.reduceToNat, Int.reduceBEq, e3, h1, h2, h3, Option.isSome_some]
    · have e2 : (k == 2) = false := by rw [beq_eq_false_iff_ne]; exact h2
      simp only [walk, Nat.reduceLT, Nat.reduceBEq, Nat.reduceAdd, Nat.reduceLeDiff, reduceIte, Int.reduceLT, Int.reduceLE, Int.reduceEq, Int.reduceToNat, Int.reduceBEq, e2]
      by_cases h3 : k = 3
      · have e3 : (k == 3) = true := by simp [h3]
        simp only [walk, Nat.reduceLT, Nat.reduceBEq, Nat.reduceAdd, Nat.reduceLeDiff, reduceIte, Int.reduceLT, Int.reduceLE, Int.reduceEq, Int.reduceToNat, Int.reduceBEq, e3, h1, h2, h3]
        by_cases h4 : s = []
        · have e4 : (s == []) = true := by simp [h4]
          simp only [walk, Nat.reduceLT, Nat.reduceBEq, Nat.reduceAdd, Nat.reduceLeDiff, reduceIte, Int.reduceLT, Int.reduceLE, Int.reduceEq, Int.reduceToNat, Int.reduceBEq, h4, beq_self_eq_true]
          by_cases h5 : n = 0
          · have e5 : (n == 0) = true := by simp [h5]
            simp only [walk, Nat.reduceLT, Nat.reduceBEq, Nat.reduceAdd, Nat.reduceLeDiff, reduceIte, Int.reduceLT, Int.reduceLE, Int.reduceEq, Int.reduceToNat, Int.reduceBEq, e5, h5]
          · have e5 : (n == 0) = false := by rw [beq_eq_false_iff_ne]; exact h5
            simp only [walk, Nat.reduceLT, Nat.reduceBEq, Nat.reduceAdd, Nat.reduceLeDiff, reduceIte, Int.reduceLT, Int.reduceLE, Int.reduceEq, Int.reduceToNat, Int.reduceBEq, e5]
            have e6 : (n == 1) = (decide (0 ≤ n) && decide (n ≤ 1)) := by
              rw [Bool.eq_iff_iff]; simp; omega
            simp only [walk, Nat.reduceLT, Nat.reduceBEq, Nat.reduceAdd, Nat.reduceLeDiff, reduceIte, Int.reduceLT, Int.reduceLE, Int.reduceEq, Int.reduceToNat, Int.reduceBEq, e6]
        · have e4 : (s == []) = false := by rw [beq_eq_false_iff_ne]; exact h4
          simp only [walk, Nat.reduceLT, Nat.reduceBEq, Nat.reduceAdd, Nat.reduceLeDiff, reduceIte, Int.reduceLT, Int.reduceLE, Int.reduceEq, Int.reduceToNat, Int.reduceBEq, e4, h4]
      · have e3 : (k == 3) = false := by rw [beq_eq_false_iff_ne]; exact h3
        simp only [walk, Nat.reduceLT, Nat.reduceBEq, Nat.reduceAdd, Nat.reduceLeDiff, reduceIte, Int.reduceLT, Int.reduceLE, Int.reduceEq, Int.reduceToNat, Int.reduceBEq, e3, h1, h2, h3]
theorem g_pref09_Right (hR : S_runes .i64 (C (F n_pref03_Runes))) : S_vOk ((c_pref09_Right F).gives C) := by
  intro v hv
  obtain ⟨k, n, s⟩ := v
  simp only at hv
  refine gives_of rfl ?_
  unfold c_pref09_Right vOk
  simp only [walk, Nat.reduceLT, Nat.reduceBEq, Nat.reduceAdd, Nat.reduceLeDiff, reduceIte, Int.reduceLT, Int.reduceLE, Int.reduceEq, Int.reduceToNat, Int.reduceBEq]
  by_cases h1 : k = 1
  · have e1 : (k == 1) = true := by simp [h1]
    simp only [walk, Nat.reduceLT, Nat.reduceBEq, Nat.reduceAdd, Nat.reduceLeDiff, reduceIte, Int.reduceLT, Int.reduceLE, Int.reduceEq, Int.reduceToNat, Int.reduceBEq, e1]
    by_cases h2 : s = []
    · have e2 : (s == []) = true := by simp [h2]
      simp only [walk, Nat.reduceLT, Nat.reduceBEq, Nat.reduceAdd, Nat.reduceLeDiff, reduceIte, Int.reduceLT, Int.reduceLE, Int.reduceEq, Int.reduceToNat, Int.reduceBEq, e2, h1, h2, beq_self_eq_true]
      by_cases h3 : -2147483647 ≤ n <;> simp only [walk, Nat.reduceLT, Nat.reduceBEq, Nat.reduceAdd, Nat.reduceLeDiff, reduceIte, Int.reduceLT, Int.reduceLE, Int.reduceEq, Int.reduceToNat, Int.reduceBEq, h3, ge_iff_le]
    · have e2 : (s == []) = false := by rw [beq_eq_false_iff_ne]; exact h2
      simp only [walk, Nat.reduceLT, Nat.reduceBEq, Nat.reduceAdd, Nat.reduceLeDiff, reduceIte, Int.reduceLT, Int.reduceLE, Int.reduceEq, Int.reduceToNat, Int.reduceBEq, e2, h1, h2]
  · have e1 : (k == 1) = false := by rw [beq_eq_false_iff_ne]; exact h1
    simp only [walk, Nat.reduceLT, Nat.reduceBEq, Nat.reduceAdd, Nat.reduceLeDiff, reduceIte, Int.reduceLT, Int.reduceLE, Int.reduceEq, Int.reduceToNat, Int.reduceBEq, e1]
    by_cases h2 : k = 2
    · have e2 : (k == 2) = true := by simp [h2]
      simp only [walk, Nat.reduceLT, Nat.reduceBEq, Nat.reduceAdd, Nat.reduceLeDiff, reduceIte, Int.reduceLT, Int.reduceLE, Int.reduceEq, Int.reduceToNat, Int.reduceBEq, e2]
      refine callWp_of (hR s hv) ?_
      by_cases h3 : n = 0
      · have e3 : (n == 0) = true := by simp [h3]
        cases hr : runes s [] with
        | none => simp only [walk, Nat.reduceLT, Nat.reduceBEq, Nat.reduceAdd, Nat.reduceLeDiff, reduceIte, Int.reduceLT, Int.reduceLE, Int.reduceEq, Int.reduceToNat, Int.reduceBEq, runesP, h1, h2, h3, e3, Option.isSome_none]
        | some l =>
          have e4 : ((s.length : Int) ≤ 64) = (s.length ≤ 64) := by apply propext; omega
          simp only [walk, Nat.reduceLT, Nat.reduceBEq, Nat.reduceAdd, Nat.reduceLeDiff, reduceIte, Int.reduceLT, Int.reduceLE, Int.reduceEq, Int.reduceToNat, Int.reduceBEq, runesP, e3, h1, h2, h3, Option.isSome_some, e4]
      · have e3 : (n == 0) = false := by rw [beq_eq_false_iff_ne]; exact h3
        cases hr : runes s [] <;> simp only [walk, Nat.reduceLT, Nat.reduceBEq, Nat.reduceAdd, Nat.reduceLeDiff, reduceIte, Int.reduceLT, Int.reduceLE, Int.reduceEq, Int.reduceToNat, Int.reduceBEq, runesP, e3, h1, h2, h3]
    · have e2 : (k == 2) = false := by rw [beq_eq_false_iff_ne]; exact h2
      simp only [walk, Nat.reduceLT, Nat.reduceBEq, Nat.reduceAdd, Nat.reduceLeDiff, reduceIte, Int.reduceLT, Int.reduceLE, Int.reduceEq, Int.reduceToNat, Int.reduceBEq, e2]
      by_cases h3 : k = 3
      · have e3 : (k == 3) = true := by simp [h3]
        simp only [walk, Nat.reduceLT, Nat.reduceBEq, Nat.reduceAdd, Nat.reduceLeDiff, reduceIte, Int.reduceLT, Int.reduceLE, Int.reduceEq, Int.reduceToNat, Int.reduceBEq, e3, h1, h2, h3]
        by_cases h4 : s = []
        · have e4 : (s == []) = true := by simp [h4]
          simp only [walk, Nat.reduceLT, Nat.reduceBEq, Nat.reduceAdd, Nat.reduceLeDiff, reduceIte, Int.reduceLT, Int.reduceLE, Int.reduceEq, Int.reduceToNat, Int.reduceBEq, h4, beq_self_eq_true]
          by_cases h5 : 0 ≤ n
          · simp only [walk, Nat.reduceLT, Nat.reduceBEq, Nat.reduceAdd, Nat.reduceLeDiff, reduceIte, Int.reduceLT, Int.reduceLE, Int.reduceEq, Int.reduceToNat, Int.reduceBEq, h5, ge_iff_le]
          · simp only [walk, Nat.reduceLT, Nat.reduceBEq, Nat.reduceAdd, Nat.reduceLeDiff, reduceIte, Int.reduceLT, Int.reduceLE, Int.reduceEq, Int.reduceToNat, Int.reduceBEq, h5, ge_iff_le]
        · have e4 : (s == []) = false := by rw [beq_eq_false_iff_ne]; exact h4
          simp only [walk, Nat.reduceLT, Nat.reduceBEq, Nat.reduceAdd, Nat.reduceLeDiff, reduceIte, Int.reduceLT, Int.reduceLE, Int.reduceEq, Int.reduceToNat, Int.reduceBEq, e4, h4]
      · have e3 : (k == 3) = false := by rw [beq_eq_false_iff_ne]; exact h3
        simp only [walk, Nat.reduceLT, Nat.reduceBEq, Nat.reduceAdd, Nat.reduceLeDiff, reduceIte, Int.reduceLT, Int.reduceLE, Int.reduceEq, Int.reduceToNat, Int.reduceBEq, e3, h1, h2, h3]
theorem g_value_Fold : S_fold ((c_value_Fold F).gives C) := by
  intro n h1 h2
  refine gives_of rfl ?_
  unfold c_value_Fold fold
  by_cases h : n < 0
  · have w1 : IntKind.i64.wrap (-2 * n) = -2 * n := wrap64 (by omega) (by omega)
    have w2 : IntKind.i64.wrap (-2 * n - 1) = -2 * n - 1 := wrap64 (by omega) (by omega)
    simp only [walk, Nat.reduceLT, Nat.reduceBEq, Nat.reduceAdd, Nat.reduceLeDiff, reduceIte, Int.reduceLT, Int.reduceLE, Int.reduceEq, Int.reduceToNat, Int.reduceBEq, h, w1, w2]
  · have w1 : IntKind.i64.wrap (2 * n) = 2 * n := wrap64 (by omega) (by omega)
    simp only [walk, Nat.reduceLT, Nat.reduceBEq, Nat.reduceAdd, Nat.reduceLeDiff, reduceIte, Int.reduceLT, Int.reduceLE, Int.reduceEq, Int.reduceToNat, Int.reduceBEq, h, w1]
theorem g_pref09_Fold : S_fold ((c_pref09_Fold F).gives C) := by
  intro n h1 h2
  refine gives_of rfl ?_
  unfold c_pref09_Fold fold
  by_cases h : n < 0
  · have w1 : IntKind.i64.wrap (0 - n) = 0 - n := wrap64 (by omega) (by omega)
    have w2 : IntKind.i64.wrap (0 - n - n) = 0 - n - n := wrap64 (by omega) (by omega)
    have w3 : IntKind.i64.wrap (0 - n - n - 1) = -2 * n - 1 := by rw [wrap64 (by omega) (by omega)]; omega
    simp only [walk, Nat.reduceLT, Nat.reduceBEq, Nat.reduceAdd, Nat.reduceLeDiff, reduceIte, Int.reduceLT, Int.reduceLE, Int.reduceEq, Int.reduceToNat, Int.reduceBEq, h, w1, w2, w3]
  · have w1 : IntKind.i64.wrap (n + n) = 2 * n := by rw [wrap64 (by omega) (by omega)]; omega
    simp only [walk, Nat.reduceLT, Nat.reduceBEq, Nat.reduceAdd, Nat.reduceLeDiff, reduceIte, Int.reduceLT, Int.reduceLE, Int.reduceEq, Int.reduceToNat, Int.reduceBEq, h, w1]
theorem g_value_Unfold : S_unfold ((c_value_Unfold F).gives C) := by
  intro n h1 h2
  refine gives_of rfl ?_
  unfold c_value_Unfold unfoldI
  have e1 : n.tmod 2 = n % 2 := Int.tmod_eq_emod_of_nonneg h1
  have q0 : n.tdiv 2 = n / 2 := Int.tdiv_eq_ediv_of_nonneg h1
  have w1 : IntKind.i64.wrap (n + 1) = n + 1 := wrap64 (by omega) (by omega)
  have w2 : IntKind.i64.wrap (0 - (n + 1)) = 0 - (n + 1) := wrap64 (by omega) (by omega)
  have q1 : (0 - (n + 1)).tdiv 2 = -((n + 1) / 2) := by
    rw [Int.zero_sub, Int.neg_tdiv, Int.tdiv_eq_ediv_of_nonneg (by omega)]
  have w3 : IntKind.i64.wrap (-((n + 1) / 2)) = -((n + 1) / 2) := wrap64 (by omega) (by omega)
  have w4 : IntKind.i64.wrap (n / 2) = n / 2 := wrap64 (by omega) (by omega)
  simp only [walk, Nat.reduceLT, Nat.reduceBEq, Nat.reduceAdd, Nat.reduceLeDiff, reduceIte, Int.reduceLT, Int.reduceLE, Int.reduceEq, Int.reduceToNat, Int.reduceBEq, e1]
  by_cases h : n % 2 = 1
  · simp only [walk, Nat.reduceLT, Nat.reduceBEq, Nat.reduceAdd, Nat.reduceLeDiff, reduceIte, Int.reduceLT, Int.reduceLE, Int.reduceEq, Int.reduceToNat, Int.reduceBEq, h, w1, w2, q1, w3]
  · have h' : (n % 2 == 1) = false := by rw [beq_eq_false_iff_ne]; exact h
    simp only [walk, Nat.reduceLT, Nat.reduceBEq, Nat.reduceAdd, Nat.reduceLeDiff, reduceIte, Int.reduceLT, Int.reduceLE, Int.reduceEq, Int.reduceToNat, Int.reduceBEq, h', h, q0, w4]
theorem fold_ok {n : Int} (h1 : -2147483648 ≤ n) (h2 : n ≤ 2147483648) : i64ok (fold n) := by
  unfold fold i64ok; split <;> omega
theorem g_value_Code (hI : S_i2s (C (F n_pack_Int))) (hT : S_ptext (C (F n_pack_Text))) (hF : S_fold (C (F n_value_Fold))) : S_vCode ((c_value_Code F).gives C) := by
  intro v hv
  obtain ⟨k, n, s⟩ := v
  obtain ⟨h1, h2, h3, h4⟩ := hv
  simp only at h1 h2 h3 h4
  refine gives_of rfl ?_
  unfold c_value_Code vCode
  have l1 := pInt_len h1
  simp only [walk, Nat.reduceLT, Nat.reduceBEq, Nat.reduceAdd, Nat.reduceLeDiff, reduceIte, Int.reduceLT, Int.reduceLE, Int.reduceEq, Int.reduceToNat, Int.reduceBEq]
  by_cases h : k = 2
  · subst h
    have l2 := pText_len s h4
    simp only [walk, Nat.reduceLT, Nat.reduceBEq, Nat.reduceAdd, Nat.reduceLeDiff, reduceIte, Int.reduceLT, Int.reduceLE, Int.reduceEq, Int.reduceToNat, Int.reduceBEq]
    refine callWp_of (hI _ h1) ?_
    simp only [walk, Nat.reduceLT, Nat.reduceBEq, Nat.reduceAdd, Nat.reduceLeDiff, reduceIte, Int.reduceLT, Int.reduceLE, Int.reduceEq, Int.reduceToNat, Int.reduceBEq]
    refine callWp_of (hT _ (by omega)) ?_
    simp only [walk, Nat.reduceLT, Nat.reduceBEq, Nat.reduceAdd, Nat.reduceLeDiff, reduceIte, Int.reduceLT, Int.reduceLE, Int.reduceEq, Int.reduceToNat, Int.reduceBEq]
    rw [bins_add (by omega)]
    simp only [walk, Nat.reduceLT, Nat.reduceBEq, Nat.reduceAdd, Nat.reduceLeDiff, reduceIte, Int.reduceLT, Int.reduceLE, Int.reduceEq, Int.reduceToNat, Int.reduceBEq]
  · have e : (k == 2) = false := by rw [beq_eq_false_iff_ne]; exact h
    have l2 := pInt_len (fold_ok h2 h3)
    simp only [walk, Nat.reduceLT, Nat.reduceBEq, Nat.reduceAdd, Nat.reduceLeDiff, reduceIte, Int.reduceLT, Int.reduceLE, Int.reduceEq, Int.reduceToNat, Int.reduceBEq, e, h]
    refine callWp_of (hI _ h1) ?_
    simp only [walk, Nat.reduceLT, Nat.reduceBEq, Nat.reduceAdd, Nat.reduceLeDiff, reduceIte, Int.reduceLT, Int.reduceLE, Int.reduceEq, Int.reduceToNat, Int.reduceBEq]
    refine callWp_of (hF _ h2 h3) ?_
    simp only [walk, Nat.reduceLT, Nat.reduceBEq, Nat.reduceAdd, Nat.reduceLeDiff, reduceIte, Int.reduceLT, Int.reduceLE, Int.reduceEq, Int.reduceToNat, Int.reduceBEq]
    refine callWp_of (hI _ (fold_ok h2 h3)) ?_
    simp only [walk, Nat.reduceLT, Nat.reduceBEq, Nat.reduceAdd, Nat.reduceLeDiff, reduceIte, Int.reduceLT, Int.reduceLE, Int.reduceEq, Int.reduceToNat, Int.reduceBEq]
    rw [bins_add (by omega)]
    simp only [walk, Nat.reduceLT, Nat.reduceBEq, Nat.reduceAdd, Nat.reduceLeDiff, reduceIte, Int.reduceLT, Int.reduceLE, Int.reduceEq, Int.reduceToNat, Int.reduceBEq]
theorem g_pref09_Code (hI : S_i2s (C (F n_pref02_Int))) (hT : S_ptext (C (F n_pref02_Text))) (hF : S_fold (C (F n_pref09_Fold))) : S_vCode ((c_pref09_Code F).gives C) := by
  intro v hv
  obtain ⟨k, n, s⟩ := v
  obtain ⟨h1, h2, h3, h4⟩ := hv
  simp only at h1 h2 h3 h4
  refine gives_of rfl ?_
  unfold c_pref09_Code vCode
  have l1 := pInt_len h1
  simp only [walk, Nat.reduceLT, Nat.reduceBEq, Nat.reduceAdd, Nat.reduceLeDiff, reduceIte, Int.reduceLT, Int.reduceLE, Int.reduceEq, Int.reduceToNat, Int.reduceBEq]
  by_cases h : k = 2
  · subst h
    have l2 := pText_len s h4
    simp only [walk, Nat.reduceLT, Nat.reduceBEq, Nat.reduceAdd, Nat.reduceLeDiff, reduceIte, Int.reduceLT, Int.reduceLE, Int.reduceEq, Int.reduceToNat, Int.reduceBEq]
    refine callWp_of (hI _ h1) ?_
    simp only [walk, Nat.reduceLT, Nat.reduceBEq, Nat.reduceAdd, Nat.reduceLeDiff, reduceIte, Int.reduceLT, Int.reduceLE, Int.reduceEq, Int.reduceToNat, Int.reduceBEq]
    refine callWp_of (hT _ (by omega)) ?_
    simp only [walk, Nat.reduceLT, Nat.reduceBEq, Nat.reduceAdd, Nat.reduceLeDiff, reduceIte, Int.reduceLT, Int.reduceLE, Int.reduceEq, Int.reduceToNat, Int.reduceBEq]
    rw [bins_add (by omega)]
    simp only [walk, Nat.reduceLT, Nat.reduceBEq, Nat.reduceAdd, Nat.reduceLeDiff, reduceIte, Int.reduceLT, Int.reduceLE, Int.reduceEq, Int.reduceToNat, Int.reduceBEq]
  · have e : (k == 2) = false := by rw [beq_eq_false_iff_ne]; exact h
    have l2 := pInt_len (fold_ok h2 h3)
    simp only [walk, Nat.reduceLT, Nat.reduceBEq, Nat.reduceAdd, Nat.reduceLeDiff, reduceIte, Int.reduceLT, Int.reduceLE, Int.reduceEq, Int.reduceToNat, Int.reduceBEq, e, h]
    refine callWp_of (hI _ h1) ?_
    simp only [walk, Nat.reduceLT, Nat.reduceBEq, Nat.reduceAdd, Nat.reduceLeDiff, reduceIte, Int.reduceLT, Int.reduceLE, Int.reduceEq, Int.reduceToNat, Int.reduceBEq]
    refine callWp_of (hF _ h2 h3) ?_
    simp only [walk, Nat.reduceLT, Nat.reduceBEq, Nat.reduceAdd, Nat.reduceLeDiff, reduceIte, Int.reduceLT, Int.reduceLE, Int.reduceEq, Int.reduceToNat, Int.reduceBEq]
    refine callWp_of (hI _ (fold_ok h2 h3)) ?_
    simp only [walk, Nat.reduceLT, Nat.reduceBEq, Nat.reduceAdd, Nat.reduceLeDiff, reduceIte, Int.reduceLT, Int.reduceLE, Int.reduceEq, Int.reduceToNat, Int.reduceBEq]
    rw [bins_add (by omega)]
    simp only [walk, Nat.reduceLT, Nat.reduceBEq, Nat.reduceAdd, Nat.reduceLeDiff, reduceIte, Int.reduceLT, Int.reduceLE, Int.reduceEq, Int.reduceToNat, Int.reduceBEq]
theorem g_dot_Code (hI : S_i2s (C (F n_pack_Int))) : S_dCode ((c_dot_Code F).gives C) := by
  intro d hd
  obtain ⟨a, b⟩ := d
  obtain ⟨h1, h2⟩ := hd
  simp only at h1 h2
  refine gives_of rfl ?_
  unfold c_dot_Code dCode
  have l1 := pInt_len h1
  have l2 := pInt_len h2
  simp only [walk, Nat.reduceLT, Nat.reduceBEq, Nat.reduceAdd, Nat.reduceLeDiff, reduceIte, Int.reduceLT, Int.reduceLE, Int.reduceEq, Int.reduceToNat, Int.reduceBEq]
  refine callWp_of (hI _ h1) ?_
  simp only [walk, Nat.reduceLT, Nat.reduceBEq, Nat.reduceAdd, Nat.reduceLeDiff, reduceIte, Int.reduceLT, Int.reduceLE, Int.reduceEq, Int.reduceToNat, Int.reduceBEq]
  refine callWp_of (hI _ h2) ?_
  simp only [walk, Nat.reduceLT, Nat.reduceBEq, Nat.reduceAdd, Nat.reduceLeDiff, reduceIte, Int.reduceLT, Int.reduceLE, Int.reduceEq, Int.reduceToNat, Int.reduceBEq]
  rw [bins_add (by omega)]
  simp only [walk, Nat.reduceLT, Nat.reduceBEq, Nat.reduceAdd, Nat.reduceLeDiff, reduceIte, Int.reduceLT, Int.reduceLE, Int.reduceEq, Int.reduceToNat, Int.reduceBEq]
theorem g_pref04_Code (hI : S_i2s (C (F n_pref02_Int))) : S_dCode ((c_pref04_Code F).gives C) := by
  intro d hd
  obtain ⟨a, b⟩ := d
  obtain ⟨h1, h2⟩ := hd
  simp only at h1 h2
  refine gives_of rfl ?_
  unfold c_pref04_Code dCode
  have l1 := pInt_len h1
  have l2 := pInt_len h2
  simp only [walk, Nat.reduceLT, Nat.reduceBEq, Nat.reduceAdd, Nat.reduceLeDiff, reduceIte, Int.reduceLT, Int.reduceLE, Int.reduceEq, Int.reduceToNat, Int.reduceBEq]
  refine callWp_of (hI _ h1) ?_
  simp only [walk, Nat.reduceLT, Nat.reduceBEq, Nat.reduceAdd, Nat.reduceLeDiff, reduceIte, Int.reduceLT, Int.reduceLE, Int.reduceEq, Int.reduceToNat, Int.reduceBEq]
  refine callWp_of (hI _ h2) ?_
  simp only [walk, Nat.reduceLT, Nat.reduceBEq, Nat.reduceAdd, Nat.reduceLeDiff, reduceIte, Int.reduceLT, Int.reduceLE, Int.reduceEq, Int.reduceToNat, Int.reduceBEq]
  rw [bins_add (by omega)]
  simp only [walk, Nat.reduceLT, Nat.reduceBEq, Nat.reduceAdd, Nat.reduceLeDiff, reduceIte, Int.reduceLT, Int.reduceLE, Int.reduceEq, Int.reduceToNat, Int.reduceBEq]
theorem sLen_rI {s : List UInt8} (b : Int) (h : sLen s) : sLen (rI s b).2.1 := by
  have := (rI_suf s b).length_le
  unfold sLen at *; omega
theorem g_dot_Read (hI : S_rInt (C (F n_pack_Reader_Int))) (hF : S_Fault (C (F n_pack_Reader_Fault))) (hR : S_dotOk (C (F n_dot_Right))) (hX : S_Fail (C (F n_pack_Reader_Fail))) : S_dRead ((c_dot_Read F).gives C) := by
  intro s b hs
  refine gives_of rfl ?_
  unfold c_dot_Read rdDot
  simp only [walk, Nat.reduceLT, Nat.reduceBEq, Nat.reduceAdd, Nat.reduceLeDiff, reduceIte, Int.reduceLT, Int.reduceLE, Int.reduceEq, Int.reduceToNat, Int.reduceBEq]
  refine callWp_of (hI s b hs) ?_
  have h1 := sLen_rI b hs
  generalize rI s b = x at *
  obtain ⟨x1, s1, b1⟩ := x
  simp only [walk, Nat.reduceLT, Nat.reduceBEq, Nat.reduceAdd, Nat.reduceLeDiff, reduceIte, Int.reduceLT, Int.reduceLE, Int.reduceEq, Int.reduceToNat, Int.reduceBEq]
  refine callWp_of (hI s1 b1 h1) ?_
  generalize rI s1 b1 = y at *
  obtain ⟨y1, s2, b2⟩ := y
  simp only [walk, Nat.reduceLT, Nat.reduceBEq, Nat.reduceAdd, Nat.reduceLeDiff, reduceIte, Int.reduceLT, Int.reduceLE, Int.reduceEq, Int.reduceToNat, Int.reduceBEq]
  refine callWp_of (hF s2 b2) ?_
  by_cases hb : b2 = 0
  · have e : (b2 == 0) = true := by simp [hb]
    simp only [walk, Nat.reduceLT, Nat.reduceBEq, Nat.reduceAdd, Nat.reduceLeDiff, reduceIte, Int.reduceLT, Int.reduceLE, Int.reduceEq, Int.reduceToNat, Int.reduceBEq, e]
    refine callWp_of (hR (x1, y1)) ?_
    cases hd : dotOk (x1, y1) with
    | true =>
      simp only [walk, Nat.reduceLT, Nat.reduceBEq, Nat.reduceAdd, Nat.reduceLeDiff, reduceIte, Int.reduceLT, Int.reduceLE, Int.reduceEq, Int.reduceToNat, Int.reduceBEq]
      refine callWp_of (hF s2 b2) ?_
      simp only [walk, Nat.reduceLT, Nat.reduceBEq, Nat.reduceAdd, Nat.reduceLeDiff, reduceIte, Int.reduceLT, Int.reduceLE, Int.reduceEq, Int.reduceToNat, Int.reduceBEq, hb, bne_self_eq_false, and_false]
    | false =>
      simp only [walk, Nat.reduceLT, Nat.reduceBEq, Nat.reduceAdd, Nat.reduceLeDiff, reduceIte, Int.reduceLT, Int.reduceLE, Int.reduceEq, Int.reduceToNat, Int.reduceBEq]
      refine callWp_of (hX s2 b2 2) ?_
      simp only [walk, Nat.reduceLT, Nat.reduceBEq, Nat.reduceAdd, Nat.reduceLeDiff, reduceIte, Int.reduceLT, Int.reduceLE, Int.reduceEq, Int.reduceToNat, Int.reduceBEq]
      refine callWp_of (hF s2 _) ?_
      have e2 : ((2 : Int) != 0) = true := rfl
      simp only [walk, Nat.reduceLT, Nat.reduceBEq, Nat.reduceAdd, Nat.reduceLeDiff, reduceIte, Int.reduceLT, Int.reduceLE, Int.reduceEq, Int.reduceToNat, Int.reduceBEq, failB, hb, e2, and_self]
  · have e : (b2 == 0) = false := by rw [beq_eq_false_iff_ne]; exact hb
    have e2 : (b2 != 0) = true := by simp [hb]
    simp only [walk, Nat.reduceLT, Nat.reduceBEq, Nat.reduceAdd, Nat.reduceLeDiff, reduceIte, Int.reduceLT, Int.reduceLE, Int.reduceEq, Int.reduceToNat, Int.reduceBEq, e]
    refine callWp_of (hF s2 b2) ?_
    simp only [walk, Nat.reduceLT, Nat.reduceBEq, Nat.reduceAdd, Nat.reduceLeDiff, reduceIte, Int.reduceLT, Int.reduceLE, Int.reduceEq, Int.reduceToNat, Int.reduceBEq, e2, hb, false_and]
end
end Go.AR

/-! Paths: the laws. -/
namespace Go.AR
open Go
theorem lead_le {c k least c0 : Nat} (h : lead c = some (k, least, c0)) : k ≤ 3 := by
  unfold lead at h
  split at h
  · cases h; omega
  · split at h
    · cases h; omega
    · split at h
      · cases h; omega
      · cases h
theorem chr4 (l : List UInt8) : (chr l).2 ≤ 4 := by
  unfold chr
  repeat' split
  all_goals simp
  rename_i h1 _ _ _ _ _
  exact lead_le h1
theorem Wd.len {l : List UInt8} {n : Nat} (h : Wd l n) : l.length ≤ 4 * n := by
  induction h with
  | nil => simp
  | cons h hm hr ih =>
    rename_i l n
    have := chr4 l
    rw [List.length_drop] at ih
    omega
theorem right_len {s : List UInt8} (h : rightB s = true) : s.length ≤ 96 ∧ s ≠ [] := by
  obtain ⟨n, hw, h1, h2⟩ := (right_iff s).1 h
  have := hw.len
  refine ⟨by omega, ?_⟩
  rintro rfl
  cases hw with
  | nil => omega
  | cons h => exact h rfl
theorem pCheck_zero {p : List (List UInt8)} (h : pCheck p = 0) : p ≠ [] ∧ p.length ≤ 8 ∧ ∀ s ∈ p, rightB s = true := by
  unfold pCheck at h
  by_cases h0 : p.length = 0
  · rw [if_pos h0] at h; cases h
  · rw [if_neg h0] at h
    by_cases h8 : 8 < p.length
    · rw [if_pos h8] at h; cases h
    · rw [if_neg h8] at h
      by_cases ha : p.all rightB = true
      · exact ⟨by rintro rfl; exact h0 rfl, by omega, List.all_eq_true.1 ha⟩
      · rw [if_neg ha] at h; cases h
theorem check_ok {p : List (List UInt8)} (h : pCheck p = 0) : pOk p := by
  obtain ⟨_, h1, h2⟩ := pCheck_zero h
  exact ⟨by omega, fun s hs => by have := (right_len (h2 s hs)).1; omega⟩
theorem short_ok {p : List (List UInt8)} (h : pShort p = true) : pOk p := by
  unfold pShort at h
  simp only [Bool.and_eq_true, decide_eq_true_eq, List.all_eq_true] at h
  exact ⟨by omega, fun s hs => by have := h.2 s hs; omega⟩
theorem rdTexts_parts : ∀ (p : List (List UInt8)) (rest : List UInt8), (∀ s ∈ p, s.length < 72057594037927936) → rdTexts p.length ((p.map pText).flatten ++ rest) 0 = (p, rest, 0)
  | [], rest, _ => rfl
  | s :: p, rest, h => by
    rw [List.length_cons, rdTexts, List.map_cons, List.flatten_cons, List.append_assoc, rText_pText s _ (h s (by simp))]
    simp only
    rw [rdTexts_parts p rest (fun t ht => h t (by simp [ht]))]
theorem parts_ge : ∀ (p : List (List UInt8)), p.length ≤ ((p.map pText).flatten).length
  | [] => by simp
  | s :: p => by
    have := parts_ge p
    have h := vint_pos s.length
    rw [List.map_cons, List.flatten_cons, List.length_append, List.length_cons, pText, List.length_append]
    omega
theorem rMany_vint (m : Int) (n : Nat) (rest : List UInt8) (h : n < 72057594037927936) (hm : (n : Int) ≤ m) (hr : n ≤ rest.length) : rMany m (vint n ++ rest) 0 = ((n : Int), rest, 0) := by
  unfold rMany
  rw [rI_vint n h rest]
  simp only [if_true]
  rw [if_neg (by omega), if_neg (by omega)]
theorem rPath_code {p : List (List UInt8)} (h : pCheck p = 0) (rest : List UInt8) : rPath (pCode p ++ rest) 0 = (p, rest, 0) := by
  obtain ⟨_, h1, h2⟩ := pCheck_zero h
  have hl := parts_ge p
  rw [rPath_eq, pCode, pInt, List.append_assoc, Int.toNat_natCast, rMany_vint 8 p.length _ (by omega) (by omega) (by rw [List.length_append]; omega)]
  simp only [Int.toNat_natCast]
  rw [rdTexts_parts p rest (fun s hs => by have := (right_len (h2 s hs)).1; omega)]
  simp [rPathOf, h]
section
variable {C : CallRel} {F : Nat → FuncId}
end
end Go.AR
