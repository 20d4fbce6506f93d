import Derived.Test.YtmplidjdcmfeaaaDoorG31
import Derived.Test.YtmplidjdcmfeaaaDoorG25
import Derived.Test.YtmplidjdcmfeaaaDoorG09
import Derived.Test.YtmplidjdcmfeaaaDoorG08
import Derived.Test.YtmplidjdcmfeaaaDoorG32
import Derived.Shelf.Strings.OnBuilder
set_option linter.all false
/-! Paths: bytes, texts, readers. -/
namespace Go.AR
open Go
section
variable {C : CallRel} {F : Nat → FuncId}
def S_pCode (R : Rel) : Prop := ∀ p, pOk p → R [.v (ptP p)] (.val (.str (pCode p))) []
def S_pRead (R : Rel) : Prop := ∀ s b, s.length ≤ 20000000 → R [.r (rdr s b)] (.val (ptP (rPath s b).1)) [rdr (rPath s b).2.1 (rPath s b).2.2]
def S_XPath (R : Rel) : Prop := ∀ S s b, S.length ≤ 20000000 → s <:+ S → R [.r (X S s b)] (.val (ptP (rPath s b).1)) [X S (rPath s b).2.1 (rPath s b).2.2]
theorem i64ok_nat {n : Nat} (h : n ≤ 9223372036854775807) : i64ok (n : Int) := ⟨by omega, by omega⟩
theorem pText_len (s : List UInt8) (h : s.length ≤ 20000000) : (pText s).length ≤ 20000011 := by
  have : (vint s.length).length ≤ 11 := vint_len 10 _ (by omega)
  unfold pText; rw [List.length_append]; omega
theorem pParts_len : ∀ (p : List (List UInt8)), (∀ s ∈ p, s.length ≤ 20000000) → ((p.map pText).flatten).length ≤ p.length * 20000011
  | [], _ => by simp
  | s :: p, h => by
    have h1 := pText_len s (h s (by simp))
    have h2 := pParts_len p (fun t ht => h t (by simp [ht]))
    rw [List.map_cons, List.flatten_cons, List.length_append, List.length_cons]; omega
theorem code_take (p : List (List UInt8)) (k : Nat) (h : k < p.length) : (pInt p.length ++ ((p.take k).map pText).flatten) ++ pText p[k] = pInt p.length ++ ((p.take (k + 1)).map pText).flatten := by
  rw [List.take_add_one, List.getElem?_eq_getElem h, Option.toList_some, List.map_append, List.flatten_append, List.append_assoc]
  simp only [List.map_cons, List.map_nil, List.flatten_cons, List.flatten_nil, List.append_nil]
theorem code_len (p : List (List UInt8)) (hp : pOk p) (k : Nat) (h : k < p.length) : (pInt p.length ++ ((p.take k).map pText).flatten).length + (pText p[k]).length ≤ 9223372036854775807 := by
  have h1 := pParts_len (p.take k) (fun s hs => hp.2 s (List.mem_of_mem_take hs))
  have h2 := pInt_len (n := p.length) (i64ok_nat (by have := hp.1; omega))
  have h3 := pText_len p[k] (hp.2 _ (List.getElem_mem h))
  have h4 := hp.1
  rw [List.length_take, Nat.min_eq_left (by omega)] at h1
  rw [List.length_append]
  omega
theorem g_path_Code (hI : S_i2s (C (F n_pack_Int))) (hT : S_ptext (C (F n_pack_Text))) : S_pCode ((c_path_Code F).gives C) := by
  intro p hp
  refine gives_of rfl ?_
  unfold c_path_Code
  have hl := hp.1
  simp only [walk, Nat.reduceLT, Nat.reduceBEq, Nat.reduceAdd, Nat.reduceLeDiff, reduceIte, Int.reduceLT, Int.reduceLE, Int.reduceEq, Int.reduceToNat, Int.reduceBEq, xRows_len]
  refine callWp_of (hI p.length (i64ok_nat (by omega))) ?_
  simp only [walk, Nat.reduceLT, Nat.reduceBEq, Nat.reduceAdd, Nat.reduceLeDiff, reduceIte, Int.reduceLT, Int.reduceLE, Int.reduceEq, Int.reduceToNat, Int.reduceBEq, xRows_len]
  refine awp_loop_ind (X := Nat) (fun k => ⟨[(0, .val (ptP p)), (2, .val (.str [])), (3, .val (.str (pInt p.length ++ ((p.take k).map pText).flatten))), (9, .val (ptP p)), (10, .val (.int .i64 p.length)), (11, .val (.int .i64 k))], []⟩)
    (fun k => k ≤ p.length) (fun k => p.length - k) 0 (by omega) (by simp) ?_
  rintro R k hk ih
  simp only [walk, Nat.reduceLT, Nat.reduceBEq, Nat.reduceAdd, Nat.reduceLeDiff, reduceIte, Int.reduceLT, Int.reduceLE, Int.reduceEq, Int.reduceToNat, Int.reduceBEq]
  by_cases c : k < p.length
  · have c1 : (k : Int) < p.length := by omega
    have c0 : (0 : Int) ≤ k := by omega
    have e1 : IntKind.i64.wrap ((k : Int) + 1) = ((k + 1 : Nat) : Int) := wrap64 (by omega) (by omega)
    have step := ih (k + 1) (by omega) (by omega)
    rw [← code_take p k c] at step
    have hb := code_len p hp k c
    simp only [walk, Nat.reduceLT, Nat.reduceBEq, Nat.reduceAdd, Nat.reduceLeDiff, reduceIte, Int.reduceLT, Int.reduceLE, Int.reduceEq, Int.reduceToNat, Int.reduceBEq, c1, xRows_get p k c]
    refine callWp_of (hT p[k] (by have := hp.2 _ (List.getElem_mem c); omega)) ?_
    simp only [walk, Nat.reduceLT, Nat.reduceBEq, Nat.reduceAdd, Nat.reduceLeDiff, reduceIte, Int.reduceLT, Int.reduceLE, Int.reduceEq, Int.reduceToNat, Int.reduceBEq]
    rw [bins_add hb]
    simp only [walk, Nat.reduceLT, Nat.reduceBEq, Nat.reduceAdd, Nat.reduceLeDiff, reduceIte, Int.reduceLT, Int.reduceLE, Int.reduceEq, Int.reduceToNat, Int.reduceBEq, e1]
    exact step
  · have c1 : ¬ (k : Int) < p.length := by omega
    rw [List.take_of_length_le (by omega)]
    simp only [walk, Nat.reduceLT, Nat.reduceBEq, Nat.reduceAdd, Nat.reduceLeDiff, reduceIte, Int.reduceLT, Int.reduceLE, Int.reduceEq, Int.reduceToNat, Int.reduceBEq, c1, pCode]
theorem g_pref10_Code (hI : S_i2s (C (F n_pref02_Int))) (hT : S_ptext (C (F n_pref02_Text))) : S_pCode ((c_pref10_Code F).gives C) := by
  intro p hp
  refine gives_of rfl ?_
  unfold c_pref10_Code
  have hl := hp.1
  simp only [walk, Nat.reduceLT, Nat.reduceBEq, Nat.reduceAdd, Nat.reduceLeDiff, reduceIte, Int.reduceLT, Int.reduceLE, Int.reduceEq, Int.reduceToNat, Int.reduceBEq, xRows_len]
  refine callWp_of (hI p.length (i64ok_nat (by omega))) ?_
  simp only [walk, Nat.reduceLT, Nat.reduceBEq, Nat.reduceAdd, Nat.reduceLeDiff, reduceIte, Int.reduceLT, Int.reduceLE, Int.reduceEq, Int.reduceToNat, Int.reduceBEq, xRows_len]
  refine awp_loop_ind (X := Nat) (fun k => ⟨[(0, .val (ptP p)), (2, .val (.str [])), (3, .val (.str (pInt p.length ++ ((p.take k).map pText).flatten))), (4, .val (.int .i64 k))], []⟩)
    (fun k => k ≤ p.length) (fun k => p.length - k) 0 (by omega) (by simp) ?_
  rintro R k hk ih
  simp only [walk, Nat.reduceLT, Nat.reduceBEq, Nat.reduceAdd, Nat.reduceLeDiff, reduceIte, Int.reduceLT, Int.reduceLE, Int.reduceEq, Int.reduceToNat, Int.reduceBEq, xRows_len]
  by_cases c : k < p.length
  · have c1 : (k : Int) < p.length := by omega
    have c0 : (0 : Int) ≤ k := by omega
    have e1 : IntKind.i64.wrap ((k : Int) + 1) = ((k + 1 : Nat) : Int) := wrap64 (by omega) (by omega)
    have step := ih (k + 1) (by omega) (by omega)
    rw [← code_take p k c] at step
    have hb := code_len p hp k c
    simp only [walk, Nat.reduceLT, Nat.reduceBEq, Nat.reduceAdd, Nat.reduceLeDiff, reduceIte, Int.reduceLT, Int.reduceLE, Int.reduceEq, Int.reduceToNat, Int.reduceBEq, c1, xRows_get p k c]
    refine callWp_of (hT p[k] (by have := hp.2 _ (List.getElem_mem c); omega)) ?_
    simp only [walk, Nat.reduceLT, Nat.reduceBEq, Nat.reduceAdd, Nat.reduceLeDiff, reduceIte, Int.reduceLT, Int.reduceLE, Int.reduceEq, Int.reduceToNat, Int.reduceBEq]
    rw [bins_add hb]
    simp only [walk, Nat.reduceLT, Nat.reduceBEq, Nat.reduceAdd, Nat.reduceLeDiff, reduceIte, Int.reduceLT, Int.reduceLE, Int.reduceEq, Int.reduceToNat, Int.reduceBEq, e1]
    exact step
  · have c1 : ¬ (k : Int) < p.length := by omega
    rw [List.take_of_length_le (by omega)]
    simp only [walk, Nat.reduceLT, Nat.reduceBEq, Nat.reduceAdd, Nat.reduceLeDiff, reduceIte, Int.reduceLT, Int.reduceLE, Int.reduceEq, Int.reduceToNat, Int.reduceBEq, c1, pCode]
theorem rMany_lt (m : Int) (s : List UInt8) (b : Int) (hm : 0 ≤ m) : 0 ≤ (rMany m s b).1 ∧ (rMany m s b).1 ≤ m := by
  have := rI_lt s b
  unfold rMany
  dsimp only
  split
  · split
    · exact ⟨by simp, hm⟩
    · split
      · exact ⟨by simp, hm⟩
      · exact ⟨this.1, by omega⟩
  · exact ⟨by simp, hm⟩
theorem rdTexts_len : ∀ (n : Nat) (s : List UInt8) (b : Int), (rdTexts n s b).1.length = n ∧ (∀ t ∈ (rdTexts n s b).1, t.length ≤ s.length)
  | 0, s, b => by simp [rdTexts]
  | n + 1, s, b => by
    have ih := rdTexts_len n (rText s b).2.1 (rText s b).2.2
    have h := rText_len s b
    simp only [rdTexts, List.length_cons, ih.1, true_and]
    intro t ht
    rcases List.mem_cons.1 ht with rfl | ht
    · omega
    · have := ih.2 t ht; omega
theorem rdTexts_suf : ∀ (n : Nat) (s : List UInt8) (b : Int), (rdTexts n s b).2.1 <:+ s
  | 0, s, b => List.suffix_refl _
  | n + 1, s, b => (rdTexts_suf n _ _).trans (rText_suf s b)
theorem rPath_suf (s : List UInt8) (b : Int) : (rPath s b).2.1 <:+ s := (rdTexts_suf _ _ _).trans (rMany_suf 8 s b)
theorem rdTexts_step (n : Nat) (s : List UInt8) (b : Int) (l : List (List UInt8)) (k : Nat) (h : k < n) :
    (l ++ (rdTexts (n - k) s b).1, (rdTexts (n - k) s b).2) = ((l ++ [(rText s b).1]) ++ (rdTexts (n - (k + 1)) (rText s b).2.1 (rText s b).2.2).1, (rdTexts (n - (k + 1)) (rText s b).2.1 (rText s b).2.2).2) := by
  rw [show n - k = (n - (k + 1)) + 1 by omega, rdTexts]
  simp
def rPathOf (q : List (List UInt8) × List UInt8 × Int) : List (List UInt8) × List UInt8 × Int :=
  (if (if q.2.2 = 0 then pCheck q.1 else q.2.2) = 0 then q.1 else [], q.2.1, if q.2.2 = 0 then pCheck q.1 else q.2.2)
theorem rPath_eq (s : List UInt8) (b : Int) : rPath s b = rPathOf (rdTexts (rMany 8 s b).1.toNat (rMany 8 s b).2.1 (rMany 8 s b).2.2) := rfl
theorem rd_ok {s : List UInt8} {b : Int} (hs : s.length ≤ 20000000) : pOk (rdTexts (rMany 8 s b).1.toNat (rMany 8 s b).2.1 (rMany 8 s b).2.2).1 := by
  have hm := rMany_lt 8 s b (by omega)
  have h := rdTexts_len (rMany 8 s b).1.toNat (rMany 8 s b).2.1 (rMany 8 s b).2.2
  have hl := (rMany_suf 8 s b).length_le
  exact ⟨by rw [h.1]; omega, fun t ht => by have := h.2 t ht; omega⟩
theorem g_path_Read (hM : S_rMany (C (F n_pack_Reader_Many))) (hT : S_rText (C (F n_pack_Reader_Text))) (hF : S_Fault (C (F n_pack_Reader_Fault))) (hC : S_pCheck (C (F n_path_Check))) (hX : S_Fail (C (F n_pack_Reader_Fail))) : S_pRead ((c_path_Read F).gives C) := by
  intro s b hs
  refine gives_of rfl ?_
  unfold c_path_Read
  simp only [walk, Nat.reduceLT, Nat.reduceBEq, Nat.reduceAdd, Nat.reduceLeDiff, reduceIte, Int.reduceLT, Int.reduceLE, Int.reduceEq, Int.reduceToNat, Int.reduceBEq]
  refine callWp_of (hM s b 8 (by unfold sLen; omega)) ?_
  have hm := rMany_lt 8 s b (by omega)
  have hsuf := rMany_suf 8 s b
  have hok := rd_ok (b := b) hs
  rw [rPath_eq]
  generalize rMany 8 s b = m at *
  obtain ⟨m1, s1, b1⟩ := m
  simp only at hm hsuf hok
  have hs1 := hsuf.length_le
  simp only [walk, Nat.reduceLT, Nat.reduceBEq, Nat.reduceAdd, Nat.reduceLeDiff, reduceIte, Int.reduceLT, Int.reduceLE, Int.reduceEq, Int.reduceToNat, Int.reduceBEq]
  generalize hq : rdTexts m1.toNat s1 b1 = q at *
  refine awp_loop_ind (X := Nat × List (List UInt8) × List UInt8 × Int) (fun x => ⟨[(0, .lp 0 0), (2, .val (.sl 1 [])), (3, .own 1 (xRows x.2.1)), (5, .val (.int .i64 m1)), (6, .val (.int .i64 x.1))], [(0, rdr x.2.2.1 x.2.2.2)]⟩)
    (fun x => x.1 ≤ m1.toNat ∧ x.2.1.length = x.1 ∧ x.2.2.1.length ≤ s.length ∧ (x.2.1 ++ (rdTexts (m1.toNat - x.1) x.2.2.1 x.2.2.2).1, (rdTexts (m1.toNat - x.1) x.2.2.1 x.2.2.2).2) = q) (fun x => m1.toNat - x.1) (0, [], s1, b1) ⟨by omega, by simp, by simp only; omega, by simpa using hq⟩ (by simp [xRows]) ?_
  rintro R ⟨k, l, t, e⟩ ⟨h1, h2, h3, hJ⟩ ih
  simp only at h1 h2 h3 hJ
  have hb2 : (l.length + 1) * 16 ≤ 140737488355328 := by omega
  simp only [walk, Nat.reduceLT, Nat.reduceBEq, Nat.reduceAdd, Nat.reduceLeDiff, reduceIte, Int.reduceLT, Int.reduceLE, Int.reduceEq, Int.reduceToNat, Int.reduceBEq]
  by_cases c : k < m1.toNat
  · have c1 : (k : Int) < m1 := by omega
    have e1 : IntKind.i64.wrap ((k : Int) + 1) = ((k + 1 : Nat) : Int) := wrap64 (by omega) (by omega)
    simp only [walk, Nat.reduceLT, Nat.reduceBEq, Nat.reduceAdd, Nat.reduceLeDiff, reduceIte, Int.reduceLT, Int.reduceLE, Int.reduceEq, Int.reduceToNat, Int.reduceBEq, c1]
    refine callWp_of (hT t e (by unfold sLen; omega)) ?_
    have hl := (rText_suf t e).length_le
    rw [rdTexts_step _ _ _ _ _ c] at hJ
    have step := ih (k + 1, l ++ [(rText t e).1], (rText t e).2.1, (rText t e).2.2) ⟨by simp only; omega, by simp; omega, by simp only; omega, hJ⟩ (by simp only; omega)
    rw [← xRows_app] at step
    simp only [walk, Nat.reduceLT, Nat.reduceBEq, Nat.reduceAdd, Nat.reduceLeDiff, reduceIte, Int.reduceLT, Int.reduceLE, Int.reduceEq, Int.reduceToNat, Int.reduceBEq, xRows_len, hb2, e1]
    exact step
  · have c1 : ¬ (k : Int) < m1 := by omega
    rw [show m1.toNat - k = 0 by omega, rdTexts] at hJ
    simp only [List.append_nil] at hJ
    simp only [walk, Nat.reduceLT, Nat.reduceBEq, Nat.reduceAdd, Nat.reduceLeDiff, reduceIte, Int.reduceLT, Int.reduceLE, Int.reduceEq, Int.reduceToNat, Int.reduceBEq, c1]
    refine callWp_of (hF t e) ?_
    subst hJ
    unfold rPathOf
    dsimp only at hok ⊢
    by_cases he : e = 0
    · have he' : (e == 0) = true := by rw [beq_iff_eq]; exact he
      simp only [walk, Nat.reduceLT, Nat.reduceBEq, Nat.reduceAdd, Nat.reduceLeDiff, reduceIte, Int.reduceLT, Int.reduceLE, Int.reduceEq, Int.reduceToNat, Int.reduceBEq, he']
      refine callWp_of (hC l hok) ?_
      simp only [walk, Nat.reduceLT, Nat.reduceBEq, Nat.reduceAdd, Nat.reduceLeDiff, reduceIte, Int.reduceLT, Int.reduceLE, Int.reduceEq, Int.reduceToNat, Int.reduceBEq]
      refine callWp_of (hX t e _) ?_
      simp only [walk, Nat.reduceLT, Nat.reduceBEq, Nat.reduceAdd, Nat.reduceLeDiff, reduceIte, Int.reduceLT, Int.reduceLE, Int.reduceEq, Int.reduceToNat, Int.reduceBEq]
      refine callWp_of (hF t _) ?_
      rw [failB, if_pos he]
      by_cases hc : pCheck l = 0
      · have hc' : (pCheck l != 0) = false := by simp [hc]
        simp only [walk, Nat.reduceLT, Nat.reduceBEq, Nat.reduceAdd, Nat.reduceLeDiff, reduceIte, Int.reduceLT, Int.reduceLE, Int.reduceEq, Int.reduceToNat, Int.reduceBEq, bne_self_eq_false, he, hc]
      · have hc' : (pCheck l != 0) = true := by simp [hc]
        simp only [walk, Nat.reduceLT, Nat.reduceBEq, Nat.reduceAdd, Nat.reduceLeDiff, reduceIte, Int.reduceLT, Int.reduceLE, Int.reduceEq, Int.reduceToNat, Int.reduceBEq, hc', he, hc]
        rfl
    · have he' : (e == 0) = false := by rw [beq_eq_false_iff_ne]; exact he
      have he2 : (e != 0) = true := by simp [he]
      simp only [walk, Nat.reduceLT, Nat.reduceBEq, Nat.reduceAdd, Nat.reduceLeDiff, reduceIte, Int.reduceLT, Int.reduceLE, Int.reduceEq, Int.reduceToNat, Int.reduceBEq, he']
      refine callWp_of (hF t _) ?_
      simp only [walk, Nat.reduceLT, Nat.reduceBEq, Nat.reduceAdd, Nat.reduceLeDiff, reduceIte, Int.reduceLT, Int.reduceLE, Int.reduceEq, Int.reduceToNat, Int.reduceBEq, he2, he]
      rfl
theorem g_pref10_Read (hM : S_XMany (C (F n_pref02_Reader_Many))) (hT : S_XText (C (F n_pref02_Reader_Text))) (hC : S_pCheck (C (F n_pref10_Check))) (hX : S_XFail (C (F n_pref02_Reader_Fail))) : S_XPath ((c_pref10_Read F).gives C) := by
  intro S s b hS hs
  refine gives_of rfl ?_
  unfold c_pref10_Read
  simp only [walk, Nat.reduceLT, Nat.reduceBEq, Nat.reduceAdd, Nat.reduceLeDiff, reduceIte, Int.reduceLT, Int.reduceLE, Int.reduceEq, Int.reduceToNat, Int.reduceBEq]
  refine callWp_of (hM S s b 8 (by unfold sLen; omega) hs) ?_
  have hm := rMany_lt 8 s b (by omega)
  have hsuf := (rMany_suf 8 s b).trans hs
  have hok := rd_ok (b := b) (Nat.le_trans hs.length_le hS)
  rw [rPath_eq]
  generalize rMany 8 s b = m at *
  obtain ⟨m1, s1, b1⟩ := m
  simp only at hm hsuf hok
  simp only [walk, Nat.reduceLT, Nat.reduceBEq, Nat.reduceAdd, Nat.reduceLeDiff, reduceIte, Int.reduceLT, Int.reduceLE, Int.reduceEq, Int.reduceToNat, Int.reduceBEq]
  generalize hq : rdTexts m1.toNat s1 b1 = q at *
  refine awp_loop_ind (X := Nat × List (List UInt8) × List UInt8 × Int) (fun x => ⟨[(0, .lp 0 0), (2, .val (.sl 1 [])), (3, .val (.int .i64 m1)), (4, .own 1 (xRows x.2.1)), (5, .val (.int .i64 x.1))], [(0, X S x.2.2.1 x.2.2.2)]⟩)
    (fun x => x.1 ≤ m1.toNat ∧ x.2.1.length = x.1 ∧ x.2.2.1 <:+ S ∧ (x.2.1 ++ (rdTexts (m1.toNat - x.1) x.2.2.1 x.2.2.2).1, (rdTexts (m1.toNat - x.1) x.2.2.1 x.2.2.2).2) = q) (fun x => m1.toNat - x.1) (0, [], s1, b1) ⟨by omega, by simp, hsuf, by simpa using hq⟩ (by simp [xRows]) ?_
  rintro R ⟨k, l, t, e⟩ ⟨h1, h2, h3, hJ⟩ ih
  simp only at h1 h2 h3 hJ
  have hb2 : (l.length + 1) * 16 ≤ 140737488355328 := by omega
  simp only [walk, Nat.reduceLT, Nat.reduceBEq, Nat.reduceAdd, Nat.reduceLeDiff, reduceIte, Int.reduceLT, Int.reduceLE, Int.reduceEq, Int.reduceToNat, Int.reduceBEq]
  by_cases c : k < m1.toNat
  · have c1 : (k : Int) < m1 := by omega
    have e1 : IntKind.i64.wrap ((k : Int) + 1) = ((k + 1 : Nat) : Int) := wrap64 (by omega) (by omega)
    simp only [walk, Nat.reduceLT, Nat.reduceBEq, Nat.reduceAdd, Nat.reduceLeDiff, reduceIte, Int.reduceLT, Int.reduceLE, Int.reduceEq, Int.reduceToNat, Int.reduceBEq, c1]
    refine callWp_of (hT S t e (by unfold sLen; omega) h3) ?_
    rw [rdTexts_step _ _ _ _ _ c] at hJ
    have step := ih (k + 1, l ++ [(rText t e).1], (rText t e).2.1, (rText t e).2.2) ⟨by simp only; omega, by simp; omega, (rText_suf t e).trans h3, hJ⟩ (by simp only; omega)
    rw [← xRows_app] at step
    simp only [walk, Nat.reduceLT, Nat.reduceBEq, Nat.reduceAdd, Nat.reduceLeDiff, reduceIte, Int.reduceLT, Int.reduceLE, Int.reduceEq, Int.reduceToNat, Int.reduceBEq, xRows_len, hb2, e1]
    exact step
  · have c1 : ¬ (k : Int) < m1 := by omega
    rw [show m1.toNat - k = 0 by omega, rdTexts] at hJ
    simp only [List.append_nil] at hJ
    simp only [walk, Nat.reduceLT, Nat.reduceBEq, Nat.reduceAdd, Nat.reduceLeDiff, reduceIte, Int.reduceLT, Int.reduceLE, Int.reduceEq, Int.reduceToNat, Int.reduceBEq, c1, X, xdr]
    subst hJ
    unfold rPathOf
    dsimp only at hok ⊢
    by_cases he : e = 0
    · have he' : (e == 0) = true := by rw [beq_iff_eq]; exact he
      simp only [walk, Nat.reduceLT, Nat.reduceBEq, Nat.reduceAdd, Nat.reduceLeDiff, reduceIte, Int.reduceLT, Int.reduceLE, Int.reduceEq, Int.reduceToNat, Int.reduceBEq, he']
      refine callWp_of (hC l hok) ?_
      simp only [walk, Nat.reduceLT, Nat.reduceBEq, Nat.reduceAdd, Nat.reduceLeDiff, reduceIte, Int.reduceLT, Int.reduceLE, Int.reduceEq, Int.reduceToNat, Int.reduceBEq]
      refine callWp_of (hX S t e _) ?_
      simp only [walk, Nat.reduceLT, Nat.reduceBEq, Nat.reduceAdd, Nat.reduceLeDiff, reduceIte, Int.reduceLT, Int.reduceLE, Int.reduceEq, Int.reduceToNat, Int.reduceBEq, X, xdr]
      rw [failB, if_pos he]
      by_cases hc : pCheck l = 0
      · have hc' : (pCheck l != 0) = false := by simp [hc]
        simp only [walk, Nat.reduceLT, Nat.reduceBEq, Nat.reduceAdd, Nat.reduceLeDiff, reduceIte, Int.reduceLT, Int.reduceLE, Int.reduceEq, Int.reduceToNat, Int.reduceBEq, bne_self_eq_false, he, hc]
      · have hc' : (pCheck l != 0) = true := by simp [hc]
        simp only [walk, Nat.reduceLT, Nat.reduceBEq, Nat.reduceAdd, Nat.reduceLeDiff, reduceIte, Int.reduceLT, Int.reduceLE, Int.reduceEq, Int.reduceToNat, Int.reduceBEq, hc', he, hc]
        rfl
    · have he' : (e == 0) = false := by rw [beq_eq_false_iff_ne]; exact he
      have he2 : (e != 0) = true := by simp [he]
      simp only [walk, Nat.reduceLT, Nat.reduceBEq, Nat.reduceAdd, Nat.reduceLeDiff, reduceIte, Int.reduceLT, Int.reduceLE, Int.reduceEq, Int.reduceToNat, Int.reduceBEq, he', he2, he]
      rfl
end
end Go.AR

/-! Paths: the laws. -/
namespace Go.AR
open Go
theorem lead_le {c k least c0 : Nat} (h : lead c = some (k, least, c0)) : k ≤ 3 := by
  unfold lead at h
  split at h
  · cases h; omega
  · split at h
    · cases h; omega
    · split at h
      · cases h; omega
      · cases h
theorem chr4 (l : List UInt8) : (chr l).2 ≤ 4 := by
  unfold chr
  repeat' split
  all_goals simp
  rename_i h1 _ _ _ _ _
  exact lead_le h1
theorem Wd.len {l : List UInt8} {n : Nat} (h : Wd l n) : l.length ≤ 4 * n := by
  induction h with
  | nil => simp
  | cons h hm hr ih =>
    rename_i l n
    have := chr4 l
    rw [List.length_drop] at ih
    omega
theorem right_len {s : List UInt8} (h : rightB s = true) : s.length ≤ 96 ∧ s ≠ [] := by
  obtain ⟨n, hw, h1, h2⟩ := (right_iff s).1 h
  have := hw.len
  refine ⟨by omega, ?_⟩
  rintro rfl
  cases hw with
  | nil => omega
  | cons h => exact h rfl
theorem pCheck_zero {p : List (List UInt8)} (h : pCheck p = 0) : p ≠ [] ∧ p.length ≤ 8 ∧ ∀ s ∈ p, rightB s = true := by
  unfold pCheck at h
  by_cases h0 : p.length = 0
  · rw [if_pos h0] at h; cases h
  · rw [if_neg h0] at h
    by_cases h8 : 8 < p.length
    · rw [if_pos h8] at h; cases h
    · rw [if_neg h8] at h
      by_cases ha : p.all rightB = true
      · exact ⟨by rintro rfl; exact h0 rfl, by omega, List.all_eq_true.1 ha⟩
      · rw [if_neg ha] at h; cases h
theorem check_ok {p : List (List UInt8)} (h : pCheck p = 0) : pOk p := by
  obtain ⟨_, h1, h2⟩ := pCheck_zero h
  exact ⟨by omega, fun s hs => by have := (right_len (h2 s hs)).1; omega⟩
theorem short_ok {p : List (List UInt8)} (h : pShort p = true) : pOk p := by
  unfold pShort at h
  simp only [Bool.and_eq_true, decide_eq_true_eq, List.all_eq_true] at h
  exact ⟨by omega, fun s hs => by have := h.2 s hs; omega⟩
theorem rdTexts_parts : ∀ (p : List (List UInt8)) (rest : List UInt8), (∀ s ∈ p, s.length < 72057594037927936) → rdTexts p.length ((p.map pText).flatten ++ rest) 0 = (p, rest, 0)
  | [], rest, _ => rfl
  | s :: p, rest, h => by
    rw [List.length_cons, rdTexts, List.map_cons, List.flatten_cons, List.append_assoc, rText_pText s _ (h s (by simp))]
    simp only
    rw [rdTexts_parts p rest (fun t ht => h t (by simp [ht]))]
theorem parts_ge : ∀ (p : List (List UInt8)), p.length ≤ ((p.map pText).flatten).length
  | [] => by simp
  | s :: p => by
    have := parts_ge p
    have h := vint_pos s.length
    rw [List.map_cons, List.flatten_cons, List.length_append, List.length_cons, pText, List.length_append]
    omega
theorem rMany_vint (m : Int) (n : Nat) (rest : List UInt8) (h : n < 72057594037927936) (hm : (n : Int) ≤ m) (hr : n ≤ rest.length) : rMany m (vint n ++ rest) 0 = ((n : Int), rest, 0) := by
  unfold rMany
  rw [rI_vint n h rest]
  simp only [if_true]
  rw [if_neg (by omega), if_neg (by omega)]
theorem rPath_code {p : List (List UInt8)} (h : pCheck p = 0) (rest : List UInt8) : rPath (pCode p ++ rest) 0 = (p, rest, 0) := by
  obtain ⟨_, h1, h2⟩ := pCheck_zero h
  have hl := parts_ge p
  rw [rPath_eq, pCode, pInt, List.append_assoc, Int.toNat_natCast, rMany_vint 8 p.length _ (by omega) (by omega) (by rw [List.length_append]; omega)]
  simp only [Int.toNat_natCast]
  rw [rdTexts_parts p rest (fun s hs => by have := (right_len (h2 s hs)).1; omega)]
  simp [rPathOf, h]
section
variable {C : CallRel} {F : Nat → FuncId}
end
end Go.AR
