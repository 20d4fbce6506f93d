import Derived.Test.YtfipbmlnklmjoaaDoorG33
set_option linter.all false
/-! Readers that are not there. -/
namespace Go.AR
open Go
section
variable {C : CallRel} {F : Nat → FuncId}
def S_nfine (R : Rel) : Prop := R [.v .nilp] (.val (.bool false)) []
def S_nFail (R : Rel) : Prop := ∀ e, R [.v .nilp, .v (.int .i64 e)] (.val (.tup [])) []
def S_nInt (R : Rel) : Prop := R [.v .nilp] (.val (.int .i64 0)) []
def S_nText (R : Rel) : Prop := R [.v .nilp] (.val (.str [])) []
def S_nMany (R : Rel) : Prop := ∀ m, R [.v .nilp, .v (.int .i64 m)] (.val (.int .i64 0)) []
def S_nFault (R : Rel) : Prop := R [.v .nilp] (.val (.int .i64 1)) []
theorem g_nfine : S_nfine ((c_pack_Reader_fine__nil F).gives C) := by
  refine gives_of rfl ?_
  unfold c_pack_Reader_fine__nil
  simp only [walk, Nat.reduceLT, Nat.reduceBEq, Nat.reduceAdd, Nat.reduceLeDiff, reduceIte, Int.reduceLT, Int.reduceLE, Int.reduceEq, Int.reduceToNat, Int.reduceBEq]
theorem g_nFail (hF : S_nfine (C (F n_pack_Reader_fine))) : S_nFail ((c_pack_Reader_Fail__nil F).gives C) := by
  intro e
  refine gives_of rfl ?_
  unfold c_pack_Reader_Fail__nil
  simp only [walk, Nat.reduceLT, Nat.reduceBEq, Nat.reduceAdd, Nat.reduceLeDiff, reduceIte, Int.reduceLT, Int.reduceLE, Int.reduceEq, Int.reduceToNat, Int.reduceBEq]
  refine callWp_of hF ?_
  simp only [walk, Nat.reduceLT, Nat.reduceBEq, Nat.reduceAdd, Nat.reduceLeDiff, reduceIte, Int.reduceLT, Int.reduceLE, Int.reduceEq, Int.reduceToNat, Int.reduceBEq]
theorem g_nFault : S_nFault ((c_pack_Reader_Fault__nil F).gives C) := by
  refine gives_of rfl ?_
  unfold c_pack_Reader_Fault__nil
  simp only [walk, Nat.reduceLT, Nat.reduceBEq, Nat.reduceAdd, Nat.reduceLeDiff, reduceIte, Int.reduceLT, Int.reduceLE, Int.reduceEq, Int.reduceToNat, Int.reduceBEq]
theorem g_nLeft (hF : S_nfine (C (F n_pack_Reader_fine))) : S_nInt ((c_pack_Reader_Left__nil F).gives C) := by
  refine gives_of rfl ?_
  unfold c_pack_Reader_Left__nil
  simp only [walk, Nat.reduceLT, Nat.reduceBEq, Nat.reduceAdd, Nat.reduceLeDiff, reduceIte, Int.reduceLT, Int.reduceLE, Int.reduceEq, Int.reduceToNat, Int.reduceBEq]
  refine callWp_of hF ?_
  simp only [walk, Nat.reduceLT, Nat.reduceBEq, Nat.reduceAdd, Nat.reduceLeDiff, reduceIte, Int.reduceLT, Int.reduceLE, Int.reduceEq, Int.reduceToNat, Int.reduceBEq]
theorem g_nEnd (hL : S_nInt (C (F n_pack_Reader_Left))) (hU : S_nFault (C (F n_pack_Reader_Fault))) : S_nFault ((c_pack_Reader_End__nil F).gives C) := by
  refine gives_of rfl ?_
  unfold c_pack_Reader_End__nil
  simp only [walk, Nat.reduceLT, Nat.reduceBEq, Nat.reduceAdd, Nat.reduceLeDiff, reduceIte, Int.reduceLT, Int.reduceLE, Int.reduceEq, Int.reduceToNat, Int.reduceBEq]
  refine callWp_of hL ?_
  have d0 : decide ((0 : Int) > 0) = false := rfl
  simp only [walk, Nat.reduceLT, Nat.reduceBEq, Nat.reduceAdd, Nat.reduceLeDiff, reduceIte, Int.reduceLT, Int.reduceLE, Int.reduceEq, Int.reduceToNat, Int.reduceBEq, d0]
  refine callWp_of hU ?_
  simp only [walk, Nat.reduceLT, Nat.reduceBEq, Nat.reduceAdd, Nat.reduceLeDiff, reduceIte, Int.reduceLT, Int.reduceLE, Int.reduceEq, Int.reduceToNat, Int.reduceBEq]
theorem g_nInt (hF : S_nfine (C (F n_pack_Reader_fine))) : S_nInt ((c_pack_Reader_Int__nil F).gives C) := by
  refine gives_of rfl ?_
  unfold c_pack_Reader_Int__nil
  simp only [walk, Nat.reduceLT, Nat.reduceBEq, Nat.reduceAdd, Nat.reduceLeDiff, reduceIte, Int.reduceLT, Int.reduceLE, Int.reduceEq, Int.reduceToNat, Int.reduceBEq]
  refine awp_loop_ind (X := Unit) (fun x => ⟨[(0, .val .nilp), (2, .val (.int .i64 0)), (3, .val (.int .i64 0)), (4, .val (.int .i64 0))], []⟩) (fun _ => True) (fun _ => 0) () trivial rfl ?_
  rintro R ⟨⟩ _ _
  simp only [walk, Nat.reduceLT, Nat.reduceBEq, Nat.reduceAdd, Nat.reduceLeDiff, reduceIte, Int.reduceLT, Int.reduceLE, Int.reduceEq, Int.reduceToNat, Int.reduceBEq]
  refine callWp_of hF ?_
  simp only [walk, Nat.reduceLT, Nat.reduceBEq, Nat.reduceAdd, Nat.reduceLeDiff, reduceIte, Int.reduceLT, Int.reduceLE, Int.reduceEq, Int.reduceToNat, Int.reduceBEq]
theorem g_nText (hI : S_nInt (C (F n_pack_Reader_Int))) (hF : S_nfine (C (F n_pack_Reader_fine))) : S_nText ((c_pack_Reader_Text__nil F).gives C) := by
  refine gives_of rfl ?_
  unfold c_pack_Reader_Text__nil
  simp only [walk, Nat.reduceLT, Nat.reduceBEq, Nat.reduceAdd, Nat.reduceLeDiff, reduceIte, Int.reduceLT, Int.reduceLE, Int.reduceEq, Int.reduceToNat, Int.reduceBEq]
  refine callWp_of hI ?_
  simp only [walk, Nat.reduceLT, Nat.reduceBEq, Nat.reduceAdd, Nat.reduceLeDiff, reduceIte, Int.reduceLT, Int.reduceLE, Int.reduceEq, Int.reduceToNat, Int.reduceBEq]
  refine callWp_of hF ?_
  simp only [walk, Nat.reduceLT, Nat.reduceBEq, Nat.reduceAdd, Nat.reduceLeDiff, reduceIte, Int.reduceLT, Int.reduceLE, Int.reduceEq, Int.reduceToNat, Int.reduceBEq]
  refine callWp_of hF ?_
  simp only [walk, Nat.reduceLT, Nat.reduceBEq, Nat.reduceAdd, Nat.reduceLeDiff, reduceIte, Int.reduceLT, Int.reduceLE, Int.reduceEq, Int.reduceToNat, Int.reduceBEq]
theorem g_nMany (hI : S_nInt (C (F n_pack_Reader_Int))) (hF : S_nfine (C (F n_pack_Reader_fine))) : S_nMany ((c_pack_Reader_Many__nil F).gives C) := by
  intro m
  refine gives_of rfl ?_
  unfold c_pack_Reader_Many__nil
  simp only [walk, Nat.reduceLT, Nat.reduceBEq, Nat.reduceAdd, Nat.reduceLeDiff, reduceIte, Int.reduceLT, Int.reduceLE, Int.reduceEq, Int.reduceToNat, Int.reduceBEq]
  refine callWp_of hI ?_
  simp only [walk, Nat.reduceLT, Nat.reduceBEq, Nat.reduceAdd, Nat.reduceLeDiff, reduceIte, Int.reduceLT, Int.reduceLE, Int.reduceEq, Int.reduceToNat, Int.reduceBEq]
  refine callWp_of hF ?_
  simp only [walk, Nat.reduceLT, Nat.reduceBEq, Nat.reduceAdd, Nat.reduceLeDiff, reduceIte, Int.reduceLT, Int.reduceLE, Int.reduceEq, Int.reduceToNat, Int.reduceBEq]
end
end Go.AR

/-! Chapter 2's laws. -/
namespace Go.AR
open Go
section
variable {C : CallRel} {F : Nat → FuncId}
theorem scan_vint (pre rest : List UInt8) : ∀ (k i m acc : Nat), pre.length = i → m < 128 ^ k → (1 ≤ m ∨ i = 0 ∧ 1 ≤ k) → ∀ pre2 : List UInt8, pre2.length = i → scanI (pre2 ++ (vint m ++ rest)) k i acc = (((acc + m * 128 ^ i : Nat) : Int), i + (vint m).length, 0) := by
  intro k
  induction k generalizing pre with
  | zero =>
    intro i m acc _ hm h1 pre2 hp
    simp at hm
    omega
  | succ k ih =>
    intro i m acc hpre hm h1 pre2 hp
    unfold scanI
    by_cases h : m < 128
    · rw [vint_lt h, List.getElem?_append_right (by omega), hp, Nat.sub_self]
      simp only [List.cons_append, List.getElem?_cons_zero, List.nil_append]
      have e : (UInt8.ofNat m).toNat = m := by simp; omega
      rw [e, if_pos h, if_neg (by omega)]
      rfl
    · rw [vint_ge h, List.getElem?_append_right (by omega), hp, Nat.sub_self]
      simp only [List.cons_append, List.getElem?_cons_zero]
      have e : (UInt8.ofNat (m % 128 + 128)).toNat = m % 128 + 128 := by simp; omega
      rw [e, if_neg (by omega)]
      have := ih (pre := pre2 ++ [UInt8.ofNat (m % 128 + 128)]) (i + 1) (m / 128) (acc + (m % 128 + 128 - 128) * 128 ^ i) (by simp [hp]) (by rw [Nat.pow_succ] at hm; omega) (.inl (by omega)) (pre2 ++ [UInt8.ofNat (m % 128 + 128)]) (by simp [hp])
      rw [List.append_assoc] at this
      simp only [List.cons_append, List.nil_append] at this
      rw [this]
      simp only [List.length_cons]
      have e2 : acc + (m % 128 + 128 - 128) * 128 ^ i + m / 128 * 128 ^ (i + 1) = acc + m * 128 ^ i := by
        rw [Nat.pow_succ, Nat.mul_comm (128 ^ i), ← Nat.mul_assoc, Nat.add_assoc, ← Nat.add_mul]
        congr 2; omega
      rw [e2, Nat.add_assoc, Nat.add_comm 1]
theorem readI_vint (m : Nat) (h : m < 72057594037927936) (rest : List UInt8) : readI (vint m ++ rest) = ((m : Int), (vint m).length, 0) := by
  have := scan_vint [] rest 8 0 m 0 rfl (by omega) (.inr ⟨rfl, by decide⟩) [] rfl
  simpa [readI] using this
theorem rI_vint (m : Nat) (h : m < 72057594037927936) (rest : List UInt8) : rI (vint m ++ rest) 0 = ((m : Int), rest, 0) := by
  unfold rI
  rw [if_pos rfl, readI_vint m h rest]
  simp
theorem rText_pText (s rest : List UInt8) (h : s.length < 72057594037927936) : rText (pText s ++ rest) 0 = (s, rest, 0) := by
  unfold rText pText
  rw [List.append_assoc, rI_vint _ h]
  simp
  omega
/-- What was read is just what it is told as. -/
theorem scan_back (s : List UInt8) : ∀ (k i acc : Nat) (v : Int) (j : Nat), scanI s k i acc = (v, j, 0) → ∃ m : Nat, v = ((acc + m * 128 ^ i : Nat) : Int) ∧ i + (vint m).length = j ∧ j ≤ s.length ∧ (s.drop i).take (j - i) = vint m ∧ (1 ≤ m ∨ i = 0)
  | 0, i, acc, v, j, h => by simp [scanI] at h
  | k + 1, i, acc, v, j, h => by
    unfold scanI at h
    split at h
    · simp at h
    · rename_i c hc
      have hi : i < s.length := (List.getElem?_eq_some_iff.1 hc).1
      have hd : s.drop i = c :: s.drop (i + 1) := by
        rw [List.drop_eq_getElem_cons hi]
        congr 1
        exact (List.getElem?_eq_some_iff.1 hc).2
      split at h
      · rename_i hlt
        split at h
        · simp at h
        · rename_i hz
          simp only [Prod.mk.injEq, and_true] at h
          obtain ⟨rfl, rfl⟩ := h
          refine ⟨c.toNat, rfl, by rw [vint_lt hlt]; rfl, by omega, ?_, by omega⟩
          rw [hd, show i + 1 - i = 1 by omega, vint_lt hlt]
          simp
      · rename_i hge
        have hlt := c.toNat_lt
        obtain ⟨m, h1, h2, h3, h4, h5⟩ := scan_back s k (i + 1) _ v j h
        have h6 : ¬ (c.toNat - 128 + 128 * m) < 128 := by omega
        have e1 : (c.toNat - 128 + 128 * m) / 128 = m := by omega
        have e2 : (c.toNat - 128 + 128 * m) % 128 + 128 = c.toNat := by omega
        refine ⟨c.toNat - 128 + 128 * m, ?_, ?_, h3, ?_, by omega⟩
        · rw [h1]
          congr 1
          rw [Nat.pow_succ, Nat.mul_comm (128 ^ i), ← Nat.mul_assoc, Nat.add_mul, Nat.mul_comm 128 m]
          omega
        · rw [vint_ge h6, e1, List.length_cons]; omega
        · rw [hd, vint_ge h6, e1, e2, show j - i = (j - (i + 1)) + 1 by have := vint_pos m; omega, List.take_succ_cons, h4]
          simp
theorem readI_back {s : List UInt8} {v : Int} {j : Nat} (h : readI s = (v, j, 0)) : pInt v = s.take j ∧ (pInt v).length = j ∧ j ≤ s.length := by
  obtain ⟨m, h1, h2, h3, h4, _⟩ := scan_back s 8 0 0 v j h
  have : v.toNat = m := by rw [h1]; simp
  unfold pInt
  rw [this, ← h4]
  simp at h2 ⊢
  omega
def S_lawTells (R : Rel) : Prop := ∀ (n : Int) (s : List UInt8), i64ok n → R [.v (.int .i64 n), .v (.str s)] (.val (.bool true)) []
theorem g_PackTells (hA : S_yes (C (F n_plaw02_awake))) (h1 : S_i2s (C (F n_pack_Int))) (h2 : S_i2s (C (F n_pref02_Int))) (h3 : S_ptext (C (F n_pack_Text))) (h4 : S_ptext (C (F n_pref02_Text))) : S_lawTells ((c_plaw02_PackTells F).gives C) := by
  intro n s hn
  refine gives_of rfl ?_
  unfold c_plaw02_PackTells
  simp only [walk, Nat.reduceLT, Nat.reduceBEq, Nat.reduceAdd, Nat.reduceLeDiff, reduceIte, Int.reduceLT, Int.reduceLE, Int.reduceEq, Int.reduceToNat, Int.reduceBEq]
  by_cases h : (s.length : Int) > 2000
  · simp only [walk, Nat.reduceLT, Nat.reduceBEq, Nat.reduceAdd, Nat.reduceLeDiff, reduceIte, Int.reduceLT, Int.reduceLE, Int.reduceEq, Int.reduceToNat, Int.reduceBEq, h]
    refine callWp_of hA ?_
    simp only [walk, Nat.reduceLT, Nat.reduceBEq, Nat.reduceAdd, Nat.reduceLeDiff, reduceIte, Int.reduceLT, Int.reduceLE, Int.reduceEq, Int.reduceToNat, Int.reduceBEq]
  · have hs : s.length ≤ 4611686018427387904 := by omega
    simp only [walk, Nat.reduceLT, Nat.reduceBEq, Nat.reduceAdd, Nat.reduceLeDiff, reduceIte, Int.reduceLT, Int.reduceLE, Int.reduceEq, Int.reduceToNat, Int.reduceBEq, h]
    refine callWp_of (h1 n hn) ?_
    simp only [walk, Nat.reduceLT, Nat.reduceBEq, Nat.reduceAdd, Nat.reduceLeDiff, reduceIte, Int.reduceLT, Int.reduceLE, Int.reduceEq, Int.reduceToNat, Int.reduceBEq]
    refine callWp_of (h2 n hn) ?_
    simp only [walk, Nat.reduceLT, Nat.reduceBEq, Nat.reduceAdd, Nat.reduceLeDiff, reduceIte, Int.reduceLT, Int.reduceLE, Int.reduceEq, Int.reduceToNat, Int.reduceBEq, beq_self_eq_true]
    refine callWp_of (h3 s hs) ?_
    simp only [walk, Nat.reduceLT, Nat.reduceBEq, Nat.reduceAdd, Nat.reduceLeDiff, reduceIte, Int.reduceLT, Int.reduceLE, Int.reduceEq, Int.reduceToNat, Int.reduceBEq]
    refine callWp_of (h4 s hs) ?_
    simp only [walk, Nat.reduceLT, Nat.reduceBEq, Nat.reduceAdd, Nat.reduceLeDiff, reduceIte, Int.reduceLT, Int.reduceLE, Int.reduceEq, Int.reduceToNat, Int.reduceBEq, beq_self_eq_true]
    refine callWp_of hA ?_
    simp only [walk, Nat.reduceLT, Nat.reduceBEq, Nat.reduceAdd, Nat.reduceLeDiff, reduceIte, Int.reduceLT, Int.reduceLE, Int.reduceEq, Int.reduceToNat, Int.reduceBEq]
theorem g_law02_awake (h1 : S_i2s (C (F n_pack_Int))) (h2 : S_Open (C (F n_pack_Open))) (h3 : S_rInt (C (F n_pack_Reader_Int))) : S_yes ((c_plaw02_awake F).gives C) := by
  refine gives_of rfl ?_
  unfold c_plaw02_awake
  simp only [walk, Nat.reduceLT, Nat.reduceBEq, Nat.reduceAdd, Nat.reduceLeDiff, reduceIte, Int.reduceLT, Int.reduceLE, Int.reduceEq, Int.reduceToNat, Int.reduceBEq]
  refine callWp_of (h1 300 (by unfold i64ok; omega)) ?_
  have e : pInt 300 = [172, 2] := by
    show vint 300 = _
    rw [vint_ge (by decide), vint_lt (by decide)]; rfl
  have e2 : (([172, 2] : List UInt8) == [172, 2]) = true := rfl
  simp only [walk, Nat.reduceLT, Nat.reduceBEq, Nat.reduceAdd, Nat.reduceLeDiff, reduceIte, Int.reduceLT, Int.reduceLE, Int.reduceEq, Int.reduceToNat, Int.reduceBEq, e, e2]
  refine callWp_of (h2 _) ?_
  simp only [walk, Nat.reduceLT, Nat.reduceBEq, Nat.reduceAdd, Nat.reduceLeDiff, reduceIte, Int.reduceLT, Int.reduceLE, Int.reduceEq, Int.reduceToNat, Int.reduceBEq]
  refine callWp_of (h3 [172, 2] 0 (by unfold sLen; decide)) ?_
  have e3 : (rI [172, 2] 0).1 = 300 := rfl
  have e4 : ((300 : Int) == 300) = true := rfl
  simp only [walk, Nat.reduceLT, Nat.reduceBEq, Nat.reduceAdd, Nat.reduceLeDiff, reduceIte, Int.reduceLT, Int.reduceLE, Int.reduceEq, Int.reduceToNat, Int.reduceBEq, e3, e4]
def S_lawBack (R : Rel) : Prop := ∀ (n : Int) (s t : List UInt8), R [.v (.int .i64 n), .v (.str s), .v (.str t)] (.val (.bool true)) []
theorem beq_len {l : List UInt8} : ((l.length : Int) == l.length) = true := by simp
theorem rEnd_nil {t : List UInt8} : ((rEnd t 0 == 0) == (t == [])) = true := by
  cases t with
  | nil => rfl
  | cons a t => simp [rEnd]
theorem g_PackBack (hA : S_yes (C (F n_plaw02_awake))) (h1 : S_i2s (C (F n_pack_Int))) (h3 : S_ptext (C (F n_pack_Text))) (h4 : S_Open (C (F n_pack_Open))) (h5 : S_rInt (C (F n_pack_Reader_Int))) (h6 : S_rText (C (F n_pack_Reader_Text))) (h7 : S_Left (C (F n_pack_Reader_Left))) (h8 : S_Fault (C (F n_pack_Reader_Fault))) (h9 : S_End (C (F n_pack_Reader_End))) : S_lawBack ((c_plaw02_PackBack F).gives C) := by
  intro n s t
  refine gives_of rfl ?_
  unfold c_plaw02_PackBack
  simp only [walk, Nat.reduceLT, Nat.reduceBEq, Nat.reduceAdd, Nat.reduceLeDiff, reduceIte, Int.reduceLT, Int.reduceLE, Int.reduceEq, Int.reduceToNat, Int.reduceBEq]
  have out : ∀ {K : RV → List Blk → Prop}, K (.val (.bool true)) [] → callWp C (F n_plaw02_awake) [] K := fun k => callWp_of hA k
  by_cases c1 : (s.length : Int) > 2000
  · simp only [walk, Nat.reduceLT, Nat.reduceBEq, Nat.reduceAdd, Nat.reduceLeDiff, reduceIte, Int.reduceLT, Int.reduceLE, Int.reduceEq, Int.reduceToNat, Int.reduceBEq, c1]
    refine out ?_
    simp only [walk, Nat.reduceLT, Nat.reduceBEq, Nat.reduceAdd, Nat.reduceLeDiff, reduceIte, Int.reduceLT, Int.reduceLE, Int.reduceEq, Int.reduceToNat, Int.reduceBEq]
  by_cases c2 : (t.length : Int) > 2000
  · simp only [walk, Nat.reduceLT, Nat.reduceBEq, Nat.reduceAdd, Nat.reduceLeDiff, reduceIte, Int.reduceLT, Int.reduceLE, Int.reduceEq, Int.reduceToNat, Int.reduceBEq, c1, c2]
    refine out ?_
    simp only [walk, Nat.reduceLT, Nat.reduceBEq, Nat.reduceAdd, Nat.reduceLeDiff, reduceIte, Int.reduceLT, Int.reduceLE, Int.reduceEq, Int.reduceToNat, Int.reduceBEq]
  by_cases c3 : n < 0
  · simp only [walk, Nat.reduceLT, Nat.reduceBEq, Nat.reduceAdd, Nat.reduceLeDiff, reduceIte, Int.reduceLT, Int.reduceLE, Int.reduceEq, Int.reduceToNat, Int.reduceBEq, c1, c2, c3]
    refine out ?_
    simp only [walk, Nat.reduceLT, Nat.reduceBEq, Nat.reduceAdd, Nat.reduceLeDiff, reduceIte, Int.reduceLT, Int.reduceLE, Int.reduceEq, Int.reduceToNat, Int.reduceBEq]
  by_cases c4 : n ≥ 72057594037927936
  · simp only [walk, Nat.reduceLT, Nat.reduceBEq, Nat.reduceAdd, Nat.reduceLeDiff, reduceIte, Int.reduceLT, Int.reduceLE, Int.reduceEq, Int.reduceToNat, Int.reduceBEq, c1, c2, c3, c4]
    refine out ?_
    simp only [walk, Nat.reduceLT, Nat.reduceBEq, Nat.reduceAdd, Nat.reduceLeDiff, reduceIte, Int.reduceLT, Int.reduceLE, Int.reduceEq, Int.reduceToNat, Int.reduceBEq]
  have hn : i64ok n := by unfold i64ok; omega
  have l1 := pInt_len hn
  have l2 := pInt_len (n := (s.length : Int)) (by unfold i64ok; omega)
  have hs : s.length ≤ 4611686018427387904 := by omega
  have l3 : (pText s).length ≤ 2011 := by simp only [pText, List.length_append]; simp only [pInt, Int.toNat_natCast] at l2; omega
  simp only [walk, Nat.reduceLT, Nat.reduceBEq, Nat.reduceAdd, Nat.reduceLeDiff, reduceIte, Int.reduceLT, Int.reduceLE, Int.reduceEq, Int.reduceToNat, Int.reduceBEq, c1, c2, c3, c4]
  refine callWp_of (h1 n hn) ?_
  simp only [walk, Nat.reduceLT, Nat.reduceBEq, Nat.reduceAdd, Nat.reduceLeDiff, reduceIte, Int.reduceLT, Int.reduceLE, Int.reduceEq, Int.reduceToNat, Int.reduceBEq]
  refine callWp_of (h3 s hs) ?_
  simp only [walk, Nat.reduceLT, Nat.reduceBEq, Nat.reduceAdd, Nat.reduceLeDiff, reduceIte, Int.reduceLT, Int.reduceLE, Int.reduceEq, Int.reduceToNat, Int.reduceBEq]
  rw [bins_add (by omega)]
  simp only [walk, Nat.reduceLT, Nat.reduceBEq, Nat.reduceAdd, Nat.reduceLeDiff, reduceIte, Int.reduceLT, Int.reduceLE, Int.reduceEq, Int.reduceToNat, Int.reduceBEq]
  rw [bins_add (by simp only [List.length_append]; omega)]
  simp only [walk, Nat.reduceLT, Nat.reduceBEq, Nat.reduceAdd, Nat.reduceLeDiff, reduceIte, Int.reduceLT, Int.reduceLE, Int.reduceEq, Int.reduceToNat, Int.reduceBEq]
  refine callWp_of (h4 _) ?_
  simp only [walk, Nat.reduceLT, Nat.reduceBEq, Nat.reduceAdd, Nat.reduceLeDiff, reduceIte, Int.reduceLT, Int.reduceLE, Int.reduceEq, Int.reduceToNat, Int.reduceBEq]
  have e1 : rI (pInt n ++ pText s ++ t) 0 = (n, pText s ++ t, 0) := by
    rw [List.append_assoc, pInt, rI_vint _ (by omega)]
    congr 1; omega
  have e2 := rText_pText s t (by omega)
  have b1 : (n == n) = true := by simp
  refine callWp_of (h5 (pInt n ++ pText s ++ t) 0 (by unfold sLen; simp only [List.length_append]; omega)) ?_
  rw [e1]
  simp only [walk, Nat.reduceLT, Nat.reduceBEq, Nat.reduceAdd, Nat.reduceLeDiff, reduceIte, Int.reduceLT, Int.reduceLE, Int.reduceEq, Int.reduceToNat, Int.reduceBEq, b1]
  refine callWp_of (h6 (pText s ++ t) 0 (by unfold sLen; simp only [List.length_append]; omega)) ?_
  rw [e2]
  simp only [walk, Nat.reduceLT, Nat.reduceBEq, Nat.reduceAdd, Nat.reduceLeDiff, reduceIte, Int.reduceLT, Int.reduceLE, Int.reduceEq, Int.reduceToNat, Int.reduceBEq, beq_self_eq_true]
  refine callWp_of (h7 t 0 (by unfold sLen; omega)) ?_
  have e3 : rLeft t 0 = t.length := rfl
  rw [e3]
  simp only [walk, Nat.reduceLT, Nat.reduceBEq, Nat.reduceAdd, Nat.reduceLeDiff, reduceIte, Int.reduceLT, Int.reduceLE, Int.reduceEq, Int.reduceToNat, Int.reduceBEq, beq_len]
  refine callWp_of (h8 t 0) ?_
  have b0 : ((0 : Int) == 0) = true := rfl
  simp only [walk, Nat.reduceLT, Nat.reduceBEq, Nat.reduceAdd, Nat.reduceLeDiff, reduceIte, Int.reduceLT, Int.reduceLE, Int.reduceEq, Int.reduceToNat, Int.reduceBEq, b0]
  refine callWp_of (h9 t 0 (by unfold sLen; omega)) ?_
  simp only [walk, Nat.reduceLT, Nat.reduceBEq, Nat.reduceAdd, Nat.reduceLeDiff, reduceIte, Int.reduceLT, Int.reduceLE, Int.reduceEq, Int.reduceToNat, Int.reduceBEq, rEnd_nil]
  refine out ?_
  simp only [walk, Nat.reduceLT, Nat.reduceBEq, Nat.reduceAdd, Nat.reduceLeDiff, reduceIte, Int.reduceLT, Int.reduceLE, Int.reduceEq, Int.reduceToNat, Int.reduceBEq]
theorem rI_back {s : List UInt8} (h : (rI s 0).2.2 = 0) : pInt (rI s 0).1 ++ (rI s 0).2.1 = s := by
  unfold rI at h ⊢
  rw [if_pos rfl] at h ⊢
  generalize hr : readI s = q at h ⊢
  obtain ⟨v, j, e⟩ := q
  simp only at h ⊢
  subst h
  have := (readI_back hr).1
  rw [this, List.take_append_drop]
theorem once {s : List UInt8} (h : (rText (rI s 0).2.1 (rI s 0).2.2).2.2 = 0) : (pInt (rI s 0).1 ++ pText (rText (rI s 0).2.1 (rI s 0).2.2).1) ++ (rText (rI s 0).2.1 (rI s 0).2.2).2.1 = s := by
  have hb : (rI s 0).2.2 = 0 := by
    rw [← Classical.not_not (a := (rI s 0).2.2 = 0)]
    intro hne
    apply hne
    unfold rText at h
    have : rI (rI s 0).2.1 (rI s 0).2.2 = (0, (rI s 0).2.1, (rI s 0).2.2) := by rw [rI, if_neg hne]
    rw [this] at h
    simp only at h
    rw [if_neg hne] at h
    exact h
  have e1 := rI_back hb
  rw [hb] at h ⊢
  generalize (rI s 0).2.1 = s1 at h e1
  generalize (rI s 0).1 = v at e1
  rw [List.append_assoc, ← e1]
  congr 1
  unfold rText at h ⊢
  have hl := rI_lt s1 0
  have e2 := fun h => rI_back (s := s1) h
  generalize rI s1 0 = r at h e2 hl
  obtain ⟨m, s2, b2⟩ := r
  simp only at h e2 hl ⊢
  by_cases h0 : b2 = 0
  · rw [if_pos h0] at h ⊢
    by_cases h1 : m > s2.length
    · rw [if_pos h1] at h; simp at h
    · rw [if_neg h1]
      rw [← e1, ← e2 h0] at *
      simp only [pText]
      rw [List.append_assoc, List.take_append_drop]
      congr 1
      rw [pInt, List.length_take]
      congr 1
      omega
  · rw [if_neg h0] at h
    exact absurd h h0
def S_lawOnce (R : Rel) : Prop := ∀ (s : List UInt8), R [.v (.str s)] (.val (.bool true)) []
theorem rText_len (s : List UInt8) (b : Int) : (rText s b).1.length + (rText s b).2.1.length ≤ s.length := by
  have := rI_lt s b
  unfold rText
  generalize rI s b = r at this
  obtain ⟨n, s1, b1⟩ := r
  simp only at this ⊢
  split
  · split
    · simp only [List.length_nil]; omega
    · simp only [List.length_take, List.length_drop]; omega
  · simp only [List.length_nil]; omega
theorem g_PackOnce (hA : S_yes (C (F n_plaw02_awake))) (h1 : S_i2s (C (F n_pack_Int))) (h3 : S_ptext (C (F n_pack_Text))) (h4 : S_Open (C (F n_pack_Open))) (h5 : S_rInt (C (F n_pack_Reader_Int))) (h6 : S_rText (C (F n_pack_Reader_Text))) (h7 : S_Left (C (F n_pack_Reader_Left))) (h8 : S_Fault (C (F n_pack_Reader_Fault))) (n1 : S_nFail (C (F n_pack_Reader_Fail))) (n2 : S_nInt (C (F n_pack_Reader_Int))) (n3 : S_nText (C (F n_pack_Reader_Text))) (n4 : S_nMany (C (F n_pack_Reader_Many))) (n5 : S_nInt (C (F n_pack_Reader_Left))) (n6 : S_nFault (C (F n_pack_Reader_Fault))) (n7 : S_nFault (C (F n_pack_Reader_End))) : S_lawOnce ((c_plaw02_PackOnce F).gives C) := by
  intro s
  refine gives_of rfl ?_
  unfold c_plaw02_PackOnce
  simp only [walk, Nat.reduceLT, Nat.reduceBEq, Nat.reduceAdd, Nat.reduceLeDiff, reduceIte, Int.reduceLT, Int.reduceLE, Int.reduceEq, Int.reduceToNat, Int.reduceBEq]
  by_cases c1 : (s.length : Int) > 2000
  · simp only [walk, Nat.reduceLT, Nat.reduceBEq, Nat.reduceAdd, Nat.reduceLeDiff, reduceIte, Int.reduceLT, Int.reduceLE, Int.reduceEq, Int.reduceToNat, Int.reduceBEq, c1]
    refine callWp_of hA ?_
    simp only [walk, Nat.reduceLT, Nat.reduceBEq, Nat.reduceAdd, Nat.reduceLeDiff, reduceIte, Int.reduceLT, Int.reduceLE, Int.reduceEq, Int.reduceToNat, Int.reduceBEq]
  have hl1 := rI_lt s 0
  have hl2 := rText_len (rI s 0).2.1 (rI s 0).2.2
  have on := once (s := s)
  simp only [walk, Nat.reduceLT, Nat.reduceBEq, Nat.reduceAdd, Nat.reduceLeDiff, reduceIte, Int.reduceLT, Int.reduceLE, Int.reduceEq, Int.reduceToNat, Int.reduceBEq, c1]
  refine callWp_of (h4 _) ?_
  simp only [walk, Nat.reduceLT, Nat.reduceBEq, Nat.reduceAdd, Nat.reduceLeDiff, reduceIte, Int.reduceLT, Int.reduceLE, Int.reduceEq, Int.reduceToNat, Int.reduceBEq]
  refine callWp_of (h5 s 0 (by unfold sLen; omega)) ?_
  generalize rI s 0 = r at hl1 hl2 on
  obtain ⟨n, s1, b1⟩ := r
  simp only at hl1 hl2 on
  simp only [walk, Nat.reduceLT, Nat.reduceBEq, Nat.reduceAdd, Nat.reduceLeDiff, reduceIte, Int.reduceLT, Int.reduceLE, Int.reduceEq, Int.reduceToNat, Int.reduceBEq]
  refine callWp_of (h6 s1 b1 (by unfold sLen; omega)) ?_
  generalize rText s1 b1 = r2 at hl2 on
  obtain ⟨t, s2, b2⟩ := r2
  simp only at hl2 on
  simp only [walk, Nat.reduceLT, Nat.reduceBEq, Nat.reduceAdd, Nat.reduceLeDiff, reduceIte, Int.reduceLT, Int.reduceLE, Int.reduceEq, Int.reduceToNat, Int.reduceBEq]
  refine callWp_of (h8 s2 b2) ?_
  have b0 : ((0 : Int) == 0) = true := rfl
  have b1' : ((1 : Int) == 1) = true := rfl
  have bs : (([] : List UInt8) == []) = true := rfl
  by_cases c2 : b2 = 0
  · subst c2
    have on := on rfl
    have hn : i64ok n := by unfold i64ok; omega
    have l1 := pInt_len hn
    have l2 := pInt_len (n := (t.length : Int)) (by unfold i64ok; omega)
    have l3 : (pText t).length ≤ 2011 := by simp only [pText, List.length_append]; simp only [pInt, Int.toNat_natCast] at l2; omega
    simp only [walk, Nat.reduceLT, Nat.reduceBEq, Nat.reduceAdd, Nat.reduceLeDiff, reduceIte, Int.reduceLT, Int.reduceLE, Int.reduceEq, Int.reduceToNat, Int.reduceBEq, b0]
    refine callWp_of (h1 n hn) ?_
    simp only [walk, Nat.reduceLT, Nat.reduceBEq, Nat.reduceAdd, Nat.reduceLeDiff, reduceIte, Int.reduceLT, Int.reduceLE, Int.reduceEq, Int.reduceToNat, Int.reduceBEq]
    refine callWp_of (h3 t (by omega)) ?_
    simp only [walk, Nat.reduceLT, Nat.reduceBEq, Nat.reduceAdd, Nat.reduceLeDiff, reduceIte, Int.reduceLT, Int.reduceLE, Int.reduceEq, Int.reduceToNat, Int.reduceBEq]
    rw [bins_add (by omega)]
    simp only [walk, Nat.reduceLT, Nat.reduceBEq, Nat.reduceAdd, Nat.reduceLeDiff, reduceIte, Int.reduceLT, Int.reduceLE, Int.reduceEq, Int.reduceToNat, Int.reduceBEq]
    refine callWp_of (h7 s2 0 (by unfold sLen; omega)) ?_
    have e1 : rLeft s2 0 = s2.length := rfl
    have e2 : IntKind.i64.wrap ((s.length : Int) - s2.length) = (((pInt n).length + (pText t).length : Nat) : Int) := by
      rw [wrap64 (by omega) (by omega), ← on]
      simp only [List.length_append]; omega
    have e3 : ((((pInt n).length + (pText t).length : Nat) : Int) != (((pInt n).length + (pText t).length : Nat) : Int)) = false := by simp
    have e4 : s.take ((pInt n).length + (pText t).length) = pInt n ++ pText t := by
      rw [← on, List.take_left' (by simp)]
    have e5 : (((pInt n).length + (pText t).length : Nat) : Int) ≤ s.length := by
      rw [← on]; simp only [List.length_append]; omega
    have e6 : (0 : Int) ≤ (((pInt n).length + (pText t).length : Nat) : Int) := by omega
    simp only [walk, Nat.reduceLT, Nat.reduceBEq, Nat.reduceAdd, Nat.reduceLeDiff, reduceIte, Int.reduceLT, Int.reduceLE, Int.reduceEq, Int.reduceToNat, Int.reduceBEq, e1, e2, e3, e4, e5, e6, beq_self_eq_true]
    refine callWp_of (n1 3) ?_
    simp only [walk, Nat.reduceLT, Nat.reduceBEq, Nat.reduceAdd, Nat.reduceLeDiff, reduceIte, Int.reduceLT, Int.reduceLE, Int.reduceEq, Int.reduceToNat, Int.reduceBEq]
    refine callWp_of n2 ?_
    simp only [walk, Nat.reduceLT, Nat.reduceBEq, Nat.reduceAdd, Nat.reduceLeDiff, reduceIte, Int.reduceLT, Int.reduceLE, Int.reduceEq, Int.reduceToNat, Int.reduceBEq, b0]
    refine callWp_of n3 ?_
    simp only [walk, Nat.reduceLT, Nat.reduceBEq, Nat.reduceAdd, Nat.reduceLeDiff, reduceIte, Int.reduceLT, Int.reduceLE, Int.reduceEq, Int.reduceToNat, Int.reduceBEq, bs]
    refine callWp_of (n4 9) ?_
    simp only [walk, Nat.reduceLT, Nat.reduceBEq, Nat.reduceAdd, Nat.reduceLeDiff, reduceIte, Int.reduceLT, Int.reduceLE, Int.reduceEq, Int.reduceToNat, Int.reduceBEq, b0]
    refine callWp_of n5 ?_
    simp only [walk, Nat.reduceLT, Nat.reduceBEq, Nat.reduceAdd, Nat.reduceLeDiff, reduceIte, Int.reduceLT, Int.reduceLE, Int.reduceEq, Int.reduceToNat, Int.reduceBEq, b0]
    refine callWp_of n6 ?_
    simp only [walk, Nat.reduceLT, Nat.reduceBEq, Nat.reduceAdd, Nat.reduceLeDiff, reduceIte, Int.reduceLT, Int.reduceLE, Int.reduceEq, Int.reduceToNat, Int.reduceBEq, b1']
    refine callWp_of n7 ?_
    simp only [walk, Nat.reduceLT, Nat.reduceBEq, Nat.reduceAdd, Nat.reduceLeDiff, reduceIte, Int.reduceLT, Int.reduceLE, Int.reduceEq, Int.reduceToNat, Int.reduceBEq, b1']
    refine callWp_of hA ?_
    simp only [walk, Nat.reduceLT, Nat.reduceBEq, Nat.reduceAdd, Nat.reduceLeDiff, reduceIte, Int.reduceLT, Int.reduceLE, Int.reduceEq, Int.reduceToNat, Int.reduceBEq]
  · have e0 : (b2 == 0) = false := by simpa using c2
    simp only [walk, Nat.reduceLT, Nat.reduceBEq, Nat.reduceAdd, Nat.reduceLeDiff, reduceIte, Int.reduceLT, Int.reduceLE, Int.reduceEq, Int.reduceToNat, Int.reduceBEq, e0]
    refine callWp_of (n1 3) ?_
    simp only [walk, Nat.reduceLT, Nat.reduceBEq, Nat.reduceAdd, Nat.reduceLeDiff, reduceIte, Int.reduceLT, Int.reduceLE, Int.reduceEq, Int.reduceToNat, Int.reduceBEq]
    refine callWp_of n2 ?_
    simp only [walk, Nat.reduceLT, Nat.reduceBEq, Nat.reduceAdd, Nat.reduceLeDiff, reduceIte, Int.reduceLT, Int.reduceLE, Int.reduceEq, Int.reduceToNat, Int.reduceBEq, b0]
    refine callWp_of n3 ?_
    simp only [walk, Nat.reduceLT, Nat.reduceBEq, Nat.reduceAdd, Nat.reduceLeDiff, reduceIte, Int.reduceLT, Int.reduceLE, Int.reduceEq, Int.reduceToNat, Int.reduceBEq, bs]
    refine callWp_of (n4 9) ?_
    simp only [walk, Nat.reduceLT, Nat.reduceBEq, Nat.reduceAdd, Nat.reduceLeDiff, reduceIte, Int.reduceLT, Int.reduceLE, Int.reduceEq, Int.reduceToNat, Int.reduceBEq, b0]
    refine callWp_of n5 ?_
    simp only [walk, Nat.reduceLT, Nat.reduceBEq, Nat.reduceAdd, Nat.reduceLeDiff, reduceIte, Int.reduceLT, Int.reduceLE, Int.reduceEq, Int.reduceToNat, Int.reduceBEq, b0]
    refine callWp_of n6 ?_
    simp only [walk, Nat.reduceLT, Nat.reduceBEq, Nat.reduceAdd, Nat.reduceLeDiff, reduceIte, Int.reduceLT, Int.reduceLE, Int.reduceEq, Int.reduceToNat, Int.reduceBEq, b1']
    refine callWp_of n7 ?_
    simp only [walk, Nat.reduceLT, Nat.reduceBEq, Nat.reduceAdd, Nat.reduceLeDiff, reduceIte, Int.reduceLT, Int.reduceLE, Int.reduceEq, Int.reduceToNat, Int.reduceBEq, b1']
    refine callWp_of hA ?_
    simp only [walk, Nat.reduceLT, Nat.reduceBEq, Nat.reduceAdd, Nat.reduceLeDiff, reduceIte, Int.reduceLT, Int.reduceLE, Int.reduceEq, Int.reduceToNat, Int.reduceBEq]
end
end Go.AR
