import Derived.Test.YtkankogmljifiaaDoorG29
import Derived.Test.YtkankogmljifiaaDoorG27
set_option linter.all false
/-! The document's readers. -/
namespace Go.AR
open Go
section
variable {C : CallRel} {F : Nat → FuncId}
def xdr (s : List UInt8) (at' : Nat) (b : Int) : Blk := .cells [.val (.str s), .val (.int .i64 at'), .val (.int .i64 b)]
def xI (s : List UInt8) (at' : Nat) (b : Int) : Int × Nat × Int := if b = 0 then ((readI (s.drop at')).1, at' + (readI (s.drop at')).2.1, (readI (s.drop at')).2.2) else (0, at', b)
/-- Of both readers the number, what is left, and what is wrong are the same. -/
theorem xI_rI (s : List UInt8) (a : Nat) (b : Int) : (xI s a b).1 = (rI (s.drop a) b).1 ∧ (xI s a b).2.2 = (rI (s.drop a) b).2.2 ∧ s.drop (xI s a b).2.1 = (rI (s.drop a) b).2.1 := by
  unfold xI rI
  split <;> simp [List.drop_drop]
theorem scanI_le (s : List UInt8) : ∀ (k i n : Nat), i ≤ s.length → (scanI s k i n).2.1 ≤ s.length
  | 0, i, n, h => by simp [scanI]
  | k + 1, i, n, h => by
    unfold scanI
    split
    · simp
    · rename_i c hc
      have hi : i < s.length := (List.getElem?_eq_some_iff.1 hc).1
      split
      · split
        · simp
        · simp only; omega
      · exact scanI_le s k (i + 1) _ (by omega)
theorem xI_le (s : List UInt8) (a : Nat) (b : Int) (h : a ≤ s.length) : a ≤ (xI s a b).2.1 ∧ (xI s a b).2.1 ≤ s.length := by
  have := scanI_le (s.drop a) 8 0 0 (Nat.zero_le _)
  simp only [List.length_drop] at this
  unfold xI readI
  split <;> simp only <;> omega
def S_xInt (R : Rel) : Prop := ∀ (s : List UInt8) (a : Nat) (b : Int), sLen s → a ≤ s.length → R [.r (xdr s a b)] (.val (.int .i64 (xI s a b).1)) [xdr s (xI s a b).2.1 (xI s a b).2.2]
theorem g_xInt : S_xInt ((c_pref02_Reader_Int F).gives C) := by
  intro s a b hs ha
  unfold sLen at hs
  refine gives_of rfl ?_
  unfold c_pref02_Reader_Int xdr
  simp only [walk, Nat.reduceLT, Nat.reduceBEq, Nat.reduceAdd, Nat.reduceLeDiff, reduceIte, Int.reduceLT, Int.reduceLE, Int.reduceEq, Int.reduceToNat, Int.reduceBEq]
  by_cases hb : b = 0
  · subst hb
    have b0 : ((0 : Int) != 0) = false := rfl
    have fin : xI s a 0 = ((readI (s.drop a)).1, a + (readI (s.drop a)).2.1, (readI (s.drop a)).2.2) := rfl
    simp only [walk, Nat.reduceLT, Nat.reduceBEq, Nat.reduceAdd, Nat.reduceLeDiff, reduceIte, Int.reduceLT, Int.reduceLE, Int.reduceEq, Int.reduceToNat, Int.reduceBEq, b0]
    refine awp_loop_ind (X := Nat × Nat) (fun x => ⟨[(0, .lp 0 0), (2, .val (.int .i64 0)), (3, .val (.int .i64 x.2)), (4, .val (.int .i64 ((128 ^ x.1 : Nat) : Int))), (5, .val (.int .i64 x.1)), (11, .val (.bool false))], [(0, xdr s a 0)]⟩)
      (fun x => x.1 ≤ 8 ∧ x.2 < 128 ^ x.1 ∧ scanI (s.drop a) (8 - x.1) x.1 x.2 = readI (s.drop a)) (fun x => 8 - x.1) (0, 0) ⟨by omega, by decide, rfl⟩ rfl ?_
    rintro R ⟨i, n⟩ ⟨hi, hn, hsc⟩ ih
    simp only at hi hn hsc ih ⊢
    simp only [walk, Nat.reduceLT, Nat.reduceBEq, Nat.reduceAdd, Nat.reduceLeDiff, reduceIte, Int.reduceLT, Int.reduceLE, Int.reduceEq, Int.reduceToNat, Int.reduceBEq, xdr]
    by_cases h8 : i = 8
    · subst h8
      have e1 : ¬ (((8 : Nat) : Int) < 8) := by omega
      simp only [walk, Nat.reduceLT, Nat.reduceBEq, Nat.reduceAdd, Nat.reduceLeDiff, reduceIte, Int.reduceLT, Int.reduceLE, Int.reduceEq, Int.reduceToNat, Int.reduceBEq, e1]
      rw [fin, ← hsc]
      exact ⟨rfl, rfl⟩
    · have e1 : (i : Int) < 8 := by omega
      obtain ⟨k, hk⟩ : ∃ k, 8 - i = k + 1 := ⟨7 - i, by omega⟩
      rw [hk] at hsc
      have e2 : IntKind.i64.wrap ((a : Int) + i) = ((a + i : Nat) : Int) := wrap64 (by omega) (by omega)
      by_cases h9 : ((a + i : Nat) : Int) ≥ s.length
      · simp only [walk, Nat.reduceLT, Nat.reduceBEq, Nat.reduceAdd, Nat.reduceLeDiff, reduceIte, Int.reduceLT, Int.reduceLE, Int.reduceEq, Int.reduceToNat, Int.reduceBEq, e1, e2, h9]
        rw [fin, ← hsc]
        unfold scanI
        rw [List.getElem?_eq_none (by rw [List.length_drop]; omega)]
        exact ⟨rfl, rfl⟩
      · have hg : s[a + i]? = some (s[a + i]'(by omega)) := List.getElem?_eq_getElem _
        generalize s[a + i]'(by omega) = c8 at hg
        have hgd : (s.drop a)[i]? = some c8 := by rw [List.getElem?_drop, hg]
        have hc8 := c8.toNat_lt
        have e3 : (0 : Int) ≤ ((a + i : Nat) : Int) := by omega
        have e4 : IntKind.i64.wrap (c8.toNat : Int) = c8.toNat := i64_wrap (by omega)
        have hp49 : 128 ^ i ≤ 128 ^ 7 := Nat.pow_le_pow_right (by decide) (by omega)
        have hp0 : 0 < 128 ^ i := Nat.pow_pos (by decide)
        by_cases h10 : (c8.toNat : Int) < 128
        · by_cases h11 : c8.toNat = 0
          · have e6 : ((c8.toNat : Int) == 0) = true := by simp [h11]
            by_cases h12 : (i : Int) > 0
            · simp only [walk, Nat.reduceLT, Nat.reduceBEq, Nat.reduceAdd, Nat.reduceLeDiff, reduceIte, Int.reduceLT, Int.reduceLE, Int.reduceEq, Int.reduceToNat, Int.reduceBEq, e1, e2, h9, hg, e3, e4, h10, e6, h12]
              rw [fin, ← hsc]
              unfold scanI
              rw [hgd]
              simp only
              rw [if_pos (by omega), if_pos (by omega)]
              exact ⟨rfl, rfl⟩
            · have e7 : IntKind.i64.wrap (((a + i : Nat) : Int) + 1) = ((a + i + 1 : Nat) : Int) := wrap64 (by omega) (by omega)
              have hm : c8.toNat * 128 ^ i ≤ 127 * 128 ^ 7 := Nat.mul_le_mul (by omega) hp49
              have e8 : IntKind.i64.wrap ((c8.toNat : Int) * ((128 ^ i : Nat) : Int)) = ((c8.toNat * 128 ^ i : Nat) : Int) := by rw [← Int.natCast_mul]; exact i64_wrap (by omega)
              have e9 : IntKind.i64.wrap ((n : Int) + ((c8.toNat * 128 ^ i : Nat) : Int)) = ((n + c8.toNat * 128 ^ i : Nat) : Int) := wrap64 (by omega) (by omega)
              simp only [walk, Nat.reduceLT, Nat.reduceBEq, Nat.reduceAdd, Nat.reduceLeDiff, reduceIte, Int.reduceLT, Int.reduceLE, Int.reduceEq, Int.reduceToNat, Int.reduceBEq, e1, e2, h9, hg, e3, e4, h10, e6, h12, e7, e8, e9]
              rw [fin, ← hsc]
              unfold scanI
              rw [hgd]
              simp only
              rw [if_pos (by omega), if_neg (by omega)]
              simp only [Nat.add_assoc]
              exact ⟨trivial, trivial⟩
          · have e6 : ((c8.toNat : Int) == 0) = false := by simp; omega
            have e7 : IntKind.i64.wrap (((a + i : Nat) : Int) + 1) = ((a + i + 1 : Nat) : Int) := wrap64 (by omega) (by omega)
            have hm : c8.toNat * 128 ^ i ≤ 127 * 128 ^ 7 := Nat.mul_le_mul (by omega) hp49
            have e8 : IntKind.i64.wrap ((c8.toNat : Int) * ((128 ^ i : Nat) : Int)) = ((c8.toNat * 128 ^ i : Nat) : Int) := by rw [← Int.natCast_mul]; exact i64_wrap (by omega)
            have e9 : IntKind.i64.wrap ((n : Int) + ((c8.toNat * 128 ^ i : Nat) : Int)) = ((n + c8.toNat * 128 ^ i : Nat) : Int) := wrap64 (by omega) (by omega)
            simp only [walk, Nat.reduceLT, Nat.reduceBEq, Nat.reduceAdd, Nat.reduceLeDiff, reduceIte, Int.reduceLT, Int.reduceLE, Int.reduceEq, Int.reduceToNat, Int.reduceBEq, e1, e2, h9, hg, e3, e4, h10, e6, e7, e8, e9]
            rw [fin, ← hsc]
            unfold scanI
            rw [hgd]
            simp only
            rw [if_pos (by omega), if_neg (by omega)]
            simp only [Nat.add_assoc]
            exact ⟨trivial, trivial⟩
        · have hm : (c8.toNat - 128) * 128 ^ i ≤ 127 * 128 ^ 7 := Nat.mul_le_mul (by omega) hp49
          have e5 : IntKind.i64.wrap ((c8.toNat : Int) - 128) = ((c8.toNat - 128 : Nat) : Int) := by rw [wrap64 (by omega) (by omega)]; omega
          have e8 : IntKind.i64.wrap (((c8.toNat - 128 : Nat) : Int) * ((128 ^ i : Nat) : Int)) = (((c8.toNat - 128) * 128 ^ i : Nat) : Int) := by rw [← Int.natCast_mul]; exact i64_wrap (by omega)
          have e9 : IntKind.i64.wrap ((n : Int) + (((c8.toNat - 128) * 128 ^ i : Nat) : Int)) = ((n + (c8.toNat - 128) * 128 ^ i : Nat) : Int) := wrap64 (by omega) (by omega)
          have e10 : IntKind.i64.wrap (((128 ^ i : Nat) : Int) * 128) = ((128 ^ (i + 1) : Nat) : Int) := by
            rw [wrap64 (by omega) (by omega), Nat.pow_succ]; simp
          have e11 : IntKind.i64.wrap ((i : Int) + 1) = ((i + 1 : Nat) : Int) := wrap64 (by omega) (by omega)
          simp only [walk, Nat.reduceLT, Nat.reduceBEq, Nat.reduceAdd, Nat.reduceLeDiff, reduceIte, Int.reduceLT, Int.reduceLE, Int.reduceEq, Int.reduceToNat, Int.reduceBEq, e1, e2, h9, hg, e3, e4, h10, e5, e8, e9, e10, e11]
          refine ih (i + 1, n + (c8.toNat - 128) * 128 ^ i) ⟨by simp only; omega, ?_, ?_⟩ (by simp only; omega)
          · simp only
            rw [Nat.pow_succ, Nat.mul_comm (128 ^ i)]
            have : (c8.toNat - 128) * 128 ^ i ≤ 127 * 128 ^ i := Nat.mul_le_mul_right _ (by omega)
            omega
          · simp only
            rw [← hsc]
            conv => rhs; unfold scanI
            rw [hgd, show 8 - (i + 1) = k by omega]
            simp only
            rw [if_neg (by omega)]
  · have b0 : (b != 0) = true := by simp [hb]
    have fin : xI s a b = (0, a, b) := by unfold xI; rw [if_neg hb]
    simp only [walk, Nat.reduceLT, Nat.reduceBEq, Nat.reduceAdd, Nat.reduceLeDiff, reduceIte, Int.reduceLT, Int.reduceLE, Int.reduceEq, Int.reduceToNat, Int.reduceBEq, b0, fin]
end
end Go.AR

/-! The document's readers: as the program's, of a text of which a part is left. -/
namespace Go.AR
open Go
section
variable {C : CallRel} {F : Nat → FuncId}
def X (S s : List UInt8) (b : Int) : Blk := xdr S (S.length - s.length) b
theorem suf_drop {S s : List UInt8} (h : s <:+ S) : S.drop (S.length - s.length) = s := (List.suffix_iff_eq_drop.1 h).symm
theorem suf_le {S s : List UInt8} (h : s <:+ S) : s.length ≤ S.length := h.length_le
theorem rI_suf (s : List UInt8) (b : Int) : (rI s b).2.1 <:+ s := by
  unfold rI
  split
  · exact List.drop_suffix _ _
  · exact List.suffix_refl _
theorem rText_suf (s : List UInt8) (b : Int) : (rText s b).2.1 <:+ s := by
  have := rI_suf s b
  unfold rText
  dsimp only
  split
  · split
    · exact this
    · exact (List.drop_suffix _ _).trans this
  · exact this
theorem rMany_suf (m : Int) (s : List UInt8) (b : Int) : (rMany m s b).2.1 <:+ s := by
  have := rI_suf s b
  unfold rMany
  dsimp only
  split
  · split
    · exact this
    · split <;> exact this
  · exact this
def S_XInt (R : Rel) : Prop := ∀ S s b, sLen S → s <:+ S → R [.r (X S s b)] (.val (.int .i64 (rI s b).1)) [X S (rI s b).2.1 (rI s b).2.2]
def S_XText (R : Rel) : Prop := ∀ S s b, sLen S → s <:+ S → R [.r (X S s b)] (.val (.str (rText s b).1)) [X S (rText s b).2.1 (rText s b).2.2]
def S_XMany (R : Rel) : Prop := ∀ S s b most, sLen S → s <:+ S → R [.r (X S s b), .v (.int .i64 most)] (.val (.int .i64 (rMany most s b).1)) [X S (rMany most s b).2.1 (rMany most s b).2.2]
def S_XLeft (R : Rel) : Prop := ∀ S s b, sLen S → s <:+ S → R [.r (X S s b)] (.val (.int .i64 (rLeft s b))) [X S s b]
def S_XFail (R : Rel) : Prop := ∀ S s b e, R [.r (X S s b), .v (.int .i64 e)] (.val (.tup [])) [X S s (failB b e)]
theorem x_int {R : Rel} (h : S_xInt R) : S_XInt R := by
  intro S s b hS hs
  have hle := suf_le hs
  have h1 := h S (S.length - s.length) b hS (by omega)
  obtain ⟨e1, e2, e3⟩ := xI_rI S (S.length - s.length) b
  obtain ⟨l1, l2⟩ := xI_le S (S.length - s.length) b (by omega)
  rw [suf_drop hs] at e1 e2 e3
  have e4 := congrArg List.length e3
  rw [List.length_drop] at e4
  have e5 : (xI S (S.length - s.length) b).2.1 = S.length - (rI s b).2.1.length := by omega
  rw [e1, e2, e5] at h1
  exact h1
theorem g_XInt : S_XInt ((c_pref02_Reader_Int F).gives C) := by
  exact x_int g_xInt
theorem g_XLeft : S_XLeft ((c_pref02_Reader_Left F).gives C) := by
  intro S s b hS hs
  have hle := suf_le hs
  unfold sLen at hS
  refine gives_of rfl ?_
  unfold c_pref02_Reader_Left X xdr
  simp only [walk, Nat.reduceLT, Nat.reduceBEq, Nat.reduceAdd, Nat.reduceLeDiff, reduceIte, Int.reduceLT, Int.reduceLE, Int.reduceEq, Int.reduceToNat, Int.reduceBEq]
  by_cases hb : b = 0
  · subst hb
    have b0 : ((0 : Int) != 0) = false := rfl
    have e1 : IntKind.i64.wrap ((S.length : Int) - ((S.length - s.length : Nat) : Int)) = (s.length : Int) := by rw [wrap64 (by omega) (by omega)]; omega
    simp only [walk, Nat.reduceLT, Nat.reduceBEq, Nat.reduceAdd, Nat.reduceLeDiff, reduceIte, Int.reduceLT, Int.reduceLE, Int.reduceEq, Int.reduceToNat, Int.reduceBEq, b0, e1, rLeft]
  · have b0 : (b != 0) = true := by simpa using hb
    simp only [walk, Nat.reduceLT, Nat.reduceBEq, Nat.reduceAdd, Nat.reduceLeDiff, reduceIte, Int.reduceLT, Int.reduceLE, Int.reduceEq, Int.reduceToNat, Int.reduceBEq, b0, rLeft, hb]
theorem g_XFail : S_XFail ((c_pref02_Reader_Fail F).gives C) := by
  intro S s b e
  refine gives_of rfl ?_
  unfold c_pref02_Reader_Fail X xdr
  simp only [walk, Nat.reduceLT, Nat.reduceBEq, Nat.reduceAdd, Nat.reduceLeDiff, reduceIte, Int.reduceLT, Int.reduceLE, Int.reduceEq, Int.reduceToNat, Int.reduceBEq]
  by_cases hb : b = 0
  · subst hb
    have b0 : ((0 : Int) == 0) = true := rfl
    simp only [walk, Nat.reduceLT, Nat.reduceBEq, Nat.reduceAdd, Nat.reduceLeDiff, reduceIte, Int.reduceLT, Int.reduceLE, Int.reduceEq, Int.reduceToNat, Int.reduceBEq, b0, failB]
  · have b0 : (b == 0) = false := by simpa using hb
    simp only [walk, Nat.reduceLT, Nat.reduceBEq, Nat.reduceAdd, Nat.reduceLeDiff, reduceIte, Int.reduceLT, Int.reduceLE, Int.reduceEq, Int.reduceToNat, Int.reduceBEq, b0, failB, hb]
theorem g_XText (hI : S_XInt (C (F n_pref02_Reader_Int))) : S_XText ((c_pref02_Reader_Text F).gives C) := by
  intro S s b hS hs
  refine gives_of rfl ?_
  unfold c_pref02_Reader_Text
  simp only [walk, Nat.reduceLT, Nat.reduceBEq, Nat.reduceAdd, Nat.reduceLeDiff, reduceIte, Int.reduceLT, Int.reduceLE, Int.reduceEq, Int.reduceToNat, Int.reduceBEq]
  refine callWp_of (hI S s b hS hs) ?_
  have hle := suf_le hs
  obtain ⟨h0, h1, h2⟩ := rI_lt s b
  have hs1 := (rI_suf s b).trans hs
  generalize hr : rI s b = r at h0 h1 h2 hs1
  obtain ⟨n, s1, b1⟩ := r
  simp only at h0 h1 h2 hs1
  have hle1 := suf_le hs1
  unfold sLen at hS
  unfold X xdr
  have e1 : IntKind.i64.wrap ((S.length : Int) - ((S.length - s1.length : Nat) : Int)) = (s1.length : Int) := by rw [wrap64 (by omega) (by omega)]; omega
  simp only [walk, Nat.reduceLT, Nat.reduceBEq, Nat.reduceAdd, Nat.reduceLeDiff, reduceIte, Int.reduceLT, Int.reduceLE, Int.reduceEq, Int.reduceToNat, Int.reduceBEq]
  by_cases hb : b1 = 0
  · subst hb
    have b0 : ((0 : Int) != 0) = false := rfl
    by_cases hn : n > s1.length
    · simp only [walk, Nat.reduceLT, Nat.reduceBEq, Nat.reduceAdd, Nat.reduceLeDiff, reduceIte, Int.reduceLT, Int.reduceLE, Int.reduceEq, Int.reduceToNat, Int.reduceBEq, b0, e1, hn]
      simp only [walk, Nat.reduceLT, Nat.reduceBEq, Nat.reduceAdd, Nat.reduceLeDiff, reduceIte, Int.reduceLT, Int.reduceLE, Int.reduceEq, Int.reduceToNat, Int.reduceBEq, rText, hr, hn, X, xdr]
    · have h3 : n ≤ s1.length := by omega
      obtain ⟨m, rfl⟩ : ∃ m : Nat, n = m := ⟨n.toNat, by omega⟩
      have e2 : IntKind.i64.wrap (((S.length - s1.length : Nat) : Int) + (m : Int)) = ((S.length - s1.length + m : Nat) : Int) := by rw [wrap64 (by omega) (by omega)]; omega
      have g0 : (0 : Int) ≤ ((S.length - s1.length : Nat) : Int) := by omega
      have g1 : ((S.length - s1.length : Nat) : Int) ≤ ((S.length - s1.length + m : Nat) : Int) := by omega
      have g2 : ((S.length - s1.length + m : Nat) : Int) ≤ (S.length : Int) := by omega
      have g3 : S.length - s1.length + m - (S.length - s1.length) = m := by omega
      have g4 : S.length - s1.length + m = S.length - (s1.length - m) := by omega
      simp only [walk, Nat.reduceLT, Nat.reduceBEq, Nat.reduceAdd, Nat.reduceLeDiff, reduceIte, Int.reduceLT, Int.reduceLE, Int.reduceEq, Int.reduceToNat, Int.reduceBEq, b0, e1, hn, e2, g1, g2, g3, suf_drop hs1]
      simp only [walk, Nat.reduceLT, Nat.reduceBEq, Nat.reduceAdd, Nat.reduceLeDiff, reduceIte, Int.reduceLT, Int.reduceLE, Int.reduceEq, Int.reduceToNat, Int.reduceBEq, rText, hr, hn, X, xdr, List.length_drop, g4]
  · have b0 : (b1 != 0) = true := by simpa using hb
    simp only [walk, Nat.reduceLT, Nat.reduceBEq, Nat.reduceAdd, Nat.reduceLeDiff, reduceIte, Int.reduceLT, Int.reduceLE, Int.reduceEq, Int.reduceToNat, Int.reduceBEq, b0]
    simp only [walk, Nat.reduceLT, Nat.reduceBEq, Nat.reduceAdd, Nat.reduceLeDiff, reduceIte, Int.reduceLT, Int.reduceLE, Int.reduceEq, Int.reduceToNat, Int.reduceBEq, rText, hr, hb, X, xdr]
theorem g_XMany (hI : S_XInt (C (F n_pref02_Reader_Int))) : S_XMany ((c_pref02_Reader_Many F).gives C) := by
  intro S s b most hS hs
  refine gives_of rfl ?_
  unfold c_pref02_Reader_Many
  simp only [walk, Nat.reduceLT, Nat.reduceBEq, Nat.reduceAdd, Nat.reduceLeDiff, reduceIte, Int.reduceLT, Int.reduceLE, Int.reduceEq, Int.reduceToNat, Int.reduceBEq]
  refine callWp_of (hI S s b hS hs) ?_
  have hle := suf_le hs
  obtain ⟨h0, h1, h2⟩ := rI_lt s b
  have hs1 := (rI_suf s b).trans hs
  generalize hr : rI s b = r at h0 h1 h2 hs1
  obtain ⟨n, s1, b1⟩ := r
  simp only at h0 h1 h2 hs1
  have hle1 := suf_le hs1
  unfold sLen at hS
  unfold X xdr
  have e1 : IntKind.i64.wrap ((S.length : Int) - ((S.length - s1.length : Nat) : Int)) = (s1.length : Int) := by rw [wrap64 (by omega) (by omega)]; omega
  simp only [walk, Nat.reduceLT, Nat.reduceBEq, Nat.reduceAdd, Nat.reduceLeDiff, reduceIte, Int.reduceLT, Int.reduceLE, Int.reduceEq, Int.reduceToNat, Int.reduceBEq]
  by_cases hb : b1 = 0
  · subst hb
    have b0 : ((0 : Int) != 0) = false := rfl
    have b00 : ((0 : Int) == 0) = true := rfl
    have b6 : ((6 : Int) == 0) = false := rfl
    have b66 : ((6 : Int) != 0) = true := rfl
    have b44 : ((4 : Int) != 0) = true := rfl
    by_cases hn : n > most
    · simp only [walk, Nat.reduceLT, Nat.reduceBEq, Nat.reduceAdd, Nat.reduceLeDiff, reduceIte, Int.reduceLT, Int.reduceLE, Int.reduceEq, Int.reduceToNat, Int.reduceBEq, b00, hn]
      simp only [walk, Nat.reduceLT, Nat.reduceBEq, Nat.reduceAdd, Nat.reduceLeDiff, reduceIte, Int.reduceLT, Int.reduceLE, Int.reduceEq, Int.reduceToNat, Int.reduceBEq, b6, b66]
      simp only [walk, Nat.reduceLT, Nat.reduceBEq, Nat.reduceAdd, Nat.reduceLeDiff, reduceIte, Int.reduceLT, Int.reduceLE, Int.reduceEq, Int.reduceToNat, Int.reduceBEq, rMany, hr, hn, X, xdr]
    · by_cases hm : n > s1.length
      · simp only [walk, Nat.reduceLT, Nat.reduceBEq, Nat.reduceAdd, Nat.reduceLeDiff, reduceIte, Int.reduceLT, Int.reduceLE, Int.reduceEq, Int.reduceToNat, Int.reduceBEq, b00, hn, e1, hm]
        simp only [walk, Nat.reduceLT, Nat.reduceBEq, Nat.reduceAdd, Nat.reduceLeDiff, reduceIte, Int.reduceLT, Int.reduceLE, Int.reduceEq, Int.reduceToNat, Int.reduceBEq, b44]
        simp only [walk, Nat.reduceLT, Nat.reduceBEq, Nat.reduceAdd, Nat.reduceLeDiff, reduceIte, Int.reduceLT, Int.reduceLE, Int.reduceEq, Int.reduceToNat, Int.reduceBEq, rMany, hr, hn, hm, X, xdr]
      · simp only [walk, Nat.reduceLT, Nat.reduceBEq, Nat.reduceAdd, Nat.reduceLeDiff, reduceIte, Int.reduceLT, Int.reduceLE, Int.reduceEq, Int.reduceToNat, Int.reduceBEq, b00, hn, e1, hm, b0]
        simp only [walk, Nat.reduceLT, Nat.reduceBEq, Nat.reduceAdd, Nat.reduceLeDiff, reduceIte, Int.reduceLT, Int.reduceLE, Int.reduceEq, Int.reduceToNat, Int.reduceBEq, rMany, hr, hn, hm, X, xdr]
  · have b0 : (b1 == 0) = false := by simpa using hb
    have b1' : (b1 != 0) = true := by simpa using hb
    simp only [walk, Nat.reduceLT, Nat.reduceBEq, Nat.reduceAdd, Nat.reduceLeDiff, reduceIte, Int.reduceLT, Int.reduceLE, Int.reduceEq, Int.reduceToNat, Int.reduceBEq, b0, b1']
    simp only [walk, Nat.reduceLT, Nat.reduceBEq, Nat.reduceAdd, Nat.reduceLeDiff, reduceIte, Int.reduceLT, Int.reduceLE, Int.reduceEq, Int.reduceToNat, Int.reduceBEq, rMany, hr, hb, X, xdr]
end
end Go.AR
