import Derived.Test.YtkankogmljifiaaDoorG28
import Derived.Test.YtkankogmljifiaaDoorG02
import Derived.Test.YtkankogmljifiaaDoorG03
set_option linter.all false
/-! Readers of the package pack. -/
namespace Go.AR
open Go
section
variable {C : CallRel} {F : Nat → FuncId}
/-- A number read from the place i on: the number, how many bytes it had, an error. -/
def scanI (s : List UInt8) : Nat → Nat → Nat → Int × Nat × Int
  | 0, _, _ => (0, 0, 6)
  | k + 1, i, n => match s[i]? with
    | none => (0, 0, 4)
    | some c => if c.toNat < 128 then (if c.toNat = 0 ∧ 0 < i then (0, 0, 3) else (((n + c.toNat * 128 ^ i : Nat) : Int), i + 1, 0)) else scanI s k (i + 1) (n + (c.toNat - 128) * 128 ^ i)
def readI (s : List UInt8) : Int × Nat × Int := scanI s 8 0 0
/-- What reading a number does to a reader's text and error. -/
def rI (s : List UInt8) (b : Int) : Int × List UInt8 × Int := if b = 0 then ((readI s).1, s.drop (readI s).2.1, (readI s).2.2) else (0, s, b)
def rText (s : List UInt8) (b : Int) : List UInt8 × List UInt8 × Int :=
  let r := rI s b
  if r.2.2 = 0 then (if r.1 > r.2.1.length then ([], r.2.1, 4) else (r.2.1.take r.1.toNat, r.2.1.drop r.1.toNat, 0)) else ([], r.2.1, r.2.2)
def rMany (most : Int) (s : List UInt8) (b : Int) : Int × List UInt8 × Int :=
  let r := rI s b
  if r.2.2 = 0 then (if r.1 > most then (0, r.2.1, 6) else if r.1 > r.2.1.length then (0, r.2.1, 4) else r) else (0, r.2.1, r.2.2)
def rLeft (s : List UInt8) (b : Int) : Int := if b = 0 then s.length else 0
def rEnd (s : List UInt8) (b : Int) : Int := if b = 0 ∧ 0 < s.length then 3 else b
def rdr (s : List UInt8) (b : Int) : Blk := .cells [.val (.str s), .val (.int .i64 b)]
def failB (b e : Int) : Int := if b = 0 then e else b
def S_fine (R : Rel) : Prop := ∀ s b, R [.r (rdr s b)] (.val (.bool (b == 0))) [rdr s b]
def S_Fail (R : Rel) : Prop := ∀ s b e, R [.r (rdr s b), .v (.int .i64 e)] (.val (.tup [])) [rdr s (failB b e)]
def S_Open (R : Rel) : Prop := ∀ s, R [.v (.str s)] (.new (rdr s 0)) []
def S_Fault (R : Rel) : Prop := ∀ s b, R [.r (rdr s b)] (.val (.int .i64 b)) [rdr s b]
def sLen (s : List UInt8) : Prop := s.length ≤ 4611686018427387904
def S_Left (R : Rel) : Prop := ∀ s b, sLen s → R [.r (rdr s b)] (.val (.int .i64 (rLeft s b))) [rdr s b]
def S_End (R : Rel) : Prop := ∀ s b, sLen s → R [.r (rdr s b)] (.val (.int .i64 (rEnd s b))) [rdr s (rEnd s b)]
def S_rInt (R : Rel) : Prop := ∀ s b, sLen s → R [.r (rdr s b)] (.val (.int .i64 (rI s b).1)) [rdr (rI s b).2.1 (rI s b).2.2]
def S_rText (R : Rel) : Prop := ∀ s b, sLen s → R [.r (rdr s b)] (.val (.str (rText s b).1)) [rdr (rText s b).2.1 (rText s b).2.2]
def S_rMany (R : Rel) : Prop := ∀ s b most, sLen s → R [.r (rdr s b), .v (.int .i64 most)] (.val (.int .i64 (rMany most s b).1)) [rdr (rMany most s b).2.1 (rMany most s b).2.2]
theorem g_fine : S_fine ((c_pack_Reader_fine F).gives C) := by
  intro s b
  refine gives_of rfl ?_
  unfold c_pack_Reader_fine rdr
  simp only [walk, Nat.reduceLT, Nat.reduceBEq, Nat.reduceAdd, Nat.reduceLeDiff, reduceIte, Int.reduceLT, Int.reduceLE, Int.reduceEq, Int.reduceToNat, Int.reduceBEq]
theorem g_Fail (hF : S_fine (C (F n_pack_Reader_fine))) : S_Fail ((c_pack_Reader_Fail F).gives C) := by
  intro s b e
  refine gives_of rfl ?_
  unfold c_pack_Reader_Fail
  simp only [walk, Nat.reduceLT, Nat.reduceBEq, Nat.reduceAdd, Nat.reduceLeDiff, reduceIte, Int.reduceLT, Int.reduceLE, Int.reduceEq, Int.reduceToNat, Int.reduceBEq]
  refine callWp_of (hF s b) ?_
  by_cases h : b = 0
  · subst h
    have : ((0 : Int) == 0) = true := rfl
    simp only [walk, Nat.reduceLT, Nat.reduceBEq, Nat.reduceAdd, Nat.reduceLeDiff, reduceIte, Int.reduceLT, Int.reduceLE, Int.reduceEq, Int.reduceToNat, Int.reduceBEq, this, rdr, failB]
  · have : (b == 0) = false := by simpa using h
    simp only [walk, Nat.reduceLT, Nat.reduceBEq, Nat.reduceAdd, Nat.reduceLeDiff, reduceIte, Int.reduceLT, Int.reduceLE, Int.reduceEq, Int.reduceToNat, Int.reduceBEq, this, rdr, failB, h]
theorem g_Open : S_Open ((c_pack_Open F).gives C) := by
  intro s
  refine gives_of rfl ?_
  unfold c_pack_Open
  simp only [walk, Nat.reduceLT, Nat.reduceBEq, Nat.reduceAdd, Nat.reduceLeDiff, reduceIte, Int.reduceLT, Int.reduceLE, Int.reduceEq, Int.reduceToNat, Int.reduceBEq, rdr]
theorem g_Fault : S_Fault ((c_pack_Reader_Fault F).gives C) := by
  intro s b
  refine gives_of rfl ?_
  unfold c_pack_Reader_Fault rdr
  simp only [walk, Nat.reduceLT, Nat.reduceBEq, Nat.reduceAdd, Nat.reduceLeDiff, reduceIte, Int.reduceLT, Int.reduceLE, Int.reduceEq, Int.reduceToNat, Int.reduceBEq]
theorem g_Left (hF : S_fine (C (F n_pack_Reader_fine))) : S_Left ((c_pack_Reader_Left F).gives C) := by
  intro s b _
  refine gives_of rfl ?_
  unfold c_pack_Reader_Left
  simp only [walk, Nat.reduceLT, Nat.reduceBEq, Nat.reduceAdd, Nat.reduceLeDiff, reduceIte, Int.reduceLT, Int.reduceLE, Int.reduceEq, Int.reduceToNat, Int.reduceBEq]
  refine callWp_of (hF s b) ?_
  by_cases h : b = 0
  · subst h
    have : ((0 : Int) == 0) = true := rfl
    simp only [walk, Nat.reduceLT, Nat.reduceBEq, Nat.reduceAdd, Nat.reduceLeDiff, reduceIte, Int.reduceLT, Int.reduceLE, Int.reduceEq, Int.reduceToNat, Int.reduceBEq, this, rdr, rLeft]
  · have : (b == 0) = false := by simpa using h
    simp only [walk, Nat.reduceLT, Nat.reduceBEq, Nat.reduceAdd, Nat.reduceLeDiff, reduceIte, Int.reduceLT, Int.reduceLE, Int.reduceEq, Int.reduceToNat, Int.reduceBEq, this, rdr, rLeft, h]
theorem g_End (hL : S_Left (C (F n_pack_Reader_Left))) (hF : S_Fail (C (F n_pack_Reader_Fail))) (hU : S_Fault (C (F n_pack_Reader_Fault))) : S_End ((c_pack_Reader_End F).gives C) := by
  intro s b hs
  refine gives_of rfl ?_
  unfold c_pack_Reader_End
  simp only [walk, Nat.reduceLT, Nat.reduceBEq, Nat.reduceAdd, Nat.reduceLeDiff, reduceIte, Int.reduceLT, Int.reduceLE, Int.reduceEq, Int.reduceToNat, Int.reduceBEq]
  refine callWp_of (hL s b hs) ?_
  by_cases h : rLeft s b > 0
  · simp only [walk, Nat.reduceLT, Nat.reduceBEq, Nat.reduceAdd, Nat.reduceLeDiff, reduceIte, Int.reduceLT, Int.reduceLE, Int.reduceEq, Int.reduceToNat, Int.reduceBEq, h]
    refine callWp_of (hF s b 3) ?_
    have e : rEnd s b = failB b 3 := by
      unfold rLeft at h; unfold rEnd failB
      split at h
      · rename_i hb; subst hb; rw [if_pos ⟨rfl, by omega⟩, if_pos rfl]
      · omega
    simp only [walk, Nat.reduceLT, Nat.reduceBEq, Nat.reduceAdd, Nat.reduceLeDiff, reduceIte, Int.reduceLT, Int.reduceLE, Int.reduceEq, Int.reduceToNat, Int.reduceBEq]
    refine callWp_of (hU s _) ?_
    simp only [walk, Nat.reduceLT, Nat.reduceBEq, Nat.reduceAdd, Nat.reduceLeDiff, reduceIte, Int.reduceLT, Int.reduceLE, Int.reduceEq, Int.reduceToNat, Int.reduceBEq, e]
  · simp only [walk, Nat.reduceLT, Nat.reduceBEq, Nat.reduceAdd, Nat.reduceLeDiff, reduceIte, Int.reduceLT, Int.reduceLE, Int.reduceEq, Int.reduceToNat, Int.reduceBEq, h]
    refine callWp_of (hU s _) ?_
    have e : rEnd s b = b := by
      unfold rLeft at h; unfold rEnd
      split
      · rename_i hb
        rw [if_pos hb.1] at h; omega
      · rfl
    simp only [walk, Nat.reduceLT, Nat.reduceBEq, Nat.reduceAdd, Nat.reduceLeDiff, reduceIte, Int.reduceLT, Int.reduceLE, Int.reduceEq, Int.reduceToNat, Int.reduceBEq, e]
theorem scanI_lt (s : List UInt8) : ∀ (k i n : Nat), n < 128 ^ i → 0 ≤ (scanI s k i n).1 ∧ (scanI s k i n).1 < ((128 ^ (i + k) : Nat) : Int) ∧ ((scanI s k i n).2.1 ≤ s.length)
  | 0, i, n, h => by
    have : 0 < 128 ^ i := Nat.pow_pos (by decide)
    simp only [scanI, Nat.add_zero]; omega
  | k + 1, i, n, h => by
    unfold scanI
    have hp : 0 < 128 ^ i := Nat.pow_pos (by decide)
    have hq : 128 ^ (i + (k + 1)) = 128 ^ (i + 1 + k) := by rw [Nat.add_right_comm, Nat.add_assoc]
    have hm : 128 ^ (i + 1) ≤ 128 ^ (i + 1 + k) := Nat.pow_le_pow_right (by decide) (by omega)
    split
    · refine ⟨by decide, ?_, Nat.zero_le _⟩
      show (0 : Int) < _
      have : 0 < 128 ^ (i + (k + 1)) := Nat.pow_pos (by decide)
      omega
    · rename_i c hc
      have hi : i < s.length := (List.getElem?_eq_some_iff.1 hc).1
      split
      · rename_i hlt
        split
        · refine ⟨by decide, ?_, Nat.zero_le _⟩
          show (0 : Int) < _
          have : 0 < 128 ^ (i + (k + 1)) := Nat.pow_pos (by decide)
          omega
        · refine ⟨by simp only; omega, ?_, by simp only; omega⟩
          simp only
          rw [hq]
          have h1 : n + c.toNat * 128 ^ i < 128 ^ (i + 1) := by
            rw [Nat.pow_succ, Nat.mul_comm (128 ^ i)]
            have : c.toNat * 128 ^ i ≤ 127 * 128 ^ i := Nat.mul_le_mul_right _ (by omega)
            omega
          omega
      · have hlt := c.toNat_lt
        have := scanI_lt s k (i + 1) (n + (c.toNat - 128) * 128 ^ i) (by
          rw [Nat.pow_succ, Nat.mul_comm (128 ^ i)]
          have : (c.toNat - 128) * 128 ^ i ≤ 127 * 128 ^ i := Nat.mul_le_mul_right _ (by omega)
          omega)
        rw [hq]; exact this
theorem readI_lt (s : List UInt8) : 0 ≤ (readI s).1 ∧ (readI s).1 < 72057594037927936 ∧ (readI s).2.1 ≤ s.length := by
  have := scanI_lt s 8 0 0 (by decide)
  simpa [readI] using this
theorem rI_lt (s : List UInt8) (b : Int) : 0 ≤ (rI s b).1 ∧ (rI s b).1 < 72057594037927936 ∧ (rI s b).2.1.length ≤ s.length := by
  unfold rI
  split
  · have := readI_lt s
    simp only [List.length_drop]; omega
  · simp
theorem g_rInt (hF : S_fine (C (F n_pack_Reader_fine))) (hE : S_Fail (C (F n_pack_Reader_Fail))) : S_rInt ((c_pack_Reader_Int F).gives C) := by
  intro s b hs
  refine gives_of rfl ?_
  unfold c_pack_Reader_Int
  simp only [walk, Nat.reduceLT, Nat.reduceBEq, Nat.reduceAdd, Nat.reduceLeDiff, reduceIte, Int.reduceLT, Int.reduceLE, Int.reduceEq, Int.reduceToNat, Int.reduceBEq]
  refine awp_loop_ind (X := Nat × Nat × Int) (fun x => ⟨[(0, .lp 0 0), (2, .val (.int .i64 0)), (3, .val (.int .i64 x.2.1)), (4, .val (.int .i64 x.1))], [(0, rdr s x.2.2)]⟩)
    (fun x => (b = 0 ∧ x.2.2 = 0 ∧ x.1 ≤ 8 ∧ x.2.1 < 128 ^ x.1 ∧ scanI s (8 - x.1) x.1 x.2.1 = readI s) ∨ (x.1 ≤ 9 ∧ x.2.2 ≠ 0 ∧ rI s b = (0, s, x.2.2))) (fun x => 10 - x.1) (0, 0, b) ?_ rfl ?_
  · by_cases h : b = 0
    · exact .inl ⟨h, h, by simp, by simp, rfl⟩
    · exact .inr ⟨by simp, h, by unfold rI; rw [if_neg h]⟩
  rintro R ⟨i, n, c⟩ hinv ih
  simp only at hinv ih ⊢
  simp only [walk, Nat.reduceLT, Nat.reduceBEq, Nat.reduceAdd, Nat.reduceLeDiff, reduceIte, Int.reduceLT, Int.reduceLE, Int.reduceEq, Int.reduceToNat, Int.reduceBEq]
  refine callWp_of (hF s c) ?_
  rcases hinv with ⟨rfl, rfl, hi, hn, hsc⟩ | ⟨hi, hc, hr⟩
  · have e0 : ((0 : Int) == 0) = true := rfl
    have fin : rI s 0 = ((readI s).1, s.drop (readI s).2.1, (readI s).2.2) := rfl
    by_cases h8 : i = 8
    · subst h8
      have e1 : (((8 : Nat) : Int) == 8) = true := rfl
      simp only [walk, Nat.reduceLT, Nat.reduceBEq, Nat.reduceAdd, Nat.reduceLeDiff, reduceIte, Int.reduceLT, Int.reduceLE, Int.reduceEq, Int.reduceToNat, Int.reduceBEq, e0, e1]
      refine callWp_of (hE s 0 6) ?_
      simp only [walk, Nat.reduceLT, Nat.reduceBEq, Nat.reduceAdd, Nat.reduceLeDiff, reduceIte, Int.reduceLT, Int.reduceLE, Int.reduceEq, Int.reduceToNat, Int.reduceBEq, failB]
      rw [wrap64 (by omega) (by omega)]
      refine ih (9, n, 6) (.inr ⟨by simp, by simp, ?_⟩) (by simp)
      rw [fin, ← hsc]; rfl
    · have e1 : ((i : Int) == 8) = false := by simp; omega
      obtain ⟨k, hk⟩ : ∃ k, 8 - i = k + 1 := ⟨7 - i, by omega⟩
      rw [hk] at hsc
      by_cases h9 : (i : Int) ≥ s.length
      · simp only [walk, Nat.reduceLT, Nat.reduceBEq, Nat.reduceAdd, Nat.reduceLeDiff, reduceIte, Int.reduceLT, Int.reduceLE, Int.reduceEq, Int.reduceToNat, Int.reduceBEq, e0, e1, rdr, h9]
        refine callWp_of (hE s 0 4) ?_
        simp only [walk, Nat.reduceLT, Nat.reduceBEq, Nat.reduceAdd, Nat.reduceLeDiff, reduceIte, Int.reduceLT, Int.reduceLE, Int.reduceEq, Int.reduceToNat, Int.reduceBEq, failB]
        rw [wrap64 (by omega) (by omega)]
        refine ih (i + 1, n, 4) (.inr ⟨by simp only; omega, by simp, ?_⟩) (by simp only; omega)
        rw [fin, ← hsc]
        unfold scanI
        rw [List.getElem?_eq_none (by omega)]; rfl
      · have hlt : i < s.length := by omega
        have hg : s[i]? = some s[i] := List.getElem?_eq_getElem hlt
        generalize hcc : s[i] = c8 at hg
        have hc8 := c8.toNat_lt
        have e2 : IntKind.i64.wrap (7 * (i : Int)) = ((7 * i : Nat) : Int) := by rw [wrap64 (by omega) (by omega)]; rfl
        have e3 : ((7 * i : Nat) : Int).toNat = 7 * i := rfl
        have e4 : ¬ ((7 * i : Nat) : Int) < 0 := by omega
        have e5 : IntKind.i64.wrap (c8.toNat : Int) = c8.toNat := i64_wrap (by omega)
        have hpw : c8.toNat % 128 * 2 ^ (7 * i) < 9223372036854775808 := by
          have h1 : 2 ^ (7 * i) ≤ 2 ^ 49 := Nat.pow_le_pow_right (by decide) (by omega)
          have h2 : c8.toNat % 128 * 2 ^ (7 * i) ≤ 127 * 2 ^ 49 := Nat.mul_le_mul (by omega) h1
          omega
        have hnn : n < 2 ^ (7 * i) := by rw [← pow7]; exact hn
        have hpw2 : n + c8.toNat % 128 * 2 ^ (7 * i) < 9223372036854775808 := by
          have h1 : 2 ^ (7 * i) ≤ 2 ^ 49 := Nat.pow_le_pow_right (by decide) (by omega)
          have h2 : c8.toNat % 128 * 2 ^ (7 * i) ≤ 127 * 2 ^ 49 := Nat.mul_le_mul (by omega) h1
          omega
        have i0 : (0 : Int) ≤ i := by omega
        simp only [walk, Nat.reduceLT, Nat.reduceBEq, Nat.reduceAdd, Nat.reduceLeDiff, reduceIte, Int.reduceLT, Int.reduceLE, Int.reduceEq, Int.reduceToNat, Int.reduceBEq, e0, e1, rdr, h9, hg, i0, e5, i64_and127, e2, e4, e3, i64_shl (a := c8.toNat % 128) (k := 7 * i) (by omega) hpw, i64_or hnn hpw2]
        by_cases h10 : (c8.toNat : Int) ≥ 128
        · simp only [walk, Nat.reduceLT, Nat.reduceBEq, Nat.reduceAdd, Nat.reduceLeDiff, reduceIte, Int.reduceLT, Int.reduceLE, Int.reduceEq, Int.reduceToNat, Int.reduceBEq, h10]
          rw [wrap64 (by omega) (by omega)]
          refine ih (i + 1, n + c8.toNat % 128 * 2 ^ (7 * i), 0) (.inl ⟨rfl, rfl, by simp only; omega, ?_, ?_⟩) (by simp only; omega)
          · simp only
            rw [pow7, Nat.mul_add, Nat.mul_one, Nat.pow_add]
            have h2 : c8.toNat % 128 * 2 ^ (7 * i) ≤ 127 * 2 ^ (7 * i) := Nat.mul_le_mul_right _ (by omega)
            omega
          · simp only
            rw [← hsc]
            conv => rhs; unfold scanI
            rw [hg, show 8 - (i + 1) = k by omega]
            simp only
            rw [if_neg (by omega), pow7, show c8.toNat % 128 = c8.toNat - 128 by omega]
        · by_cases h11 : c8.toNat = 0
          · have e6 : ((c8.toNat : Int) == 0) = true := by simp [h11]
            by_cases h12 : (i : Int) > 0
            · simp only [walk, Nat.reduceLT, Nat.reduceBEq, Nat.reduceAdd, Nat.reduceLeDiff, reduceIte, Int.reduceLT, Int.reduceLE, Int.reduceEq, Int.reduceToNat, Int.reduceBEq, h10, e6, h12]
              refine callWp_of (hE s 0 3) ?_
              simp only [walk, Nat.reduceLT, Nat.reduceBEq, Nat.reduceAdd, Nat.reduceLeDiff, reduceIte, Int.reduceLT, Int.reduceLE, Int.reduceEq, Int.reduceToNat, Int.reduceBEq, failB]
              rw [wrap64 (by omega) (by omega)]
              refine ih (i + 1, n + c8.toNat % 128 * 2 ^ (7 * i), 3) (.inr ⟨by simp only; omega, by simp, ?_⟩) (by simp only; omega)
              rw [fin, ← hsc]
              unfold scanI
              rw [hg]
              simp only
              rw [if_pos (by omega), if_pos (by omega)]; rfl
            · have e7 : IntKind.i64.wrap ((i : Int) + 1) = ((i + 1 : Nat) : Int) := wrap64 (by omega) (by omega)
              have e8 : ((i + 1 : Nat) : Int).toNat = i + 1 := rfl
              have e9 : ((i + 1 : Nat) : Int) ≤ s.length := by omega
              have e10 : (0 : Int) ≤ ((i + 1 : Nat) : Int) := by omega
              simp only [walk, Nat.reduceLT, Nat.reduceBEq, Nat.reduceAdd, Nat.reduceLeDiff, reduceIte, Int.reduceLT, Int.reduceLE, Int.reduceEq, Int.reduceToNat, Int.reduceBEq, h10, e6, h12, e7, e9, e10]
              have : readI s = (((n + c8.toNat * 128 ^ i : Nat) : Int), i + 1, 0) := by
                rw [← hsc]
                unfold scanI
                rw [hg]
                simp only
                rw [if_pos (by omega), if_neg (by omega)]
              rw [fin, this, show c8.toNat % 128 = c8.toNat by omega, pow7]
              simp only [walk, Nat.reduceLT, Nat.reduceBEq, Nat.reduceAdd, Nat.reduceLeDiff, reduceIte, Int.reduceLT, Int.reduceLE, Int.reduceEq, Int.reduceToNat, Int.reduceBEq]
          · have e6 : ((c8.toNat : Int) == 0) = false := by simp; omega
            have e7 : IntKind.i64.wrap ((i : Int) + 1) = ((i + 1 : Nat) : Int) := wrap64 (by omega) (by omega)
            have e8 : ((i + 1 : Nat) : Int).toNat = i + 1 := rfl
            have e9 : ((i + 1 : Nat) : Int) ≤ s.length := by omega
            have e10 : (0 : Int) ≤ ((i + 1 : Nat) : Int) := by omega
            simp only [walk, Nat.reduceLT, Nat.reduceBEq, Nat.reduceAdd, Nat.reduceLeDiff, reduceIte, Int.reduceLT, Int.reduceLE, Int.reduceEq, Int.reduceToNat, Int.reduceBEq, h10, e6, e7, e9, e10]
            have : readI s = (((n + c8.toNat * 128 ^ i : Nat) : Int), i + 1, 0) := by
              rw [← hsc]
              unfold scanI
              rw [hg]
              simp only
              rw [if_pos (by omega), if_neg (by omega)]
            rw [fin, this, show c8.toNat % 128 = c8.toNat by omega, pow7]
            simp only [walk, Nat.reduceLT, Nat.reduceBEq, Nat.reduceAdd, Nat.reduceLeDiff, reduceIte, Int.reduceLT, Int.reduceLE, Int.reduceEq, Int.reduceToNat, Int.reduceBEq]
  · have e0 : (c == 0) = false := by simpa using hc
    simp only [walk, Nat.reduceLT, Nat.reduceBEq, Nat.reduceAdd, Nat.reduceLeDiff, reduceIte, Int.reduceLT, Int.reduceLE, Int.reduceEq, Int.reduceToNat, Int.reduceBEq, e0, hr]
theorem g_rText (hI : S_rInt (C (F n_pack_Reader_Int))) (hF : S_fine (C (F n_pack_Reader_fine))) (hE : S_Fail (C (F n_pack_Reader_Fail))) : S_rText ((c_pack_Reader_Text F).gives C) := by
  intro s b hs
  refine gives_of rfl ?_
  unfold c_pack_Reader_Text
  simp only [walk, Nat.reduceLT, Nat.reduceBEq, Nat.reduceAdd, Nat.reduceLeDiff, reduceIte, Int.reduceLT, Int.reduceLE, Int.reduceEq, Int.reduceToNat, Int.reduceBEq]
  refine callWp_of (hI s b hs) ?_
  obtain ⟨h0, h1, h2⟩ := rI_lt s b
  generalize hr : rI s b = r at h0 h1 h2
  obtain ⟨n, s1, b1⟩ := r
  simp only at h0 h1 h2
  simp only [walk, Nat.reduceLT, Nat.reduceBEq, Nat.reduceAdd, Nat.reduceLeDiff, reduceIte, Int.reduceLT, Int.reduceLE, Int.reduceEq, Int.reduceToNat, Int.reduceBEq]
  refine callWp_of (hF s1 b1) ?_
  by_cases hb : b1 = 0
  · subst hb
    have e0 : ((0 : Int) == 0) = true := rfl
    by_cases hn : n > s1.length
    · simp only [walk, Nat.reduceLT, Nat.reduceBEq, Nat.reduceAdd, Nat.reduceLeDiff, reduceIte, Int.reduceLT, Int.reduceLE, Int.reduceEq, Int.reduceToNat, Int.reduceBEq, e0, rdr, hn]
      refine callWp_of (hE s1 0 4) ?_
      simp only [walk, Nat.reduceLT, Nat.reduceBEq, Nat.reduceAdd, Nat.reduceLeDiff, reduceIte, Int.reduceLT, Int.reduceLE, Int.reduceEq, Int.reduceToNat, Int.reduceBEq]
      refine callWp_of (hF s1 4) ?_
      have e1 : ((4 : Int) == 0) = false := rfl
      simp only [walk, Nat.reduceLT, Nat.reduceBEq, Nat.reduceAdd, Nat.reduceLeDiff, reduceIte, Int.reduceLT, Int.reduceLE, Int.reduceEq, Int.reduceToNat, Int.reduceBEq, e1, rdr, failB, rText, hr, hn]
    · have h3 : n ≤ s1.length := by omega
      simp only [walk, Nat.reduceLT, Nat.reduceBEq, Nat.reduceAdd, Nat.reduceLeDiff, reduceIte, Int.reduceLT, Int.reduceLE, Int.reduceEq, Int.reduceToNat, Int.reduceBEq, e0, rdr, hn]
      refine callWp_of (hF s1 0) ?_
      simp only [walk, Nat.reduceLT, Nat.reduceBEq, Nat.reduceAdd, Nat.reduceLeDiff, reduceIte, Int.reduceLT, Int.reduceLE, Int.reduceEq, Int.reduceToNat, Int.reduceBEq, e0, rdr, h0, h3, rText, hr, hn]
  · have e0 : (b1 == 0) = false := by simpa using hb
    simp only [walk, Nat.reduceLT, Nat.reduceBEq, Nat.reduceAdd, Nat.reduceLeDiff, reduceIte, Int.reduceLT, Int.reduceLE, Int.reduceEq, Int.reduceToNat, Int.reduceBEq, e0]
    refine callWp_of (hF s1 b1) ?_
    simp only [walk, Nat.reduceLT, Nat.reduceBEq, Nat.reduceAdd, Nat.reduceLeDiff, reduceIte, Int.reduceLT, Int.reduceLE, Int.reduceEq, Int.reduceToNat, Int.reduceBEq, e0, rText, hr, hb, rdr]
theorem g_rMany (hI : S_rInt (C (F n_pack_Reader_Int))) (hF : S_fine (C (F n_pack_Reader_fine))) (hE : S_Fail (C (F n_pack_Reader_Fail))) : S_rMany ((c_pack_Reader_Many F).gives C) := by
  intro s b most hs
  refine gives_of rfl ?_
  unfold c_pack_Reader_Many
  simp only [walk, Nat.reduceLT, Nat.reduceBEq, Nat.reduceAdd, Nat.reduceLeDiff, reduceIte, Int.reduceLT, Int.reduceLE, Int.reduceEq, Int.reduceToNat, Int.reduceBEq]
  refine callWp_of (hI s b hs) ?_
  obtain ⟨h0, h1, h2⟩ := rI_lt s b
  generalize hr : rI s b = r at h0 h1 h2
  obtain ⟨n, s1, b1⟩ := r
  simp only at h0 h1 h2
  simp only [walk, Nat.reduceLT, Nat.reduceBEq, Nat.reduceAdd, Nat.reduceLeDiff, reduceIte, Int.reduceLT, Int.reduceLE, Int.reduceEq, Int.reduceToNat, Int.reduceBEq]
  refine callWp_of (hF s1 b1) ?_
  by_cases hb : b1 = 0
  · subst hb
    have e0 : ((0 : Int) == 0) = true := rfl
    by_cases hn : n > most
    · simp only [walk, Nat.reduceLT, Nat.reduceBEq, Nat.reduceAdd, Nat.reduceLeDiff, reduceIte, Int.reduceLT, Int.reduceLE, Int.reduceEq, Int.reduceToNat, Int.reduceBEq, e0, hn]
      refine callWp_of (hE s1 0 6) ?_
      simp only [walk, Nat.reduceLT, Nat.reduceBEq, Nat.reduceAdd, Nat.reduceLeDiff, reduceIte, Int.reduceLT, Int.reduceLE, Int.reduceEq, Int.reduceToNat, Int.reduceBEq, rdr, failB, rMany, hr, hn]
    · by_cases hm : n > s1.length
      · simp only [walk, Nat.reduceLT, Nat.reduceBEq, Nat.reduceAdd, Nat.reduceLeDiff, reduceIte, Int.reduceLT, Int.reduceLE, Int.reduceEq, Int.reduceToNat, Int.reduceBEq, e0, hn, hm, rdr]
        refine callWp_of (hE s1 0 4) ?_
        simp only [walk, Nat.reduceLT, Nat.reduceBEq, Nat.reduceAdd, Nat.reduceLeDiff, reduceIte, Int.reduceLT, Int.reduceLE, Int.reduceEq, Int.reduceToNat, Int.reduceBEq, rdr, failB, rMany, hr, hn, hm]
      · simp only [walk, Nat.reduceLT, Nat.reduceBEq, Nat.reduceAdd, Nat.reduceLeDiff, reduceIte, Int.reduceLT, Int.reduceLE, Int.reduceEq, Int.reduceToNat, Int.reduceBEq, e0, hn, hm, rdr, rMany, hr]
  · have e0 : (b1 == 0) = false := by simpa using hb
    simp only [walk, Nat.reduceLT, Nat.reduceBEq, Nat.reduceAdd, Nat.reduceLeDiff, reduceIte, Int.reduceLT, Int.reduceLE, Int.reduceEq, Int.reduceToNat, Int.reduceBEq, e0, rMany, hr, hb, rdr]
end
end Go.AR

/-! The document's readers. -/
namespace Go.AR
open Go
section
variable {C : CallRel} {F : Nat → FuncId}
def xdr (s : List UInt8) (at' : Nat) (b : Int) : Blk := .cells [.val (.str s), .val (.int .i64 at'), .val (.int .i64 b)]
end
end Go.AR

/-! The document's readers: as the program's, of a text of which a part is left. -/
namespace Go.AR
open Go
section
variable {C : CallRel} {F : Nat → FuncId}
def X (S s : List UInt8) (b : Int) : Blk := xdr S (S.length - s.length) b
theorem rI_suf (s : List UInt8) (b : Int) : (rI s b).2.1 <:+ s := by
  unfold rI
  split
  · exact List.drop_suffix _ _
  · exact List.suffix_refl _
theorem rText_suf (s : List UInt8) (b : Int) : (rText s b).2.1 <:+ s := by
  have := rI_suf s b
  unfold rText
  dsimp only
  split
  · split
    · exact this
    · exact (List.drop_suffix _ _).trans this
  · exact this
theorem rMany_suf (m : Int) (s : List UInt8) (b : Int) : (rMany m s b).2.1 <:+ s := by
  have := rI_suf s b
  unfold rMany
  dsimp only
  split
  · split
    · exact this
    · split <;> exact this
  · exact this
end
end Go.AR

/-! Chapter 2's laws. -/
namespace Go.AR
open Go
section
variable {C : CallRel} {F : Nat → FuncId}
theorem scan_vint (pre rest : List UInt8) : ∀ (k i m acc : Nat), pre.length = i → m < 128 ^ k → (1 ≤ m ∨ i = 0 ∧ 1 ≤ k) → ∀ pre2 : List UInt8, pre2.length = i → scanI (pre2 ++ (vint m ++ rest)) k i acc = (((acc + m * 128 ^ i : Nat) : Int), i + (vint m).length, 0) := by
  intro k
  induction k generalizing pre with
  | zero =>
    intro i m acc _ hm h1 pre2 hp
    simp at hm
    omega
  | succ k ih =>
    intro i m acc hpre hm h1 pre2 hp
    unfold scanI
    by_cases h : m < 128
    · rw [vint_lt h, List.getElem?_append_right (by omega), hp, Nat.sub_self]
      simp only [List.cons_append, List.getElem?_cons_zero, List.nil_append]
      have e : (UInt8.ofNat m).toNat = m := by simp; omega
      rw [e, if_pos h, if_neg (by omega)]
      rfl
    · rw [vint_ge h, List.getElem?_append_right (by omega), hp, Nat.sub_self]
      simp only [List.cons_append, List.getElem?_cons_zero]
      have e : (UInt8.ofNat (m % 128 + 128)).toNat = m % 128 + 128 := by simp; omega
      rw [e, if_neg (by omega)]
      have := ih (pre := pre2 ++ [UInt8.ofNat (m % 128 + 128)]) (i + 1) (m / 128) (acc + (m % 128 + 128 - 128) * 128 ^ i) (by simp [hp]) (by rw [Nat.pow_succ] at hm; omega) (.inl (by omega)) (pre2 ++ [UInt8.ofNat (m % 128 + 128)]) (by simp [hp])
      rw [List.append_assoc] at this
      simp only [List.cons_append, List.nil_append] at this
      rw [this]
      simp only [List.length_cons]
      have e2 : acc + (m % 128 + 128 - 128) * 128 ^ i + m / 128 * 128 ^ (i + 1) = acc + m * 128 ^ i := by
        rw [Nat.pow_succ, Nat.mul_comm (128 ^ i), ← Nat.mul_assoc, Nat.add_assoc, ← Nat.add_mul]
        congr 2; omega
      rw [e2, Nat.add_assoc, Nat.add_comm 1]
theorem readI_vint (m : Nat) (h : m < 72057594037927936) (rest : List UInt8) : readI (vint m ++ rest) = ((m : Int), (vint m).length, 0) := by
  have := scan_vint [] rest 8 0 m 0 rfl (by omega) (.inr ⟨rfl, by decide⟩) [] rfl
  simpa [readI] using this
theorem rI_vint (m : Nat) (h : m < 72057594037927936) (rest : List UInt8) : rI (vint m ++ rest) 0 = ((m : Int), rest, 0) := by
  unfold rI
  rw [if_pos rfl, readI_vint m h rest]
  simp
theorem rText_pText (s rest : List UInt8) (h : s.length < 72057594037927936) : rText (pText s ++ rest) 0 = (s, rest, 0) := by
  unfold rText pText
  rw [List.append_assoc, rI_vint _ h]
  simp
  omega
/-- What was read is just what it is told as. -/
theorem scan_back (s : List UInt8) : ∀ (k i acc : Nat) (v : Int) (j : Nat), scanI s k i acc = (v, j, 0) → ∃ m : Nat, v = ((acc + m * 128 ^ i : Nat) : Int) ∧ i + (vint m).length = j ∧ j ≤ s.length ∧ (s.drop i).take (j - i) = vint m ∧ (1 ≤ m ∨ i = 0)
  | 0, i, acc, v, j, h => by simp [scanI] at h
  | k + 1, i, acc, v, j, h => by
    unfold scanI at h
    split at h
    · simp at h
    · rename_i c hc
      have hi : i < s.length := (List.getElem?_eq_some_iff.1 hc).1
      have hd : s.drop i = c :: s.drop (i + 1) := by
        rw [List.drop_eq_getElem_cons hi]
        congr 1
        exact (List.getElem?_eq_some_iff.1 hc).2
      split at h
      · rename_i hlt
        split at h
        · simp at h
        · rename_i hz
          simp only [Prod.mk.injEq, and_true] at h
          obtain ⟨rfl, rfl⟩ := h
          refine ⟨c.toNat, rfl, by rw [vint_lt hlt]; rfl, by omega, ?_, by omega⟩
          rw [hd, show i + 1 - i = 1 by omega, vint_lt hlt]
          simp
      · rename_i hge
        have hlt := c.toNat_lt
        obtain ⟨m, h1, h2, h3, h4, h5⟩ := scan_back s k (i + 1) _ v j h
        have h6 : ¬ (c.toNat - 128 + 128 * m) < 128 := by omega
        have e1 : (c.toNat - 128 + 128 * m) / 128 = m := by omega
        have e2 : (c.toNat - 128 + 128 * m) % 128 + 128 = c.toNat := by omega
        refine ⟨c.toNat - 128 + 128 * m, ?_, ?_, h3, ?_, by omega⟩
        · rw [h1]
          congr 1
          rw [Nat.pow_succ, Nat.mul_comm (128 ^ i), ← Nat.mul_assoc, Nat.add_mul, Nat.mul_comm 128 m]
          omega
        · rw [vint_ge h6, e1, List.length_cons]; omega
        · rw [hd, vint_ge h6, e1, e2, show j - i = (j - (i + 1)) + 1 by have := vint_pos m; omega, List.take_succ_cons, h4]
          simp
theorem readI_back {s : List UInt8} {v : Int} {j : Nat} (h : readI s = (v, j, 0)) : pInt v = s.take j ∧ (pInt v).length = j ∧ j ≤ s.length := by
  obtain ⟨m, h1, h2, h3, h4, _⟩ := scan_back s 8 0 0 v j h
  have : v.toNat = m := by rw [h1]; simp
  unfold pInt
  rw [this, ← h4]
  simp at h2 ⊢
  omega
theorem rI_back {s : List UInt8} (h : (rI s 0).2.2 = 0) : pInt (rI s 0).1 ++ (rI s 0).2.1 = s := by
  unfold rI at h ⊢
  rw [if_pos rfl] at h ⊢
  generalize hr : readI s = q at h ⊢
  obtain ⟨v, j, e⟩ := q
  simp only at h ⊢
  subst h
  have := (readI_back hr).1
  rw [this, List.take_append_drop]
theorem once {s : List UInt8} (h : (rText (rI s 0).2.1 (rI s 0).2.2).2.2 = 0) : (pInt (rI s 0).1 ++ pText (rText (rI s 0).2.1 (rI s 0).2.2).1) ++ (rText (rI s 0).2.1 (rI s 0).2.2).2.1 = s := by
  have hb : (rI s 0).2.2 = 0 := by
    rw [← Classical.not_not (a := (rI s 0).2.2 = 0)]
    intro hne
    apply hne
    unfold rText at h
    have : rI (rI s 0).2.1 (rI s 0).2.2 = (0, (rI s 0).2.1, (rI s 0).2.2) := by rw [rI, if_neg hne]
    rw [this] at h
    simp only at h
    rw [if_neg hne] at h
    exact h
  have e1 := rI_back hb
  rw [hb] at h ⊢
  generalize (rI s 0).2.1 = s1 at h e1
  generalize (rI s 0).1 = v at e1
  rw [List.append_assoc, ← e1]
  congr 1
  unfold rText at h ⊢
  have hl := rI_lt s1 0
  have e2 := fun h => rI_back (s := s1) h
  generalize rI s1 0 = r at h e2 hl
  obtain ⟨m, s2, b2⟩ := r
  simp only at h e2 hl ⊢
  by_cases h0 : b2 = 0
  · rw [if_pos h0] at h ⊢
    by_cases h1 : m > s2.length
    · rw [if_pos h1] at h; simp at h
    · rw [if_neg h1]
      rw [← e1, ← e2 h0] at *
      simp only [pText]
      rw [List.append_assoc, List.take_append_drop]
      congr 1
      rw [pInt, List.length_take]
      congr 1
      omega
  · rw [if_neg h0] at h
    exact absurd h h0
theorem rText_len (s : List UInt8) (b : Int) : (rText s b).1.length + (rText s b).2.1.length ≤ s.length := by
  have := rI_lt s b
  unfold rText
  generalize rI s b = r at this
  obtain ⟨n, s1, b1⟩ := r
  simp only at this ⊢
  split
  · split
    · simp only [List.length_nil]; omega
    · simp only [List.length_take, List.length_drop]; omega
  · simp only [List.length_nil]; omega
end
end Go.AR
