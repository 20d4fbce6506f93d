import Derived.Test.YtcpflnhmdpfdkaaK21
import Derived.Test.YtcpflnhmdpfdkaaP01
import Derived.Test.YtcpflnhmdpfdkaaP02
set_option linter.all false
/-! Frames: what the functions give. -/
namespace Go.AR
open Go
section
variable {C : CallRel} {F : Nat → FuncId}
def tP (l : List (List UInt8)) : PV := .sl 1 (l.map fun s => [.str s])
def fOf (s : List UInt8) : List UInt8 := sealed (pText s)
/-- The first frame: its text, the rest, an error. -/
def fCut (s : List UInt8) : List UInt8 × List UInt8 × Int :=
  if (rI s 0).2.2 ≠ 0 then ([], [], (rI s 0).2.2) else if (rI s 0).1 > 1048576 then ([], [], 6) else if (rI s 0).1 + 4 > (rI s 0).2.1.length then ([], [], 4) else
    if bytes4 (more 0 (s.take (s.length - (rI s 0).2.1.length + (rI s 0).1.toNat))) = (s.drop (s.length - (rI s 0).2.1.length + (rI s 0).1.toNat)).take 4 then
      ((rI s 0).2.1.take (rI s 0).1.toNat, (rI s 0).2.1.drop ((rI s 0).1.toNat + 4), 0) else ([], [], 5)
def scanF : Nat → List UInt8 → List (List UInt8) × List UInt8
  | 0, s => ([], s)
  | k + 1, s => if s = [] then ([], []) else if (fCut s).2.2 ≠ 0 then ([], s) else ((fCut s).1 :: (scanF k (fCut s).2.1).1, (scanF k (fCut s).2.1).2)
def fScan (s : List UInt8) : List (List UInt8) × List UInt8 := scanF s.length s
def bigLen (s : List UInt8) : Prop := s.length ≤ 900000000
def S_fOf (R : Rel) : Prop := ∀ s : List UInt8, bigLen s → R [.v (.str s)] (.val (.str (fOf s))) []
def S_fCut (R : Rel) : Prop := ∀ s : List UInt8, bigLen s → R [.v (.str s)] (.val (.tup [.str (fCut s).1, .str (fCut s).2.1, .int .i64 (fCut s).2.2])) []
def S_fScan (R : Rel) : Prop := ∀ s : List UInt8, bigLen s → R [.v (.str s)] (.val (.tup [tP (fScan s).1, .int .i64 (s.length - (fScan s).2.length : Nat)])) []
theorem g_frame_Of (h1 : S_ptext (C (F n_pack_Text))) (h2 : S_strstr (C (F n_sum_Sealed)) sealed) : S_fOf ((c_frame_Of F).gives C) := by
  intro s hs
  unfold bigLen at hs
  have l2 := pInt_len (n := (s.length : Int)) (by unfold i64ok; omega)
  have l3 : (pText s).length ≤ 900000011 := by simp only [pText, List.length_append]; simp only [pInt, Int.toNat_natCast] at l2; omega
  refine gives_of rfl ?_
  unfold c_frame_Of
  simp only [walk, Nat.reduceLT, Nat.reduceBEq, Nat.reduceAdd, Nat.reduceLeDiff, reduceIte, Int.reduceLT, Int.reduceLE, Int.reduceEq, Int.reduceToNat, Int.reduceBEq]
  refine callWp_of (h1 s (by omega)) ?_
  simp only [walk, Nat.reduceLT, Nat.reduceBEq, Nat.reduceAdd, Nat.reduceLeDiff, reduceIte, Int.reduceLT, Int.reduceLE, Int.reduceEq, Int.reduceToNat, Int.reduceBEq]
  refine callWp_of (h2 _ (by omega)) ?_
  simp only [walk, Nat.reduceLT, Nat.reduceBEq, Nat.reduceAdd, Nat.reduceLeDiff, reduceIte, Int.reduceLT, Int.reduceLE, Int.reduceEq, Int.reduceToNat, Int.reduceBEq, fOf]
theorem g_pref21_Of (h1 : S_ptext (C (F n_pref02_Text))) (h2 : S_of (C (F n_pref01_Of))) (h3 : S_bytes (C (F n_pref01_Bytes))) : S_fOf ((c_pref21_Of F).gives C) := by
  intro s hs
  unfold bigLen at hs
  have l2 := pInt_len (n := (s.length : Int)) (by unfold i64ok; omega)
  have l3 : (pText s).length ≤ 900000011 := by simp only [pText, List.length_append]; simp only [pInt, Int.toNat_natCast] at l2; omega
  refine gives_of rfl ?_
  unfold c_pref21_Of
  simp only [walk, Nat.reduceLT, Nat.reduceBEq, Nat.reduceAdd, Nat.reduceLeDiff, reduceIte, Int.reduceLT, Int.reduceLE, Int.reduceEq, Int.reduceToNat, Int.reduceBEq]
  refine callWp_of (h1 s (by omega)) ?_
  simp only [walk, Nat.reduceLT, Nat.reduceBEq, Nat.reduceAdd, Nat.reduceLeDiff, reduceIte, Int.reduceLT, Int.reduceLE, Int.reduceEq, Int.reduceToNat, Int.reduceBEq]
  refine callWp_of (h2 _ (by omega)) ?_
  simp only [walk, Nat.reduceLT, Nat.reduceBEq, Nat.reduceAdd, Nat.reduceLeDiff, reduceIte, Int.reduceLT, Int.reduceLE, Int.reduceEq, Int.reduceToNat, Int.reduceBEq]
  refine callWp_of (h3 _) ?_
  simp only [walk, Nat.reduceLT, Nat.reduceBEq, Nat.reduceAdd, Nat.reduceLeDiff, reduceIte, Int.reduceLT, Int.reduceLE, Int.reduceEq, Int.reduceToNat, Int.reduceBEq]
  rw [bins_add (by rw [bytes4_len]; omega)]
  simp only [walk, Nat.reduceLT, Nat.reduceBEq, Nat.reduceAdd, Nat.reduceLeDiff, reduceIte, Int.reduceLT, Int.reduceLE, Int.reduceEq, Int.reduceToNat, Int.reduceBEq, fOf, sealed]
theorem rI_drop (s : List UInt8) : (rI s 0).2.1 = s.drop (s.length - (rI s 0).2.1.length) := by
  have h := readI_lt s
  unfold rI
  rw [if_pos rfl]
  simp only [List.length_drop]
  congr 1
  omega
theorem g_frame_Cut (h1 : S_Open (C (F n_pack_Open))) (h2 : S_rInt (C (F n_pack_Reader_Int))) (h3 : S_Left (C (F n_pack_Reader_Left))) (h4 : S_Fault (C (F n_pack_Reader_Fault))) (h5 : S_open (C (F n_sum_Open))) : S_fCut ((c_frame_Cut F).gives C) := by
  intro s hs
  unfold bigLen at hs
  refine gives_of rfl ?_
  unfold c_frame_Cut
  simp only [walk, Nat.reduceLT, Nat.reduceBEq, Nat.reduceAdd, Nat.reduceLeDiff, reduceIte, Int.reduceLT, Int.reduceLE, Int.reduceEq, Int.reduceToNat, Int.reduceBEq]
  refine callWp_of (h1 s) ?_
  simp only [walk, Nat.reduceLT, Nat.reduceBEq, Nat.reduceAdd, Nat.reduceLeDiff, reduceIte, Int.reduceLT, Int.reduceLE, Int.reduceEq, Int.reduceToNat, Int.reduceBEq]
  refine callWp_of (h2 s 0 (by unfold sLen; omega)) ?_
  have hl := rI_lt s 0
  have hd := rI_drop s
  unfold fCut
  generalize rI s 0 = r at hl hd
  obtain ⟨n, s1, b⟩ := r
  simp only at hl hd ⊢
  simp only [walk, Nat.reduceLT, Nat.reduceBEq, Nat.reduceAdd, Nat.reduceLeDiff, reduceIte, Int.reduceLT, Int.reduceLE, Int.reduceEq, Int.reduceToNat, Int.reduceBEq]
  refine callWp_of (h3 s1 b (by unfold sLen; omega)) ?_
  have e1 : IntKind.i64.wrap ((s.length : Int) - rLeft s1 b) = s.length - rLeft s1 b := by
    unfold rLeft; split <;> exact wrap64 (by omega) (by omega)
  simp only [walk, Nat.reduceLT, Nat.reduceBEq, Nat.reduceAdd, Nat.reduceLeDiff, reduceIte, Int.reduceLT, Int.reduceLE, Int.reduceEq, Int.reduceToNat, Int.reduceBEq, e1]
  refine callWp_of (h4 s1 b) ?_
  by_cases hb : b = 0
  · subst hb
    have b0 : ((0 : Int) != 0) = false := rfl
    have e2 : rLeft s1 0 = s1.length := rfl
    have n0 : ((0 : Int) ≠ 0) ↔ False := by simp
    by_cases c1 : n > 1048576
    · simp only [walk, Nat.reduceLT, Nat.reduceBEq, Nat.reduceAdd, Nat.reduceLeDiff, reduceIte, Int.reduceLT, Int.reduceLE, Int.reduceEq, Int.reduceToNat, Int.reduceBEq, b0, c1, e2, n0, if_false]
    · by_cases c2 : n + 4 > s1.length
      · simp only [walk, Nat.reduceLT, Nat.reduceBEq, Nat.reduceAdd, Nat.reduceLeDiff, reduceIte, Int.reduceLT, Int.reduceLE, Int.reduceEq, Int.reduceToNat, Int.reduceBEq, b0, c1, e2]
        refine callWp_of (h3 s1 0 (by unfold sLen; omega)) ?_
        have e3 : IntKind.i64.wrap (n + 4) = n + 4 := wrap64 (by omega) (by omega)
        simp only [walk, Nat.reduceLT, Nat.reduceBEq, Nat.reduceAdd, Nat.reduceLeDiff, reduceIte, Int.reduceLT, Int.reduceLE, Int.reduceEq, Int.reduceToNat, Int.reduceBEq, e3, e2, c2, n0, if_false]
      · obtain ⟨m, rfl⟩ : ∃ m : Nat, n = m := ⟨n.toNat, by omega⟩
        have e3 : IntKind.i64.wrap ((m : Int) + 4) = m + 4 := wrap64 (by omega) (by omega)
        obtain ⟨hd0, hdd⟩ : ∃ q : Nat, (s.length : Int) - s1.length = q := ⟨s.length - s1.length, by omega⟩
        have hdn : s.length - s1.length = hd0 := by omega
        rw [hdn] at hd
        have e4 : IntKind.i64.wrap ((hd0 : Int) + m) = ((hd0 + m : Nat) : Int) := wrap64 (by omega) (by omega)
        have e5 : IntKind.i64.wrap (((hd0 + m : Nat) : Int) + 4) = ((hd0 + m + 4 : Nat) : Int) := wrap64 (by omega) (by omega)
        have e6 : ((hd0 + m + 4 : Nat) : Int) ≤ s.length := by omega
        have e7 : (0 : Int) ≤ ((hd0 + m + 4 : Nat) : Int) := by omega
        have c2' : ¬ (m : Int) + 4 > s1.length := c2
        simp only [walk, Nat.reduceLT, Nat.reduceBEq, Nat.reduceAdd, Nat.reduceLeDiff, reduceIte, Int.reduceLT, Int.reduceLE, Int.reduceEq, Int.reduceToNat, Int.reduceBEq, b0, c1, e2, hdd]
        refine callWp_of (h3 s1 0 (by unfold sLen; omega)) ?_
        simp only [walk, Nat.reduceLT, Nat.reduceBEq, Nat.reduceAdd, Nat.reduceLeDiff, reduceIte, Int.reduceLT, Int.reduceLE, Int.reduceEq, Int.reduceToNat, Int.reduceBEq, e3, e2, c2', e4, e5, e6, e7]
        have lt4 : (s.take (hd0 + m + 4)).length = hd0 + m + 4 := by rw [List.length_take]; omega
        refine callWp_of (h5 _ (by rw [lt4]; omega)) ?_
        have eo : openL (s.take (hd0 + m + 4)) = if bytes4 (more 0 (s.take (hd0 + m))) = (s.drop (hd0 + m)).take 4 then (s.take (hd0 + m), true) else ([], false) := by
          unfold openL
          rw [lt4, if_neg (by omega), show hd0 + m + 4 - 4 = hd0 + m by omega, List.take_take, Nat.min_eq_left (by omega), List.drop_take, show hd0 + m + 4 - (hd0 + m) = 4 by omega]
        rw [eo, hdn]
        by_cases c3 : bytes4 (more 0 (s.take (hd0 + m))) = (s.drop (hd0 + m)).take 4
        · have e8 : (hd0 : Int) ≤ ((s.take (hd0 + m)).length : Int) := by rw [List.length_take]; omega
          have e9 : (0 : Int) ≤ hd0 := by omega
          simp only [c3, if_true, walk, Nat.reduceLT, Nat.reduceBEq, Nat.reduceAdd, Nat.reduceLeDiff, reduceIte, Int.reduceLT, Int.reduceLE, Int.reduceEq, Int.reduceToNat, Int.reduceBEq, e4, e5, e6, e7, e8, e9]
          have f1 : s1.take m = (s.take (hd0 + m)).drop hd0 := by rw [List.drop_take, show hd0 + m - hd0 = m by omega, hd]
          have f2 : s1.drop (m + 4) = s.drop (hd0 + m + 4) := by rw [hd, List.drop_drop, Nat.add_assoc]
          simp only [f1, f2, n0, if_false]
        · simp only [c3, if_false, walk, Nat.reduceLT, Nat.reduceBEq, Nat.reduceAdd, Nat.reduceLeDiff, reduceIte, Int.reduceLT, Int.reduceLE, Int.reduceEq, Int.reduceToNat, Int.reduceBEq, n0]
  · have b0 : (b != 0) = true := by simp [hb]
    simp only [walk, Nat.reduceLT, Nat.reduceBEq, Nat.reduceAdd, Nat.reduceLeDiff, reduceIte, Int.reduceLT, Int.reduceLE, Int.reduceEq, Int.reduceToNat, Int.reduceBEq, b0]
    refine callWp_of (h4 s1 b) ?_
    simp only [walk, Nat.reduceLT, Nat.reduceBEq, Nat.reduceAdd, Nat.reduceLeDiff, reduceIte, Int.reduceLT, Int.reduceLE, Int.reduceEq, Int.reduceToNat, Int.reduceBEq]
    rw [if_pos hb]
end
end Go.AR
