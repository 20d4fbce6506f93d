import Derived.Test.YtcpflnhmdpfdkaaK01
import Derived.Test.YtcpflnhmdpfdkaaCrc
import Derived.Test.YtcpflnhmdpfdkaaBase
set_option linter.all false
/-! Sums: CRC-32: what the functions give. -/
namespace Go.AR
open Go
section
variable {C : CallRel} {F : Nat → FuncId}

abbrev u32P (c : BitVec 32) : PV := .int .u32 c.toNat
/-- The table, as numbers. -/
def tab : List Int := (List.range 16).map fun i => ((bitN 4 (BitVec.ofNat 32 i)).toNat : Int)
def S_table (R : Rel) : Prop := R [] (.val (.agg (tab.map (.int .u32)))) []
def S_more (R : Rel) : Prop := ∀ (n : BitVec 32) (l : List UInt8), l.length ≤ 9223372036854775807 → R [.v (u32P n), .v (.str l)] (.val (u32P (more n l))) []
def S_of (R : Rel) : Prop := ∀ (l : List UInt8), l.length ≤ 9223372036854775807 → R [.v (.str l)] (.val (u32P (more 0 l))) []

theorem g_sum_table : S_table ((c_sum_table F).gives C) := by
  refine gives_of rfl ?_
  unfold c_sum_table
  simp only [walk, Nat.reduceLT, Nat.reduceBEq, Nat.reduceAdd, Nat.reduceLeDiff, reduceIte, Int.reduceLT, Int.reduceLE, Int.reduceEq, Int.reduceToNat, Int.reduceBEq]
  refine awp_loop_ind (X := Nat × List Int) (fun x => ⟨[(0, .lp 0 0), (1, .lp 1 0), (4, .val (.int .i64 x.1))],
      [(0, .cells (List.replicate 16 (.val (.int .u32 0)))), (1, .cells ((x.2.map (.int .u32)).map .val))]⟩)
    (fun x => x.1 ≤ 16 ∧ x.2.length = 16 ∧ ∀ j, j < x.1 → x.2[j]? = tab[j]?) (fun x => 16 - x.1) (0, List.replicate 16 0) ⟨by omega, rfl, by simp⟩ rfl ?_
  rintro R ⟨i, c⟩ ⟨hi, hc, hj⟩ ih
  simp only at hi hc hj ih ⊢
  simp only [walk, Nat.reduceLT, Nat.reduceBEq, Nat.reduceAdd, Nat.reduceLeDiff, reduceIte, Int.reduceLT, Int.reduceLE, Int.reduceEq, Int.reduceToNat, Int.reduceBEq]
  by_cases h : i = 16
  · have h1 : ¬ ((i : Int) < 16) := by omega
    simp only [h1, walk, Nat.reduceLT, Nat.reduceBEq, Nat.reduceAdd, Nat.reduceLeDiff, reduceIte, Int.reduceLT, Int.reduceLE, Int.reduceEq, Int.reduceToNat, Int.reduceBEq, hc]
    have e : c = tab := List.ext_getElem? fun j => by
      by_cases hj' : j < 16
      · exact hj j (by omega)
      · rw [List.getElem?_eq_none (by omega), List.getElem?_eq_none (by simp [tab]; omega)]
    rw [e]
  · have h1 : ((i : Int) < 16) := by omega
    simp only [h1, walk, Nat.reduceLT, Nat.reduceBEq, Nat.reduceAdd, Nat.reduceLeDiff, reduceIte, Int.reduceLT, Int.reduceLE, Int.reduceEq, Int.reduceToNat, Int.reduceBEq, hc]
    refine awp_loop_ind (X := Nat) (fun k => ⟨[(0, .lp 0 0), (1, .lp 1 0), (2, .val (.int .i64 i)), (3, .val (u32P (bitN k (BitVec.ofNat 32 i)))), (4, .val (.int .i64 i)), (5, .val (.bool true)), (9, .val (.int .i64 k))],
      [(0, .cells (List.replicate 16 (.val (.int .u32 0)))), (1, .cells ((c.map (.int .u32)).map .val))]⟩) (fun k => k ≤ 4) (fun k => 4 - k) 0 (by omega) ?_ ?_
    · rw [wrap_u32]; simp [bitN]
    intro R' k hk ih'
    simp only [walk, Nat.reduceLT, Nat.reduceBEq, Nat.reduceAdd, Nat.reduceLeDiff, reduceIte, Int.reduceLT, Int.reduceLE, Int.reduceEq, Int.reduceToNat, Int.reduceBEq]
    by_cases h4 : k = 4
    · have h2 : ¬ ((k : Int) < 4) := by omega
      have h3 : i < 16 := by omega
      simp only [h1, h2, h3, walk, Nat.reduceLT, Nat.reduceBEq, Nat.reduceAdd, Nat.reduceLeDiff, reduceIte, Int.reduceLT, Int.reduceLE, Int.reduceEq, Int.reduceToNat, Int.reduceBEq, hc]
      rw [wrap64 (by omega) (by omega)]
      refine ih (i + 1, c.set i _) ⟨by simp only; omega, by simpa using hc, fun j hji => ?_⟩ (by simp only; omega)
      simp only at hji ⊢
      rw [List.getElem?_set]
      split
      · rename_i e; subst e; subst h4
        rw [if_pos (by omega)]
        simp only [tab, List.getElem?_map]
        rw [List.getElem?_range (by omega)]
        rfl
      · exact hj j (by omega)
    · have h2 : ((k : Int) < 4) := by omega
      simp only [h2, walk, Nat.reduceLT, Nat.reduceBEq, Nat.reduceAdd, Nat.reduceLeDiff, reduceIte, Int.reduceLT, Int.reduceLE, Int.reduceEq, Int.reduceToNat, Int.reduceBEq, u32_and1, u32_shr1, u32_xorp]
      have next : ∀ c', c' = bitN (k + 1) (BitVec.ofNat 32 i) → bitS (bitN k (BitVec.ofNat 32 i)) = c' := fun c' e => by rw [e, bitN_succ]
      by_cases h5 : bitN k (BitVec.ofNat 32 i) &&& 1#32 = 1#32
      · have h6 : (((bitN k (BitVec.ofNat 32 i) &&& 1#32).toNat : Int) == 1) = true := u32_eq1.2 h5
        simp only [h6, walk, Nat.reduceLT, Nat.reduceBEq, Nat.reduceAdd, Nat.reduceLeDiff, reduceIte, Int.reduceLT, Int.reduceLE, Int.reduceEq, Int.reduceToNat, Int.reduceBEq, u32_and1, u32_shr1, u32_xorp]
        rw [wrap64 (by omega) (by omega)]
        have := ih' (k + 1) (by omega) (by omega)
        rw [← next _ rfl] at this
        unfold bitS at this
        rw [if_pos h5] at this
        exact this
      · have h6 : (((bitN k (BitVec.ofNat 32 i) &&& 1#32).toNat : Int) == 1) = false := by
          rw [← Bool.not_eq_true]; exact fun e => h5 (u32_eq1.1 e)
        simp only [h6, walk, Nat.reduceLT, Nat.reduceBEq, Nat.reduceAdd, Nat.reduceLeDiff, reduceIte, Int.reduceLT, Int.reduceLE, Int.reduceEq, Int.reduceToNat, Int.reduceBEq, u32_and1, u32_shr1, u32_xorp]
        rw [wrap64 (by omega) (by omega)]
        have := ih' (k + 1) (by omega) (by omega)
        rw [← next _ rfl] at this
        unfold bitS at this
        rw [if_neg h5] at this
        exact this
theorem tab_len : tab.length = 16 := by simp [tab]
theorem tab_at (c : BitVec 32) : tab[(c &&& 15#32).toNat]? = some ((bitN 4 (c &&& 15#32)).toNat : Int) := by
  have h : (c &&& 15#32).toNat < 16 := by
    rw [BitVec.toNat_and]
    have := Nat.and_le_right (n := c.toNat) (m := 15)
    exact Nat.lt_succ_of_le this
  simp only [tab, List.getElem?_map]
  rw [List.getElem?_range h]
  simp
theorem g_sum_More (hT : S_table (C (F n_sum_table))) : S_more ((c_sum_More F).gives C) := by
  intro n l hl
  refine gives_of rfl ?_
  unfold c_sum_More
  simp only [walk, Nat.reduceLT, Nat.reduceBEq, Nat.reduceAdd, Nat.reduceLeDiff, reduceIte, Int.reduceLT, Int.reduceLE, Int.reduceEq, Int.reduceToNat, Int.reduceBEq]
  refine callWp_of hT ?_
  simp only [walk, Nat.reduceLT, Nat.reduceBEq, Nat.reduceAdd, Nat.reduceLeDiff, reduceIte, Int.reduceLT, Int.reduceLE, Int.reduceEq, Int.reduceToNat, Int.reduceBEq, x_cpl32, tab_len]
  refine awp_loop_ind (X := Nat) (fun i => ⟨[(0, .val (u32P n)), (1, .val (.str l)), (4, .val (.int .u32 0)), (5, .lp 5 0), (6, .val (u32P (crc (~~~n) (l.take i)))), (12, .val (.int .i64 l.length)), (13, .val (.int .i64 i))],
      [(5, .cells ((tab.map (.int .u32)).map .val))]⟩) (fun i => i ≤ l.length) (fun i => l.length - i) 0 (by omega) rfl ?_
  intro R i hi ih
  simp only [walk, Nat.reduceLT, Nat.reduceBEq, Nat.reduceAdd, Nat.reduceLeDiff, reduceIte, Int.reduceLT, Int.reduceLE, Int.reduceEq, Int.reduceToNat, Int.reduceBEq]
  by_cases h : i = l.length
  · have h1 : ¬ ((i : Int) < l.length) := by omega
    simp only [h1, walk, Nat.reduceLT, Nat.reduceBEq, Nat.reduceAdd, Nat.reduceLeDiff, reduceIte, Int.reduceLT, Int.reduceLE, Int.reduceEq, Int.reduceToNat, Int.reduceBEq, x_cpl32]
    rw [h, List.take_length]
    rfl
  · have h1 : ((i : Int) < l.length) := by omega
    have h2 : l[i]? = some (l[i]'(by omega)) := List.getElem?_eq_getElem _
    simp only [h1, h2, walk, Nat.reduceLT, Nat.reduceBEq, Nat.reduceAdd, Nat.reduceLeDiff, reduceIte, Int.reduceLT, Int.reduceLE, Int.reduceEq, Int.reduceToNat, Int.reduceBEq, x_cpl32, u32_and15, u32_shr4, u32_xor, u32_of8, tab_at, and15_lt, nib, nib2]
    rw [wrap64 (by omega) (by omega)]
    have := ih (i + 1) (by omega) (by omega)
    rw [crc_take _ _ (by omega)] at this
    exact this
theorem g_sum_Of (hM : S_more (C (F n_sum_More))) : S_of ((c_sum_Of F).gives C) := by
  intro l hl
  refine gives_of rfl ?_
  unfold c_sum_Of
  simp only [walk, Nat.reduceLT, Nat.reduceBEq, Nat.reduceAdd, Nat.reduceLeDiff, reduceIte, Int.reduceLT, Int.reduceLE, Int.reduceEq, Int.reduceToNat, Int.reduceBEq]
  refine callWp_of (hM 0#32 l hl) ?_
  simp only [walk, Nat.reduceLT, Nat.reduceBEq, Nat.reduceAdd, Nat.reduceLeDiff, reduceIte, Int.reduceLT, Int.reduceLE, Int.reduceEq, Int.reduceToNat, Int.reduceBEq]
  rfl
theorem g_pref01_More : S_more ((c_pref01_More F).gives C) := by
  intro n l hl
  refine gives_of rfl ?_
  unfold c_pref01_More
  simp only [walk, Nat.reduceLT, Nat.reduceBEq, Nat.reduceAdd, Nat.reduceLeDiff, reduceIte, Int.reduceLT, Int.reduceLE, Int.reduceEq, Int.reduceToNat, Int.reduceBEq, u32_xorf]
  refine awp_loop_ind (X := Nat) (fun i => ⟨[(0, .val (u32P n)), (1, .val (.str l)), (4, .val (.int .u32 0)), (5, .val (u32P (crc (~~~n) (l.take i)))), (6, .val (.int .i64 i))], []⟩)
    (fun i => i ≤ l.length) (fun i => l.length - i) 0 (by omega) rfl ?_
  intro R i hi ih
  simp only [walk, Nat.reduceLT, Nat.reduceBEq, Nat.reduceAdd, Nat.reduceLeDiff, reduceIte, Int.reduceLT, Int.reduceLE, Int.reduceEq, Int.reduceToNat, Int.reduceBEq]
  by_cases h : i = l.length
  · have h1 : ¬ ((i : Int) < l.length) := by omega
    simp only [h1, walk, Nat.reduceLT, Nat.reduceBEq, Nat.reduceAdd, Nat.reduceLeDiff, reduceIte, Int.reduceLT, Int.reduceLE, Int.reduceEq, Int.reduceToNat, Int.reduceBEq, u32_xorf]
    rw [h, List.take_length]
    rfl
  · have h1 : ((i : Int) < l.length) := by omega
    have h2 : l[i]? = some (l[i]'(by omega)) := List.getElem?_eq_getElem _
    simp only [h1, h2, walk, Nat.reduceLT, Nat.reduceBEq, Nat.reduceAdd, Nat.reduceLeDiff, reduceIte, Int.reduceLT, Int.reduceLE, Int.reduceEq, Int.reduceToNat, Int.reduceBEq, u32_xor, u32_of8]
    refine awp_loop_ind (X := Nat) (fun k => ⟨[(0, .val (u32P n)), (1, .val (.str l)), (4, .val (.int .u32 0)), (5, .val (u32P (bitN k (crc (~~~n) (l.take i) ^^^ BitVec.ofNat 32 l[i].toNat)))), (6, .val (.int .i64 i)), (7, .val (.int .i64 k)), (14, .val (.bool true))], []⟩)
      (fun k => k ≤ 8) (fun k => 8 - k) 0 (by omega) rfl ?_
    intro R' k hk ih'
    simp only [walk, Nat.reduceLT, Nat.reduceBEq, Nat.reduceAdd, Nat.reduceLeDiff, reduceIte, Int.reduceLT, Int.reduceLE, Int.reduceEq, Int.reduceToNat, Int.reduceBEq]
    generalize hc0 : crc (~~~n) (l.take i) ^^^ BitVec.ofNat 32 l[i].toNat = c0 at ih' ⊢
    by_cases h8 : k = 8
    · have h2 : ¬ ((k : Int) < 8) := by omega
      simp only [h2, walk, Nat.reduceLT, Nat.reduceBEq, Nat.reduceAdd, Nat.reduceLeDiff, reduceIte, Int.reduceLT, Int.reduceLE, Int.reduceEq, Int.reduceToNat, Int.reduceBEq]
      rw [wrap64 (by omega) (by omega)]
      have := ih (i + 1) (by omega) (by omega)
      rw [crc_take _ _ (by omega), byteS, hc0] at this
      rw [h8]
      exact this
    · have h2 : ((k : Int) < 8) := by omega
      simp only [h2, walk, Nat.reduceLT, Nat.reduceBEq, Nat.reduceAdd, Nat.reduceLeDiff, reduceIte, Int.reduceLT, Int.reduceLE, Int.reduceEq, Int.reduceToNat, Int.reduceBEq, u32_rem2, u32_quo2, u32_xorp]
      have := ih' (k + 1) (by omega) (by omega)
      rw [bitN_succ, bitS] at this
      by_cases h5 : bitN k c0 &&& 1#32 = 1#32
      · have h6 : (((bitN k c0 &&& 1#32).toNat : Int) == 1) = true := u32_eq1.2 h5
        simp only [h6, walk, Nat.reduceLT, Nat.reduceBEq, Nat.reduceAdd, Nat.reduceLeDiff, reduceIte, Int.reduceLT, Int.reduceLE, Int.reduceEq, Int.reduceToNat, Int.reduceBEq, u32_xorp]
        rw [wrap64 (by omega) (by omega)]
        rw [if_pos h5] at this
        exact this
      · have h6 : (((bitN k c0 &&& 1#32).toNat : Int) == 1) = false := by
          rw [← Bool.not_eq_true]; exact fun e => h5 (u32_eq1.1 e)
        simp only [h6, walk, Nat.reduceLT, Nat.reduceBEq, Nat.reduceAdd, Nat.reduceLeDiff, reduceIte, Int.reduceLT, Int.reduceLE, Int.reduceEq, Int.reduceToNat, Int.reduceBEq]
        rw [wrap64 (by omega) (by omega)]
        rw [if_neg h5] at this
        exact this
theorem g_pref01_Of (hM : S_more (C (F n_pref01_More))) : S_of ((c_pref01_Of F).gives C) := by
  intro l hl
  refine gives_of rfl ?_
  unfold c_pref01_Of
  simp only [walk, Nat.reduceLT, Nat.reduceBEq, Nat.reduceAdd, Nat.reduceLeDiff, reduceIte, Int.reduceLT, Int.reduceLE, Int.reduceEq, Int.reduceToNat, Int.reduceBEq]
  refine callWp_of (hM 0#32 l hl) ?_
  simp only [walk, Nat.reduceLT, Nat.reduceBEq, Nat.reduceAdd, Nat.reduceLeDiff, reduceIte, Int.reduceLT, Int.reduceLE, Int.reduceEq, Int.reduceToNat, Int.reduceBEq]
  rfl
def bytes4 (c : BitVec 32) : List UInt8 := [UInt8.ofNat c.toNat, UInt8.ofNat (c >>> 8).toNat, UInt8.ofNat (c >>> 16).toNat, UInt8.ofNat (c >>> 24).toNat]
def S_bytes (R : Rel) : Prop := ∀ c : BitVec 32, R [.v (u32P c)] (.val (.str (bytes4 c))) []
theorem g_sum_Bytes : S_bytes ((c_sum_Bytes F).gives C) := by
  intro c
  refine gives_of rfl ?_
  unfold c_sum_Bytes
  simp only [walk, Nat.reduceLT, Nat.reduceBEq, Nat.reduceAdd, Nat.reduceLeDiff, reduceIte, Int.reduceLT, Int.reduceLE, Int.reduceEq, Int.reduceToNat, Int.reduceBEq, u32_shr8, u32_shr16, u32_shr24, u8_of, bytes_cons, bytes_nil]
  rfl
theorem g_pref01_Bytes : S_bytes ((c_pref01_Bytes F).gives C) := by
  intro c
  refine gives_of rfl ?_
  unfold c_pref01_Bytes
  simp only [walk, Nat.reduceLT, Nat.reduceBEq, Nat.reduceAdd, Nat.reduceLeDiff, reduceIte, Int.reduceLT, Int.reduceLE, Int.reduceEq, Int.reduceToNat, Int.reduceBEq]
  refine awp_loop_ind (X := Nat) (fun k => ⟨[(0, .val (u32P (c >>> (8 * k)))), (2, .val (.str [])), (3, .own 1 (bRows ((bytes4 c).take k))), (4, .val (.int .i64 k))], []⟩)
    (fun k => k ≤ 4) (fun k => 4 - k) 0 (by omega) (by simp [bRows]) ?_
  intro R k hk ih
  simp only [walk, Nat.reduceLT, Nat.reduceBEq, Nat.reduceAdd, Nat.reduceLeDiff, reduceIte, Int.reduceLT, Int.reduceLE, Int.reduceEq, Int.reduceToNat, Int.reduceBEq]
  by_cases h4 : k = 4
  · have h2 : ¬ ((k : Int) < 4) := by omega
    simp only [h2, walk, Nat.reduceLT, Nat.reduceBEq, Nat.reduceAdd, Nat.reduceLeDiff, reduceIte, Int.reduceLT, Int.reduceLE, Int.reduceEq, Int.reduceToNat, Int.reduceBEq, bRows_bytes]
    rw [h4]; rfl
  · have h2 : ((k : Int) < 4) := by omega
    have h3 : ((bytes4 c).take k).length + 1 ≤ 140737488355328 := by
      simp only [List.length_take]
      have : (bytes4 c).length = 4 := rfl
      omega
    simp only [h2, h3, walk, Nat.reduceLT, Nat.reduceBEq, Nat.reduceAdd, Nat.reduceLeDiff, reduceIte, Int.reduceLT, Int.reduceLE, Int.reduceEq, Int.reduceToNat, Int.reduceBEq, u32_rem256, u32_quo256, bRows_len, bRows_app]
    rw [wrap64 (by omega) (by omega)]
    have := ih (k + 1) (by omega) (by omega)
    have e1 : c >>> (8 * k) >>> 8 = c >>> (8 * (k + 1)) := by rw [← BitVec.shiftRight_add]; congr 1
    have e2 : (bytes4 c).take (k + 1) = (bytes4 c).take k ++ [UInt8.ofNat (c >>> (8 * k)).toNat] := by
      have hk4 : k < 4 := by omega
      have : ∀ k, k < 4 → (bytes4 c).take (k + 1) = (bytes4 c).take k ++ [UInt8.ofNat (c >>> (8 * k)).toNat] := by
        intro k hk
        rcases k with _ | _ | _ | _ | k
        · simp [bytes4]
        · rfl
        · rfl
        · rfl
        · omega
      exact this k hk4
    rw [e1, ← e2]
    exact this
def S_strstr (R : Rel) (f : List UInt8 → List UInt8) : Prop := ∀ l : List UInt8, l.length ≤ 1000000000 → R [.v (.str l)] (.val (.str (f l))) []
def sealed (l : List UInt8) : List UInt8 := l ++ bytes4 (more 0 l)
theorem bytes4_len (c : BitVec 32) : (bytes4 c).length = 4 := rfl
theorem g_sum_Sealed (hO : S_of (C (F n_sum_Of))) (hB : S_bytes (C (F n_sum_Bytes))) : S_strstr ((c_sum_Sealed F).gives C) sealed := by
  intro l hl
  refine gives_of rfl ?_
  unfold c_sum_Sealed
  simp only [walk, Nat.reduceLT, Nat.reduceBEq, Nat.reduceAdd, Nat.reduceLeDiff, reduceIte, Int.reduceLT, Int.reduceLE, Int.reduceEq, Int.reduceToNat, Int.reduceBEq]
  refine callWp_of (hO l (by omega)) ?_
  simp only [walk, Nat.reduceLT, Nat.reduceBEq, Nat.reduceAdd, Nat.reduceLeDiff, reduceIte, Int.reduceLT, Int.reduceLE, Int.reduceEq, Int.reduceToNat, Int.reduceBEq]
  refine callWp_of (hB _) ?_
  have h1 : l.length ≤ 9223372036854775803 := by omega
  simp only [walk, Nat.reduceLT, Nat.reduceBEq, Nat.reduceAdd, Nat.reduceLeDiff, reduceIte, Int.reduceLT, Int.reduceLE, Int.reduceEq, Int.reduceToNat, Int.reduceBEq]
  rw [bins_add (by simp only [bytes4_len]; omega)]
  simp only [walk, Nat.reduceLT, Nat.reduceBEq, Nat.reduceAdd, Nat.reduceLeDiff, reduceIte, Int.reduceLT, Int.reduceLE, Int.reduceEq, Int.reduceToNat, Int.reduceBEq]
  rfl
def openL (l : List UInt8) : List UInt8 × Bool := if l.length < 4 then ([], false) else if bytes4 (more 0 (l.take (l.length - 4))) = l.drop (l.length - 4) then (l.take (l.length - 4), true) else ([], false)
def S_open (R : Rel) : Prop := ∀ l : List UInt8, l.length ≤ 1000000000 → R [.v (.str l)] (.val (.tup [.str (openL l).1, .bool (openL l).2])) []
theorem g_sum_Open (hO : S_of (C (F n_sum_Of))) (hB : S_bytes (C (F n_sum_Bytes))) : S_open ((c_sum_Open F).gives C) := by
  intro l hl
  refine gives_of rfl ?_
  unfold c_sum_Open openL
  simp only [walk, Nat.reduceLT, Nat.reduceBEq, Nat.reduceAdd, Nat.reduceLeDiff, reduceIte, Int.reduceLT, Int.reduceLE, Int.reduceEq, Int.reduceToNat, Int.reduceBEq]
  rw [wrap64 (by omega) (by omega)]
  by_cases h : l.length < 4
  · have h1 : (l.length : Int) - 4 < 0 := by omega
    simp only [h, h1, walk, Nat.reduceLT, Nat.reduceBEq, Nat.reduceAdd, Nat.reduceLeDiff, reduceIte, Int.reduceLT, Int.reduceLE, Int.reduceEq, Int.reduceToNat, Int.reduceBEq]
  · have h1 : ¬ (l.length : Int) - 4 < 0 := by omega
    have h2 : 0 ≤ (l.length : Int) - 4 := by omega
    have h3 : (l.length : Int) - 4 ≤ l.length := by omega
    have h4 : ((l.length : Int) - 4).toNat = l.length - 4 := by omega
    simp only [h, h1, h2, h3, h4, walk, Nat.reduceLT, Nat.reduceBEq, Nat.reduceAdd, Nat.reduceLeDiff, reduceIte, Int.reduceLT, Int.reduceLE, Int.reduceEq, Int.reduceToNat, Int.reduceBEq]
    refine callWp_of (hO _ (by simp; omega)) ?_
    simp only [walk, Nat.reduceLT, Nat.reduceBEq, Nat.reduceAdd, Nat.reduceLeDiff, reduceIte, Int.reduceLT, Int.reduceLE, Int.reduceEq, Int.reduceToNat, Int.reduceBEq]
    refine callWp_of (hB _) ?_
    simp only [h2, h3, h4, walk, Nat.reduceLT, Nat.reduceBEq, Nat.reduceAdd, Nat.reduceLeDiff, reduceIte, Int.reduceLT, Int.reduceLE, Int.reduceEq, Int.reduceToNat, Int.reduceBEq]
    by_cases he : bytes4 (more 0 (List.take (l.length - 4) l)) = List.drop (l.length - 4) l
    · have e : (bytes4 (more 0 (List.take (l.length - 4) l)) == List.drop (l.length - 4) l) = true := by rw [he]; exact beq_self_eq_true _
      rw [if_pos he]
      simp only [e, h2, h3, h4, walk, Nat.reduceLT, Nat.reduceBEq, Nat.reduceAdd, Nat.reduceLeDiff, reduceIte, Int.reduceLT, Int.reduceLE, Int.reduceEq, Int.reduceToNat, Int.reduceBEq]
    · have e : (bytes4 (more 0 (List.take (l.length - 4) l)) == List.drop (l.length - 4) l) = false := by simpa using he
      rw [if_neg he]
      simp only [e, h2, h3, h4, walk, Nat.reduceLT, Nat.reduceBEq, Nat.reduceAdd, Nat.reduceLeDiff, reduceIte, Int.reduceLT, Int.reduceLE, Int.reduceEq, Int.reduceToNat, Int.reduceBEq]
theorem g_pref01_Open (hO : S_of (C (F n_pref01_Of))) (hB : S_bytes (C (F n_pref01_Bytes))) : S_open ((c_pref01_Open F).gives C) := by
  intro l hl
  refine gives_of rfl ?_
  unfold c_pref01_Open openL
  simp only [walk, Nat.reduceLT, Nat.reduceBEq, Nat.reduceAdd, Nat.reduceLeDiff, reduceIte, Int.reduceLT, Int.reduceLE, Int.reduceEq, Int.reduceToNat, Int.reduceBEq]
  by_cases h : l.length < 4
  · have h1 : (l.length : Int) < 4 := by omega
    simp only [h, h1, walk, Nat.reduceLT, Nat.reduceBEq, Nat.reduceAdd, Nat.reduceLeDiff, reduceIte, Int.reduceLT, Int.reduceLE, Int.reduceEq, Int.reduceToNat, Int.reduceBEq]
  · have h1 : ¬ (l.length : Int) < 4 := by omega
    have h2 : 0 ≤ (l.length : Int) - 4 := by omega
    have h3 : (l.length : Int) - 4 ≤ l.length := by omega
    have h4 : ((l.length : Int) - 4).toNat = l.length - 4 := by omega
    have h5 : IntKind.i64.wrap ((l.length : Int) - 4) = l.length - 4 := wrap64 (by omega) (by omega)
    simp only [h, h1, h2, h3, h4, h5, walk, Nat.reduceLT, Nat.reduceBEq, Nat.reduceAdd, Nat.reduceLeDiff, reduceIte, Int.reduceLT, Int.reduceLE, Int.reduceEq, Int.reduceToNat, Int.reduceBEq]
    refine callWp_of (hO _ (by simp; omega)) ?_
    simp only [walk, Nat.reduceLT, Nat.reduceBEq, Nat.reduceAdd, Nat.reduceLeDiff, reduceIte, Int.reduceLT, Int.reduceLE, Int.reduceEq, Int.reduceToNat, Int.reduceBEq]
    refine callWp_of (hB _) ?_
    have h6 : (l.take (l.length - 4)).length ≤ 9223372036854775803 := by simp; omega
    simp only [h2, h3, h4, walk, Nat.reduceLT, Nat.reduceBEq, Nat.reduceAdd, Nat.reduceLeDiff, reduceIte, Int.reduceLT, Int.reduceLE, Int.reduceEq, Int.reduceToNat, Int.reduceBEq]
    rw [bins_add (by simp only [bytes4_len, List.length_take]; omega)]
    simp only [h2, h3, h4, walk, Nat.reduceLT, Nat.reduceBEq, Nat.reduceAdd, Nat.reduceLeDiff, reduceIte, Int.reduceLT, Int.reduceLE, Int.reduceEq, Int.reduceToNat, Int.reduceBEq]
    by_cases he : bytes4 (more 0 (List.take (l.length - 4) l)) = List.drop (l.length - 4) l
    · have e : (List.take (l.length - 4) l ++ bytes4 (more 0 (List.take (l.length - 4) l)) == l) = true := by rw [he, List.take_append_drop]; exact beq_self_eq_true _
      rw [if_pos he]
      simp only [e, walk, Nat.reduceLT, Nat.reduceBEq, Nat.reduceAdd, Nat.reduceLeDiff, reduceIte, Int.reduceLT, Int.reduceLE, Int.reduceEq, Int.reduceToNat, Int.reduceBEq]
    · have e : (List.take (l.length - 4) l ++ bytes4 (more 0 (List.take (l.length - 4) l)) == l) = false := by
        rw [← Bool.not_eq_true, beq_iff_eq]
        intro h'
        apply he
        have := congrArg (List.drop (l.length - 4)) h'
        rwa [List.drop_left' (by simp)] at this
      rw [if_neg he]
      simp only [e, walk, Nat.reduceLT, Nat.reduceBEq, Nat.reduceAdd, Nat.reduceLeDiff, reduceIte, Int.reduceLT, Int.reduceLE, Int.reduceEq, Int.reduceToNat, Int.reduceBEq]
/-- A text, of which a byte is another one. -/
def changed (l : List UInt8) (at' : Int) (x : UInt8) : List UInt8 := l.mapIdx fun i w => if (i : Int) = at' then w ^^^ x else w
def S_changed (R : Rel) : Prop := ∀ (l : List UInt8) (a : Int) (x : UInt8), l.length ≤ 1000000000 → R [.v (.str l), .v (.int .i64 a), .v (.int .u8 x.toNat)] (.val (.str (changed l a x))) []
theorem changed_take (l : List UInt8) (a : Int) (x : UInt8) {i : Nat} (h : i < l.length) : (changed l a x).take (i + 1) = (changed l a x).take i ++ [if (i : Int) = a then l[i] ^^^ x else l[i]] := by
  have : i < (changed l a x).length := by simp [changed, h]
  rw [List.take_add_one, List.getElem?_eq_getElem this]
  simp [changed]
theorem changed_len (l : List UInt8) (a : Int) (x : UInt8) : (changed l a x).length = l.length := by simp [changed]
theorem g_pref01_Changed : S_changed ((c_pref01_Changed F).gives C) := by
  intro l a x hl
  refine gives_of rfl ?_
  unfold c_pref01_Changed
  simp only [walk, Nat.reduceLT, Nat.reduceBEq, Nat.reduceAdd, Nat.reduceLeDiff, reduceIte, Int.reduceLT, Int.reduceLE, Int.reduceEq, Int.reduceToNat, Int.reduceBEq]
  refine awp_loop_ind (X := Nat) (fun k => ⟨[(0, .val (.str l)), (1, .val (.int .i64 a)), (2, .val (.int .u8 x.toNat)), (6, .val (.str [])), (7, .own 1 (bRows ((changed l a x).take k))), (8, .val (.int .i64 k))], []⟩)
    (fun k => k ≤ l.length) (fun k => l.length - k) 0 (by omega) (by simp [bRows]) ?_
  intro R k hk ih
  simp only [walk, Nat.reduceLT, Nat.reduceBEq, Nat.reduceAdd, Nat.reduceLeDiff, reduceIte, Int.reduceLT, Int.reduceLE, Int.reduceEq, Int.reduceToNat, Int.reduceBEq]
  by_cases h : k = l.length
  · have h1 : ¬ ((k : Int) < l.length) := by omega
    simp only [h1, walk, Nat.reduceLT, Nat.reduceBEq, Nat.reduceAdd, Nat.reduceLeDiff, reduceIte, Int.reduceLT, Int.reduceLE, Int.reduceEq, Int.reduceToNat, Int.reduceBEq, bRows_bytes]
    rw [h, ← changed_len l a x, List.take_length]
  · have h1 : ((k : Int) < l.length) := by omega
    have h2 : l[k]? = some (l[k]'(by omega)) := List.getElem?_eq_getElem _
    have h3 : ((changed l a x).take k).length + 1 ≤ 140737488355328 := by
      simp only [List.length_take, changed_len]; omega
    have := ih (k + 1) (by omega) (by omega)
    rw [changed_take l a x (by omega)] at this
    simp only [h1, h2, walk, Nat.reduceLT, Nat.reduceBEq, Nat.reduceAdd, Nat.reduceLeDiff, reduceIte, Int.reduceLT, Int.reduceLE, Int.reduceEq, Int.reduceToNat, Int.reduceBEq]
    by_cases he : (k : Int) = a
    · have e : ((k : Int) == a) = true := by simpa using he
      rw [if_pos he] at this
      simp only [e, h3, walk, Nat.reduceLT, Nat.reduceBEq, Nat.reduceAdd, Nat.reduceLeDiff, reduceIte, Int.reduceLT, Int.reduceLE, Int.reduceEq, Int.reduceToNat, Int.reduceBEq, u8_xor, bRows_len, bRows_app]
      rw [wrap64 (by omega) (by omega)]
      exact this
    · have e : ((k : Int) == a) = false := by simpa using he
      rw [if_neg he] at this
      simp only [e, h3, walk, Nat.reduceLT, Nat.reduceBEq, Nat.reduceAdd, Nat.reduceLeDiff, reduceIte, Int.reduceLT, Int.reduceLE, Int.reduceEq, Int.reduceToNat, Int.reduceBEq, bRows_len, bRows_app]
      rw [wrap64 (by omega) (by omega)]
      exact this
theorem g_law01_awake (hO : S_of (C (F n_sum_Of))) (hS : S_strstr (C (F n_sum_Sealed)) sealed) : S_yes ((c_plaw01_awake F).gives C) := by
  refine gives_of rfl ?_
  unfold c_plaw01_awake
  simp only [walk, Nat.reduceLT, Nat.reduceBEq, Nat.reduceAdd, Nat.reduceLeDiff, reduceIte, Int.reduceLT, Int.reduceLE, Int.reduceEq, Int.reduceToNat, Int.reduceBEq]
  refine callWp_of (hO [49, 50, 51, 52, 53, 54, 55, 56, 57] (by decide)) ?_
  simp only [walk, Nat.reduceLT, Nat.reduceBEq, Nat.reduceAdd, Nat.reduceLeDiff, reduceIte, Int.reduceLT, Int.reduceLE, Int.reduceEq, Int.reduceToNat, Int.reduceBEq]
  have e1 : (((more 0 [49, 50, 51, 52, 53, 54, 55, 56, 57]).toNat : Int) == 3421780262) = true := by decide +kernel
  have e2 : (sealed [] == [0, 0, 0, 0]) = true := by decide +kernel
  simp only [e1, walk, Nat.reduceLT, Nat.reduceBEq, Nat.reduceAdd, Nat.reduceLeDiff, reduceIte, Int.reduceLT, Int.reduceLE, Int.reduceEq, Int.reduceToNat, Int.reduceBEq]
  refine callWp_of (hS [] (by decide)) ?_
  simp only [e1, e2, walk, Nat.reduceLT, Nat.reduceBEq, Nat.reduceAdd, Nat.reduceLeDiff, reduceIte, Int.reduceLT, Int.reduceLE, Int.reduceEq, Int.reduceToNat, Int.reduceBEq]
end
end Go.AR
