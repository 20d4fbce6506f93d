import Derived.Test.YtcpflnhmdpfdkaaS21c
set_option linter.all false
/-! Chapter 21's laws. -/
namespace Go.AR
open Go
section
variable {C : CallRel} {F : Nat → FuncId}
/-- A frame behind which something stands is cut off. -/
theorem fOf_eq (s : List UInt8) : fOf s = vint s.length ++ s ++ bytes4 (more 0 (vint s.length ++ s)) := rfl
theorem vint_small {n : Nat} (h : n < 128) : (vint n).length = 1 := by rw [vint_lt h]; rfl
theorem cut_fOf (s t : List UInt8) (hs : s.length ≤ 1048576) : fCut (fOf s ++ t) = (s, t, 0) := by
  have e0 : fOf s ++ t = vint s.length ++ (s ++ (bytes4 (more 0 (vint s.length ++ s)) ++ t)) := by rw [fOf_eq]; simp
  have e1 := rI_vint s.length (by omega) (s ++ (bytes4 (more 0 (vint s.length ++ s)) ++ t))
  rw [← e0] at e1
  have n0 : ((0 : Int) ≠ 0) ↔ False := by simp
  unfold fCut
  rw [e1]
  simp only [n0, if_false]
  rw [if_neg (by omega), if_neg (by simp [bytes4_len]; omega)]
  have l1 : (fOf s ++ t).length - (s ++ (bytes4 (more 0 (vint s.length ++ s)) ++ t)).length + ((s.length : Int)).toNat = (vint s.length ++ s).length := by
    rw [e0]; simp
  rw [l1]
  have e2 : fOf s ++ t = (vint s.length ++ s) ++ (bytes4 (more 0 (vint s.length ++ s)) ++ t) := by rw [e0]; simp
  rw [e2, List.take_left, List.drop_left, List.take_left' (bytes4_len _), if_pos rfl]
  simp only [Int.toNat_natCast, Prod.mk.injEq, and_true]
  refine ⟨List.take_left, ?_⟩
  rw [← List.drop_drop, List.drop_left, List.drop_left' (bytes4_len _)]
theorem fOf_len (s : List UInt8) : (fOf s).length = (vint s.length).length + s.length + 4 := by rw [fOf_eq]; simp [bytes4_len]; omega
theorem fOf_ne (s : List UInt8) (t : List UInt8) : fOf s ++ t ≠ [] := fun e => by
  have := congrArg List.length e
  rw [List.length_append, fOf_len] at this
  simp at this
/-- Frames, one behind the other. -/
def frames (l : List (List UInt8)) : List UInt8 := (l.map fOf).flatten
theorem frames_app (l : List (List UInt8)) (s : List UInt8) : frames (l ++ [s]) = frames l ++ fOf s := by simp [frames]
theorem scan_frames : ∀ (l : List (List UInt8)) (t : List UInt8), (∀ s ∈ l, s.length ≤ 1048576) → fScan (frames l ++ t) = (l ++ (fScan t).1, (fScan t).2)
  | [], t, _ => by simp [frames]
  | s :: l, t, h => by
    have hs := h s (by simp)
    have e : frames (s :: l) ++ t = fOf s ++ (frames l ++ t) := by simp [frames]
    have hc := cut_fOf s (frames l ++ t) hs
    rw [e, fScan_step (fOf_ne _ _) (by rw [hc]), hc]
    simp only
    rw [scan_frames l t (fun x hx => h x (by simp [hx]))]
    simp
/-- A frame that is not whole is no frame. -/
theorem scan_vint_torn : ∀ (k i m acc : Nat) (pre : List UInt8) (p : Nat), pre.length = i → m < 128 ^ k → p < (vint m).length → (scanI (pre ++ (vint m).take p) k i acc).2.2 ≠ 0
  | 0, i, m, acc, pre, p, hp, hm, hlt => by simp [scanI]
  | k + 1, i, m, acc, pre, p, hp, hm, hlt => by
    unfold scanI
    cases p with
    | zero => simp [hp]
    | succ p =>
      by_cases h : m < 128
      · rw [vint_lt h] at hlt; simp at hlt
      · rw [vint_ge h] at hlt ⊢
        rw [List.take_succ_cons, List.getElem?_append_right (by omega), hp, Nat.sub_self]
        simp only [List.getElem?_cons_zero]
        have e : (UInt8.ofNat (m % 128 + 128)).toNat = m % 128 + 128 := by simp; omega
        rw [e, if_neg (by omega)]
        have := scan_vint_torn k (i + 1) (m / 128) (acc + (m % 128 + 128 - 128) * 128 ^ i) (pre ++ [UInt8.ofNat (m % 128 + 128)]) p (by simp [hp]) (by rw [Nat.pow_succ] at hm; omega) (by simpa using hlt)
        simpa using this
theorem cut_torn (s : List UInt8) (p : Nat) (hs : s.length ≤ 1048576) (hp : p < (fOf s).length) : (fCut ((fOf s).take p)).2.2 ≠ 0 := by
  rw [fOf_len] at hp
  by_cases h : p < (vint s.length).length
  · have e : (fOf s).take p = (vint s.length).take p := by rw [fOf_eq, List.append_assoc, List.take_append_of_le_length (by omega)]
    rw [e]
    have := scan_vint_torn 8 0 s.length 0 [] p rfl (by omega) h
    have h2 : (rI ((vint s.length).take p) 0).2.2 ≠ 0 := by unfold rI; rw [if_pos rfl]; simpa [readI] using this
    unfold fCut
    rw [if_pos h2]
    exact h2
  · have e : (fOf s).take p = vint s.length ++ (s ++ bytes4 (more 0 (vint s.length ++ s))).take (p - (vint s.length).length) := by
      rw [fOf_eq, List.append_assoc, List.take_append, List.take_of_length_le (by omega)]
    have e1 := rI_vint s.length (by omega) ((s ++ bytes4 (more 0 (vint s.length ++ s))).take (p - (vint s.length).length))
    rw [← e] at e1
    unfold fCut
    rw [e1]
    have n0 : ((0 : Int) ≠ 0) ↔ False := by simp
    simp only [n0, if_false]
    rw [if_neg (by omega), if_pos (by simp [bytes4_len]; omega)]
    simp
/-- How many frames are whole in so many bytes. -/
def torn : List (List UInt8) → Nat → Nat
  | [], _ => 0
  | s :: l, p => if (fOf s).length ≤ p then torn l (p - (fOf s).length) + 1 else 0
theorem scan_torn : ∀ (l : List (List UInt8)) (p : Nat), (∀ s ∈ l, s.length ≤ 1048576) → p ≤ (frames l).length → fScan ((frames l).take p) = (l.take (torn l p), ((frames l).take p).drop (frames (l.take (torn l p))).length) ∧ (frames (l.take (torn l p))).length ≤ p
  | [], p, _, _ => by simp [frames, torn]; rfl
  | s :: l, p, h, hp => by
    have hs := h s (by simp)
    have e : frames (s :: l) = fOf s ++ frames l := by simp [frames]
    unfold torn
    by_cases hle : (fOf s).length ≤ p
    · rw [if_pos hle]
      obtain ⟨ih, il⟩ := scan_torn l (p - (fOf s).length) (fun x hx => h x (by simp [hx])) (by rw [e, List.length_append] at hp; omega)
      have e2 : (frames (s :: l)).take p = fOf s ++ (frames l).take (p - (fOf s).length) := by rw [e, List.take_append, List.take_of_length_le hle]
      have hc := cut_fOf s ((frames l).take (p - (fOf s).length)) hs
      have e3 : frames ((s :: l).take (torn l (p - (fOf s).length) + 1)) = fOf s ++ frames (l.take (torn l (p - (fOf s).length))) := by simp [frames]
      rw [e2, fScan_step (fOf_ne _ _) (by rw [hc]), hc, e3]
      simp only
      rw [ih]
      simp only [List.take_succ_cons, List.length_append]
      refine ⟨?_, by omega⟩
      rw [← List.drop_drop, List.drop_left]
    · rw [if_neg hle]
      have e2 : (frames (s :: l)).take p = (fOf s).take p := by rw [e, List.take_append_of_le_length (by omega)]
      rw [e2]
      simp only [List.take_zero, frames, List.map_nil, List.flatten_nil, List.length_nil, List.drop_zero]
      refine ⟨?_, Nat.zero_le _⟩
      by_cases hp0 : (fOf s).take p = []
      · rw [hp0]; rfl
      · unfold fScan
        rw [scanF_bad hp0 (cut_torn s p hs (by omega))]
theorem torn_le : ∀ (l : List (List UInt8)) (p : Nat), torn l p ≤ l.length
  | [], _ => by simp [torn]
  | s :: l, p => by
    unfold torn
    split
    · have := torn_le l (p - (fOf s).length); simp; omega
    · simp
theorem cut_bad (s : List UInt8) (a : Int) (x : UInt8) (hs : s.length ≤ 1048576) (hx : x ≠ 0) (h0 : ((vint s.length).length : Int) ≤ a) (h1 : a < (fOf s).length) : fCut (changed (fOf s) a x) = ([], [], 5) := by
  have ho := open_changed (pText s) a hx
  have hf : sealed (pText s) = fOf s := rfl
  rw [hf] at ho
  have e0 : changed (fOf s) a x = vint s.length ++ changed (s ++ bytes4 (more 0 (vint s.length ++ s))) (a - (vint s.length).length) x := by
    rw [fOf_eq, List.append_assoc, changed_app, changed_out (vint s.length) a x (.inr h0)]
  have hcl : (changed (fOf s) a x).length = (fOf s).length := changed_len _ _ _
  have hfl := fOf_len s
  have e1 := rI_vint s.length (by omega) (changed (s ++ bytes4 (more 0 (vint s.length ++ s))) (a - (vint s.length).length) x)
  rw [← e0] at e1
  have hbl : (changed (s ++ bytes4 (more 0 (vint s.length ++ s))) (a - (vint s.length).length) x).length = s.length + 4 := by rw [changed_len]; simp [bytes4_len]
  have n0 : ((0 : Int) ≠ 0) ↔ False := by simp
  unfold fCut
  rw [e1]
  simp only [n0, if_false]
  rw [if_neg (by omega), if_neg (by rw [hbl]; omega)]
  have hne : ¬ bytes4 (more 0 ((changed (fOf s) a x).take ((changed (fOf s) a x).length - 4))) = (changed (fOf s) a x).drop ((changed (fOf s) a x).length - 4) := by
    intro e
    unfold openL at ho
    rw [if_neg (by omega), if_pos e] at ho
    simp only at ho
    have : (decide (a < 0) || decide (a ≥ ((fOf s).length : Int))) = false := by
      simp only [Bool.or_eq_false_iff, decide_eq_false_iff_not]; omega
    rw [this] at ho
    cases ho
  have e2 : (changed (fOf s) a x).length - (changed (s ++ bytes4 (more 0 (vint s.length ++ s))) (a - (vint s.length).length) x).length + ((s.length : Int)).toNat = (changed (fOf s) a x).length - 4 := by
    rw [hbl, hcl, Int.toNat_natCast]; omega
  rw [e2]
  have e9 : ((changed (fOf s) a x).drop ((changed (fOf s) a x).length - 4)).take 4 = (changed (fOf s) a x).drop ((changed (fOf s) a x).length - 4) := List.take_of_length_le (by rw [List.length_drop]; omega)
  rw [if_neg (by rw [e9]; exact hne)]
def jOk (l : List (List UInt8)) : Bool := decide (l.length ≤ 20) && l.all fun s => decide (s.length ≤ 500)
def S_joined (R : Rel) : Prop := ∀ l : List (List UInt8), l.length ≤ 9223372036854775807 → R [.v (.sl 1 (tRows l))] (.val (.tup [.str (if jOk l = true then frames l else []), .bool (jOk l)])) []
theorem frames_len : ∀ (l : List (List UInt8)), (∀ s ∈ l, s.length ≤ 500) → (frames l).length ≤ 515 * l.length
  | [], _ => by simp [frames]
  | s :: l, h => by
    have := frames_len l (fun x hx => h x (by simp [hx]))
    have h2 := h s (by simp)
    have h3 := fOf_len s
    have h4 := vint_len 10 s.length (by omega)
    have e : frames (s :: l) = fOf s ++ frames l := by simp [frames]
    rw [e, List.length_append, List.length_cons]
    omega
theorem g_law21_joined (hO : S_fOf (C (F n_frame_Of))) : S_joined ((c_plaw21_joined F).gives C) := by
  intro l hl
  refine gives_of rfl ?_
  unfold c_plaw21_joined
  simp only [walk, Nat.reduceLT, Nat.reduceBEq, Nat.reduceAdd, Nat.reduceLeDiff, reduceIte, Int.reduceLT, Int.reduceLE, Int.reduceEq, Int.reduceToNat, Int.reduceBEq, tRows_len]
  by_cases h20 : (l.length : Int) > 20
  · have e : jOk l = false := by unfold jOk; simp; omega
    simp only [walk, Nat.reduceLT, Nat.reduceBEq, Nat.reduceAdd, Nat.reduceLeDiff, reduceIte, Int.reduceLT, Int.reduceLE, Int.reduceEq, Int.reduceToNat, Int.reduceBEq, tRows_len, h20, e]
  · simp only [walk, Nat.reduceLT, Nat.reduceBEq, Nat.reduceAdd, Nat.reduceLeDiff, reduceIte, Int.reduceLT, Int.reduceLE, Int.reduceEq, Int.reduceToNat, Int.reduceBEq, tRows_len, h20]
    refine awp_loop_ind (X := Nat) (fun i => ⟨[(0, .val (.sl 1 (tRows l))), (2, .val (.str [])), (3, .val (.bool false)), (4, .val (.str (frames (l.take i)))), (5, .val (.int .i64 i)), (8, .val (.bool false))], []⟩)
      (fun i => i ≤ l.length ∧ ∀ s ∈ l.take i, s.length ≤ 500) (fun i => l.length - i) 0 ⟨by omega, by simp⟩ rfl ?_
    rintro R i ⟨hi, hj⟩ ih
    simp only [walk, Nat.reduceLT, Nat.reduceBEq, Nat.reduceAdd, Nat.reduceLeDiff, reduceIte, Int.reduceLT, Int.reduceLE, Int.reduceEq, Int.reduceToNat, Int.reduceBEq, tRows_len]
    by_cases h : i = l.length
    · have h1 : ¬ ((i : Int) < l.length) := by omega
      rw [h, List.take_length] at hj ⊢
      have e : jOk l = true := by
        unfold jOk
        simp only [Bool.and_eq_true, decide_eq_true_eq, List.all_eq_true]
        exact ⟨by omega, hj⟩
      have h1' : ¬ ((l.length : Int) < l.length) := by omega
      simp only [h1', e, walk, Nat.reduceLT, Nat.reduceBEq, Nat.reduceAdd, Nat.reduceLeDiff, reduceIte, Int.reduceLT, Int.reduceLE, Int.reduceEq, Int.reduceToNat, Int.reduceBEq]
    · have h1 : ((i : Int) < l.length) := by omega
      have i0 : (0 : Int) ≤ i := by omega
      have g1 : l[i]? = some (l[i]'(by omega)) := List.getElem?_eq_getElem _
      have ht : l.take (i + 1) = l.take i ++ [l[i]'(by omega)] := by rw [List.take_add_one, g1]; rfl
      have hmem : l[i]'(by omega) ∈ l := List.getElem_mem _
      generalize l[i]'(by omega) = x at g1 ht hmem
      by_cases hx : (x.length : Int) > 500
      · have e : jOk l = false := by
          unfold jOk
          rw [← Bool.not_eq_true, Bool.and_eq_true, List.all_eq_true]
          intro hh
          have := hh.2 x hmem
          simp at this; omega
        simp only [h1, i0, walk, Nat.reduceLT, Nat.reduceBEq, Nat.reduceAdd, Nat.reduceLeDiff, reduceIte, Int.reduceLT, Int.reduceLE, Int.reduceEq, Int.reduceToNat, Int.reduceBEq, tRows_get, g1, hx, e]
      · simp only [h1, i0, walk, Nat.reduceLT, Nat.reduceBEq, Nat.reduceAdd, Nat.reduceLeDiff, reduceIte, Int.reduceLT, Int.reduceLE, Int.reduceEq, Int.reduceToNat, Int.reduceBEq, tRows_get, g1, hx]
        refine callWp_of (hO x (by unfold bigLen; omega)) ?_
        have h5 := frames_len _ hj
        have h6 := fOf_len x
        have h7 := vint_len 10 x.length (by omega)
        simp only [walk, Nat.reduceLT, Nat.reduceBEq, Nat.reduceAdd, Nat.reduceLeDiff, reduceIte, Int.reduceLT, Int.reduceLE, Int.reduceEq, Int.reduceToNat, Int.reduceBEq]
        rw [bins_add (by rw [List.length_take] at h5; omega)]
        simp only [walk, Nat.reduceLT, Nat.reduceBEq, Nat.reduceAdd, Nat.reduceLeDiff, reduceIte, Int.reduceLT, Int.reduceLE, Int.reduceEq, Int.reduceToNat, Int.reduceBEq]
        rw [wrap64 (by omega) (by omega)]
        have := ih (i + 1) ⟨by omega, by rw [ht]; intro s hs; rcases List.mem_append.1 hs with h | h; exact hj s h; simp at h; subst h; omega⟩ (by omega)
        rw [ht, frames_app] at this
        exact this
theorem jOk_iff {l : List (List UInt8)} (h : jOk l = true) : l.length ≤ 20 ∧ ∀ s ∈ l, s.length ≤ 500 := by
  unfold jOk at h
  simpa using h
theorem tP_eq (l : List (List UInt8)) : tP l = .sl 1 (tRows l) := rfl
theorem beqL_self {l : List (List UInt8)} : (l == l) = true := by simp
def S_lawF1 (R : Rel) : Prop := ∀ (s t : List UInt8), R [.v (.str s), .v (.str t)] (.val (.bool true)) []
theorem fScan_num : ∀ (k : Nat) (s : List UInt8), s.length ≤ k → (fScan s).1.length ≤ s.length
  | 0, s, h => by rw [List.eq_nil_of_length_eq_zero (show s.length = 0 by omega), fScan, scanF_nil]; simp
  | k + 1, s, h => by
    by_cases h0 : s = []
    · subst h0; rw [fScan, scanF_nil]; simp
    · by_cases h1 : (fCut s).2.2 = 0
      · rw [fScan_step h0 h1]
        have hr := (fCut_rest h1).2
        have := fScan_num k (fCut s).2.1 (by omega)
        simp only [List.length_cons]; omega
      · rw [fScan, scanF_bad h0 h1]; simp
theorem g_FrameTells (hA : S_yes (C (F n_plaw21_awake))) (h1 : S_fCut (C (F n_frame_Cut))) (h2 : S_fCut (C (F n_pref21_Cut))) (h3 : S_fScan (C (F n_frame_Scan))) (h4 : S_fScan (C (F n_pref21_Scan))) (h5 : S_fOf (C (F n_frame_Of))) (h6 : S_fOf (C (F n_pref21_Of))) (h7 : S_same (C (F n_pref03_Same))) : S_lawF1 ((c_plaw21_FrameTells F).gives C) := by
  intro s t
  refine gives_of rfl ?_
  unfold c_plaw21_FrameTells
  simp only [walk, Nat.reduceLT, Nat.reduceBEq, Nat.reduceAdd, Nat.reduceLeDiff, reduceIte, Int.reduceLT, Int.reduceLE, Int.reduceEq, Int.reduceToNat, Int.reduceBEq]
  by_cases c1 : (s.length : Int) > 2000
  · simp only [walk, Nat.reduceLT, Nat.reduceBEq, Nat.reduceAdd, Nat.reduceLeDiff, reduceIte, Int.reduceLT, Int.reduceLE, Int.reduceEq, Int.reduceToNat, Int.reduceBEq, c1]
    refine callWp_of hA ?_
    simp only [walk, Nat.reduceLT, Nat.reduceBEq, Nat.reduceAdd, Nat.reduceLeDiff, reduceIte, Int.reduceLT, Int.reduceLE, Int.reduceEq, Int.reduceToNat, Int.reduceBEq]
  by_cases c2 : (t.length : Int) > 2000
  · simp only [walk, Nat.reduceLT, Nat.reduceBEq, Nat.reduceAdd, Nat.reduceLeDiff, reduceIte, Int.reduceLT, Int.reduceLE, Int.reduceEq, Int.reduceToNat, Int.reduceBEq, c1, c2]
    refine callWp_of hA ?_
    simp only [walk, Nat.reduceLT, Nat.reduceBEq, Nat.reduceAdd, Nat.reduceLeDiff, reduceIte, Int.reduceLT, Int.reduceLE, Int.reduceEq, Int.reduceToNat, Int.reduceBEq]
  have bs : bigLen s := by unfold bigLen; omega
  have bt : bigLen t := by unfold bigLen; omega
  have hn := fScan_num t.length t (Nat.le_refl _)
  simp only [walk, Nat.reduceLT, Nat.reduceBEq, Nat.reduceAdd, Nat.reduceLeDiff, reduceIte, Int.reduceLT, Int.reduceLE, Int.reduceEq, Int.reduceToNat, Int.reduceBEq, c1, c2]
  refine callWp_of (h1 t bt) ?_
  simp only [walk, Nat.reduceLT, Nat.reduceBEq, Nat.reduceAdd, Nat.reduceLeDiff, reduceIte, Int.reduceLT, Int.reduceLE, Int.reduceEq, Int.reduceToNat, Int.reduceBEq]
  refine callWp_of (h2 t bt) ?_
  simp only [walk, Nat.reduceLT, Nat.reduceBEq, Nat.reduceAdd, Nat.reduceLeDiff, reduceIte, Int.reduceLT, Int.reduceLE, Int.reduceEq, Int.reduceToNat, Int.reduceBEq]
  refine callWp_of (h3 t bt) ?_
  simp only [walk, Nat.reduceLT, Nat.reduceBEq, Nat.reduceAdd, Nat.reduceLeDiff, reduceIte, Int.reduceLT, Int.reduceLE, Int.reduceEq, Int.reduceToNat, Int.reduceBEq]
  refine callWp_of (h4 t bt) ?_
  simp only [walk, Nat.reduceLT, Nat.reduceBEq, Nat.reduceAdd, Nat.reduceLeDiff, reduceIte, Int.reduceLT, Int.reduceLE, Int.reduceEq, Int.reduceToNat, Int.reduceBEq, tP_eq]
  refine callWp_of (h5 s bs) ?_
  simp only [walk, Nat.reduceLT, Nat.reduceBEq, Nat.reduceAdd, Nat.reduceLeDiff, reduceIte, Int.reduceLT, Int.reduceLE, Int.reduceEq, Int.reduceToNat, Int.reduceBEq]
  refine callWp_of (h6 s bs) ?_
  simp only [walk, Nat.reduceLT, Nat.reduceBEq, Nat.reduceAdd, Nat.reduceLeDiff, reduceIte, Int.reduceLT, Int.reduceLE, Int.reduceEq, Int.reduceToNat, Int.reduceBEq, beq_self_eq_true]
  refine callWp_of (h7 _ _ (by omega)) ?_
  simp only [walk, Nat.reduceLT, Nat.reduceBEq, Nat.reduceAdd, Nat.reduceLeDiff, reduceIte, Int.reduceLT, Int.reduceLE, Int.reduceEq, Int.reduceToNat, Int.reduceBEq, beq_self_eq_true]
  refine callWp_of hA ?_
  simp only [walk, Nat.reduceLT, Nat.reduceBEq, Nat.reduceAdd, Nat.reduceLeDiff, reduceIte, Int.reduceLT, Int.reduceLE, Int.reduceEq, Int.reduceToNat, Int.reduceBEq]
def S_lawF2 (R : Rel) : Prop := ∀ l : List (List UInt8), l.length ≤ 9223372036854775807 → R [.v (.sl 1 (tRows l))] (.val (.bool true)) []
theorem g_FrameBack (hA : S_yes (C (F n_plaw21_awake))) (h1 : S_joined (C (F n_plaw21_joined))) (h3 : S_fScan (C (F n_frame_Scan))) (h7 : S_same (C (F n_pref03_Same))) : S_lawF2 ((c_plaw21_FrameBack F).gives C) := by
  intro l hl
  refine gives_of rfl ?_
  unfold c_plaw21_FrameBack
  simp only [walk, Nat.reduceLT, Nat.reduceBEq, Nat.reduceAdd, Nat.reduceLeDiff, reduceIte, Int.reduceLT, Int.reduceLE, Int.reduceEq, Int.reduceToNat, Int.reduceBEq]
  refine callWp_of (h1 l hl) ?_
  cases hj : jOk l
  · simp only [walk, Nat.reduceLT, Nat.reduceBEq, Nat.reduceAdd, Nat.reduceLeDiff, reduceIte, Int.reduceLT, Int.reduceLE, Int.reduceEq, Int.reduceToNat, Int.reduceBEq]
    refine callWp_of hA ?_
    simp only [walk, Nat.reduceLT, Nat.reduceBEq, Nat.reduceAdd, Nat.reduceLeDiff, reduceIte, Int.reduceLT, Int.reduceLE, Int.reduceEq, Int.reduceToNat, Int.reduceBEq]
  · obtain ⟨j1, j2⟩ := jOk_iff hj
    have hf := frames_len l j2
    have hsc := scan_frames l [] (fun s hs => by have := j2 s hs; omega)
    have e0 : fScan ([] : List UInt8) = ([], []) := rfl
    rw [List.append_nil, e0, List.append_nil] at hsc
    simp only [walk, Nat.reduceLT, Nat.reduceBEq, Nat.reduceAdd, Nat.reduceLeDiff, reduceIte, Int.reduceLT, Int.reduceLE, Int.reduceEq, Int.reduceToNat, Int.reduceBEq]
    refine callWp_of (h3 _ (by unfold bigLen; omega)) ?_
    rw [hsc]
    simp only [walk, Nat.reduceLT, Nat.reduceBEq, Nat.reduceAdd, Nat.reduceLeDiff, reduceIte, Int.reduceLT, Int.reduceLE, Int.reduceEq, Int.reduceToNat, Int.reduceBEq, tP_eq, Nat.sub_zero]
    refine callWp_of (h7 _ _ hl) ?_
    simp only [walk, Nat.reduceLT, Nat.reduceBEq, Nat.reduceAdd, Nat.reduceLeDiff, reduceIte, Int.reduceLT, Int.reduceLE, Int.reduceEq, Int.reduceToNat, Int.reduceBEq, beq_self_eq_true]
    refine callWp_of hA ?_
    simp only [walk, Nat.reduceLT, Nat.reduceBEq, Nat.reduceAdd, Nat.reduceLeDiff, reduceIte, Int.reduceLT, Int.reduceLE, Int.reduceEq, Int.reduceToNat, Int.reduceBEq]
def S_lawF3 (R : Rel) : Prop := ∀ (l : List (List UInt8)) (a : Int), l.length ≤ 9223372036854775807 → R [.v (.sl 1 (tRows l)), .v (.int .i64 a)] (.val (.bool true)) []
theorem frames_split (l : List (List UInt8)) {i : Nat} {x : List UInt8} (h : l[i]? = some x) : frames (l.take (i + 1)) = frames (l.take i) ++ fOf x := by
  rw [List.take_add_one, h]
  exact frames_app _ _
theorem torn_drop : ∀ (l : List (List UInt8)) (p i : Nat), i ≤ torn l p → (frames (l.take i)).length ≤ p ∧ torn l p = i + torn (l.drop i) (p - (frames (l.take i)).length)
  | l, p, 0, _ => by simp [frames]
  | [], p, i + 1, h => by simp [torn] at h
  | s :: l, p, i + 1, h => by
    unfold torn at h
    by_cases hle : (fOf s).length ≤ p
    · rw [if_pos hle] at h
      obtain ⟨ih1, ih2⟩ := torn_drop l (p - (fOf s).length) i (by omega)
      have e3 : frames ((s :: l).take (i + 1)) = fOf s ++ frames (l.take i) := by simp [frames]
      rw [e3, List.length_append]
      refine ⟨by omega, ?_⟩
      have : torn (s :: l) p = torn l (p - (fOf s).length) + 1 := by rw [torn, if_pos hle]
      rw [this, ih2, List.drop_succ_cons, show p - ((fOf s).length + (frames (l.take i)).length) = p - (fOf s).length - (frames (l.take i)).length by omega]
      omega
    · rw [if_neg hle] at h; omega
theorem torn_next {l : List (List UInt8)} {p i : Nat} {x : List UInt8} (hi : i ≤ torn l p) (hx : l[i]? = some x) : (frames (l.take i)).length + (fOf x).length ≤ p ↔ i + 1 ≤ torn l p := by
  obtain ⟨h1, h2⟩ := torn_drop l p i hi
  have hlt : i < l.length := (List.getElem?_eq_some_iff.1 hx).1
  have hd : l.drop i = x :: l.drop (i + 1) := by
    rw [List.drop_eq_getElem_cons hlt]; congr 1; exact (List.getElem?_eq_some_iff.1 hx).2
  rw [h2, hd, torn]
  split <;> omega
set_option maxHeartbeats 1000000 in
theorem g_FrameTorn (hA : S_yes (C (F n_plaw21_awake))) (h1 : S_joined (C (F n_plaw21_joined))) (h3 : S_fScan (C (F n_frame_Scan))) (h5 : S_fOf (C (F n_frame_Of))) (h7 : S_same (C (F n_pref03_Same))) : S_lawF3 ((c_plaw21_FrameTorn F).gives C) := by
  intro l a hl
  refine gives_of rfl ?_
  unfold c_plaw21_FrameTorn
  simp only [walk, Nat.reduceLT, Nat.reduceBEq, Nat.reduceAdd, Nat.reduceLeDiff, reduceIte, Int.reduceLT, Int.reduceLE, Int.reduceEq, Int.reduceToNat, Int.reduceBEq]
  refine callWp_of (h1 l hl) ?_
  cases hj : jOk l
  · simp only [walk, Nat.reduceLT, Nat.reduceBEq, Nat.reduceAdd, Nat.reduceLeDiff, reduceIte, Int.reduceLT, Int.reduceLE, Int.reduceEq, Int.reduceToNat, Int.reduceBEq]
    refine callWp_of hA ?_
    simp only [walk, Nat.reduceLT, Nat.reduceBEq, Nat.reduceAdd, Nat.reduceLeDiff, reduceIte, Int.reduceLT, Int.reduceLE, Int.reduceEq, Int.reduceToNat, Int.reduceBEq]
  · obtain ⟨j1, j2⟩ := jOk_iff hj
    have hf := frames_len l j2
    by_cases c1 : a < 0
    · simp only [walk, Nat.reduceLT, Nat.reduceBEq, Nat.reduceAdd, Nat.reduceLeDiff, reduceIte, Int.reduceLT, Int.reduceLE, Int.reduceEq, Int.reduceToNat, Int.reduceBEq, c1]
      refine callWp_of hA ?_
      simp only [walk, Nat.reduceLT, Nat.reduceBEq, Nat.reduceAdd, Nat.reduceLeDiff, reduceIte, Int.reduceLT, Int.reduceLE, Int.reduceEq, Int.reduceToNat, Int.reduceBEq]
    by_cases c2 : a > (frames l).length
    · simp only [walk, Nat.reduceLT, Nat.reduceBEq, Nat.reduceAdd, Nat.reduceLeDiff, reduceIte, Int.reduceLT, Int.reduceLE, Int.reduceEq, Int.reduceToNat, Int.reduceBEq, c1, c2]
      refine callWp_of hA ?_
      simp only [walk, Nat.reduceLT, Nat.reduceBEq, Nat.reduceAdd, Nat.reduceLeDiff, reduceIte, Int.reduceLT, Int.reduceLE, Int.reduceEq, Int.reduceToNat, Int.reduceBEq]
    obtain ⟨p, rfl⟩ : ∃ p : Nat, a = p := ⟨a.toNat, by omega⟩
    have e1 : (0 : Int) ≤ p := by omega
    have e2 : (p : Int) ≤ (frames l).length := by omega
    have hp : p ≤ (frames l).length := by omega
    have htl : ((frames l).take p).length = p := by rw [List.length_take]; omega
    simp only [walk, Nat.reduceLT, Nat.reduceBEq, Nat.reduceAdd, Nat.reduceLeDiff, reduceIte, Int.reduceLT, Int.reduceLE, Int.reduceEq, Int.reduceToNat, Int.reduceBEq, c1, c2, e1, e2]
    refine callWp_of (h3 _ (by unfold bigLen; rw [htl]; omega)) ?_
    obtain ⟨s1, s2⟩ := scan_torn l p (fun s hs => by have := j2 s hs; omega) hp
    rw [s1]
    simp only [walk, Nat.reduceLT, Nat.reduceBEq, Nat.reduceAdd, Nat.reduceLeDiff, reduceIte, Int.reduceLT, Int.reduceLE, Int.reduceEq, Int.reduceToNat, Int.reduceBEq, tP_eq, htl, List.length_drop]
    have w1 : p - (p - (frames (l.take (torn l p))).length) = (frames (l.take (torn l p))).length := by omega
    rw [w1]
    have tl := torn_le l p
    generalize hw : torn l p = w at s2 tl
    refine awp_loop_ind (X := Nat) (fun i => ⟨[(0, .val (.sl 1 (tRows l))), (1, .val (.int .i64 p)), (4, .val (.bool false)), (5, .val (.str (frames l))), (6, .val (.bool true)), (7, .val (.sl 1 (tRows (l.take w)))), (8, .val (.int .i64 (frames (l.take w)).length)), (9, .val (.int .i64 i)), (10, .val (.int .i64 (frames (l.take i)).length)), (27, .val (.bool false))], []⟩)
      (fun i => i ≤ w) (fun i => w - i) 0 (by omega) rfl ?_
    intro R i hi ih
    simp only [walk, Nat.reduceLT, Nat.reduceBEq, Nat.reduceAdd, Nat.reduceLeDiff, reduceIte, Int.reduceLT, Int.reduceLE, Int.reduceEq, Int.reduceToNat, Int.reduceBEq, tRows_len]
    have i0 : (0 : Int) ≤ i := by omega
    have fin : i = w → (i : Int) ≤ l.length := by intro _; omega
    by_cases h : (i : Int) < l.length
    · have g1 : l[i]? = some (l[i]'(by omega)) := List.getElem?_eq_getElem _
      have hmem : l[i]'(by omega) ∈ l := List.getElem_mem _
      generalize l[i]'(by omega) = x at g1 hmem
      have hx := j2 x hmem
      have h6 := fOf_len x
      have h7' := vint_len 10 x.length (by omega)
      have hfi := frames_len (l.take i) (fun s hs => j2 s (List.mem_of_mem_take hs))
      rw [List.length_take] at hfi
      have nx := torn_next (p := p) (x := x) (by rw [hw]; exact hi) g1
      rw [hw] at nx
      have e3 : IntKind.i64.wrap (((frames (l.take i)).length : Int) + (fOf x).length) = (((frames (l.take i)).length + (fOf x).length : Nat) : Int) := wrap64 (by omega) (by omega)
      simp only [h, i0, walk, Nat.reduceLT, Nat.reduceBEq, Nat.reduceAdd, Nat.reduceLeDiff, reduceIte, Int.reduceLT, Int.reduceLE, Int.reduceEq, Int.reduceToNat, Int.reduceBEq, tRows_get, g1]
      refine callWp_of (h5 x (by unfold bigLen; omega)) ?_
      by_cases h8 : (((frames (l.take i)).length + (fOf x).length : Nat) : Int) ≤ p
      · simp only [walk, Nat.reduceLT, Nat.reduceBEq, Nat.reduceAdd, Nat.reduceLeDiff, reduceIte, Int.reduceLT, Int.reduceLE, Int.reduceEq, Int.reduceToNat, Int.reduceBEq, e3, h8, tRows_get, g1, i0]
        refine callWp_of (h5 x (by unfold bigLen; omega)) ?_
        simp only [walk, Nat.reduceLT, Nat.reduceBEq, Nat.reduceAdd, Nat.reduceLeDiff, reduceIte, Int.reduceLT, Int.reduceLE, Int.reduceEq, Int.reduceToNat, Int.reduceBEq, e3]
        rw [wrap64 (by omega) (by omega)]
        have := ih (i + 1) (nx.1 (by omega)) (by have := nx.1 (by omega); omega)
        rw [frames_split l g1, List.length_append] at this
        exact this
      · have hiw : i = w := by
          rcases Nat.lt_or_ge i w with hlt | hge
          · have := nx.2 (by omega); omega
          · omega
        have e4 : (i : Int) ≤ (tRows l).length := by rw [tRows_len]; omega
        subst hiw
        simp only [walk, Nat.reduceLT, Nat.reduceBEq, Nat.reduceAdd, Nat.reduceLeDiff, reduceIte, Int.reduceLT, Int.reduceLE, Int.reduceEq, Int.reduceToNat, Int.reduceBEq, e3, h8, i0, e4]
        have e5 : (tRows l).take i = tRows (l.take i) := by simp [tRows]
        rw [e5]
        refine callWp_of (h7 _ _ (by rw [List.length_take]; omega)) ?_
        simp only [walk, Nat.reduceLT, Nat.reduceBEq, Nat.reduceAdd, Nat.reduceLeDiff, reduceIte, Int.reduceLT, Int.reduceLE, Int.reduceEq, Int.reduceToNat, Int.reduceBEq, beq_self_eq_true]
        refine callWp_of hA ?_
        simp only [walk, Nat.reduceLT, Nat.reduceBEq, Nat.reduceAdd, Nat.reduceLeDiff, reduceIte, Int.reduceLT, Int.reduceLE, Int.reduceEq, Int.reduceToNat, Int.reduceBEq]
    · have hiw : i = w := by omega
      have e4 : (i : Int) ≤ (tRows l).length := by rw [tRows_len]; omega
      subst hiw
      simp only [walk, Nat.reduceLT, Nat.reduceBEq, Nat.reduceAdd, Nat.reduceLeDiff, reduceIte, Int.reduceLT, Int.reduceLE, Int.reduceEq, Int.reduceToNat, Int.reduceBEq, h, i0, e4]
      have e5 : (tRows l).take i = tRows (l.take i) := by simp [tRows]
      rw [e5]
      refine callWp_of (h7 _ _ (by rw [List.length_take]; omega)) ?_
      simp only [walk, Nat.reduceLT, Nat.reduceBEq, Nat.reduceAdd, Nat.reduceLeDiff, reduceIte, Int.reduceLT, Int.reduceLE, Int.reduceEq, Int.reduceToNat, Int.reduceBEq, beq_self_eq_true]
      refine callWp_of hA ?_
      simp only [walk, Nat.reduceLT, Nat.reduceBEq, Nat.reduceAdd, Nat.reduceLeDiff, reduceIte, Int.reduceLT, Int.reduceLE, Int.reduceEq, Int.reduceToNat, Int.reduceBEq]
end
end Go.AR
