import Derived.Test.YtfipbmlnklmjoaaDoorG05
import Derived.Test.YtfipbmlnklmjoaaDoorG09
set_option linter.all false
/-! Names: quoting and splitting. -/
namespace Go.AR
open Go
section
variable {C : CallRel} {F : Nat → FuncId}
def xRows (l : List (List UInt8)) : List (List PV) := l.map fun s => [.str s]
theorem xRows_len (l : List (List UInt8)) : (xRows l).length = l.length := by simp [xRows]
theorem xRows_app (l : List (List UInt8)) (s : List UInt8) : xRows l ++ [[.str s]] = xRows (l ++ [s]) := by simp [xRows]
theorem xRows_flat (l : List (List UInt8)) : (xRows l).flatten = l.map .str := by
  induction l with
  | nil => rfl
  | cons x l ih => simp only [xRows, List.map_cons, List.flatten_cons] at ih ⊢; rw [ih]; rfl
theorem xRows_c (l : List (List UInt8)) : ∀ r ∈ xRows l, r.length = 1 := by
  intro r hr
  simp only [xRows, List.mem_map] at hr
  obtain ⟨u, _, rfl⟩ := hr
  rfl
theorem xRows_one (l : List (List UInt8)) : ∀ p ∈ (xRows l).flatten, p.one = true := by
  intro p hp
  rw [xRows_flat, List.mem_map] at hp
  obtain ⟨u, _, rfl⟩ := hp
  rfl
/-- Where a text's slashes part it. -/
def spl : List UInt8 → List (List UInt8) → List UInt8 → Bool → Option (List (List UInt8))
  | [], out, cur, esc => if esc = true then none else some (out ++ [cur])
  | c :: s, out, cur, esc =>
    if esc = true then (if c ≠ 47 ∧ c ≠ 92 then none else spl s out (cur ++ [c]) false)
    else if c = 92 then spl s out cur true else if c = 47 then spl s (out ++ [cur]) [] false else spl s out (cur ++ [c]) false
def splP : Option (List (List UInt8)) → PV
  | some l => .tup [.sl 1 (xRows l), .bool true]
  | none => .tup [.sl 1 [], .bool false]
def quo (s : List UInt8) : List UInt8 := s.flatMap fun c => if c = 47 ∨ c = 92 then [92, c] else [c]
def S_split (R : Rel) : Prop := ∀ s : List UInt8, s.length ≤ 20000000 → R [.v (.str s)] (.val (splP (spl s [] [] false))) []
def S_quote (R : Rel) : Prop := ∀ s : List UInt8, s.length ≤ 20000000 → R [.v (.str s)] (.val (.str (quo s))) []
theorem e47 (c : UInt8) : ((c.toNat : Int) == 47) = decide (c = 47) := by
  rw [Bool.eq_iff_iff, beq_iff_eq, decide_eq_true_eq]
  constructor
  · intro h; exact UInt8.toNat_inj.1 (by show c.toNat = 47; omega)
  · rintro rfl; rfl
theorem e92 (c : UInt8) : ((c.toNat : Int) == 92) = decide (c = 92) := by
  rw [Bool.eq_iff_iff, beq_iff_eq, decide_eq_true_eq]
  constructor
  · intro h; exact UInt8.toNat_inj.1 (by show c.toNat = 92; omega)
  · rintro rfl; rfl
theorem n47 (c : UInt8) : ((c.toNat : Int) != 47) = decide (¬ c = 47) := by rw [bne, e47]; by_cases h : c = 47 <;> simp [h]
theorem n92 (c : UInt8) : ((c.toNat : Int) != 92) = decide (¬ c = 92) := by rw [bne, e92]; by_cases h : c = 92 <;> simp [h]
theorem take_one (s : List UInt8) (k : Nat) (h : k < s.length) : s.take (k + 1) = s.take k ++ [s[k]] := by rw [List.take_add_one, List.getElem?_eq_getElem h]; rfl
theorem drop_one (s : List UInt8) (k : Nat) (h : k < s.length) : s.drop k = s[k] :: s.drop (k + 1) := by rw [List.drop_eq_getElem_cons h]
theorem cut_one (s : List UInt8) (k : Nat) (h : k < s.length) : (s.drop k).take (k + 1 - k) = [s[k]] := by rw [drop_one s k h, show k + 1 - k = 1 by omega]; rfl
theorem quo_app (a b : List UInt8) : quo (a ++ b) = quo a ++ quo b := by simp [quo]
theorem quo_len (s : List UInt8) : (quo s).length ≤ 2 * s.length := by
  induction s with
  | nil => simp [quo]
  | cons c s ih =>
    have e : quo (c :: s) = quo [c] ++ quo s := quo_app [c] s
    have e2 : (quo [c]).length ≤ 2 := by unfold quo; simp only [List.flatMap_cons, List.flatMap_nil, List.append_nil]; split <;> simp
    rw [e, List.length_append, List.length_cons]; omega
theorem quo_1 {c : UInt8} (h : c = 47 ∨ c = 92) : quo [c] = [92] ++ [c] := by simp [quo, h]
theorem quo_0 {c : UInt8} (h : ¬ (c = 47 ∨ c = 92)) : quo [c] = [c] := by simp [quo, h]
theorem g_pref03_Quote : S_quote ((c_pref03_Quote F).gives C) := by
  intro s hs
  refine gives_of rfl ?_
  unfold c_pref03_Quote
  simp only [walk, Nat.reduceLT, Nat.reduceBEq, Nat.reduceAdd, Nat.reduceLeDiff, reduceIte, Int.reduceLT, Int.reduceLE, Int.reduceEq, Int.reduceToNat, Int.reduceBEq]
  refine awp_loop_ind (X := Nat) (fun k => ⟨[(0, .val (.str s)), (2, .val (.str [])), (3, .val (.str (quo (s.take k)))), (4, .val (.int .i64 k))], []⟩)
    (fun k => k ≤ s.length) (fun k => s.length - k) 0 (by omega) (by simp [quo]) ?_
  rintro R k hk ih
  simp only [walk, Nat.reduceLT, Nat.reduceBEq, Nat.reduceAdd, Nat.reduceLeDiff, reduceIte, Int.reduceLT, Int.reduceLE, Int.reduceEq, Int.reduceToNat, Int.reduceBEq]
  by_cases c : k < s.length
  · have c1 : (k : Int) < s.length := by omega
    have c0 : (0 : Int) ≤ k := by omega
    have e1 : IntKind.i64.wrap ((k : Int) + 1) = ((k + 1 : Nat) : Int) := wrap64 (by omega) (by omega)
    have c2 : (k : Int) ≤ ((k + 1 : Nat) : Int) := by omega
    have c3 : ((k + 1 : Nat) : Int) ≤ s.length := by omega
    have hg := List.getElem?_eq_getElem c
    have hl := quo_len (s.take k)
    rw [List.length_take] at hl
    have step := ih (k + 1) (by omega) (by omega)
    rw [take_one s k c, quo_app] at step
    have hcut := cut_one s k c
    generalize s[k] = x at hg step hcut
    simp only [walk, Nat.reduceLT, Nat.reduceBEq, Nat.reduceAdd, Nat.reduceLeDiff, reduceIte, Int.reduceLT, Int.reduceLE, Int.reduceEq, Int.reduceToNat, Int.reduceBEq, c1, hg, e47]
    by_cases q1 : x = 47
    · simp only [walk, Nat.reduceLT, Nat.reduceBEq, Nat.reduceAdd, Nat.reduceLeDiff, reduceIte, Int.reduceLT, Int.reduceLE, Int.reduceEq, Int.reduceToNat, Int.reduceBEq, decide_eq_true q1]
      rw [bins_add (by simp; omega)]
      simp only [walk, Nat.reduceLT, Nat.reduceBEq, Nat.reduceAdd, Nat.reduceLeDiff, reduceIte, Int.reduceLT, Int.reduceLE, Int.reduceEq, Int.reduceToNat, Int.reduceBEq, e1, c2, c3, hcut]
      rw [bins_add (by simp; omega)]
      simp only [walk, Nat.reduceLT, Nat.reduceBEq, Nat.reduceAdd, Nat.reduceLeDiff, reduceIte, Int.reduceLT, Int.reduceLE, Int.reduceEq, Int.reduceToNat, Int.reduceBEq, e1]
      rw [quo_1 (.inl q1), ← List.append_assoc] at step
      exact step
    · simp only [walk, Nat.reduceLT, Nat.reduceBEq, Nat.reduceAdd, Nat.reduceLeDiff, reduceIte, Int.reduceLT, Int.reduceLE, Int.reduceEq, Int.reduceToNat, Int.reduceBEq, decide_eq_false q1, hg, e92]
      by_cases q2 : x = 92
      · simp only [walk, Nat.reduceLT, Nat.reduceBEq, Nat.reduceAdd, Nat.reduceLeDiff, reduceIte, Int.reduceLT, Int.reduceLE, Int.reduceEq, Int.reduceToNat, Int.reduceBEq, decide_eq_true q2]
        rw [bins_add (by simp; omega)]
        simp only [walk, Nat.reduceLT, Nat.reduceBEq, Nat.reduceAdd, Nat.reduceLeDiff, reduceIte, Int.reduceLT, Int.reduceLE, Int.reduceEq, Int.reduceToNat, Int.reduceBEq, e1, c2, c3, hcut]
        rw [bins_add (by simp; omega)]
        simp only [walk, Nat.reduceLT, Nat.reduceBEq, Nat.reduceAdd, Nat.reduceLeDiff, reduceIte, Int.reduceLT, Int.reduceLE, Int.reduceEq, Int.reduceToNat, Int.reduceBEq, e1]
        rw [quo_1 (.inr q2), ← List.append_assoc] at step
        exact step
      · simp only [walk, Nat.reduceLT, Nat.reduceBEq, Nat.reduceAdd, Nat.reduceLeDiff, reduceIte, Int.reduceLT, Int.reduceLE, Int.reduceEq, Int.reduceToNat, Int.reduceBEq, decide_eq_false q2, e1, c2, c3, hcut]
        rw [bins_add (by simp; omega)]
        simp only [walk, Nat.reduceLT, Nat.reduceBEq, Nat.reduceAdd, Nat.reduceLeDiff, reduceIte, Int.reduceLT, Int.reduceLE, Int.reduceEq, Int.reduceToNat, Int.reduceBEq, e1]
        rw [quo_0 (by simp [q1, q2])] at step
        exact step
  · have c1 : ¬ ((k : Int) < s.length) := by omega
    have e2 : s.take k = s := List.take_of_length_le (by omega)
    simp only [walk, Nat.reduceLT, Nat.reduceBEq, Nat.reduceAdd, Nat.reduceLeDiff, reduceIte, Int.reduceLT, Int.reduceLE, Int.reduceEq, Int.reduceToNat, Int.reduceBEq, c1, e2]
theorem g_pref03_Split : S_split ((c_pref03_Split F).gives C) := by
  intro s hs
  refine gives_of rfl ?_
  unfold c_pref03_Split
  simp only [walk, Nat.reduceLT, Nat.reduceBEq, Nat.reduceAdd, Nat.reduceLeDiff, reduceIte, Int.reduceLT, Int.reduceLE, Int.reduceEq, Int.reduceToNat, Int.reduceBEq]
  refine awp_loop_ind (X := Nat × List (List UInt8) × List UInt8) (fun x => ⟨[(0, .val (.str s)), (2, .own 1 []), (3, .val (.bool false)), (4, .own 1 (xRows x.2.1)), (5, .val (.str x.2.2)), (6, .val (.int .i64 x.1))], []⟩)
    (fun x => x.1 ≤ s.length ∧ x.2.1.length ≤ x.1 ∧ x.2.2.length ≤ x.1 ∧ spl (s.drop x.1) x.2.1 x.2.2 false = spl s [] [] false) (fun x => s.length - x.1) (0, [], []) ⟨by omega, by simp, by simp, rfl⟩ (by simp [xRows]) ?_
  rintro R ⟨k, out, cur⟩ ⟨hk, ho, hc, hJ⟩ ih
  simp only at hk ho hc hJ
  have hb2 : (out.length + 1) * 16 ≤ 140737488355328 := by omega
  simp only [walk, Nat.reduceLT, Nat.reduceBEq, Nat.reduceAdd, Nat.reduceLeDiff, reduceIte, Int.reduceLT, Int.reduceLE, Int.reduceEq, Int.reduceToNat, Int.reduceBEq]
  by_cases c : k < s.length
  · have c1 : (k : Int) < s.length := by omega
    have c0 : (0 : Int) ≤ k := by omega
    have e1 : IntKind.i64.wrap ((k : Int) + 1) = ((k + 1 : Nat) : Int) := wrap64 (by omega) (by omega)
    have c2 : (k : Int) ≤ ((k + 1 : Nat) : Int) := by omega
    have c3 : ((k + 1 : Nat) : Int) ≤ s.length := by omega
    have hg := List.getElem?_eq_getElem c
    have hcut := cut_one s k c
    rw [drop_one s k c] at hJ
    generalize s[k] = x at hg hcut hJ
    simp only [walk, Nat.reduceLT, Nat.reduceBEq, Nat.reduceAdd, Nat.reduceLeDiff, reduceIte, Int.reduceLT, Int.reduceLE, Int.reduceEq, Int.reduceToNat, Int.reduceBEq, c1, hg, e47]
    by_cases q1 : x = 47
    · simp only [walk, Nat.reduceLT, Nat.reduceBEq, Nat.reduceAdd, Nat.reduceLeDiff, reduceIte, Int.reduceLT, Int.reduceLE, Int.reduceEq, Int.reduceToNat, Int.reduceBEq, decide_eq_true q1, xRows_len, hb2, xRows_app, e1]
      refine ih (k + 1, out ++ [cur], []) ⟨by simp only; omega, by simp; omega, by simp, ?_⟩ (by simp only; omega)
      rw [← hJ, spl, if_neg (by simp), if_neg (by rw [q1]; decide), if_pos q1]
    · simp only [walk, Nat.reduceLT, Nat.reduceBEq, Nat.reduceAdd, Nat.reduceLeDiff, reduceIte, Int.reduceLT, Int.reduceLE, Int.reduceEq, Int.reduceToNat, Int.reduceBEq, decide_eq_false q1, hg, e92]
      by_cases q2 : x = 92
      · simp only [walk, Nat.reduceLT, Nat.reduceBEq, Nat.reduceAdd, Nat.reduceLeDiff, reduceIte, Int.reduceLT, Int.reduceLE, Int.reduceEq, Int.reduceToNat, Int.reduceBEq, decide_eq_true q2, e1]
        rw [spl, if_neg (by simp), if_pos q2] at hJ
        by_cases q3 : k + 1 = s.length
        · have q3' : (((k + 1 : Nat) : Int) == (s.length : Int)) = true := by rw [beq_iff_eq]; omega
          rw [List.drop_eq_nil_of_le (by omega), spl, if_pos rfl] at hJ
          simp only [walk, Nat.reduceLT, Nat.reduceBEq, Nat.reduceAdd, Nat.reduceLeDiff, reduceIte, Int.reduceLT, Int.reduceLE, Int.reduceEq, Int.reduceToNat, Int.reduceBEq, q3', ← hJ, splP]
        · have q3' : (((k + 1 : Nat) : Int) == (s.length : Int)) = false := by rw [beq_eq_false_iff_ne]; omega
          have d0 : k + 1 < s.length := by omega
          have d1 : (0 : Int) ≤ ((k + 1 : Nat) : Int) := by omega
          have hg2 := List.getElem?_eq_getElem d0
          have hcut2 := cut_one s (k + 1) d0
          have d2 : ((k + 1 : Nat) : Int) ≤ ((k + 1 + 1 : Nat) : Int) := by omega
          have d3 : ((k + 1 + 1 : Nat) : Int) ≤ s.length := by omega
          have e2 : IntKind.i64.wrap (((k + 1 : Nat) : Int) + 1) = ((k + 1 + 1 : Nat) : Int) := wrap64 (by omega) (by omega)
          rw [drop_one s (k + 1) d0] at hJ
          generalize s[k + 1] = y at hg2 hcut2 hJ
          simp only [walk, Nat.reduceLT, Nat.reduceBEq, Nat.reduceAdd, Nat.reduceLeDiff, reduceIte, Int.reduceLT, Int.reduceLE, Int.reduceEq, Int.reduceToNat, Int.reduceBEq, q3', e1, hg2, n47]
          by_cases q4 : y = 47
          · have d4 : decide (¬ y = 47) = false := decide_eq_false (fun h => h q4)
            simp only [walk, Nat.reduceLT, Nat.reduceBEq, Nat.reduceAdd, Nat.reduceLeDiff, reduceIte, Int.reduceLT, Int.reduceLE, Int.reduceEq, Int.reduceToNat, Int.reduceBEq, d4, d2, d3, e1, e2, hcut2]
            rw [bins_add (by simp; omega)]
            simp only [walk, Nat.reduceLT, Nat.reduceBEq, Nat.reduceAdd, Nat.reduceLeDiff, reduceIte, Int.reduceLT, Int.reduceLE, Int.reduceEq, Int.reduceToNat, Int.reduceBEq, e2]
            refine ih (k + 1 + 1, out, cur ++ [y]) ⟨by simp only; omega, by simp only; omega, by simp; omega, ?_⟩ (by simp only; omega)
            rw [← hJ, spl, if_pos rfl, if_neg (by simp [q4])]
          · have d4 : decide (¬ y = 47) = true := decide_eq_true q4
            simp only [walk, Nat.reduceLT, Nat.reduceBEq, Nat.reduceAdd, Nat.reduceLeDiff, reduceIte, Int.reduceLT, Int.reduceLE, Int.reduceEq, Int.reduceToNat, Int.reduceBEq, d4, e1, hg2, n92]
            by_cases q5 : y = 92
            · have d5 : decide (¬ y = 92) = false := decide_eq_false (fun h => h q5)
              simp only [walk, Nat.reduceLT, Nat.reduceBEq, Nat.reduceAdd, Nat.reduceLeDiff, reduceIte, Int.reduceLT, Int.reduceLE, Int.reduceEq, Int.reduceToNat, Int.reduceBEq, d5, d2, d3, e1, e2, hcut2]
              rw [bins_add (by simp; omega)]
              simp only [walk, Nat.reduceLT, Nat.reduceBEq, Nat.reduceAdd, Nat.reduceLeDiff, reduceIte, Int.reduceLT, Int.reduceLE, Int.reduceEq, Int.reduceToNat, Int.reduceBEq, e2]
              refine ih (k + 1 + 1, out, cur ++ [y]) ⟨by simp only; omega, by simp only; omega, by simp; omega, ?_⟩ (by simp only; omega)
              rw [← hJ, spl, if_pos rfl, if_neg (by simp [q5])]
            · rw [spl, if_pos rfl, if_pos ⟨q4, q5⟩] at hJ
              have d5 : decide (¬ y = 92) = true := decide_eq_true q5
              simp only [walk, Nat.reduceLT, Nat.reduceBEq, Nat.reduceAdd, Nat.reduceLeDiff, reduceIte, Int.reduceLT, Int.reduceLE, Int.reduceEq, Int.reduceToNat, Int.reduceBEq, d5, ← hJ, splP]
      · simp only [walk, Nat.reduceLT, Nat.reduceBEq, Nat.reduceAdd, Nat.reduceLeDiff, reduceIte, Int.reduceLT, Int.reduceLE, Int.reduceEq, Int.reduceToNat, Int.reduceBEq, decide_eq_false q2, c2, c3, e1, hcut]
        rw [bins_add (by simp; omega)]
        simp only [walk, Nat.reduceLT, Nat.reduceBEq, Nat.reduceAdd, Nat.reduceLeDiff, reduceIte, Int.reduceLT, Int.reduceLE, Int.reduceEq, Int.reduceToNat, Int.reduceBEq, e1]
        refine ih (k + 1, out, cur ++ [x]) ⟨by simp only; omega, by simp only; omega, by simp; omega, ?_⟩ (by simp only; omega)
        rw [← hJ, spl, if_neg (by simp), if_neg q2, if_neg q1]
  · have c1 : ¬ ((k : Int) < s.length) := by omega
    rw [List.drop_eq_nil_of_le (by omega), spl, if_neg (by simp)] at hJ
    simp only [walk, Nat.reduceLT, Nat.reduceBEq, Nat.reduceAdd, Nat.reduceLeDiff, reduceIte, Int.reduceLT, Int.reduceLE, Int.reduceEq, Int.reduceToNat, Int.reduceBEq, c1, xRows_len, hb2, xRows_app, ← hJ, splP]
theorem g_name_Split : S_split ((c_name_Split F).gives C) := by
  intro s hs
  refine gives_of rfl ?_
  unfold c_name_Split
  simp only [walk, Nat.reduceLT, Nat.reduceBEq, Nat.reduceAdd, Nat.reduceLeDiff, reduceIte, Int.reduceLT, Int.reduceLE, Int.reduceEq, Int.reduceToNat, Int.reduceBEq]
  refine awp_loop_ind (X := Nat × List (List UInt8) × List UInt8 × Bool) (fun x => ⟨[(0, .val (.str s)), (2, .own 1 []), (3, .val (.bool false)), (4, .exc 1 (xRows (x.2.1 ++ [x.2.2.1]))), (5, .val (.bool x.2.2.2)), (10, .val (.int .i64 s.length)), (11, .val (.int .i64 x.1))], []⟩)
    (fun x => x.1 ≤ s.length ∧ x.2.1.length ≤ x.1 ∧ x.2.2.1.length ≤ x.1 ∧ spl (s.drop x.1) x.2.1 x.2.2.1 x.2.2.2 = spl s [] [] false) (fun x => s.length - x.1) (0, [], [], false) ⟨by omega, by simp, by simp, rfl⟩ (by simp [xRows]) ?_
  rintro R ⟨k, out, cur, esc⟩ ⟨hk, ho, hc, hJ⟩ ih
  simp only at hk ho hc hJ
  simp only [walk, Nat.reduceLT, Nat.reduceBEq, Nat.reduceAdd, Nat.reduceLeDiff, reduceIte, Int.reduceLT, Int.reduceLE, Int.reduceEq, Int.reduceToNat, Int.reduceBEq]
  by_cases c : k < s.length
  · have c1 : (k : Int) < s.length := by omega
    have c0 : (0 : Int) ≤ k := by omega
    have e1 : IntKind.i64.wrap ((k : Int) + 1) = ((k + 1 : Nat) : Int) := wrap64 (by omega) (by omega)
    have hg := List.getElem?_eq_getElem c
    rw [drop_one s k c] at hJ
    generalize s[k] = x at hg hJ
    simp only [walk, Nat.reduceLT, Nat.reduceBEq, Nat.reduceAdd, Nat.reduceLeDiff, reduceIte, Int.reduceLT, Int.reduceLE, Int.reduceEq, Int.reduceToNat, Int.reduceBEq, c1, hg]
    have hne : xRows (out ++ [cur]) ≠ [] := fun h => by have := xRows_len (out ++ [cur]); rw [h] at this; simp at this
    have lrows : (xRows (out ++ [cur])).length = out.length + 1 := by rw [xRows_len]; simp
    have e2 : IntKind.i64.wrap (((out.length + 1 : Nat) : Int) - 1) = (out.length : Int) := by rw [wrap64 (by omega) (by omega)]; omega
    have hb2 : (out.length + 1 + 1) * 16 ≤ 140737488355328 := by omega
    have put : spl (s.drop (k + 1)) out (cur ++ [x]) false = spl s [] [] false → R ⟨[(0, .val (.str s)), (2, .own 1 []), (3, .val (.bool false)), (4, .exc 1 (xRows (out ++ [cur ++ [x]]))), (5, .val (.bool false)), (10, .val (.int .i64 s.length)), (11, .val (.int .i64 ((k + 1 : Nat) : Int)))], []⟩ := fun q =>
      ih (k + 1, out, cur ++ [x], false) ⟨by simp only; omega, by simp only; omega, by simp; omega, q⟩ (by simp only; omega)
    have i0 : (0 : Int) ≤ (out.length : Int) := by omega
    have i1 : (out.length : Int) < ((out.length + 1 : Nat) : Int) := by omega
    have hat : ((xRows (out ++ [cur])).flatten.map TV.val)[out.length]? = some (.val (.str cur)) := by rw [xRows_flat]; simp
    have hby : bytesOf [[.int .u8 (x.toNat : Int)]] = some [x] := by simp [bytesOf]
    have hst : out.length < (xRows (out ++ [cur])).flatten.length := by rw [xRows_flat]; simp
    have hset : ((xRows (out ++ [cur])).flatten.map TV.val).set out.length (.val (.str (cur ++ [x]))) = (xRows (out ++ [cur ++ [x]])).flatten.map TV.val := by rw [xRows_flat, xRows_flat]; simp
    cases esc with
    | true =>
      rw [spl, if_pos rfl] at hJ
      simp only [walk, Nat.reduceLT, Nat.reduceBEq, Nat.reduceAdd, Nat.reduceLeDiff, reduceIte, Int.reduceLT, Int.reduceLE, Int.reduceEq, Int.reduceToNat, Int.reduceBEq, n47, n92]
      by_cases q1 : x = 47
      · have d1 : decide (¬ x = 47) = false := decide_eq_false (fun h => h q1)
        rw [if_neg (fun h => h.1 q1)] at hJ
        simp only [walk, Nat.reduceLT, Nat.reduceBEq, Nat.reduceAdd, Nat.reduceLeDiff, reduceIte, Int.reduceLT, Int.reduceLE, Int.reduceEq, Int.reduceToNat, Int.reduceBEq, d1]
        simp only [walk, Nat.reduceLT, Nat.reduceBEq, Nat.reduceAdd, Nat.reduceLeDiff, reduceIte, Int.reduceLT, Int.reduceLE, Int.reduceEq, Int.reduceToNat, Int.reduceBEq, ne_eq, hne, not_false_eq_true, lrows, e2, i0, i1, hat, hby]
        rw [bins_add (by simp; omega)]
        simp only [walk, Nat.reduceLT, Nat.reduceBEq, Nat.reduceAdd, Nat.reduceLeDiff, reduceIte, Int.reduceLT, Int.reduceLE, Int.reduceEq, Int.reduceToNat, Int.reduceBEq, i0, i1, hst]
        refine closeW_of (C := C) (rows := xRows (out ++ [cur ++ [x]])) hset (xRows_c _) ?_ (xRows_one _) ?_ ?_
        · rw [xRows_len]; simp
        · simp [del, TV.rf]
        simp only [walk, Nat.reduceLT, Nat.reduceBEq, Nat.reduceAdd, Nat.reduceLeDiff, reduceIte, Int.reduceLT, Int.reduceLE, Int.reduceEq, Int.reduceToNat, Int.reduceBEq, e1]
        exact put hJ
      · have d1 : decide (¬ x = 47) = true := decide_eq_true q1
        by_cases q2 : x = 92
        · have d2 : decide (¬ x = 92) = false := decide_eq_false (fun h => h q2)
          rw [if_neg (fun h => h.2 q2)] at hJ
          simp only [walk, Nat.reduceLT, Nat.reduceBEq, Nat.reduceAdd, Nat.reduceLeDiff, reduceIte, Int.reduceLT, Int.reduceLE, Int.reduceEq, Int.reduceToNat, Int.reduceBEq, d1, d2, n92]
          simp only [walk, Nat.reduceLT, Nat.reduceBEq, Nat.reduceAdd, Nat.reduceLeDiff, reduceIte, Int.reduceLT, Int.reduceLE, Int.reduceEq, Int.reduceToNat, Int.reduceBEq, ne_eq, hne, not_false_eq_true, lrows, e2, i0, i1, hat, hby]
          rw [bins_add (by simp; omega)]
          simp only [walk, Nat.reduceLT, Nat.reduceBEq, Nat.reduceAdd, Nat.reduceLeDiff, reduceIte, Int.reduceLT, Int.reduceLE, Int.reduceEq, Int.reduceToNat, Int.reduceBEq, i0, i1, hst]
          refine closeW_of (C := C) (rows := xRows (out ++ [cur ++ [x]])) hset (xRows_c _) ?_ (xRows_one _) ?_ ?_
          · rw [xRows_len]; simp
          · simp [del, TV.rf]
          simp only [walk, Nat.reduceLT, Nat.reduceBEq, Nat.reduceAdd, Nat.reduceLeDiff, reduceIte, Int.reduceLT, Int.reduceLE, Int.reduceEq, Int.reduceToNat, Int.reduceBEq, e1]
          exact put hJ
        · have d2 : decide (¬ x = 92) = true := decide_eq_true q2
          rw [if_pos ⟨q1, q2⟩] at hJ
          simp only [walk, Nat.reduceLT, Nat.reduceBEq, Nat.reduceAdd, Nat.reduceLeDiff, reduceIte, Int.reduceLT, Int.reduceLE, Int.reduceEq, Int.reduceToNat, Int.reduceBEq, d1, d2, n92, ← hJ, splP]
    | false =>
      rw [spl, if_neg (by simp)] at hJ
      by_cases q2 : x = 92
      · rw [if_pos q2] at hJ
        simp only [walk, Nat.reduceLT, Nat.reduceBEq, Nat.reduceAdd, Nat.reduceLeDiff, reduceIte, Int.reduceLT, Int.reduceLE, Int.reduceEq, Int.reduceToNat, Int.reduceBEq, e92, decide_eq_true q2, e1]
        exact ih (k + 1, out, cur, true) ⟨by simp only; omega, by simp only; omega, by simp only; omega, hJ⟩ (by simp only; omega)
      · rw [if_neg q2] at hJ
        by_cases q1 : x = 47
        · rw [if_pos q1] at hJ
          simp only [walk, Nat.reduceLT, Nat.reduceBEq, Nat.reduceAdd, Nat.reduceLeDiff, reduceIte, Int.reduceLT, Int.reduceLE, Int.reduceEq, Int.reduceToNat, Int.reduceBEq, e92, decide_eq_false q2, e47, decide_eq_true q1, lrows, hb2, xRows_app, e1]
          exact ih (k + 1, out ++ [cur], [], false) ⟨by simp only; omega, by simp; omega, by simp, hJ⟩ (by simp only; omega)
        · rw [if_neg q1] at hJ
          simp only [walk, Nat.reduceLT, Nat.reduceBEq, Nat.reduceAdd, Nat.reduceLeDiff, reduceIte, Int.reduceLT, Int.reduceLE, Int.reduceEq, Int.reduceToNat, Int.reduceBEq, e92, decide_eq_false q2, e47, decide_eq_false q1]
          simp only [walk, Nat.reduceLT, Nat.reduceBEq, Nat.reduceAdd, Nat.reduceLeDiff, reduceIte, Int.reduceLT, Int.reduceLE, Int.reduceEq, Int.reduceToNat, Int.reduceBEq, ne_eq, hne, not_false_eq_true, lrows, e2, i0, i1, hat, hby]
          rw [bins_add (by simp; omega)]
          simp only [walk, Nat.reduceLT, Nat.reduceBEq, Nat.reduceAdd, Nat.reduceLeDiff, reduceIte, Int.reduceLT, Int.reduceLE, Int.reduceEq, Int.reduceToNat, Int.reduceBEq, i0, i1, hst]
          refine closeW_of (C := C) (rows := xRows (out ++ [cur ++ [x]])) hset (xRows_c _) ?_ (xRows_one _) ?_ ?_
          · rw [xRows_len]; simp
          · simp [del, TV.rf]
          simp only [walk, Nat.reduceLT, Nat.reduceBEq, Nat.reduceAdd, Nat.reduceLeDiff, reduceIte, Int.reduceLT, Int.reduceLE, Int.reduceEq, Int.reduceToNat, Int.reduceBEq, e1]
          exact put hJ
  · have c1 : ¬ ((k : Int) < s.length) := by omega
    rw [List.drop_eq_nil_of_le (by omega), spl] at hJ
    cases esc with
    | true =>
      rw [if_pos rfl] at hJ
      simp only [walk, Nat.reduceLT, Nat.reduceBEq, Nat.reduceAdd, Nat.reduceLeDiff, reduceIte, Int.reduceLT, Int.reduceLE, Int.reduceEq, Int.reduceToNat, Int.reduceBEq, c1, ← hJ, splP]
    | false =>
      rw [if_neg (by simp)] at hJ
      simp only [walk, Nat.reduceLT, Nat.reduceBEq, Nat.reduceAdd, Nat.reduceLeDiff, reduceIte, Int.reduceLT, Int.reduceLE, Int.reduceEq, Int.reduceToNat, Int.reduceBEq, c1, ← hJ, splP]
end
end Go.AR
