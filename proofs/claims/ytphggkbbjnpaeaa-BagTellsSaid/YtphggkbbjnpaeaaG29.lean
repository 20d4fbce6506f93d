import Derived.Test.YtphggkbbjnpaeaaG27
import Derived.Test.YtphggkbbjnpaeaaG28
import Derived.Test.YtphggkbbjnpaeaaG08
import Derived.Test.YtphggkbbjnpaeaaG04
set_option linter.all false
/-! Names: the rest, and the laws. -/
namespace Go.AR
open Go
section
variable {C : CallRel} {F : Nat → FuncId}
theorem g_pref03_Runes (hC : S_chr (C (F n_pref03_Char))) : S_runes .i64 ((c_pref03_Runes F).gives C) := by
  intro s hs
  refine gives_of rfl ?_
  unfold c_pref03_Runes
  simp only [walk, Nat.reduceLT, Nat.reduceBEq, Nat.reduceAdd, Nat.reduceLeDiff, reduceIte, Int.reduceLT, Int.reduceLE, Int.reduceEq, Int.reduceToNat, Int.reduceBEq]
  refine awp_loop_ind (X := Nat × List Int) (fun x => ⟨[(0, .val (.str s)), (2, .own 1 []), (3, .val (.bool false)), (4, .own 1 (iRows .i64 x.2)), (5, .val (.int .i64 x.1))], []⟩)
    (fun x => x.1 ≤ s.length ∧ x.2.length ≤ x.1 ∧ runes (s.drop x.1) x.2 = runes s []) (fun x => s.length - x.1) (0, []) ⟨by omega, by simp, rfl⟩ (by simp [iRows]) ?_
  rintro R ⟨k, out⟩ ⟨hk, ho, hJ⟩ ih
  simp only at hk ho hJ
  have hb2 : (out.length + 1) * 8 ≤ 140737488355328 := by omega
  simp only [walk, Nat.reduceLT, Nat.reduceBEq, Nat.reduceAdd, Nat.reduceLeDiff, reduceIte, Int.reduceLT, Int.reduceLE, Int.reduceEq, Int.reduceToNat, Int.reduceBEq]
  by_cases c : k < s.length
  · have hne := drop_lt_ne s k c
    have hle := (chr_le (s.drop k)).1
    rw [List.length_drop] at hle
    have c2 : (k : Int) < s.length := by omega
    have c0 : (0 : Int) ≤ k := by omega
    have c1 : (k : Int) ≤ s.length := by omega
    have hcut : (s.drop k).take (s.length - k) = s.drop k := List.take_of_length_le (by rw [List.length_drop]; omega)
    simp only [walk, Nat.reduceLT, Nat.reduceBEq, Nat.reduceAdd, Nat.reduceLeDiff, reduceIte, Int.reduceLT, Int.reduceLE, Int.reduceEq, Int.reduceToNat, Int.reduceBEq, c2, c0, c1, hcut]
    refine callWp_of (hC (s.drop k) (by rw [List.length_drop]; omega)) ?_
    by_cases h0 : (chr (s.drop k)).2 = 0
    · rw [runes_none _ hne h0] at hJ
      have h0' : (((chr (s.drop k)).2 : Int) == 0) = true := by rw [beq_iff_eq]; omega
      simp only [walk, Nat.reduceLT, Nat.reduceBEq, Nat.reduceAdd, Nat.reduceLeDiff, reduceIte, Int.reduceLT, Int.reduceLE, Int.reduceEq, Int.reduceToNat, Int.reduceBEq, h0', ← hJ, runesP]
    · rw [runes_some _ hne h0, List.drop_drop] at hJ
      have h0' : (((chr (s.drop k)).2 : Int) == 0) = false := by rw [beq_eq_false_iff_ne]; omega
      have e1 : IntKind.i64.wrap ((k : Int) + ((chr (s.drop k)).2 : Int)) = ((k + (chr (s.drop k)).2 : Nat) : Int) := by rw [wrap64 (by omega) (by omega)]; omega
      simp only [walk, Nat.reduceLT, Nat.reduceBEq, Nat.reduceAdd, Nat.reduceLeDiff, reduceIte, Int.reduceLT, Int.reduceLE, Int.reduceEq, Int.reduceToNat, Int.reduceBEq, h0', iRows_len, hb2, e1]
      have step := ih (k + (chr (s.drop k)).2, out ++ [((chr (s.drop k)).1 : Int)]) ⟨by simp only; omega, by simp; omega, hJ⟩ (by simp only; omega)
      rw [← iRows_app] at step
      exact step
  · have c1 : ¬ (k : Int) < s.length := by omega
    rw [List.drop_eq_nil_of_le (by omega), runes_nil] at hJ
    simp only [walk, Nat.reduceLT, Nat.reduceBEq, Nat.reduceAdd, Nat.reduceLeDiff, reduceIte, Int.reduceLT, Int.reduceLE, Int.reduceEq, Int.reduceToNat, Int.reduceBEq, c1, ← hJ, runesP]
theorem g_pref03_Right (hR : S_runes .i64 (C (F n_pref03_Runes))) (hM : S_may .i64 (C (F n_pref03_may))) : S_right ((c_pref03_Right F).gives C) := by
  intro s hs
  refine gives_of rfl ?_
  unfold c_pref03_Right
  simp only [walk, Nat.reduceLT, Nat.reduceBEq, Nat.reduceAdd, Nat.reduceLeDiff, reduceIte, Int.reduceLT, Int.reduceLE, Int.reduceEq, Int.reduceToNat, Int.reduceBEq]
  refine callWp_of (hR s hs) ?_
  unfold rightB
  cases hr : runes s [] with
  | none =>
    simp only [walk, Nat.reduceLT, Nat.reduceBEq, Nat.reduceAdd, Nat.reduceLeDiff, reduceIte, Int.reduceLT, Int.reduceLE, Int.reduceEq, Int.reduceToNat, Int.reduceBEq, runesP]
    refine awp_loop_ind (X := Nat) (fun k => ⟨[(0, .val (.str s)), (2, .val (.bool false)), (3, .val (.sl 1 [])), (4, .val (.bool false)), (5, .val (.int .i64 k))], []⟩) (fun k => k = 0) (fun k => k) 0 rfl rfl ?_
    rintro R k rfl ih
    simp only [walk, Nat.reduceLT, Nat.reduceBEq, Nat.reduceAdd, Nat.reduceLeDiff, reduceIte, Int.reduceLT, Int.reduceLE, Int.reduceEq, Int.reduceToNat, Int.reduceBEq]
  | some l =>
    have hl := runes_len s.length s [] l (Nat.le_refl _) hr
    simp only [List.length_nil, Nat.zero_add] at hl
    simp only [walk, Nat.reduceLT, Nat.reduceBEq, Nat.reduceAdd, Nat.reduceLeDiff, reduceIte, Int.reduceLT, Int.reduceLE, Int.reduceEq, Int.reduceToNat, Int.reduceBEq, runesP, iRows_len]
    refine awp_loop_ind (X := Nat) (fun k => ⟨[(0, .val (.str s)), (2, .val (.bool false)), (3, .val (.sl 1 (iRows .i64 l))), (4, .val (.bool true)), (5, .val (.int .i64 k))], []⟩)
      (fun k => k ≤ l.length ∧ (l.take k).all mayB = true) (fun k => l.length - k) 0 ⟨by omega, by simp⟩ rfl ?_
    rintro R k ⟨hk, hJ⟩ ih
    simp only [walk, Nat.reduceLT, Nat.reduceBEq, Nat.reduceAdd, Nat.reduceLeDiff, reduceIte, Int.reduceLT, Int.reduceLE, Int.reduceEq, Int.reduceToNat, Int.reduceBEq, iRows_len]
    by_cases c : k < l.length
    · have c1 : (k : Int) < l.length := by omega
      have c0 : (0 : Int) ≤ k := by omega
      have e1 : IntKind.i64.wrap ((k : Int) + 1) = ((k + 1 : Nat) : Int) := wrap64 (by omega) (by omega)
      have hg := iRows_get .i64 l k c
      simp only [walk, Nat.reduceLT, Nat.reduceBEq, Nat.reduceAdd, Nat.reduceLeDiff, reduceIte, Int.reduceLT, Int.reduceLE, Int.reduceEq, Int.reduceToNat, Int.reduceBEq, c1, hg]
      refine callWp_of (hM l[k]) ?_
      by_cases hm : mayB l[k] = true
      · simp only [walk, Nat.reduceLT, Nat.reduceBEq, Nat.reduceAdd, Nat.reduceLeDiff, reduceIte, Int.reduceLT, Int.reduceLE, Int.reduceEq, Int.reduceToNat, Int.reduceBEq, hm, e1]
        refine ih (k + 1) ⟨by omega, ?_⟩ (by omega)
        rw [List.take_add_one, List.getElem?_eq_getElem c, List.all_append, hJ]
        simp [hm]
      · have hf : l.all mayB = false := by
          rw [Bool.eq_false_iff]
          intro h
          exact hm (List.all_eq_true.1 h _ (List.getElem_mem c))
        simp only [walk, Nat.reduceLT, Nat.reduceBEq, Nat.reduceAdd, Nat.reduceLeDiff, reduceIte, Int.reduceLT, Int.reduceLE, Int.reduceEq, Int.reduceToNat, Int.reduceBEq, hm, hf]
    · have c1 : ¬ (k : Int) < l.length := by omega
      rw [List.take_of_length_le (by omega)] at hJ
      by_cases h1 : 1 ≤ l.length
      · have h1' : (1 : Int) ≤ l.length := by omega
        by_cases h2 : l.length ≤ 24
        · have h2' : (l.length : Int) ≤ 24 := by omega
          simp only [walk, Nat.reduceLT, Nat.reduceBEq, Nat.reduceAdd, Nat.reduceLeDiff, reduceIte, Int.reduceLT, Int.reduceLE, Int.reduceEq, Int.reduceToNat, Int.reduceBEq, c1, hJ, ge_iff_le, iRows_len, h1', h2', h1, h2]
        · have h2' : ¬ (l.length : Int) ≤ 24 := by omega
          simp only [walk, Nat.reduceLT, Nat.reduceBEq, Nat.reduceAdd, Nat.reduceLeDiff, reduceIte, Int.reduceLT, Int.reduceLE, Int.reduceEq, Int.reduceToNat, Int.reduceBEq, c1, hJ, ge_iff_le, iRows_len, h1', h2', h1, h2]
      · have h1' : ¬ (1 : Int) ≤ l.length := by omega
        simp only [walk, Nat.reduceLT, Nat.reduceBEq, Nat.reduceAdd, Nat.reduceLeDiff, reduceIte, Int.reduceLT, Int.reduceLE, Int.reduceEq, Int.reduceToNat, Int.reduceBEq, c1, hJ, ge_iff_le, iRows_len, h1', h1]
theorem xRows_get (l : List (List UInt8)) (i : Nat) (h : i < l.length) : (xRows l)[i]? = some [.str l[i]] := by simp [xRows, h]
end
end Go.AR

/-! Paths, by definition. -/
namespace Go.AR
open Go
/-- Which text stands first. -/
def tcmp (x y : List UInt8) : Int := if Op.bytesLess x y = true then -1 else if x = y then 0 else 1
theorem bl_irrefl : ∀ x : List UInt8, Op.bytesLess x x = false
  | [] => rfl
  | a :: x => by simp [Op.bytesLess, bl_irrefl x]
theorem bl_trans : ∀ x y z : List UInt8, Op.bytesLess x y = true → Op.bytesLess y z = true → Op.bytesLess x z = true
  | _, _, [], _, h => by simp [Op.bytesLess] at h
  | _, [], _ :: _, h, _ => by simp [Op.bytesLess] at h
  | [], _ :: _, _ :: _, _, _ => rfl
  | a :: x, b :: y, c :: z, h, k => by
    simp only [Op.bytesLess, Bool.or_eq_true, decide_eq_true_eq, Bool.and_eq_true, beq_iff_eq] at h k ⊢
    rcases h with h | ⟨rfl, h⟩
    · rcases k with k | ⟨rfl, k⟩
      · exact .inl (UInt8.lt_trans h k)
      · exact .inl h
    · rcases k with k | ⟨rfl, k⟩
      · exact .inl k
      · exact .inr ⟨rfl, bl_trans x y z h k⟩
theorem bl_tri : ∀ x y : List UInt8, Op.bytesLess x y = true ∨ x = y ∨ Op.bytesLess y x = true
  | [], [] => .inr (.inl rfl)
  | [], _ :: _ => .inl rfl
  | _ :: _, [] => .inr (.inr rfl)
  | a :: x, b :: y => by
    simp only [Op.bytesLess, Bool.or_eq_true, decide_eq_true_eq, Bool.and_eq_true, beq_iff_eq, List.cons.injEq]
    rcases Nat.lt_trichotomy a.toNat b.toNat with h | h | h
    · exact .inl (.inl h)
    · have e : a = b := UInt8.toNat_inj.1 h
      rcases bl_tri x y with h1 | h1 | h1
      · exact .inl (.inr ⟨e, h1⟩)
      · exact .inr (.inl ⟨e, h1⟩)
      · exact .inr (.inr (.inr ⟨e.symm, h1⟩))
    · exact .inr (.inr (.inl h))
theorem tcmp_self (x : List UInt8) : tcmp x x = 0 := by simp [tcmp, bl_irrefl]
theorem tcmp_zero {x y : List UInt8} : tcmp x y = 0 ↔ x = y := by
  unfold tcmp
  constructor
  · intro h
    split at h
    · cases h
    · split at h
      · assumption
      · cases h
  · rintro rfl; simp [bl_irrefl]
theorem tcmp_cons (a b : UInt8) (x y : List UInt8) : tcmp (a :: x) (b :: y) = if a = b then tcmp x y else icmp a.toNat b.toNat := by
  unfold tcmp icmp
  simp only [Op.bytesLess, List.cons.injEq]
  by_cases h : a = b
  · subst h
    simp [UInt8.lt_irrefl]
  · rw [if_neg h]
    have hne : a.toNat ≠ b.toNat := fun e => h (UInt8.toNat_inj.1 e)
    by_cases h2 : a < b
    · have : a.toNat < b.toNat := h2
      have h3 : (a.toNat : Int) < b.toNat := by omega
      simp [h2, h3]
    · have : ¬ a.toNat < b.toNat := h2
      have h3 : ¬ (a.toNat : Int) < b.toNat := by omega
      have h4 : (a.toNat : Int) > b.toNat := by omega
      simp only [h2, h, h3, h4]
      simp [h]
/-- Which path stands first: part by part. -/
def pCmp : List (List UInt8) → List (List UInt8) → Int
  | [], [] => 0
  | [], _ :: _ => -1
  | _ :: _, [] => 1
  | x :: a, y :: b => if tcmp x y ≠ 0 then tcmp x y else pCmp a b
theorem pCmp_zero : ∀ {a b}, pCmp a b = 0 ↔ a = b
  | [], [] => by simp [pCmp]
  | [], _ :: _ => by simp [pCmp]
  | _ :: _, [] => by simp [pCmp]
  | x :: a, y :: b => by
    simp only [pCmp, List.cons.injEq]
    by_cases h : tcmp x y = 0
    · rw [if_neg (by simp [h]), pCmp_zero]
      simp [tcmp_zero.1 h]
    · rw [if_pos h]
      constructor
      · intro h2; exact absurd h2 h
      · rintro ⟨rfl, _⟩; exact absurd (tcmp_self x) h
/-- A path begins with another one. -/
def under (p above : List (List UInt8)) : Bool := decide (above.length ≤ p.length) && (p.take above.length == above)
def pCheck (p : List (List UInt8)) : Int := if p.length = 0 then 8 else if 8 < p.length then 9 else if p.all rightB = true then 0 else 8
def pShort (p : List (List UInt8)) : Bool := decide (p.length ≤ 12) && p.all fun s => decide (s.length ≤ 120)
end Go.AR

/-! Paths. -/
namespace Go.AR
open Go
section
variable {C : CallRel} {F : Nat → FuncId}
abbrev ptP (p : List (List UInt8)) : PV := .sl 1 (xRows p)
def S_ints (R : Rel) : Prop := ∀ x y : Int, R [.v (.int .i64 x), .v (.int .i64 y)] (.val (.int .i64 (icmp x y))) []
def S_tcmp (R : Rel) : Prop := ∀ x y : List UInt8, x.length ≤ 20000000 → y.length ≤ 20000000 → R [.v (.str x), .v (.str y)] (.val (.int .i64 (tcmp x y))) []
/-- Paths that fit. -/
def pOk (p : List (List UInt8)) : Prop := p.length ≤ 2000000 ∧ ∀ s ∈ p, s.length ≤ 20000000
def S_pCmp (R : Rel) : Prop := ∀ a b, pOk a → pOk b → R [.v (ptP a), .v (ptP b)] (.val (.int .i64 (pCmp a b))) []
def S_pSame (R : Rel) : Prop := ∀ a b, pOk a → R [.v (ptP a), .v (ptP b)] (.val (.bool (a == b))) []
def S_pCheck (R : Rel) : Prop := ∀ p, pOk p → R [.v (ptP p)] (.val (.int .i64 (pCheck p))) []
def S_pShort (R : Rel) : Prop := ∀ p, R [.v (ptP p)] (.val (.bool (pShort p))) []
theorem g_pref09_ints : S_ints ((c_pref09_ints F).gives C) := by
  intro x y
  refine gives_of rfl ?_
  unfold c_pref09_ints icmp
  simp only [walk, Nat.reduceLT, Nat.reduceBEq, Nat.reduceAdd, Nat.reduceLeDiff, reduceIte, Int.reduceLT, Int.reduceLE, Int.reduceEq, Int.reduceToNat, Int.reduceBEq]
  by_cases h1 : x < y
  · simp only [walk, Nat.reduceLT, Nat.reduceBEq, Nat.reduceAdd, Nat.reduceLeDiff, reduceIte, Int.reduceLT, Int.reduceLE, Int.reduceEq, Int.reduceToNat, Int.reduceBEq, h1]
  · by_cases h2 : x > y <;> simp only [walk, Nat.reduceLT, Nat.reduceBEq, Nat.reduceAdd, Nat.reduceLeDiff, reduceIte, Int.reduceLT, Int.reduceLE, Int.reduceEq, Int.reduceToNat, Int.reduceBEq, h1, h2]
theorem icmp_nat (x y : Nat) : icmp (x : Int) y = if x < y then -1 else if y < x then 1 else 0 := by
  unfold icmp
  by_cases h1 : x < y
  · rw [if_pos h1, if_pos (by omega)]
  · rw [if_neg h1, if_neg (by omega)]
    by_cases h2 : y < x
    · rw [if_pos h2, if_pos (by omega)]
    · rw [if_neg h2, if_neg (by omega)]
theorem tcmp_end (x y : List UInt8) (h : x = [] ∨ y = []) : tcmp x y = icmp x.length y.length := by
  rw [icmp_nat]
  rcases h with rfl | rfl
  · cases y with
    | nil => simp [tcmp_self]
    | cons b y => simp [tcmp, Op.bytesLess]
  · cases x with
    | nil => simp [tcmp_self]
    | cons b y => simp [tcmp, Op.bytesLess]
theorem icmp_sub (x y k : Nat) (hx : k ≤ x) (hy : k ≤ y) : icmp ((x - k : Nat) : Int) ((y - k : Nat) : Int) = icmp x y := by
  rw [icmp_nat, icmp_nat]
  by_cases h1 : x < y
  · rw [if_pos h1, if_pos (by omega)]
  · rw [if_neg h1, if_neg (by omega)]
    by_cases h2 : y < x
    · rw [if_pos h2, if_pos (by omega)]
    · rw [if_neg h2, if_neg (by omega)]
theorem g_pref09_Texts (hI : S_ints (C (F n_pref09_ints))) : S_tcmp ((c_pref09_Texts F).gives C) := by
  intro x y hx hy
  refine gives_of rfl ?_
  unfold c_pref09_Texts
  simp only [walk, Nat.reduceLT, Nat.reduceBEq, Nat.reduceAdd, Nat.reduceLeDiff, reduceIte, Int.reduceLT, Int.reduceLE, Int.reduceEq, Int.reduceToNat, Int.reduceBEq]
  refine awp_loop_ind (X := Nat) (fun k => ⟨[(0, .val (.str x)), (1, .val (.str y)), (4, .val (.int .i64 0)), (5, .val (.int .i64 k))], []⟩)
    (fun k => k ≤ x.length ∧ k ≤ y.length ∧ tcmp (x.drop k) (y.drop k) = tcmp x y) (fun k => x.length - k) 0 ⟨by omega, by omega, rfl⟩ rfl ?_
  rintro R k ⟨h1, h2, hJ⟩ ih
  simp only [walk, Nat.reduceLT, Nat.reduceBEq, Nat.reduceAdd, Nat.reduceLeDiff, reduceIte, Int.reduceLT, Int.reduceLE, Int.reduceEq, Int.reduceToNat, Int.reduceBEq]
  by_cases c1 : k < x.length
  · have c1' : (k : Int) < x.length := by omega
    by_cases c2 : k < y.length
    · have c2' : (k : Int) < y.length := by omega
      have c0 : (0 : Int) ≤ k := by omega
      have e1 : IntKind.i64.wrap ((k : Int) + 1) = ((k + 1 : Nat) : Int) := wrap64 (by omega) (by omega)
      rw [List.drop_eq_getElem_cons c1, List.drop_eq_getElem_cons c2, tcmp_cons] at hJ
      have hg1 := List.getElem?_eq_getElem c1
      have hg2 := List.getElem?_eq_getElem c2
      generalize x[k] = a at hJ hg1
      generalize y[k] = b at hJ hg2
      have la := a.toNat_lt
      have lb := b.toNat_lt
      simp only [walk, Nat.reduceLT, Nat.reduceBEq, Nat.reduceAdd, Nat.reduceLeDiff, reduceIte, Int.reduceLT, Int.reduceLE, Int.reduceEq, Int.reduceToNat, Int.reduceBEq, c1', c2', hg1, hg2]
      by_cases hab : a = b
      · have hne : ((a.toNat : Int) != (b.toNat : Int)) = false := by rw [hab]; simp
        rw [if_pos hab] at hJ
        simp only [walk, Nat.reduceLT, Nat.reduceBEq, Nat.reduceAdd, Nat.reduceLeDiff, reduceIte, Int.reduceLT, Int.reduceLE, Int.reduceEq, Int.reduceToNat, Int.reduceBEq, hne, e1]
        exact ih (k + 1) ⟨by omega, by omega, hJ⟩ (by omega)
      · have hne : ((a.toNat : Int) != (b.toNat : Int)) = true := by
          rw [bne, Bool.not_eq_true', beq_eq_false_iff_ne]
          intro e
          exact hab (UInt8.toNat_inj.1 (by omega))
        rw [if_neg hab] at hJ
        have w1 : IntKind.i64.wrap (a.toNat : Int) = a.toNat := wrap64 (by omega) (by omega)
        have w2 : IntKind.i64.wrap (b.toNat : Int) = b.toNat := wrap64 (by omega) (by omega)
        simp only [walk, Nat.reduceLT, Nat.reduceBEq, Nat.reduceAdd, Nat.reduceLeDiff, reduceIte, Int.reduceLT, Int.reduceLE, Int.reduceEq, Int.reduceToNat, Int.reduceBEq, hne, hg1, hg2, w1, w2]
        refine callWp_of (hI _ _) ?_
        simp only [walk, Nat.reduceLT, Nat.reduceBEq, Nat.reduceAdd, Nat.reduceLeDiff, reduceIte, Int.reduceLT, Int.reduceLE, Int.reduceEq, Int.reduceToNat, Int.reduceBEq, hJ]
    · have c2' : ¬ (k : Int) < y.length := by omega
      rw [tcmp_end _ _ (.inr (List.drop_eq_nil_of_le (by omega))), List.length_drop, List.length_drop, icmp_sub _ _ _ h1 h2] at hJ
      simp only [walk, Nat.reduceLT, Nat.reduceBEq, Nat.reduceAdd, Nat.reduceLeDiff, reduceIte, Int.reduceLT, Int.reduceLE, Int.reduceEq, Int.reduceToNat, Int.reduceBEq, c1', c2']
      refine callWp_of (hI _ _) ?_
      simp only [walk, Nat.reduceLT, Nat.reduceBEq, Nat.reduceAdd, Nat.reduceLeDiff, reduceIte, Int.reduceLT, Int.reduceLE, Int.reduceEq, Int.reduceToNat, Int.reduceBEq, hJ]
  · have c1' : ¬ (k : Int) < x.length := by omega
    rw [tcmp_end _ _ (.inl (List.drop_eq_nil_of_le (by omega))), List.length_drop, List.length_drop, icmp_sub _ _ _ h1 h2] at hJ
    simp only [walk, Nat.reduceLT, Nat.reduceBEq, Nat.reduceAdd, Nat.reduceLeDiff, reduceIte, Int.reduceLT, Int.reduceLE, Int.reduceEq, Int.reduceToNat, Int.reduceBEq, c1']
    refine callWp_of (hI _ _) ?_
    simp only [walk, Nat.reduceLT, Nat.reduceBEq, Nat.reduceAdd, Nat.reduceLeDiff, reduceIte, Int.reduceLT, Int.reduceLE, Int.reduceEq, Int.reduceToNat, Int.reduceBEq, hJ]
theorem pCmp_end (a b : List (List UInt8)) (h : a = [] ∨ b = []) : pCmp a b = icmp a.length b.length := by
  rw [icmp_nat]
  rcases h with rfl | rfl
  · cases b <;> simp [pCmp]
  · cases a <;> simp [pCmp]
theorem g_pref10_Compare (hT : S_tcmp (C (F n_pref09_Texts))) : S_pCmp ((c_pref10_Compare F).gives C) := by
  intro a b ha hb
  refine gives_of rfl ?_
  unfold c_pref10_Compare
  have hla := ha.1
  have hlb := hb.1
  simp only [walk, Nat.reduceLT, Nat.reduceBEq, Nat.reduceAdd, Nat.reduceLeDiff, reduceIte, Int.reduceLT, Int.reduceLE, Int.reduceEq, Int.reduceToNat, Int.reduceBEq]
  refine awp_loop_ind (X := Nat) (fun k => ⟨[(0, .val (ptP a)), (1, .val (ptP b)), (4, .val (.int .i64 0)), (5, .val (.int .i64 k))], []⟩)
    (fun k => k ≤ a.length ∧ k ≤ b.length ∧ pCmp (a.drop k) (b.drop k) = pCmp a b) (fun k => a.length - k) 0 ⟨by omega, by omega, rfl⟩ rfl ?_
  rintro R k ⟨h1, h2, hJ⟩ ih
  have fin : (¬ k < a.length ∨ ¬ k < b.length) → pCmp a b = if a.length < b.length then -1 else if b.length < a.length then 1 else 0 := by
    intro h
    rw [← hJ, pCmp_end _ _ (h.imp (fun h => List.drop_eq_nil_of_le (by omega)) (fun h => List.drop_eq_nil_of_le (by omega))), List.length_drop, List.length_drop, icmp_sub _ _ _ h1 h2, icmp_nat]
  simp only [walk, Nat.reduceLT, Nat.reduceBEq, Nat.reduceAdd, Nat.reduceLeDiff, reduceIte, Int.reduceLT, Int.reduceLE, Int.reduceEq, Int.reduceToNat, Int.reduceBEq, xRows_len]
  by_cases c1 : k < a.length
  · have c1' : (k : Int) < a.length := by omega
    have c0 : (0 : Int) ≤ k := by omega
    have e1 : IntKind.i64.wrap ((k : Int) + 1) = ((k + 1 : Nat) : Int) := wrap64 (by omega) (by omega)
    by_cases c2 : k < b.length
    · have c2' : (k : Int) < b.length := by omega
      rw [List.drop_eq_getElem_cons c1, List.drop_eq_getElem_cons c2, pCmp] at hJ
      simp only [walk, Nat.reduceLT, Nat.reduceBEq, Nat.reduceAdd, Nat.reduceLeDiff, reduceIte, Int.reduceLT, Int.reduceLE, Int.reduceEq, Int.reduceToNat, Int.reduceBEq, c1', c2', xRows_get a k c1, xRows_len, xRows_get b k c2]
      refine callWp_of (hT _ _ (ha.2 _ (List.getElem_mem c1)) (hb.2 _ (List.getElem_mem c2))) ?_
      by_cases ht : tcmp a[k] b[k] = 0
      · have ht' : (tcmp a[k] b[k] != 0) = false := by simp [ht]
        rw [if_neg (by simp [ht])] at hJ
        simp only [walk, Nat.reduceLT, Nat.reduceBEq, Nat.reduceAdd, Nat.reduceLeDiff, reduceIte, Int.reduceLT, Int.reduceLE, Int.reduceEq, Int.reduceToNat, Int.reduceBEq, ht', e1]
        exact ih (k + 1) ⟨by omega, by omega, hJ⟩ (by omega)
      · have ht' : (tcmp a[k] b[k] != 0) = true := by simp [ht]
        rw [if_pos ht] at hJ
        rw [hJ] at ht'
        simp only [walk, Nat.reduceLT, Nat.reduceBEq, Nat.reduceAdd, Nat.reduceLeDiff, reduceIte, Int.reduceLT, Int.reduceLE, Int.reduceEq, Int.reduceToNat, Int.reduceBEq, hJ, ht']
    · have c2' : ¬ (k : Int) < b.length := by omega
      have fin := fin (.inr c2)
      have h3' : ¬ (a.length : Int) < b.length := by omega
      have h4' : (a.length : Int) > b.length := by omega
      rw [if_neg (by omega), if_pos (by omega)] at fin
      simp only [walk, Nat.reduceLT, Nat.reduceBEq, Nat.reduceAdd, Nat.reduceLeDiff, reduceIte, Int.reduceLT, Int.reduceLE, Int.reduceEq, Int.reduceToNat, Int.reduceBEq, c1', c2', xRows_len, h3', h4', fin]
  · have c1' : ¬ (k : Int) < a.length := by omega
    have fin := fin (.inl c1)
    by_cases h3 : a.length < b.length
    · have h3' : (a.length : Int) < b.length := by omega
      rw [if_pos h3] at fin
      simp only [walk, Nat.reduceLT, Nat.reduceBEq, Nat.reduceAdd, Nat.reduceLeDiff, reduceIte, Int.reduceLT, Int.reduceLE, Int.reduceEq, Int.reduceToNat, Int.reduceBEq, c1', xRows_len, h3', fin]
    · have h3' : ¬ (a.length : Int) < b.length := by omega
      have h4' : ¬ (a.length : Int) > b.length := by omega
      rw [if_neg h3, if_neg (by omega)] at fin
      simp only [walk, Nat.reduceLT, Nat.reduceBEq, Nat.reduceAdd, Nat.reduceLeDiff, reduceIte, Int.reduceLT, Int.reduceLE, Int.reduceEq, Int.reduceToNat, Int.reduceBEq, c1', xRows_len, h3', h4', fin]
theorem g_slices_Equal : S_pSame ((c_slices_Equal_string_string F).gives C) := by
  intro a b ha
  refine gives_of rfl ?_
  unfold c_slices_Equal_string_string
  have hla := ha.1
  simp only [walk, Nat.reduceLT, Nat.reduceBEq, Nat.reduceAdd, Nat.reduceLeDiff, reduceIte, Int.reduceLT, Int.reduceLE, Int.reduceEq, Int.reduceToNat, Int.reduceBEq, xRows_len]
  by_cases hl : a.length = b.length
  · have hl' : ((a.length : Int) != (b.length : Int)) = false := by rw [bne, hl]; simp
    simp only [walk, Nat.reduceLT, Nat.reduceBEq, Nat.reduceAdd, Nat.reduceLeDiff, reduceIte, Int.reduceLT, Int.reduceLE, Int.reduceEq, Int.reduceToNat, Int.reduceBEq, hl', xRows_len]
    refine awp_loop_ind (X := Nat) (fun k => ⟨[(0, .val (ptP a)), (1, .val (ptP b)), (4, .val (.bool false)), (10, .val (.bool false)), (12, .val (.int .i64 a.length)), (13, .val (.int .i64 k))], []⟩)
      (fun k => k ≤ a.length ∧ a.take k = b.take k) (fun k => a.length - k) 0 ⟨by omega, by simp⟩ rfl ?_
    rintro R k ⟨hk, hJ⟩ ih
    simp only [walk, Nat.reduceLT, Nat.reduceBEq, Nat.reduceAdd, Nat.reduceLeDiff, reduceIte, Int.reduceLT, Int.reduceLE, Int.reduceEq, Int.reduceToNat, Int.reduceBEq, xRows_len]
    by_cases c : k < a.length
    · have c1 : (k : Int) < a.length := by omega
      have cb : k < b.length := by omega
      have c0 : (0 : Int) ≤ k := by omega
      have e1 : IntKind.i64.wrap ((k : Int) + 1) = ((k + 1 : Nat) : Int) := wrap64 (by omega) (by omega)
      simp only [walk, Nat.reduceLT, Nat.reduceBEq, Nat.reduceAdd, Nat.reduceLeDiff, reduceIte, Int.reduceLT, Int.reduceLE, Int.reduceEq, Int.reduceToNat, Int.reduceBEq, c1, xRows_get a k c, xRows_get b k cb]
      by_cases he : a[k] = b[k]
      · have he' : (a[k] == b[k]) = true := by rw [beq_iff_eq]; exact he
        simp only [walk, Nat.reduceLT, Nat.reduceBEq, Nat.reduceAdd, Nat.reduceLeDiff, reduceIte, Int.reduceLT, Int.reduceLE, Int.reduceEq, Int.reduceToNat, Int.reduceBEq, he', e1]
        refine ih (k + 1) ⟨by omega, ?_⟩ (by omega)
        rw [List.take_add_one, List.take_add_one, hJ, List.getElem?_eq_getElem c, List.getElem?_eq_getElem cb, he]
      · have he' : (a[k] == b[k]) = false := by rw [beq_eq_false_iff_ne]; exact he
        have hf : (a == b) = false := by
          rw [beq_eq_false_iff_ne]
          rintro rfl
          exact he rfl
        simp only [walk, Nat.reduceLT, Nat.reduceBEq, Nat.reduceAdd, Nat.reduceLeDiff, reduceIte, Int.reduceLT, Int.reduceLE, Int.reduceEq, Int.reduceToNat, Int.reduceBEq, he', hf]
    · have c1 : ¬ (k : Int) < a.length := by omega
      rw [List.take_of_length_le (by omega), List.take_of_length_le (by omega)] at hJ
      subst hJ
      simp only [walk, Nat.reduceLT, Nat.reduceBEq, Nat.reduceAdd, Nat.reduceLeDiff, reduceIte, Int.reduceLT, Int.reduceLE, Int.reduceEq, Int.reduceToNat, Int.reduceBEq, c1, beq_self_eq_true]
  · have hl' : ((a.length : Int) != (b.length : Int)) = true := by
      rw [bne, Bool.not_eq_true', beq_eq_false_iff_ne]; omega
    have hf : (a == b) = false := by
      rw [beq_eq_false_iff_ne]
      rintro rfl
      exact hl rfl
    simp only [walk, Nat.reduceLT, Nat.reduceBEq, Nat.reduceAdd, Nat.reduceLeDiff, reduceIte, Int.reduceLT, Int.reduceLE, Int.reduceEq, Int.reduceToNat, Int.reduceBEq, hl', hf]
theorem g_path_Same (h : S_pSame (C (F n_slices_Equal_string_string))) : S_pSame ((c_path_Same F).gives C) := by
  intro a b ha
  refine gives_of rfl ?_
  unfold c_path_Same
  simp only [walk, Nat.reduceLT, Nat.reduceBEq, Nat.reduceAdd, Nat.reduceLeDiff, reduceIte, Int.reduceLT, Int.reduceLE, Int.reduceEq, Int.reduceToNat, Int.reduceBEq]
  refine callWp_of (h a b ha) ?_
  simp only [walk, Nat.reduceLT, Nat.reduceBEq, Nat.reduceAdd, Nat.reduceLeDiff, reduceIte, Int.reduceLT, Int.reduceLE, Int.reduceEq, Int.reduceToNat, Int.reduceBEq]
theorem g_pref10_Check (hR : S_right (C (F n_pref03_Right))) : S_pCheck ((c_pref10_Check F).gives C) := by
  intro p hp
  refine gives_of rfl ?_
  unfold c_pref10_Check pCheck
  simp only [walk, Nat.reduceLT, Nat.reduceBEq, Nat.reduceAdd, Nat.reduceLeDiff, reduceIte, Int.reduceLT, Int.reduceLE, Int.reduceEq, Int.reduceToNat, Int.reduceBEq, xRows_len, gt_iff_lt]
  by_cases h0 : p.length = 0
  · have h0' : ((p.length : Int) == 0) = true := by rw [beq_iff_eq]; omega
    simp only [walk, Nat.reduceLT, Nat.reduceBEq, Nat.reduceAdd, Nat.reduceLeDiff, reduceIte, Int.reduceLT, Int.reduceLE, Int.reduceEq, Int.reduceToNat, Int.reduceBEq, h0', h0]
  · have h0' : ((p.length : Int) == 0) = false := by rw [beq_eq_false_iff_ne]; omega
    by_cases h8 : 8 < p.length
    · have h8' : (8 : Int) < p.length := by omega
      simp only [walk, Nat.reduceLT, Nat.reduceBEq, Nat.reduceAdd, Nat.reduceLeDiff, reduceIte, Int.reduceLT, Int.reduceLE, Int.reduceEq, Int.reduceToNat, Int.reduceBEq, h0', h0, xRows_len, h8', h8]
    · have h8' : ¬ (8 : Int) < p.length := by omega
      simp only [walk, Nat.reduceLT, Nat.reduceBEq, Nat.reduceAdd, Nat.reduceLeDiff, reduceIte, Int.reduceLT, Int.reduceLE, Int.reduceEq, Int.reduceToNat, Int.reduceBEq, h0', h0, xRows_len, h8', h8]
      refine awp_loop_ind (X := Nat) (fun k => ⟨[(0, .val (ptP p)), (2, .val (.int .i64 0)), (3, .val (.int .i64 k)), (6, .val (.bool false)), (9, .val (.bool false))], []⟩)
        (fun k => k ≤ p.length ∧ (p.take k).all rightB = true) (fun k => p.length - k) 0 ⟨by omega, by simp⟩ rfl ?_
      rintro R k ⟨hk, hJ⟩ ih
      simp only [walk, Nat.reduceLT, Nat.reduceBEq, Nat.reduceAdd, Nat.reduceLeDiff, reduceIte, Int.reduceLT, Int.reduceLE, Int.reduceEq, Int.reduceToNat, Int.reduceBEq, xRows_len]
      by_cases c : k < p.length
      · have c1 : (k : Int) < p.length := by omega
        have c0 : (0 : Int) ≤ k := by omega
        have e1 : IntKind.i64.wrap ((k : Int) + 1) = ((k + 1 : Nat) : Int) := wrap64 (by omega) (by omega)
        simp only [walk, Nat.reduceLT, Nat.reduceBEq, Nat.reduceAdd, Nat.reduceLeDiff, reduceIte, Int.reduceLT, Int.reduceLE, Int.reduceEq, Int.reduceToNat, Int.reduceBEq, c1, xRows_get p k c]
        refine callWp_of (hR p[k] (hp.2 _ (List.getElem_mem c))) ?_
        cases hr : rightB p[k] with
        | true =>
          simp only [walk, Nat.reduceLT, Nat.reduceBEq, Nat.reduceAdd, Nat.reduceLeDiff, reduceIte, Int.reduceLT, Int.reduceLE, Int.reduceEq, Int.reduceToNat, Int.reduceBEq, e1]
          refine ih (k + 1) ⟨by omega, ?_⟩ (by omega)
          rw [List.take_add_one, List.getElem?_eq_getElem c, List.all_append, hJ]
          simp [hr]
        | false =>
          have hf : p.all rightB = false := by
            rw [Bool.eq_false_iff]; intro h
            have := List.all_eq_true.1 h _ (List.getElem_mem c)
            rw [hr] at this; cases this
          simp only [walk, Nat.reduceLT, Nat.reduceBEq, Nat.reduceAdd, Nat.reduceLeDiff, reduceIte, Int.reduceLT, Int.reduceLE, Int.reduceEq, Int.reduceToNat, Int.reduceBEq, hf]
      · have c1 : ¬ (k : Int) < p.length := by omega
        rw [List.take_of_length_le (by omega)] at hJ
        simp only [walk, Nat.reduceLT, Nat.reduceBEq, Nat.reduceAdd, Nat.reduceLeDiff, reduceIte, Int.reduceLT, Int.reduceLE, Int.reduceEq, Int.reduceToNat, Int.reduceBEq, c1, hJ]
theorem g_pref10_Short : S_pShort ((c_pref10_Short F).gives C) := by
  intro p
  refine gives_of rfl ?_
  unfold c_pref10_Short pShort
  simp only [walk, Nat.reduceLT, Nat.reduceBEq, Nat.reduceAdd, Nat.reduceLeDiff, reduceIte, Int.reduceLT, Int.reduceLE, Int.reduceEq, Int.reduceToNat, Int.reduceBEq, xRows_len, gt_iff_lt]
  by_cases h12 : 12 < p.length
  · have h12' : (12 : Int) < p.length := by omega
    have h12'' : ¬ p.length ≤ 12 := by omega
    simp only [walk, Nat.reduceLT, Nat.reduceBEq, Nat.reduceAdd, Nat.reduceLeDiff, reduceIte, Int.reduceLT, Int.reduceLE, Int.reduceEq, Int.reduceToNat, Int.reduceBEq, h12', h12'']
  · have h12' : ¬ (12 : Int) < p.length := by omega
    have h12'' : p.length ≤ 12 := by omega
    simp only [walk, Nat.reduceLT, Nat.reduceBEq, Nat.reduceAdd, Nat.reduceLeDiff, reduceIte, Int.reduceLT, Int.reduceLE, Int.reduceEq, Int.reduceToNat, Int.reduceBEq, h12', h12'']
    refine awp_loop_ind (X := Nat) (fun k => ⟨[(0, .val (ptP p)), (2, .val (.bool false)), (3, .val (.int .i64 k)), (6, .val (.bool false))], []⟩)
      (fun k => k ≤ p.length ∧ ((p.take k).all fun s => decide (s.length ≤ 120)) = true) (fun k => p.length - k) 0 ⟨by omega, by simp⟩ rfl ?_
    rintro R k ⟨hk, hJ⟩ ih
    simp only [walk, Nat.reduceLT, Nat.reduceBEq, Nat.reduceAdd, Nat.reduceLeDiff, reduceIte, Int.reduceLT, Int.reduceLE, Int.reduceEq, Int.reduceToNat, Int.reduceBEq, xRows_len]
    by_cases c : k < p.length
    · have c1 : (k : Int) < p.length := by omega
      have c0 : (0 : Int) ≤ k := by omega
      have e1 : IntKind.i64.wrap ((k : Int) + 1) = ((k + 1 : Nat) : Int) := wrap64 (by omega) (by omega)
      simp only [walk, Nat.reduceLT, Nat.reduceBEq, Nat.reduceAdd, Nat.reduceLeDiff, reduceIte, Int.reduceLT, Int.reduceLE, Int.reduceEq, Int.reduceToNat, Int.reduceBEq, c1, xRows_get p k c, gt_iff_lt]
      by_cases hl : 120 < p[k].length
      · have hl' : (120 : Int) < p[k].length := by omega
        have hf : (p.all fun s => decide (s.length ≤ 120)) = false := by
          rw [Bool.eq_false_iff]; intro h
          have := List.all_eq_true.1 h _ (List.getElem_mem c)
          simp at this; omega
        simp only [walk, Nat.reduceLT, Nat.reduceBEq, Nat.reduceAdd, Nat.reduceLeDiff, reduceIte, Int.reduceLT, Int.reduceLE, Int.reduceEq, Int.reduceToNat, Int.reduceBEq, hl', hf]
      · have hl' : ¬ (120 : Int) < p[k].length := by omega
        simp only [walk, Nat.reduceLT, Nat.reduceBEq, Nat.reduceAdd, Nat.reduceLeDiff, reduceIte, Int.reduceLT, Int.reduceLE, Int.reduceEq, Int.reduceToNat, Int.reduceBEq, hl', e1]
        refine ih (k + 1) ⟨by omega, ?_⟩ (by omega)
        rw [List.take_add_one, List.getElem?_eq_getElem c, List.all_append, hJ]
        simp; omega
    · have c1 : ¬ (k : Int) < p.length := by omega
      rw [List.take_of_length_le (by omega)] at hJ
      simp only [walk, Nat.reduceLT, Nat.reduceBEq, Nat.reduceAdd, Nat.reduceLeDiff, reduceIte, Int.reduceLT, Int.reduceLE, Int.reduceEq, Int.reduceToNat, Int.reduceBEq, c1, hJ]
end
end Go.AR

/-! Operations, by definition. -/
namespace Go.AR
open Go
/-- Which named operation stands first. -/
def rcmp (a b : Ud) : Int := if dcmp a.1 b.1 ≠ 0 then dcmp a.1 b.1 else icmp a.2 b.2
theorem rcmp_cases (a b : Ud) : rcmp a b = -1 ∨ rcmp a b = 0 ∨ rcmp a b = 1 := by
  unfold rcmp
  rcases dcmp_cases a.1 b.1 with ⟨h, k⟩ | ⟨h, k⟩ | ⟨h, k⟩
  · rw [h]; exact .inl rfl
  · rw [h, if_neg (by simp)]; unfold icmp; split
    · exact .inl rfl
    · split
      · exact .inr (.inr rfl)
      · exact .inr (.inl rfl)
  · rw [h]; exact .inr (.inr rfl)
def rOk (r : Ud) : Bool := dotOk r.1 && decide (0 ≤ r.2) && decide (r.2 < 16)
def refAt (l : List Ud) (j : Nat) : Bool := rOk (l.getD j z3) && (j == 0 || decide (rcmp (l.getD (j - 1) z3) (l.getD j z3) < 0))
def refsOk (l : List Ud) : Bool := (List.range l.length).all (refAt l)
theorem refsOk_iff {l : List Ud} : refsOk l = true ↔ ∀ j, j < l.length → refAt l j = true := by simp [refsOk, List.all_eq_true]
theorem refsOk_no {l : List Ud} {j : Nat} (hj : j < l.length) (h : refAt l j = false) : refsOk l = false := by
  rw [← Bool.not_eq_true, refsOk_iff]
  intro k
  rw [k j hj] at h; cases h
def hasR (l : List Ud) (r : Ud) : Bool := l.any fun x => decide (x = r)
theorem hasR_iff {l : List Ud} {r : Ud} : hasR l r = true ↔ ∃ k, k < l.length ∧ l.getD k z3 = r := by
  simp only [hasR, List.any_eq_true, decide_eq_true_eq]
  constructor
  · rintro ⟨u, hu, rfl⟩
    obtain ⟨k, hk, rfl⟩ := List.getElem_of_mem hu
    exact ⟨k, hk, by simp [List.getD_eq_getElem?_getD, hk]⟩
  · rintro ⟨k, hk, e⟩
    refine ⟨l[k], List.getElem_mem hk, ?_⟩
    simpa [List.getD_eq_getElem?_getD, hk] using e
abbrev Vl := Int × Int × List UInt8
def z0 : Vl := (0, 0, [])
def vOk (v : Vl) : Bool :=
  if v.1 = 1 then decide (v.2.2 = []) && decide (-2147483647 ≤ v.2.1) && decide (v.2.1 ≤ 2147483647)
  else if v.1 = 2 then (runes v.2.2 []).isSome && decide (v.2.1 = 0) && decide (v.2.2.length ≤ 64)
  else decide (v.1 = 3) && decide (v.2.2 = []) && decide (0 ≤ v.2.1) && decide (v.2.1 ≤ 1)
structure Ov where
  k : Int
  p : List (List UInt8)
  v : Vl
  am : Int
  rs : List Ud
deriving DecidableEq
def zop : Ov := ⟨0, [], z0, 0, []⟩
def oGone (o : Ov) : Bool := decide (o = zop)
def oCheck (o : Ov) : Int :=
  if o.k < 1 ∨ o.k > 5 then 18 else if pCheck o.p ≠ 0 then pCheck o.p
  else if (o.k = 3 ∨ o.k = 5) ∧ o.v ≠ z0 then 2 else if (o.k ≠ 3 ∧ o.k ≠ 5) ∧ vOk o.v = false then 2
  else if (o.k ≠ 3 ∧ o.am ≠ 0) ∨ (o.k = 3 ∧ (o.am = 0 ∨ o.am > 2147483647 ∨ o.am < -2147483647)) then 2
  else if (o.k = 2 ∨ o.k = 3) ∧ o.rs.length > 0 then 2 else if o.rs.length > 256 then 7 else if refsOk o.rs = false then 2 else 0
def oShort (o : Ov) : Bool := pShort o.p && decide (o.v.2.2.length ≤ 200) && decide (o.rs.length ≤ 300)
def oLeaf (k : Int) : Int := if k = 1 then 1 else if k = 2 ∨ k = 4 then 2 else if k = 3 then 3 else 0
end Go.AR
