import Derived.Test.YteombjhaanohiaaKvec
import Derived.Test.YteombjhaanohiaaBase
set_option linter.all false
/-! What the functions over vectors give. -/
namespace Go.AR
open Go
section
variable {C : CallRel} {F : Nat → FuncId}

/-- A vector's value. -/
abbrev vecP (l : List Int) : PV := .agg (l.map (.int .i64))


def S_fun2 (R : Rel) (g : Int → Int → Int) : Prop := ∀ x y, R [.v (.int .i64 x), .v (.int .i64 y)] (.val (.int .i64 (g x y))) []
def S_vec_op (R : Rel) (g : Int → Int → Int) : Prop := ∀ a b : List Int, a.length = 16 → b.length = 16 → R [.v (vecP a), .v (vecP b)] (.val (vecP (List.zipWith g a b))) []
def S_vec_both (C : CallRel) (R : Rel) : Prop := ∀ (g : Int → Int → Int) (f : Nat), S_fun2 (C f) g → ∀ a b : List Int, a.length = 16 → b.length = 16 → R [.v (vecP a), .v (vecP b), .v (.fn f)] (.val (vecP (List.zipWith g a b))) []
def S_vec_Within (R : Rel) : Prop := ∀ a b : List Int, a.length = 16 → b.length = 16 → R [.v (vecP a), .v (vecP b)] (.val (.bool (List.zipWith min a b == a))) []
/-- A dot that may be. -/
def dotB (r n : Int) : Bool := decide (0 ≤ r) && decide (r < 16) && decide (1 ≤ n) && decide (n ≤ 1048576)
def S_dot_Right (R : Rel) : Prop := ∀ r n : Int, R [.v (.agg [.int .i64 r, .int .i64 n])] (.val (.bool (dotB r n))) []
def hasB (v : List Int) (r n : Int) : Bool := dotB r n && decide (n ≤ v.getD r.toNat 0)
def S_vec_Has (R : Rel) : Prop := ∀ (v : List Int) (r n : Int), v.length = 16 → R [.v (vecP v), .v (.agg [.int .i64 r, .int .i64 n])] (.val (.bool (hasB v r n))) []

theorem g_vec_Join_1 : S_fun2 ((c_vec_Join_1 F).gives C) max := by
  intro x y
  refine gives_of rfl ?_
  unfold c_vec_Join_1
  simp only [walk, Nat.reduceLT, Nat.reduceBEq, Nat.reduceAdd]
theorem g_vec_Meet_1 : S_fun2 ((c_vec_Meet_1 F).gives C) min := by
  intro x y
  refine gives_of rfl ?_
  unfold c_vec_Meet_1
  simp only [walk, Nat.reduceLT, Nat.reduceBEq, Nat.reduceAdd]

theorem g_vec_both : S_vec_both C ((c_vec_both F).gives C) := by
  intro g f hf a b ha hb
  refine gives_of rfl ?_
  unfold c_vec_both
  simp only [walk, Nat.reduceLT, Nat.reduceBEq, Nat.reduceAdd]
  refine awp_loop_ind (X := Nat × List Int) (fun x => ⟨[(0, .val (vecP a)), (1, .val (vecP b)), (2, .val (.fn f)), (3, .lp 3 0), (4, .lp 4 0), (6, .lp 6 0), (8, .val (.int .i64 x.1))],
      [(3, .cells ((x.2.map (.int .i64)).map .val)), (4, .cells ((b.map (.int .i64)).map .val)), (6, .cells (List.replicate 16 (.val (.int .i64 0))))]⟩)
    (fun x => x.1 ≤ 16 ∧ x.2.length = 16 ∧ ∀ j, x.2[j]? = if j < x.1 then (List.zipWith g a b)[j]? else a[j]?) (fun x => 16 - x.1) (0, a) ⟨by omega, ha, by simp⟩ rfl ?_
  rintro R ⟨i, c⟩ ⟨hi, hc, hj⟩ ih
  simp only at hi hc hj ih ⊢
  simp only [walk, Nat.reduceLT, Nat.reduceBEq, Nat.reduceAdd]
  by_cases h : i = 16
  · have h1 : ¬ ((i : Int) < 16) := by omega
    simp only [h1, walk, Nat.reduceLT, Nat.reduceBEq, Nat.reduceAdd, Nat.reduceLeDiff, reduceIte, Int.reduceLT, Int.reduceLE, Int.reduceEq, Int.reduceToNat, Int.reduceBEq, hc]
    have e : c = List.zipWith g a b := List.ext_getElem? fun j => by
      rw [hj j]
      split
      · rfl
      · rw [List.getElem?_eq_none (by omega), List.getElem?_eq_none (by simp; omega)]
    rw [e]
  · have h1 : ((i : Int) < 16) := by omega
    have h2 : i < c.length := by omega
    have h3 : i < b.length := by omega
    have h4 : c[i]? = some c[i] := List.getElem?_eq_getElem h2
    have h5 : b[i]? = some b[i] := List.getElem?_eq_getElem h3
    simp only [h1, h4, h5, walk, Nat.reduceLT, Nat.reduceBEq, Nat.reduceAdd, Nat.reduceLeDiff, reduceIte, Int.reduceLT, Int.reduceLE, Int.reduceEq, Int.reduceToNat, Int.reduceBEq]
    refine callWp_of (hf _ _) ?_
    simp only [h1, h2, h4, h5, walk, Nat.reduceLT, Nat.reduceBEq, Nat.reduceAdd, Nat.reduceLeDiff, reduceIte, Int.reduceLT, Int.reduceLE, Int.reduceEq, Int.reduceToNat, Int.reduceBEq]
    rw [wrap64 (by omega) (by omega)]
    refine ih (i + 1, c.set i (g c[i] b[i])) ⟨by simp only; omega, by simpa using hc, fun j => ?_⟩ (by simp only; omega)
    simp only
    rw [List.getElem?_set]
    have hci : c[i] = a[i]'(by omega) := by
      have := hj i
      rw [h4, if_neg (by omega), List.getElem?_eq_getElem (by omega)] at this
      exact Option.some.inj this
    split
    · rename_i e; subst e
      rw [if_pos (by omega), hci, List.getElem?_zipWith, h5, List.getElem?_eq_getElem (by omega)]
    · rw [hj j]
      by_cases hji : j < i
      · rw [if_pos hji, if_pos (by omega)]
      · rw [if_neg hji, if_neg (by omega)]

theorem g_vec_Join (hB : S_vec_both C (C (F n_vec_both))) (h1 : S_fun2 (C (F n_vec_Join_1)) max) : S_vec_op ((c_vec_Join F).gives C) max := by
  intro a b ha hb
  refine gives_of rfl ?_
  unfold c_vec_Join
  simp only [walk, Nat.reduceLT, Nat.reduceBEq, Nat.reduceAdd, Nat.reduceLeDiff, reduceIte, Int.reduceLT, Int.reduceLE, Int.reduceEq, Int.reduceToNat, Int.reduceBEq, ha, hb]
  refine callWp_of (hB max _ h1 a b ha hb) ?_
  simp only [walk, Nat.reduceLT, Nat.reduceBEq, Nat.reduceAdd, Nat.reduceLeDiff, reduceIte, Int.reduceLT, Int.reduceLE, Int.reduceEq, Int.reduceToNat, Int.reduceBEq, ha, hb]
theorem g_vec_Meet (hB : S_vec_both C (C (F n_vec_both))) (h1 : S_fun2 (C (F n_vec_Meet_1)) min) : S_vec_op ((c_vec_Meet F).gives C) min := by
  intro a b ha hb
  refine gives_of rfl ?_
  unfold c_vec_Meet
  simp only [walk, Nat.reduceLT, Nat.reduceBEq, Nat.reduceAdd, Nat.reduceLeDiff, reduceIte, Int.reduceLT, Int.reduceLE, Int.reduceEq, Int.reduceToNat, Int.reduceBEq, ha, hb]
  refine callWp_of (hB min _ h1 a b ha hb) ?_
  simp only [walk, Nat.reduceLT, Nat.reduceBEq, Nat.reduceAdd, Nat.reduceLeDiff, reduceIte, Int.reduceLT, Int.reduceLE, Int.reduceEq, Int.reduceToNat, Int.reduceBEq, ha, hb]
theorem g_vec_Within (hM : S_vec_op (C (F n_vec_Meet)) min) : S_vec_Within ((c_vec_Within F).gives C) := by
  intro a b ha hb
  refine gives_of rfl ?_
  unfold c_vec_Within
  simp only [walk, Nat.reduceLT, Nat.reduceBEq, Nat.reduceAdd, Nat.reduceLeDiff, reduceIte, Int.reduceLT, Int.reduceLE, Int.reduceEq, Int.reduceToNat, Int.reduceBEq, ha, hb]
  refine callWp_of (hM a b ha hb) ?_
  rw [vecP]
  simp only [walk, Nat.reduceLT, Nat.reduceBEq, Nat.reduceAdd, Nat.reduceLeDiff, reduceIte, Int.reduceLT, Int.reduceLE, Int.reduceEq, Int.reduceToNat, Int.reduceBEq, ha, hb]
theorem g_dot_Right : S_dot_Right ((c_dot_Right F).gives C) := by
  intro r n
  refine gives_of rfl ?_
  unfold c_dot_Right dotB
  simp only [walk, Nat.reduceLT, Nat.reduceBEq, Nat.reduceAdd, Nat.reduceLeDiff, reduceIte, Int.reduceLT, Int.reduceLE, Int.reduceEq, Int.reduceToNat, Int.reduceBEq]
  by_cases h1 : r ≥ 0 <;> simp only [walk, Nat.reduceLT, Nat.reduceBEq, Nat.reduceAdd, Nat.reduceLeDiff, reduceIte, Int.reduceLT, Int.reduceLE, Int.reduceEq, Int.reduceToNat, Int.reduceBEq, h1]
  by_cases h2 : r < 16 <;> simp only [walk, Nat.reduceLT, Nat.reduceBEq, Nat.reduceAdd, Nat.reduceLeDiff, reduceIte, Int.reduceLT, Int.reduceLE, Int.reduceEq, Int.reduceToNat, Int.reduceBEq, h2]
  by_cases h3 : n ≥ 1 <;> simp only [walk, Nat.reduceLT, Nat.reduceBEq, Nat.reduceAdd, Nat.reduceLeDiff, reduceIte, Int.reduceLT, Int.reduceLE, Int.reduceEq, Int.reduceToNat, Int.reduceBEq, h3]
theorem dotB_iff {r n : Int} : dotB r n = true ↔ 0 ≤ r ∧ r < 16 ∧ 1 ≤ n ∧ n ≤ 1048576 := by simp [dotB, and_assoc]
theorem g_vec_Has (hR : S_dot_Right (C (F n_dot_Right))) : S_vec_Has ((c_vec_Has F).gives C) := by
  intro v r n hv
  refine gives_of rfl ?_
  unfold c_vec_Has hasB
  simp only [walk, Nat.reduceLT, Nat.reduceBEq, Nat.reduceAdd, Nat.reduceLeDiff, reduceIte, Int.reduceLT, Int.reduceLE, Int.reduceEq, Int.reduceToNat, Int.reduceBEq]
  refine callWp_of (hR r n) ?_
  simp only [walk, Nat.reduceLT, Nat.reduceBEq, Nat.reduceAdd, Nat.reduceLeDiff, reduceIte, Int.reduceLT, Int.reduceLE, Int.reduceEq, Int.reduceToNat, Int.reduceBEq]
  cases hd : dotB r n
  · simp only [walk, Nat.reduceLT, Nat.reduceBEq, Nat.reduceAdd, Nat.reduceLeDiff, reduceIte, Int.reduceLT, Int.reduceLE, Int.reduceEq, Int.reduceToNat, Int.reduceBEq]
  · obtain ⟨h1, h2, h3, h4⟩ := dotB_iff.1 hd
    have h5 : v[r.toNat]? = some (v.getD r.toNat 0) := by
      rw [List.getD_eq_getElem?_getD, List.getElem?_eq_getElem (by omega)]; rfl
    simp only [walk, Nat.reduceLT, Nat.reduceBEq, Nat.reduceAdd, Nat.reduceLeDiff, reduceIte, Int.reduceLT, Int.reduceLE, Int.reduceEq, Int.reduceToNat, Int.reduceBEq, h1, h2, h5]
theorem g_law05_awake (hJ : S_vec_op (C (F n_vec_Join)) max) (hH : S_vec_Has (C (F n_vec_Has))) : S_yes ((c_plaw05_awake F).gives C) := by
  refine gives_of rfl ?_
  unfold c_plaw05_awake
  simp only [walk, Nat.reduceLT, Nat.reduceBEq, Nat.reduceAdd, Nat.reduceLeDiff, reduceIte, Int.reduceLT, Int.reduceLE, Int.reduceEq, Int.reduceToNat, Int.reduceBEq]
  refine callWp_of (hJ [1, 0, 5, 0, 0, 0, 0, 0, 0, 0, 0, 0, 0, 0, 0, 0] [2, 3, 4, 0, 0, 0, 0, 0, 0, 0, 0, 0, 0, 0, 0, 0] rfl rfl) ?_
  simp only [walk, Nat.reduceLT, Nat.reduceBEq, Nat.reduceAdd, Nat.reduceLeDiff, reduceIte, Int.reduceLT, Int.reduceLE, Int.reduceEq, Int.reduceToNat, Int.reduceBEq]
  generalize he : eqCells _ _ _ = q
  obtain rfl : q = some true := he.symm.trans rfl
  simp only [walk, Nat.reduceLT, Nat.reduceBEq, Nat.reduceAdd, Nat.reduceLeDiff, reduceIte, Int.reduceLT, Int.reduceLE, Int.reduceEq, Int.reduceToNat, Int.reduceBEq]
  refine callWp_of (hH [1, 0, 0, 0, 0, 0, 0, 0, 0, 0, 0, 0, 0, 0, 0, 0] 0 1 rfl) ?_
  simp only [walk, Nat.reduceLT, Nat.reduceBEq, Nat.reduceAdd, Nat.reduceLeDiff, reduceIte, Int.reduceLT, Int.reduceLE, Int.reduceEq, Int.reduceToNat, Int.reduceBEq, show hasB [1, 0, 0, 0, 0, 0, 0, 0, 0, 0, 0, 0, 0, 0, 0, 0] 0 1 = true from rfl]
  refine callWp_of (hH [1, 0, 0, 0, 0, 0, 0, 0, 0, 0, 0, 0, 0, 0, 0, 0] 0 2 rfl) ?_
  simp only [walk, Nat.reduceLT, Nat.reduceBEq, Nat.reduceAdd, Nat.reduceLeDiff, reduceIte, Int.reduceLT, Int.reduceLE, Int.reduceEq, Int.reduceToNat, Int.reduceBEq, show hasB [1, 0, 0, 0, 0, 0, 0, 0, 0, 0, 0, 0, 0, 0, 0, 0] 0 2 = false from rfl]

/-! ### The laws of the lattice -/
theorem zw_comm {g : Int → Int → Int} (h : ∀ x y, g x y = g y x) : ∀ a b : List Int, List.zipWith g a b = List.zipWith g b a
  | [], [] => rfl
  | [], _ :: _ => rfl
  | _ :: _, [] => rfl
  | x :: a, y :: b => by simp only [List.zipWith_cons_cons, h x y, zw_comm h a b]
theorem zw_assoc {g : Int → Int → Int} (h : ∀ x y z, g (g x y) z = g x (g y z)) : ∀ a b c : List Int, List.zipWith g (List.zipWith g a b) c = List.zipWith g a (List.zipWith g b c)
  | [], _, _ => by simp
  | _ :: _, [], _ => by simp
  | _ :: _, _ :: _, [] => by simp
  | x :: a, y :: b, z :: c => by simp only [List.zipWith_cons_cons, h x y z, zw_assoc h a b c]
theorem zw_absorb {g k : Int → Int → Int} (h : ∀ x y, g x (k x y) = x) : ∀ a b : List Int, a.length = b.length → List.zipWith g a (List.zipWith k a b) = a
  | [], _, _ => by simp
  | _ :: _, [], h => by simp at h
  | x :: a, y :: b, e => by simp only [List.zipWith_cons_cons, h x y, zw_absorb h a b (by simpa using e)]
theorem zw_idem {g : Int → Int → Int} (h : ∀ x, g x x = x) : ∀ a : List Int, List.zipWith g a a = a
  | [] => rfl
  | x :: a => by simp only [List.zipWith_cons_cons, h x, zw_idem h a]
theorem zw_iff : ∀ a b : List Int, a.length = b.length → (List.zipWith min a b = a ↔ List.zipWith max a b = b)
  | [], [], _ => by simp
  | _ :: _, [], h => by simp at h
  | [], _ :: _, h => by simp at h
  | x :: a, y :: b, e => by
    simp only [List.zipWith_cons_cons, List.cons.injEq, zw_iff a b (by simpa using e)]
    constructor
    · rintro ⟨h1, h2⟩; exact ⟨by omega, h2⟩
    · rintro ⟨h1, h2⟩; exact ⟨by omega, h2⟩
def S_law3v (R : Rel) : Prop := ∀ a b c : List Int, a.length = 16 → b.length = 16 → c.length = 16 → R [.v (vecP a), .v (vecP b), .v (vecP c)] (.val (.bool true)) []
theorem zl {g : Int → Int → Int} {a b : List Int} (ha : a.length = 16) (hb : b.length = 16) : (List.zipWith g a b).length = 16 := by simp [ha, hb]
theorem g_VecLattice (hJ : S_vec_op (C (F n_vec_Join)) max) (hM : S_vec_op (C (F n_vec_Meet)) min) (hW : S_vec_Within (C (F n_vec_Within))) (hA : S_yes (C (F n_plaw05_awake))) : S_law3v ((c_plaw05_VecLattice F).gives C) := by
  intro a b c ha hb hc
  have e1 : (List.zipWith max a b == List.zipWith max b a) = true := by rw [zw_comm Int.max_comm a b]; exact beq_self_eq_true _
  have e2 : (List.zipWith min a b == List.zipWith min b a) = true := by rw [zw_comm Int.min_comm a b]; exact beq_self_eq_true _
  have e3 : (List.zipWith max (List.zipWith max a b) c == List.zipWith max a (List.zipWith max b c)) = true := by rw [zw_assoc Int.max_assoc]; exact beq_self_eq_true _
  have e4 : (List.zipWith min (List.zipWith min a b) c == List.zipWith min a (List.zipWith min b c)) = true := by rw [zw_assoc Int.min_assoc]; exact beq_self_eq_true _
  have e5 : List.zipWith max a (List.zipWith min a b) = a := zw_absorb (by intros; omega) a b (by omega)
  have e6 : List.zipWith min a (List.zipWith max a b) = a := zw_absorb (by intros; omega) a b (by omega)
  have e7 : List.zipWith max a a = a := zw_idem (by intros; omega) a
  have e8 : (List.zipWith min a b == a) = (List.zipWith max a b == b) := by
    rw [Bool.eq_iff_iff]; simp only [beq_iff_eq]; exact zw_iff a b (by omega)
  refine gives_of rfl ?_
  unfold c_plaw05_VecLattice
  simp only [walk, Nat.reduceLT, Nat.reduceBEq, Nat.reduceAdd, Nat.reduceLeDiff, reduceIte, Int.reduceLT, Int.reduceLE, Int.reduceEq, Int.reduceToNat, Int.reduceBEq, ha, hb, hc]
  refine callWp_of (hJ a b ha hb) ?_
  simp only [walk, Nat.reduceLT, Nat.reduceBEq, Nat.reduceAdd, Nat.reduceLeDiff, reduceIte, Int.reduceLT, Int.reduceLE, Int.reduceEq, Int.reduceToNat, Int.reduceBEq, ha, hb, hc]
  refine callWp_of (hJ b a hb ha) ?_
  rw [vecP, vecP]
  simp only [walk, Nat.reduceLT, Nat.reduceBEq, Nat.reduceAdd, Nat.reduceLeDiff, reduceIte, Int.reduceLT, Int.reduceLE, Int.reduceEq, Int.reduceToNat, Int.reduceBEq, ha, hb, hc, e1]
  refine callWp_of (hM a b ha hb) ?_
  simp only [walk, Nat.reduceLT, Nat.reduceBEq, Nat.reduceAdd, Nat.reduceLeDiff, reduceIte, Int.reduceLT, Int.reduceLE, Int.reduceEq, Int.reduceToNat, Int.reduceBEq, ha, hb, hc]
  refine callWp_of (hM b a hb ha) ?_
  rw [vecP, vecP]
  simp only [walk, Nat.reduceLT, Nat.reduceBEq, Nat.reduceAdd, Nat.reduceLeDiff, reduceIte, Int.reduceLT, Int.reduceLE, Int.reduceEq, Int.reduceToNat, Int.reduceBEq, ha, hb, hc, e2]
  refine callWp_of (hJ a b ha hb) ?_
  simp only [walk, Nat.reduceLT, Nat.reduceBEq, Nat.reduceAdd, Nat.reduceLeDiff, reduceIte, Int.reduceLT, Int.reduceLE, Int.reduceEq, Int.reduceToNat, Int.reduceBEq, ha, hb, hc]
  refine callWp_of (hJ _ c (zl ha hb) hc) ?_
  simp only [walk, Nat.reduceLT, Nat.reduceBEq, Nat.reduceAdd, Nat.reduceLeDiff, reduceIte, Int.reduceLT, Int.reduceLE, Int.reduceEq, Int.reduceToNat, Int.reduceBEq, ha, hb, hc]
  refine callWp_of (hJ b c hb hc) ?_
  simp only [walk, Nat.reduceLT, Nat.reduceBEq, Nat.reduceAdd, Nat.reduceLeDiff, reduceIte, Int.reduceLT, Int.reduceLE, Int.reduceEq, Int.reduceToNat, Int.reduceBEq, ha, hb, hc]
  refine callWp_of (hJ a _ ha (zl hb hc)) ?_
  rw [vecP, vecP]
  simp only [walk, Nat.reduceLT, Nat.reduceBEq, Nat.reduceAdd, Nat.reduceLeDiff, reduceIte, Int.reduceLT, Int.reduceLE, Int.reduceEq, Int.reduceToNat, Int.reduceBEq, ha, hb, hc, e3]
  refine callWp_of (hM a b ha hb) ?_
  simp only [walk, Nat.reduceLT, Nat.reduceBEq, Nat.reduceAdd, Nat.reduceLeDiff, reduceIte, Int.reduceLT, Int.reduceLE, Int.reduceEq, Int.reduceToNat, Int.reduceBEq, ha, hb, hc]
  refine callWp_of (hM _ c (zl ha hb) hc) ?_
  simp only [walk, Nat.reduceLT, Nat.reduceBEq, Nat.reduceAdd, Nat.reduceLeDiff, reduceIte, Int.reduceLT, Int.reduceLE, Int.reduceEq, Int.reduceToNat, Int.reduceBEq, ha, hb, hc]
  refine callWp_of (hM b c hb hc) ?_
  simp only [walk, Nat.reduceLT, Nat.reduceBEq, Nat.reduceAdd, Nat.reduceLeDiff, reduceIte, Int.reduceLT, Int.reduceLE, Int.reduceEq, Int.reduceToNat, Int.reduceBEq, ha, hb, hc]
  refine callWp_of (hM a _ ha (zl hb hc)) ?_
  rw [vecP, vecP]
  simp only [walk, Nat.reduceLT, Nat.reduceBEq, Nat.reduceAdd, Nat.reduceLeDiff, reduceIte, Int.reduceLT, Int.reduceLE, Int.reduceEq, Int.reduceToNat, Int.reduceBEq, ha, hb, hc, e4]
  refine callWp_of (hM a b ha hb) ?_
  simp only [walk, Nat.reduceLT, Nat.reduceBEq, Nat.reduceAdd, Nat.reduceLeDiff, reduceIte, Int.reduceLT, Int.reduceLE, Int.reduceEq, Int.reduceToNat, Int.reduceBEq, ha, hb, hc]
  refine callWp_of (hJ a _ ha (zl ha hb)) ?_
  rw [vecP]
  simp only [walk, Nat.reduceLT, Nat.reduceBEq, Nat.reduceAdd, Nat.reduceLeDiff, reduceIte, Int.reduceLT, Int.reduceLE, Int.reduceEq, Int.reduceToNat, Int.reduceBEq, ha, hb, hc, e5, beq_self_eq_true]
  refine callWp_of (hJ a b ha hb) ?_
  simp only [walk, Nat.reduceLT, Nat.reduceBEq, Nat.reduceAdd, Nat.reduceLeDiff, reduceIte, Int.reduceLT, Int.reduceLE, Int.reduceEq, Int.reduceToNat, Int.reduceBEq, ha, hb, hc]
  refine callWp_of (hM a _ ha (zl ha hb)) ?_
  rw [vecP]
  simp only [walk, Nat.reduceLT, Nat.reduceBEq, Nat.reduceAdd, Nat.reduceLeDiff, reduceIte, Int.reduceLT, Int.reduceLE, Int.reduceEq, Int.reduceToNat, Int.reduceBEq, ha, hb, hc, e6, beq_self_eq_true]
  refine callWp_of (hJ a a ha ha) ?_
  rw [vecP]
  simp only [walk, Nat.reduceLT, Nat.reduceBEq, Nat.reduceAdd, Nat.reduceLeDiff, reduceIte, Int.reduceLT, Int.reduceLE, Int.reduceEq, Int.reduceToNat, Int.reduceBEq, ha, hb, hc, e7, beq_self_eq_true]
  refine callWp_of (hW a b ha hb) ?_
  simp only [walk, Nat.reduceLT, Nat.reduceBEq, Nat.reduceAdd, Nat.reduceLeDiff, reduceIte, Int.reduceLT, Int.reduceLE, Int.reduceEq, Int.reduceToNat, Int.reduceBEq, ha, hb, hc]
  refine callWp_of (hJ a b ha hb) ?_
  rw [vecP]
  simp only [walk, Nat.reduceLT, Nat.reduceBEq, Nat.reduceAdd, Nat.reduceLeDiff, reduceIte, Int.reduceLT, Int.reduceLE, Int.reduceEq, Int.reduceToNat, Int.reduceBEq, ha, hb, hc, e8, beq_self_eq_true]
  refine callWp_of hA ?_
  simp only [walk, Nat.reduceLT, Nat.reduceBEq, Nat.reduceAdd, Nat.reduceLeDiff, reduceIte, Int.reduceLT, Int.reduceLE, Int.reduceEq, Int.reduceToNat, Int.reduceBEq, ha, hb, hc]
theorem getD_zw {g : Int → Int → Int} {a b : List Int} {i : Nat} (ha : i < a.length) (hb : i < b.length) : (List.zipWith g a b).getD i 0 = g (a.getD i 0) (b.getD i 0) := by
  simp [List.getD_eq_getElem?_getD, List.getElem?_zipWith, List.getElem?_eq_getElem ha, List.getElem?_eq_getElem hb]
theorem has_join {a b : List Int} {r n : Int} (ha : a.length = 16) (hb : b.length = 16) : hasB (List.zipWith max a b) r n = (hasB a r n || hasB b r n) := by
  unfold hasB
  cases hd : dotB r n
  · rfl
  · obtain ⟨h1, h2, _⟩ := dotB_iff.1 hd
    rw [getD_zw (by omega) (by omega)]
    simp only [Bool.true_and]
    rw [Bool.eq_iff_iff]
    simp only [Bool.or_eq_true, decide_eq_true_eq]
    omega
theorem has_meet {a b : List Int} {r n : Int} (ha : a.length = 16) (hb : b.length = 16) : hasB (List.zipWith min a b) r n = (hasB a r n && hasB b r n) := by
  unfold hasB
  cases hd : dotB r n
  · rfl
  · obtain ⟨h1, h2, _⟩ := dotB_iff.1 hd
    rw [getD_zw (by omega) (by omega)]
    simp only [Bool.true_and]
    rw [Bool.eq_iff_iff]
    simp only [Bool.and_eq_true, decide_eq_true_eq]
    omega
def S_lawDots (R : Rel) : Prop := ∀ (a b : List Int) (r n : Int), a.length = 16 → b.length = 16 → R [.v (vecP a), .v (vecP b), .v (.agg [.int .i64 r, .int .i64 n])] (.val (.bool true)) []
set_option maxHeartbeats 4000000 in
theorem g_VecDots (hJ : S_vec_op (C (F n_vec_Join)) max) (hM : S_vec_op (C (F n_vec_Meet)) min) (hW : S_vec_Within (C (F n_vec_Within))) (hH : S_vec_Has (C (F n_vec_Has))) (hA : S_yes (C (F n_plaw05_awake))) : S_lawDots ((c_plaw05_VecDots F).gives C) := by
  intro a b r n ha hb
  have e1 := has_join (r := r) (n := n) ha hb
  have e2 := has_meet (r := r) (n := n) ha hb
  have e3 : (List.zipWith min a b == a) = true → hasB a r n = true → hasB b r n = true := fun h h' => by
    rw [beq_iff_eq] at h
    rw [h, h'] at e2
    simpa using e2.symm
  refine gives_of rfl ?_
  unfold c_plaw05_VecDots
  simp only [walk, Nat.reduceLT, Nat.reduceBEq, Nat.reduceAdd, Nat.reduceLeDiff, reduceIte, Int.reduceLT, Int.reduceLE, Int.reduceEq, Int.reduceToNat, Int.reduceBEq, ha, hb]
  refine callWp_of (hH a r n ha) ?_
  simp only [walk, Nat.reduceLT, Nat.reduceBEq, Nat.reduceAdd, Nat.reduceLeDiff, reduceIte, Int.reduceLT, Int.reduceLE, Int.reduceEq, Int.reduceToNat, Int.reduceBEq, ha, hb]
  refine callWp_of (hH b r n hb) ?_
  simp only [walk, Nat.reduceLT, Nat.reduceBEq, Nat.reduceAdd, Nat.reduceLeDiff, reduceIte, Int.reduceLT, Int.reduceLE, Int.reduceEq, Int.reduceToNat, Int.reduceBEq, ha, hb]
  refine callWp_of (hJ a b ha hb) ?_
  simp only [walk, Nat.reduceLT, Nat.reduceBEq, Nat.reduceAdd, Nat.reduceLeDiff, reduceIte, Int.reduceLT, Int.reduceLE, Int.reduceEq, Int.reduceToNat, Int.reduceBEq, ha, hb]
  refine callWp_of (hH _ r n (zl ha hb)) ?_
  rw [e1]
  generalize hx : hasB a r n = x at *
  generalize hy : hasB b r n = y at *
  cases x <;> cases y <;> simp only [walk, Nat.reduceLT, Nat.reduceBEq, Nat.reduceAdd, Nat.reduceLeDiff, reduceIte, Int.reduceLT, Int.reduceLE, Int.reduceEq, Int.reduceToNat, Int.reduceBEq, ha, hb, beq_self_eq_true]
  all_goals refine callWp_of (hM a b ha hb) ?_
  all_goals simp only [walk, Nat.reduceLT, Nat.reduceBEq, Nat.reduceAdd, Nat.reduceLeDiff, reduceIte, Int.reduceLT, Int.reduceLE, Int.reduceEq, Int.reduceToNat, Int.reduceBEq, ha, hb, beq_self_eq_true]
  all_goals refine callWp_of (hH _ r n (zl ha hb)) ?_
  all_goals rw [e2]
  all_goals simp only [walk, Nat.reduceLT, Nat.reduceBEq, Nat.reduceAdd, Nat.reduceLeDiff, reduceIte, Int.reduceLT, Int.reduceLE, Int.reduceEq, Int.reduceToNat, Int.reduceBEq, ha, hb, beq_self_eq_true]
  all_goals refine callWp_of (hW a b ha hb) ?_
  all_goals generalize hw : (List.zipWith min a b == a) = w at *
  all_goals cases w <;> simp only [walk, Nat.reduceLT, Nat.reduceBEq, Nat.reduceAdd, Nat.reduceLeDiff, reduceIte, Int.reduceLT, Int.reduceLE, Int.reduceEq, Int.reduceToNat, Int.reduceBEq, ha, hb, beq_self_eq_true]
  all_goals try (refine callWp_of hA ?_; simp only [walk, Nat.reduceLT, Nat.reduceBEq, Nat.reduceAdd, Nat.reduceLeDiff, reduceIte, Int.reduceLT, Int.reduceLE, Int.reduceEq, Int.reduceToNat, Int.reduceBEq, ha, hb, beq_self_eq_true])
  all_goals exact absurd (e3 rfl rfl) (by decide)
end
end Go.AR
