import Derived.Test.YtkankogmljifiaaDoorG32
set_option linter.all false
/-! Operations: values read, named operations in a row. -/
namespace Go.AR
open Go
section
variable {C : CallRel} {F : Nat → FuncId}
theorem rText_ok (s : List UInt8) (b : Int) : (rText s b).1.length ≤ s.length := by have := rText_len s b; omega
theorem g_value_Read (hI : S_rInt (C (F n_pack_Reader_Int))) (hT : S_rText (C (F n_pack_Reader_Text))) (hU : S_unfold (C (F n_value_Unfold))) (hF : S_Fault (C (F n_pack_Reader_Fault))) (hR : S_vOk (C (F n_value_Right))) (hX : S_Fail (C (F n_pack_Reader_Fail))) : S_vRead ((c_value_Read F).gives C) := by
  intro s b hs
  have hsL : sLen s := by unfold sLen; omega
  refine gives_of rfl ?_
  unfold c_value_Read rdVal
  simp only [walk, Nat.reduceLT, Nat.reduceBEq, Nat.reduceAdd, Nat.reduceLeDiff, reduceIte, Int.reduceLT, Int.reduceLE, Int.reduceEq, Int.reduceToNat, Int.reduceBEq]
  refine callWp_of (hI s b hsL) ?_
  have h1 := sLen_rI b hsL
  have h1' := (rI_suf s b).length_le
  generalize rI s b = x at *
  obtain ⟨x1, s1, b1⟩ := x
  simp only [walk, Nat.reduceLT, Nat.reduceBEq, Nat.reduceAdd, Nat.reduceLeDiff, reduceIte, Int.reduceLT, Int.reduceLE, Int.reduceEq, Int.reduceToNat, Int.reduceBEq]
  have fin : ∀ (v : Vl) (s2 : List UInt8) (b2 : Int), v.2.2.length ≤ 20000000 → True := fun _ _ _ _ => trivial
  by_cases hk : x1 = 2
  · subst hk
    simp only [walk, Nat.reduceLT, Nat.reduceBEq, Nat.reduceAdd, Nat.reduceLeDiff, reduceIte, Int.reduceLT, Int.reduceLE, Int.reduceEq, Int.reduceToNat, Int.reduceBEq]
    refine callWp_of (hT s1 b1 h1) ?_
    have h2 := rText_ok s1 b1
    simp only at h1'
    generalize rText s1 b1 = y at *
    obtain ⟨t, s2, b2⟩ := y
    simp only at h2
    simp only [walk, Nat.reduceLT, Nat.reduceBEq, Nat.reduceAdd, Nat.reduceLeDiff, reduceIte, Int.reduceLT, Int.reduceLE, Int.reduceEq, Int.reduceToNat, Int.reduceBEq]
    refine callWp_of (hF s2 b2) ?_
    by_cases hb : b2 = 0
    · have e : (b2 == 0) = true := by simp [hb]
      simp only [walk, Nat.reduceLT, Nat.reduceBEq, Nat.reduceAdd, Nat.reduceLeDiff, reduceIte, Int.reduceLT, Int.reduceLE, Int.reduceEq, Int.reduceToNat, Int.reduceBEq, e]
      refine callWp_of (hR (2, 0, t) (by simp only; omega)) ?_
      cases hd : vOk (2, 0, t) with
      | true =>
        simp only [walk, Nat.reduceLT, Nat.reduceBEq, Nat.reduceAdd, Nat.reduceLeDiff, reduceIte, Int.reduceLT, Int.reduceLE, Int.reduceEq, Int.reduceToNat, Int.reduceBEq]
        refine callWp_of (hF s2 b2) ?_
        simp only [walk, Nat.reduceLT, Nat.reduceBEq, Nat.reduceAdd, Nat.reduceLeDiff, reduceIte, Int.reduceLT, Int.reduceLE, Int.reduceEq, Int.reduceToNat, Int.reduceBEq, hb, bne_self_eq_false, and_false]
      | false =>
        simp only [walk, Nat.reduceLT, Nat.reduceBEq, Nat.reduceAdd, Nat.reduceLeDiff, reduceIte, Int.reduceLT, Int.reduceLE, Int.reduceEq, Int.reduceToNat, Int.reduceBEq]
        refine callWp_of (hX s2 b2 2) ?_
        simp only [walk, Nat.reduceLT, Nat.reduceBEq, Nat.reduceAdd, Nat.reduceLeDiff, reduceIte, Int.reduceLT, Int.reduceLE, Int.reduceEq, Int.reduceToNat, Int.reduceBEq]
        refine callWp_of (hF s2 _) ?_
        have e2 : ((2 : Int) != 0) = true := rfl
        simp only [walk, Nat.reduceLT, Nat.reduceBEq, Nat.reduceAdd, Nat.reduceLeDiff, reduceIte, Int.reduceLT, Int.reduceLE, Int.reduceEq, Int.reduceToNat, Int.reduceBEq, failB, hb, e2, and_self]
        rfl
    · have e : (b2 == 0) = false := by rw [beq_eq_false_iff_ne]; exact hb
      have e2 : (b2 != 0) = true := by simp [hb]
      simp only [walk, Nat.reduceLT, Nat.reduceBEq, Nat.reduceAdd, Nat.reduceLeDiff, reduceIte, Int.reduceLT, Int.reduceLE, Int.reduceEq, Int.reduceToNat, Int.reduceBEq, e]
      refine callWp_of (hF s2 b2) ?_
      simp only [walk, Nat.reduceLT, Nat.reduceBEq, Nat.reduceAdd, Nat.reduceLeDiff, reduceIte, Int.reduceLT, Int.reduceLE, Int.reduceEq, Int.reduceToNat, Int.reduceBEq, e2, hb, false_and]
      rfl
  · have ek : (x1 == 2) = false := by rw [beq_eq_false_iff_ne]; exact hk
    simp only [walk, Nat.reduceLT, Nat.reduceBEq, Nat.reduceAdd, Nat.reduceLeDiff, reduceIte, Int.reduceLT, Int.reduceLE, Int.reduceEq, Int.reduceToNat, Int.reduceBEq, ek, hk]
    refine callWp_of (hI s1 b1 h1) ?_
    have h3 := rI_lt s1 b1
    generalize rI s1 b1 = y at *
    obtain ⟨n, s2, b2⟩ := y
    simp only at h3
    simp only [walk, Nat.reduceLT, Nat.reduceBEq, Nat.reduceAdd, Nat.reduceLeDiff, reduceIte, Int.reduceLT, Int.reduceLE, Int.reduceEq, Int.reduceToNat, Int.reduceBEq]
    refine callWp_of (hU n h3.1 h3.2.1) ?_
    simp only [walk, Nat.reduceLT, Nat.reduceBEq, Nat.reduceAdd, Nat.reduceLeDiff, reduceIte, Int.reduceLT, Int.reduceLE, Int.reduceEq, Int.reduceToNat, Int.reduceBEq]
    refine callWp_of (hF s2 b2) ?_
    by_cases hb : b2 = 0
    · have e : (b2 == 0) = true := by simp [hb]
      simp only [walk, Nat.reduceLT, Nat.reduceBEq, Nat.reduceAdd, Nat.reduceLeDiff, reduceIte, Int.reduceLT, Int.reduceLE, Int.reduceEq, Int.reduceToNat, Int.reduceBEq, e]
      refine callWp_of (hR (x1, unfoldI n, []) (by simp)) ?_
      cases hd : vOk (x1, unfoldI n, []) with
      | true =>
        simp only [walk, Nat.reduceLT, Nat.reduceBEq, Nat.reduceAdd, Nat.reduceLeDiff, reduceIte, Int.reduceLT, Int.reduceLE, Int.reduceEq, Int.reduceToNat, Int.reduceBEq]
        refine callWp_of (hF s2 b2) ?_
        simp only [walk, Nat.reduceLT, Nat.reduceBEq, Nat.reduceAdd, Nat.reduceLeDiff, reduceIte, Int.reduceLT, Int.reduceLE, Int.reduceEq, Int.reduceToNat, Int.reduceBEq, hb, bne_self_eq_false, and_false]
      | false =>
        simp only [walk, Nat.reduceLT, Nat.reduceBEq, Nat.reduceAdd, Nat.reduceLeDiff, reduceIte, Int.reduceLT, Int.reduceLE, Int.reduceEq, Int.reduceToNat, Int.reduceBEq]
        refine callWp_of (hX s2 b2 2) ?_
        simp only [walk, Nat.reduceLT, Nat.reduceBEq, Nat.reduceAdd, Nat.reduceLeDiff, reduceIte, Int.reduceLT, Int.reduceLE, Int.reduceEq, Int.reduceToNat, Int.reduceBEq]
        refine callWp_of (hF s2 _) ?_
        have e2 : ((2 : Int) != 0) = true := rfl
        simp only [walk, Nat.reduceLT, Nat.reduceBEq, Nat.reduceAdd, Nat.reduceLeDiff, reduceIte, Int.reduceLT, Int.reduceLE, Int.reduceEq, Int.reduceToNat, Int.reduceBEq, failB, hb, e2, and_self]
        rfl
    · have e : (b2 == 0) = false := by rw [beq_eq_false_iff_ne]; exact hb
      have e2 : (b2 != 0) = true := by simp [hb]
      simp only [walk, Nat.reduceLT, Nat.reduceBEq, Nat.reduceAdd, Nat.reduceLeDiff, reduceIte, Int.reduceLT, Int.reduceLE, Int.reduceEq, Int.reduceToNat, Int.reduceBEq, e]
      refine callWp_of (hF s2 b2) ?_
      simp only [walk, Nat.reduceLT, Nat.reduceBEq, Nat.reduceAdd, Nat.reduceLeDiff, reduceIte, Int.reduceLT, Int.reduceLE, Int.reduceEq, Int.reduceToNat, Int.reduceBEq, e2, hb, false_and]
      rfl
end
end Go.AR

/-! Operations: those that are named, and the small questions. -/
namespace Go.AR
open Go
section
variable {C : CallRel} {F : Nat → FuncId}
def S_seen (R : Rel) : Prop := ∀ s b, sLen s → R [.r (rdr s b)] (.val (usP (rdSeen s b).1)) [rdr (rdSeen s b).2.1 (rdSeen s b).2.2]
theorem rdDot_suf (s : List UInt8) (b : Int) : (rdDot s b).2.1 <:+ s := (rI_suf _ _).trans (rI_suf s b)
theorem rdRefs_step (n : Nat) (s : List UInt8) (b : Int) (l : List Ud) (k : Nat) (h : k < n) :
    (l ++ (rdRefs (n - k) s b).1, (rdRefs (n - k) s b).2) = ((l ++ [((rdDot s b).1, (rI (rdDot s b).2.1 (rdDot s b).2.2).1)]) ++ (rdRefs (n - (k + 1)) (rI (rdDot s b).2.1 (rdDot s b).2.2).2.1 (rI (rdDot s b).2.1 (rdDot s b).2.2).2.2).1, (rdRefs (n - (k + 1)) (rI (rdDot s b).2.1 (rdDot s b).2.2).2.1 (rI (rdDot s b).2.1 (rdDot s b).2.2).2.2).2) := by
  rw [show n - k = (n - (k + 1)) + 1 by omega, rdRefs]
  simp
theorem g_op_seen (hM : S_rMany (C (F n_pack_Reader_Many))) (hD : S_dRead (C (F n_dot_Read))) (hI : S_rInt (C (F n_pack_Reader_Int))) : S_seen ((c_op_seen F).gives C) := by
  intro s b hs
  refine gives_of rfl ?_
  unfold c_op_seen
  simp only [walk, Nat.reduceLT, Nat.reduceBEq, Nat.reduceAdd, Nat.reduceLeDiff, reduceIte, Int.reduceLT, Int.reduceLE, Int.reduceEq, Int.reduceToNat, Int.reduceBEq]
  refine callWp_of (hM s b 256 hs) ?_
  have hm := rMany_lt 256 s b (by omega)
  have hsuf := rMany_suf 256 s b
  unfold rdSeen
  generalize rMany 256 s b = m at *
  obtain ⟨m1, s1, b1⟩ := m
  simp only at hm hsuf
  have hs1 := hsuf.length_le
  simp only [walk, Nat.reduceLT, Nat.reduceBEq, Nat.reduceAdd, Nat.reduceLeDiff, reduceIte, Int.reduceLT, Int.reduceLE, Int.reduceEq, Int.reduceToNat, Int.reduceBEq]
  generalize hq : rdRefs m1.toNat s1 b1 = q at *
  refine awp_loop_ind (X := Nat × List Ud × List UInt8 × Int) (fun x => ⟨[(0, .lp 0 0), (2, .val (.sl 3 [])), (3, .own 3 (uRows x.2.1)), (5, .val (.int .i64 m1)), (6, .val (.int .i64 x.1))], [(0, rdr x.2.2.1 x.2.2.2)]⟩)
    (fun x => x.1 ≤ m1.toNat ∧ x.2.1.length = x.1 ∧ sLen x.2.2.1 ∧ (x.2.1 ++ (rdRefs (m1.toNat - x.1) x.2.2.1 x.2.2.2).1, (rdRefs (m1.toNat - x.1) x.2.2.1 x.2.2.2).2) = q) (fun x => m1.toNat - x.1) (0, [], s1, b1) ⟨by omega, by simp, by unfold sLen at *; simp only; omega, by simpa using hq⟩ (by simp [uRows]) ?_
  rintro R ⟨k, l, t, e⟩ ⟨h1, h2, h3, hJ⟩ ih
  simp only at h1 h2 h3 hJ
  have hb2 : (l.length + 1) * 24 ≤ 140737488355328 := by omega
  simp only [walk, Nat.reduceLT, Nat.reduceBEq, Nat.reduceAdd, Nat.reduceLeDiff, reduceIte, Int.reduceLT, Int.reduceLE, Int.reduceEq, Int.reduceToNat, Int.reduceBEq]
  by_cases c : k < m1.toNat
  · have c1 : (k : Int) < m1 := by omega
    have e1 : IntKind.i64.wrap ((k : Int) + 1) = ((k + 1 : Nat) : Int) := wrap64 (by omega) (by omega)
    simp only [walk, Nat.reduceLT, Nat.reduceBEq, Nat.reduceAdd, Nat.reduceLeDiff, reduceIte, Int.reduceLT, Int.reduceLE, Int.reduceEq, Int.reduceToNat, Int.reduceBEq, c1]
    refine callWp_of (hD t e h3) ?_
    rw [rdRefs_step _ _ _ _ _ c] at hJ
    have h4 : sLen (rdDot t e).2.1 := by have := (rdDot_suf t e).length_le; unfold sLen at *; omega
    have h5 := sLen_rI (rdDot t e).2.2 h4
    have step := ih (k + 1, l ++ [((rdDot t e).1, (rI (rdDot t e).2.1 (rdDot t e).2.2).1)], (rI (rdDot t e).2.1 (rdDot t e).2.2).2.1, (rI (rdDot t e).2.1 (rdDot t e).2.2).2.2) ⟨by simp only; omega, by simp; omega, h5, hJ⟩ (by simp only; omega)
    rw [← uRows_app] at step
    simp only [walk, Nat.reduceLT, Nat.reduceBEq, Nat.reduceAdd, Nat.reduceLeDiff, reduceIte, Int.reduceLT, Int.reduceLE, Int.reduceEq, Int.reduceToNat, Int.reduceBEq]
    refine callWp_of (hI _ _ h4) ?_
    simp only [walk, Nat.reduceLT, Nat.reduceBEq, Nat.reduceAdd, Nat.reduceLeDiff, reduceIte, Int.reduceLT, Int.reduceLE, Int.reduceEq, Int.reduceToNat, Int.reduceBEq, uRows_len, hb2, e1]
    exact step
  · have c1 : ¬ (k : Int) < m1 := by omega
    rw [show m1.toNat - k = 0 by omega, rdRefs] at hJ
    simp only [List.append_nil] at hJ
    subst hJ
    simp only [walk, Nat.reduceLT, Nat.reduceBEq, Nat.reduceAdd, Nat.reduceLeDiff, reduceIte, Int.reduceLT, Int.reduceLE, Int.reduceEq, Int.reduceToNat, Int.reduceBEq, c1]
theorem refAt_eq (l : List Ud) (k : Nat) : refAt l k = (rOk (l.getD k z3) && (k == 0 || decide (rcmp (l.getD (k - 1) z3) (l.getD k z3) < 0))) := rfl
theorem g_op_Refs (hR : S_dotOk (C (F n_dot_Right))) (hC : S_rcmp (C (F n_dot_Refs))) : S_refs ((c_op_Refs F).gives C) := by
  intro l hl
  refine gives_of rfl ?_
  unfold c_op_Refs
  simp only [walk, Nat.reduceLT, Nat.reduceBEq, Nat.reduceAdd, Nat.reduceLeDiff, reduceIte, Int.reduceLT, Int.reduceLE, Int.reduceEq, Int.reduceToNat, Int.reduceBEq, uRows_len]
  refine awp_loop_ind (X := Nat) (fun k => ⟨[(0, .val (usP l)), (2, .val (.bool false)), (5, .val (usP l)), (6, .val (.int .i64 l.length)), (7, .val (.int .i64 k))], []⟩)
    (fun k => k ≤ l.length ∧ ∀ j, j < k → refAt l j = true) (fun k => l.length - k) 0 ⟨by omega, by omega⟩ rfl ?_
  rintro R k ⟨hk, hJ⟩ ih
  simp only [walk, Nat.reduceLT, Nat.reduceBEq, Nat.reduceAdd, Nat.reduceLeDiff, reduceIte, Int.reduceLT, Int.reduceLE, Int.reduceEq, Int.reduceToNat, Int.reduceBEq]
  by_cases c : k < l.length
  · have c1 : (k : Int) < l.length := by omega
    have c0 : (0 : Int) ≤ k := by omega
    have e1 : IntKind.i64.wrap ((k : Int) + 1) = ((k + 1 : Nat) : Int) := wrap64 (by omega) (by omega)
    have hat := refAt_eq l k
    have next : refAt l k = true → _ := fun h => ih (k + 1) ⟨by omega, fun j hj => by
      by_cases e : j = k
      · subst e; exact h
      · exact hJ j (by omega)⟩ (by omega)
    have nope : refAt l k = false → refsOk l = false := refsOk_no c
    simp only [walk, Nat.reduceLT, Nat.reduceBEq, Nat.reduceAdd, Nat.reduceLeDiff, reduceIte, Int.reduceLT, Int.reduceLE, Int.reduceEq, Int.reduceToNat, Int.reduceBEq, c1, uRows_get c]
    refine callWp_of (hR (l.getD k z3).1) ?_
    generalize hx : l.getD k z3 = x at *
    have hro : rOk x = (dotOk x.1 && decide (0 ≤ x.2) && decide (x.2 < 16)) := rfl
    cases hd : dotOk x.1 with
    | false =>
      rw [hd] at hro
      simp only [Bool.false_and] at hro
      rw [hro, Bool.false_and] at hat
      by_cases hk0 : (k : Int) > 0
      · have w1 : IntKind.i64.wrap ((k : Int) - 1) = ((k - 1 : Nat) : Int) := by rw [wrap64 (by omega) (by omega)]; omega
        have c3 : ((k - 1 : Nat) : Int) < l.length := by omega
        simp only [walk, Nat.reduceLT, Nat.reduceBEq, Nat.reduceAdd, Nat.reduceLeDiff, reduceIte, Int.reduceLT, Int.reduceLE, Int.reduceEq, Int.reduceToNat, Int.reduceBEq, nope hat, hk0, w1, c3, uRows_get (show k - 1 < l.length by omega)]
      · simp only [walk, Nat.reduceLT, Nat.reduceBEq, Nat.reduceAdd, Nat.reduceLeDiff, reduceIte, Int.reduceLT, Int.reduceLE, Int.reduceEq, Int.reduceToNat, Int.reduceBEq, nope hat, hk0]
    | true =>
      rw [hd] at hro
      simp only [Bool.true_and] at hro
      by_cases d1 : x.2 < 0
      · have : rOk x = false := by rw [hro]; simp; omega
        rw [this, Bool.false_and] at hat
        simp only [walk, Nat.reduceLT, Nat.reduceBEq, Nat.reduceAdd, Nat.reduceLeDiff, reduceIte, Int.reduceLT, Int.reduceLE, Int.reduceEq, Int.reduceToNat, Int.reduceBEq, nope hat, d1]
      · by_cases d2 : x.2 ≥ 16
        · have : rOk x = false := by rw [hro]; simp; omega
          rw [this, Bool.false_and] at hat
          simp only [walk, Nat.reduceLT, Nat.reduceBEq, Nat.reduceAdd, Nat.reduceLeDiff, reduceIte, Int.reduceLT, Int.reduceLE, Int.reduceEq, Int.reduceToNat, Int.reduceBEq, nope hat, d1, d2]
        · have : rOk x = true := by rw [hro]; simp; omega
          rw [this, Bool.true_and] at hat
          by_cases hk0 : (k : Int) > 0
          · have w1 : IntKind.i64.wrap ((k : Int) - 1) = ((k - 1 : Nat) : Int) := by rw [wrap64 (by omega) (by omega)]; omega
            have c3 : ((k - 1 : Nat) : Int) < l.length := by omega
            have k0 : (k == 0) = false := by rw [beq_eq_false_iff_ne]; omega
            rw [k0, Bool.false_or] at hat
            simp only [walk, Nat.reduceLT, Nat.reduceBEq, Nat.reduceAdd, Nat.reduceLeDiff, reduceIte, Int.reduceLT, Int.reduceLE, Int.reduceEq, Int.reduceToNat, Int.reduceBEq, d1, d2, hk0, w1, c3, uRows_get (show k - 1 < l.length by omega)]
            refine callWp_of (hC (l.getD (k - 1) z3) x) ?_
            by_cases d3 : rcmp (l.getD (k - 1) z3) x < 0
            · have d4 : ¬ rcmp (l.getD (k - 1) z3) x ≥ 0 := by omega
              simp only [walk, Nat.reduceLT, Nat.reduceBEq, Nat.reduceAdd, Nat.reduceLeDiff, reduceIte, Int.reduceLT, Int.reduceLE, Int.reduceEq, Int.reduceToNat, Int.reduceBEq, d4, e1]
              exact next (by rw [hat]; simpa using d3)
            · have d4 : rcmp (l.getD (k - 1) z3) x ≥ 0 := by omega
              simp only [walk, Nat.reduceLT, Nat.reduceBEq, Nat.reduceAdd, Nat.reduceLeDiff, reduceIte, Int.reduceLT, Int.reduceLE, Int.reduceEq, Int.reduceToNat, Int.reduceBEq, d4, nope (by rw [hat]; simpa using d3)]
          · have k0 : (k == 0) = true := by rw [beq_iff_eq]; omega
            rw [k0, Bool.true_or] at hat
            simp only [walk, Nat.reduceLT, Nat.reduceBEq, Nat.reduceAdd, Nat.reduceLeDiff, reduceIte, Int.reduceLT, Int.reduceLE, Int.reduceEq, Int.reduceToNat, Int.reduceBEq, d1, d2, hk0, e1]
            exact next hat
  · have c1 : ¬ (k : Int) < l.length := by omega
    have : refsOk l = true := refsOk_iff.2 (fun j hj => hJ j (by omega))
    simp only [walk, Nat.reduceLT, Nat.reduceBEq, Nat.reduceAdd, Nat.reduceLeDiff, reduceIte, Int.reduceLT, Int.reduceLE, Int.reduceEq, Int.reduceToNat, Int.reduceBEq, c1, this]
end
end Go.AR

/-! Operations: the questions. -/
namespace Go.AR
open Go
section
variable {C : CallRel} {F : Nat → FuncId}
abbrev oCells (o : Ov) : List PV := [.int .i64 o.k, ptP o.p, .int .i64 o.v.1, .int .i64 o.v.2.1, .str o.v.2.2, .int .i64 o.am, usP o.rs]
abbrev oP (o : Ov) : PV := .agg (oCells o)
def oOk (o : Ov) : Prop := pOk o.p ∧ o.v.2.2.length ≤ 20000000 ∧ o.rs.length ≤ 2000000
def S_oVal (R : Rel) : Prop := ∀ o : Ov, oOk o → R [.v (oP o)] (.val (.bool (if o.k = 3 ∨ o.k = 5 then decide (o.v = z0) else vOk o.v))) []
def amOk (o : Ov) : Bool := if o.k = 3 then decide (o.am ≠ 0) && (decide (-2147483647 ≤ o.am) && decide (o.am ≤ 2147483647)) else decide (o.am = 0)
def S_oAm (R : Rel) : Prop := ∀ o : Ov, R [.v (oP o)] (.val (.bool (amOk o))) []
def S_oGone (R : Rel) : Prop := ∀ o : Ov, R [.v (oP o)] (.val (.bool (oGone o))) []
def S_oSame (R : Rel) : Prop := ∀ a b : Ov, oOk a → R [.v (oP a), .v (oP b)] (.val (.bool (decide (a = b)))) []
def S_oCheck (R : Rel) : Prop := ∀ o : Ov, oOk o → R [.v (oP o)] (.val (.int .i64 (oCheck o))) []
def S_oShort (R : Rel) : Prop := ∀ o : Ov, R [.v (oP o)] (.val (.bool (oShort o))) []
theorem g_pref11_Refs (hR : S_dotOk (C (F n_pref04_Right))) (hC : S_rcmp (C (F n_pref04_Refs))) : S_refs ((c_pref11_Refs F).gives C) := by
  intro l hl
  refine gives_of rfl ?_
  unfold c_pref11_Refs
  simp only [walk, Nat.reduceLT, Nat.reduceBEq, Nat.reduceAdd, Nat.reduceLeDiff, reduceIte, Int.reduceLT, Int.reduceLE, Int.reduceEq, Int.reduceToNat, Int.reduceBEq, uRows_len]
  refine awp_loop_ind (X := Nat) (fun k => ⟨[(0, .val (usP l)), (2, .val (.bool false)), (3, .val (.int .i64 k))], []⟩)
    (fun k => k ≤ l.length ∧ ∀ j, j < k → refAt l j = true) (fun k => l.length - k) 0 ⟨by omega, by omega⟩ rfl ?_
  rintro R k ⟨hk, hJ⟩ ih
  simp only [walk, Nat.reduceLT, Nat.reduceBEq, Nat.reduceAdd, Nat.reduceLeDiff, reduceIte, Int.reduceLT, Int.reduceLE, Int.reduceEq, Int.reduceToNat, Int.reduceBEq, uRows_len]
  by_cases c : k < l.length
  · have c1 : (k : Int) < l.length := by omega
    have c0 : (0 : Int) ≤ k := by omega
    have e1 : IntKind.i64.wrap ((k : Int) + 1) = ((k + 1 : Nat) : Int) := wrap64 (by omega) (by omega)
    have hat := refAt_eq l k
    have next : refAt l k = true → _ := fun h => ih (k + 1) ⟨by omega, fun j hj => by
      by_cases e : j = k
      · subst e; exact h
      · exact hJ j (by omega)⟩ (by omega)
    have nope : refAt l k = false → refsOk l = false := refsOk_no c
    simp only [walk, Nat.reduceLT, Nat.reduceBEq, Nat.reduceAdd, Nat.reduceLeDiff, reduceIte, Int.reduceLT, Int.reduceLE, Int.reduceEq, Int.reduceToNat, Int.reduceBEq, c1, uRows_get c, uRows_len]
    refine callWp_of (hR (l.getD k z3).1) ?_
    generalize hx : l.getD k z3 = x at *
    have hro : rOk x = (dotOk x.1 && decide (0 ≤ x.2) && decide (x.2 < 16)) := rfl
    have hg := uRows_get c
    rw [hx] at hg
    cases hd : dotOk x.1 with
    | false =>
      rw [hd] at hro
      simp only [Bool.false_and] at hro
      rw [hro, Bool.false_and] at hat
      simp only [walk, Nat.reduceLT, Nat.reduceBEq, Nat.reduceAdd, Nat.reduceLeDiff, reduceIte, Int.reduceLT, Int.reduceLE, Int.reduceEq, Int.reduceToNat, Int.reduceBEq, nope hat, c1, hg, uRows_len]
    | true =>
      rw [hd] at hro
      simp only [Bool.true_and] at hro
      by_cases d1 : x.2 < 0
      · have : rOk x = false := by rw [hro]; simp; omega
        rw [this, Bool.false_and] at hat
        simp only [walk, Nat.reduceLT, Nat.reduceBEq, Nat.reduceAdd, Nat.reduceLeDiff, reduceIte, Int.reduceLT, Int.reduceLE, Int.reduceEq, Int.reduceToNat, Int.reduceBEq, nope hat, d1, c1, hg, uRows_len]
      · by_cases d2 : x.2 > 15
        · have : rOk x = false := by rw [hro]; simp; omega
          rw [this, Bool.false_and] at hat
          simp only [walk, Nat.reduceLT, Nat.reduceBEq, Nat.reduceAdd, Nat.reduceLeDiff, reduceIte, Int.reduceLT, Int.reduceLE, Int.reduceEq, Int.reduceToNat, Int.reduceBEq, nope hat, d1, d2, c1, hg, uRows_len]
        · have : rOk x = true := by rw [hro]; simp; omega
          rw [this, Bool.true_and] at hat
          by_cases hk0 : (k : Int) > 0
          · have w1 : IntKind.i64.wrap ((k : Int) - 1) = ((k - 1 : Nat) : Int) := by rw [wrap64 (by omega) (by omega)]; omega
            have c3 : ((k - 1 : Nat) : Int) < l.length := by omega
            have k0 : (k == 0) = false := by rw [beq_eq_false_iff_ne]; omega
            rw [k0, Bool.false_or] at hat
            simp only [walk, Nat.reduceLT, Nat.reduceBEq, Nat.reduceAdd, Nat.reduceLeDiff, reduceIte, Int.reduceLT, Int.reduceLE, Int.reduceEq, Int.reduceToNat, Int.reduceBEq, d1, d2, hk0, w1, c1, c3, hg, uRows_len, uRows_get (show k - 1 < l.length by omega)]
            refine callWp_of (hC (l.getD (k - 1) z3) x) ?_
            have hcs := rcmp_cases (l.getD (k - 1) z3) x
            by_cases d3 : rcmp (l.getD (k - 1) z3) x < 0
            · have d4 : (rcmp (l.getD (k - 1) z3) x != -1) = false := by
                rw [bne, Bool.not_eq_false', beq_iff_eq]; omega
              simp only [walk, Nat.reduceLT, Nat.reduceBEq, Nat.reduceAdd, Nat.reduceLeDiff, reduceIte, Int.reduceLT, Int.reduceLE, Int.reduceEq, Int.reduceToNat, Int.reduceBEq, d4, e1]
              exact next (by rw [hat]; simpa using d3)
            · have d4 : (rcmp (l.getD (k - 1) z3) x != -1) = true := by
                rw [bne, Bool.not_eq_true', beq_eq_false_iff_ne]; omega
              simp only [walk, Nat.reduceLT, Nat.reduceBEq, Nat.reduceAdd, Nat.reduceLeDiff, reduceIte, Int.reduceLT, Int.reduceLE, Int.reduceEq, Int.reduceToNat, Int.reduceBEq, d4, nope (by rw [hat]; simpa using d3)]
          · have k0 : (k == 0) = true := by rw [beq_iff_eq]; omega
            rw [k0, Bool.true_or] at hat
            simp only [walk, Nat.reduceLT, Nat.reduceBEq, Nat.reduceAdd, Nat.reduceLeDiff, reduceIte, Int.reduceLT, Int.reduceLE, Int.reduceEq, Int.reduceToNat, Int.reduceBEq, d1, d2, hk0, e1, c1, hg, uRows_len]
            exact next hat
  · have c1 : ¬ (k : Int) < l.length := by omega
    have : refsOk l = true := refsOk_iff.2 (fun j hj => hJ j (by omega))
    simp only [walk, Nat.reduceLT, Nat.reduceBEq, Nat.reduceAdd, Nat.reduceLeDiff, reduceIte, Int.reduceLT, Int.reduceLE, Int.reduceEq, Int.reduceToNat, Int.reduceBEq, c1, this]
theorem g_slices_Equal_api_Ref : S_rsame ((c_slices_Equal_api_Ref_api_Ref F).gives C) := by
  intro a b ha
  refine gives_of rfl ?_
  unfold c_slices_Equal_api_Ref_api_Ref
  simp only [walk, Nat.reduceLT, Nat.reduceBEq, Nat.reduceAdd, Nat.reduceLeDiff, reduceIte, Int.reduceLT, Int.reduceLE, Int.reduceEq, Int.reduceToNat, Int.reduceBEq, uRows_len]
  by_cases hl : a.length = b.length
  · have hl' : ((a.length : Int) != (b.length : Int)) = false := by rw [bne, hl]; simp
    simp only [walk, Nat.reduceLT, Nat.reduceBEq, Nat.reduceAdd, Nat.reduceLeDiff, reduceIte, Int.reduceLT, Int.reduceLE, Int.reduceEq, Int.reduceToNat, Int.reduceBEq, hl', uRows_len]
    refine awp_loop_ind (X := Nat) (fun k => ⟨[(0, .val (usP a)), (1, .val (usP b)), (4, .val (.bool false)), (10, .val (.bool false)), (12, .val (.int .i64 a.length)), (13, .val (.int .i64 k))], []⟩)
      (fun k => k ≤ a.length ∧ a.take k = b.take k) (fun k => a.length - k) 0 ⟨by omega, by simp⟩ rfl ?_
    rintro R k ⟨hk, hJ⟩ ih
    simp only [walk, Nat.reduceLT, Nat.reduceBEq, Nat.reduceAdd, Nat.reduceLeDiff, reduceIte, Int.reduceLT, Int.reduceLE, Int.reduceEq, Int.reduceToNat, Int.reduceBEq, uRows_len]
    by_cases c : k < a.length
    · have c1 : (k : Int) < a.length := by omega
      have cb : k < b.length := by omega
      have cb1 : (k : Int) < b.length := by omega
      have c0 : (0 : Int) ≤ k := by omega
      have e1 : IntKind.i64.wrap ((k : Int) + 1) = ((k + 1 : Nat) : Int) := wrap64 (by omega) (by omega)
      have ga : a.getD k z3 = a[k] := by simp [List.getD_eq_getElem?_getD, c]
      have gb : b.getD k z3 = b[k] := by simp [List.getD_eq_getElem?_getD, cb]
      simp only [walk, Nat.reduceLT, Nat.reduceBEq, Nat.reduceAdd, Nat.reduceLeDiff, reduceIte, Int.reduceLT, Int.reduceLE, Int.reduceEq, Int.reduceToNat, Int.reduceBEq, c1, cb1, uRows_get c, uRows_get cb, uRows_len, eq_r, ga, gb]
      by_cases he : a[k] = b[k]
      · simp only [walk, Nat.reduceLT, Nat.reduceBEq, Nat.reduceAdd, Nat.reduceLeDiff, reduceIte, Int.reduceLT, Int.reduceLE, Int.reduceEq, Int.reduceToNat, Int.reduceBEq, he, e1]
        refine ih (k + 1) ⟨by omega, ?_⟩ (by omega)
        rw [List.take_add_one, List.take_add_one, hJ, List.getElem?_eq_getElem c, List.getElem?_eq_getElem cb, he]
      · have hf : ¬ a = b := by
          rintro rfl
          exact he rfl
        simp only [walk, Nat.reduceLT, Nat.reduceBEq, Nat.reduceAdd, Nat.reduceLeDiff, reduceIte, Int.reduceLT, Int.reduceLE, Int.reduceEq, Int.reduceToNat, Int.reduceBEq, he, hf]
    · have c1 : ¬ (k : Int) < a.length := by omega
      rw [List.take_of_length_le (by omega), List.take_of_length_le (by omega)] at hJ
      subst hJ
      simp only [walk, Nat.reduceLT, Nat.reduceBEq, Nat.reduceAdd, Nat.reduceLeDiff, reduceIte, Int.reduceLT, Int.reduceLE, Int.reduceEq, Int.reduceToNat, Int.reduceBEq, c1]
  · have hl' : ((a.length : Int) != (b.length : Int)) = true := by
      rw [bne, Bool.not_eq_true', beq_eq_false_iff_ne]; omega
    have hf : ¬ a = b := by
      rintro rfl
      exact hl rfl
    simp only [walk, Nat.reduceLT, Nat.reduceBEq, Nat.reduceAdd, Nat.reduceLeDiff, reduceIte, Int.reduceLT, Int.reduceLE, Int.reduceEq, Int.reduceToNat, Int.reduceBEq, hl', hf]
end
end Go.AR

/-! Operations: the questions, more. -/
namespace Go.AR
open Go
section
variable {C : CallRel} {F : Nat → FuncId}
theorem ieq (a b : Int) : (a == b) = decide (a = b) := rfl
theorem ine (a b : Int) : (a != b) = decide (a ≠ b) := by
  rw [Bool.eq_iff_iff]; simp
theorem g_op_valued (hR : S_vOk (C (F n_value_Right))) : S_oVal ((c_op_valued F).gives C) := by
  intro o ho
  refine gives_of rfl ?_
  unfold c_op_valued
  simp only [walk, Nat.reduceLT, Nat.reduceBEq, Nat.reduceAdd, Nat.reduceLeDiff, reduceIte, Int.reduceLT, Int.reduceLE, Int.reduceEq, Int.reduceToNat, Int.reduceBEq, ieq, ine]
  by_cases h3 : o.k = 3
  · simp only [walk, Nat.reduceLT, Nat.reduceBEq, Nat.reduceAdd, Nat.reduceLeDiff, reduceIte, Int.reduceLT, Int.reduceLE, Int.reduceEq, Int.reduceToNat, Int.reduceBEq, ieq, ine, h3, eq_v0, or_true, true_or]
  · by_cases h5 : o.k = 5
    · simp only [walk, Nat.reduceLT, Nat.reduceBEq, Nat.reduceAdd, Nat.reduceLeDiff, reduceIte, Int.reduceLT, Int.reduceLE, Int.reduceEq, Int.reduceToNat, Int.reduceBEq, ieq, ine, h3, h5, eq_v0, or_true, true_or]
    · simp only [walk, Nat.reduceLT, Nat.reduceBEq, Nat.reduceAdd, Nat.reduceLeDiff, reduceIte, Int.reduceLT, Int.reduceLE, Int.reduceEq, Int.reduceToNat, Int.reduceBEq, ieq, ine, h3, h5, or_self]
      refine callWp_of (hR o.v ho.2.1) ?_
      simp only [walk, Nat.reduceLT, Nat.reduceBEq, Nat.reduceAdd, Nat.reduceLeDiff, reduceIte, Int.reduceLT, Int.reduceLE, Int.reduceEq, Int.reduceToNat, Int.reduceBEq, ieq, ine]
theorem g_op_amount : S_oAm ((c_op_amount F).gives C) := by
  intro o
  refine gives_of rfl ?_
  unfold c_op_amount amOk
  simp only [walk, Nat.reduceLT, Nat.reduceBEq, Nat.reduceAdd, Nat.reduceLeDiff, reduceIte, Int.reduceLT, Int.reduceLE, Int.reduceEq, Int.reduceToNat, Int.reduceBEq, ieq, ine]
  by_cases h3 : o.k = 3
  · simp only [walk, Nat.reduceLT, Nat.reduceBEq, Nat.reduceAdd, Nat.reduceLeDiff, reduceIte, Int.reduceLT, Int.reduceLE, Int.reduceEq, Int.reduceToNat, Int.reduceBEq, ieq, ine, h3]
    by_cases h0 : o.am = 0
    · simp only [walk, Nat.reduceLT, Nat.reduceBEq, Nat.reduceAdd, Nat.reduceLeDiff, reduceIte, Int.reduceLT, Int.reduceLE, Int.reduceEq, Int.reduceToNat, Int.reduceBEq, ieq, ine, h0, ne_eq]
    · by_cases h1 : -2147483647 ≤ o.am
      · simp only [walk, Nat.reduceLT, Nat.reduceBEq, Nat.reduceAdd, Nat.reduceLeDiff, reduceIte, Int.reduceLT, Int.reduceLE, Int.reduceEq, Int.reduceToNat, Int.reduceBEq, ieq, ine, h0, h1, ne_eq, ge_iff_le]
      · simp only [walk, Nat.reduceLT, Nat.reduceBEq, Nat.reduceAdd, Nat.reduceLeDiff, reduceIte, Int.reduceLT, Int.reduceLE, Int.reduceEq, Int.reduceToNat, Int.reduceBEq, ieq, ine, h0, h1, ne_eq, ge_iff_le]
  · simp only [walk, Nat.reduceLT, Nat.reduceBEq, Nat.reduceAdd, Nat.reduceLeDiff, reduceIte, Int.reduceLT, Int.reduceLE, Int.reduceEq, Int.reduceToNat, Int.reduceBEq, ieq, ine, h3]
theorem gone_iff (o : Ov) : oGone o = true ↔ o.k = 0 ∧ o.p.length = 0 ∧ o.v = z0 ∧ o.am = 0 ∧ o.rs.length = 0 := by
  obtain ⟨k, p, v, am, rs⟩ := o
  simp only [oGone, zop, decide_eq_true_eq, Ov.mk.injEq, List.length_eq_zero_iff]
theorem gone_no {o : Ov} (h : ¬ (o.k = 0 ∧ o.p.length = 0 ∧ o.v = z0 ∧ o.am = 0 ∧ o.rs.length = 0)) : oGone o = false := by
  rw [← Bool.not_eq_true, gone_iff]; exact h
theorem g_op_Gone : S_oGone ((c_op_Gone F).gives C) := by
  intro o
  refine gives_of rfl ?_
  unfold c_op_Gone
  simp only [walk, Nat.reduceLT, Nat.reduceBEq, Nat.reduceAdd, Nat.reduceLeDiff, reduceIte, Int.reduceLT, Int.reduceLE, Int.reduceEq, Int.reduceToNat, Int.reduceBEq, ieq, ine]
  by_cases h1 : o.k = 0
  · by_cases h2 : o.p.length = 0
    · have h2' : (o.p.length : Int) = 0 := by omega
      by_cases h3 : o.v = z0
      · by_cases h4 : o.am = 0
        · by_cases h5 : o.rs.length = 0
          · have h5' : (o.rs.length : Int) = 0 := by omega
            simp only [walk, Nat.reduceLT, Nat.reduceBEq, Nat.reduceAdd, Nat.reduceLeDiff, reduceIte, Int.reduceLT, Int.reduceLE, Int.reduceEq, Int.reduceToNat, Int.reduceBEq, ieq, ine, xRows_len, uRows_len, eq_v0, h1, h2', h3, h4, h5', (gone_iff o).2 ⟨h1, h2, h3, h4, h5⟩]
          · have h5' : ¬ (o.rs.length : Int) = 0 := by omega
            simp only [walk, Nat.reduceLT, Nat.reduceBEq, Nat.reduceAdd, Nat.reduceLeDiff, reduceIte, Int.reduceLT, Int.reduceLE, Int.reduceEq, Int.reduceToNat, Int.reduceBEq, ieq, ine, xRows_len, uRows_len, eq_v0, h1, h2', h3, h4, h5', gone_no (o := o) (by simp [h5])]
        · simp only [walk, Nat.reduceLT, Nat.reduceBEq, Nat.reduceAdd, Nat.reduceLeDiff, reduceIte, Int.reduceLT, Int.reduceLE, Int.reduceEq, Int.reduceToNat, Int.reduceBEq, ieq, ine, xRows_len, uRows_len, eq_v0, h1, h2', h3, h4, gone_no (o := o) (by simp [h4])]
      · simp only [walk, Nat.reduceLT, Nat.reduceBEq, Nat.reduceAdd, Nat.reduceLeDiff, reduceIte, Int.reduceLT, Int.reduceLE, Int.reduceEq, Int.reduceToNat, Int.reduceBEq, ieq, ine, xRows_len, uRows_len, eq_v0, h1, h2', h3, gone_no (o := o) (by simp [h3])]
    · have h2' : ¬ (o.p.length : Int) = 0 := by omega
      simp only [walk, Nat.reduceLT, Nat.reduceBEq, Nat.reduceAdd, Nat.reduceLeDiff, reduceIte, Int.reduceLT, Int.reduceLE, Int.reduceEq, Int.reduceToNat, Int.reduceBEq, ieq, ine, xRows_len, uRows_len, eq_v0, h1, h2', gone_no (o := o) (by simp [h2])]
  · simp only [walk, Nat.reduceLT, Nat.reduceBEq, Nat.reduceAdd, Nat.reduceLeDiff, reduceIte, Int.reduceLT, Int.reduceLE, Int.reduceEq, Int.reduceToNat, Int.reduceBEq, ieq, ine, h1, gone_no (o := o) (by simp [h1])]
theorem g_pref11_Gone : S_oGone ((c_pref11_Gone F).gives C) := by
  intro o
  refine gives_of rfl ?_
  unfold c_pref11_Gone
  simp only [walk, Nat.reduceLT, Nat.reduceBEq, Nat.reduceAdd, Nat.reduceLeDiff, reduceIte, Int.reduceLT, Int.reduceLE, Int.reduceEq, Int.reduceToNat, Int.reduceBEq, ieq, ine]
  by_cases h1 : o.k = 0
  · by_cases h2 : o.p.length = 0
    · have h2' : (o.p.length : Int) = 0 := by omega
      by_cases h3 : o.v = z0
      · by_cases h4 : o.am = 0
        · by_cases h5 : o.rs.length = 0
          · have h5' : (o.rs.length : Int) = 0 := by omega
            simp only [walk, Nat.reduceLT, Nat.reduceBEq, Nat.reduceAdd, Nat.reduceLeDiff, reduceIte, Int.reduceLT, Int.reduceLE, Int.reduceEq, Int.reduceToNat, Int.reduceBEq, ieq, ine, xRows_len, uRows_len, eq_v0, h1, h2', h3, h4, h5', (gone_iff o).2 ⟨h1, h2, h3, h4, h5⟩]
          · have h5' : ¬ (o.rs.length : Int) = 0 := by omega
            simp only [walk, Nat.reduceLT, Nat.reduceBEq, Nat.reduceAdd, Nat.reduceLeDiff, reduceIte, Int.reduceLT, Int.reduceLE, Int.reduceEq, Int.reduceToNat, Int.reduceBEq, ieq, ine, xRows_len, uRows_len, eq_v0, h1, h2', h3, h4, h5', gone_no (o := o) (by simp [h5])]
        · simp only [walk, Nat.reduceLT, Nat.reduceBEq, Nat.reduceAdd, Nat.reduceLeDiff, reduceIte, Int.reduceLT, Int.reduceLE, Int.reduceEq, Int.reduceToNat, Int.reduceBEq, ieq, ine, xRows_len, uRows_len, eq_v0, h1, h2', h3, h4, gone_no (o := o) (by simp [h4])]
      · simp only [walk, Nat.reduceLT, Nat.reduceBEq, Nat.reduceAdd, Nat.reduceLeDiff, reduceIte, Int.reduceLT, Int.reduceLE, Int.reduceEq, Int.reduceToNat, Int.reduceBEq, ieq, ine, xRows_len, uRows_len, eq_v0, h1, h2', h3, gone_no (o := o) (by simp [h3])]
    · have h2' : ¬ (o.p.length : Int) = 0 := by omega
      simp only [walk, Nat.reduceLT, Nat.reduceBEq, Nat.reduceAdd, Nat.reduceLeDiff, reduceIte, Int.reduceLT, Int.reduceLE, Int.reduceEq, Int.reduceToNat, Int.reduceBEq, ieq, ine, xRows_len, uRows_len, eq_v0, h1, h2', gone_no (o := o) (by simp [h2])]
  · simp only [walk, Nat.reduceLT, Nat.reduceBEq, Nat.reduceAdd, Nat.reduceLeDiff, reduceIte, Int.reduceLT, Int.reduceLE, Int.reduceEq, Int.reduceToNat, Int.reduceBEq, ieq, ine, h1, gone_no (o := o) (by simp [h1])]
abbrev oB (o : Ov) : Blk := .cells [.val (.int .i64 o.k), .val (ptP o.p), .val (.int .i64 o.v.1), .val (.int .i64 o.v.2.1), .val (.str o.v.2.2), .val (.int .i64 o.am), .val (usP o.rs)]
theorem getD_at {l : List Ud} {k : Nat} (h : k < l.length) : l.getD k z3 = l[k] := by simp [List.getD_eq_getElem?_getD, h]
theorem same_iff (a b : Ov) : a = b ↔ a.k = b.k ∧ a.v = b.v ∧ a.am = b.am ∧ a.p = b.p ∧ a.rs = b.rs := by
  obtain ⟨k, p, v, am, rs⟩ := a
  obtain ⟨k2, p2, v2, am2, rs2⟩ := b
  simp only [Ov.mk.injEq]
  constructor
  · rintro ⟨h1, h2, h3, h4, h5⟩; exact ⟨h1, h3, h4, h2, h5⟩
  · rintro ⟨h1, h3, h4, h2, h5⟩; exact ⟨h1, h2, h3, h4, h5⟩
theorem same_no {a b : Ov} (h : ¬ (a.k = b.k ∧ a.v = b.v ∧ a.am = b.am ∧ a.p = b.p ∧ a.rs = b.rs)) : decide (a = b) = false := decide_eq_false (fun e => h ((same_iff a b).1 e))
theorem same_yes {a b : Ov} (h : (a.k = b.k ∧ a.v = b.v ∧ a.am = b.am ∧ a.p = b.p ∧ a.rs = b.rs)) : decide (a = b) = true := decide_eq_true ((same_iff a b).2 h)
theorem g_op_Same (h1 : S_pSame (C (F n_slices_Equal_string_string))) (h2 : S_rsame (C (F n_slices_Equal_api_Ref_api_Ref))) : S_oSame ((c_op_Same F).gives C) := by
  intro a b ha
  refine gives_of rfl ?_
  unfold c_op_Same
  simp only [walk, Nat.reduceLT, Nat.reduceBEq, Nat.reduceAdd, Nat.reduceLeDiff, reduceIte, Int.reduceLT, Int.reduceLE, Int.reduceEq, Int.reduceToNat, Int.reduceBEq, ieq, ine]
  by_cases d1 : a.k = b.k
  · by_cases d2 : a.v = b.v
    · by_cases d3 : a.am = b.am
      · simp only [walk, Nat.reduceLT, Nat.reduceBEq, Nat.reduceAdd, Nat.reduceLeDiff, reduceIte, Int.reduceLT, Int.reduceLE, Int.reduceEq, Int.reduceToNat, Int.reduceBEq, ieq, d1, d2, d3, eq_v]
        refine callWp_of (h1 a.p b.p ha.1) ?_
        by_cases d4 : a.p = b.p
        · have e4 : (a.p == b.p) = true := by simp [d4]
          simp only [walk, Nat.reduceLT, Nat.reduceBEq, Nat.reduceAdd, Nat.reduceLeDiff, reduceIte, Int.reduceLT, Int.reduceLE, Int.reduceEq, Int.reduceToNat, Int.reduceBEq, e4]
          refine callWp_of (h2 a.rs b.rs ha.2.2) ?_
          by_cases d5 : a.rs = b.rs
          · simp only [walk, Nat.reduceLT, Nat.reduceBEq, Nat.reduceAdd, Nat.reduceLeDiff, reduceIte, Int.reduceLT, Int.reduceLE, Int.reduceEq, Int.reduceToNat, Int.reduceBEq, d5, same_yes ⟨d1, d2, d3, d4, d5⟩]
          · simp only [walk, Nat.reduceLT, Nat.reduceBEq, Nat.reduceAdd, Nat.reduceLeDiff, reduceIte, Int.reduceLT, Int.reduceLE, Int.reduceEq, Int.reduceToNat, Int.reduceBEq, d5, same_no (a := a) (b := b) (by simp [d5])]
        · have e4 : (a.p == b.p) = false := by rw [beq_eq_false_iff_ne]; exact d4
          simp only [walk, Nat.reduceLT, Nat.reduceBEq, Nat.reduceAdd, Nat.reduceLeDiff, reduceIte, Int.reduceLT, Int.reduceLE, Int.reduceEq, Int.reduceToNat, Int.reduceBEq, e4, same_no (a := a) (b := b) (by simp [d4])]
      · simp only [walk, Nat.reduceLT, Nat.reduceBEq, Nat.reduceAdd, Nat.reduceLeDiff, reduceIte, Int.reduceLT, Int.reduceLE, Int.reduceEq, Int.reduceToNat, Int.reduceBEq, ieq, d1, d2, d3, eq_v, same_no (a := a) (b := b) (by simp [d3])]
    · simp only [walk, Nat.reduceLT, Nat.reduceBEq, Nat.reduceAdd, Nat.reduceLeDiff, reduceIte, Int.reduceLT, Int.reduceLE, Int.reduceEq, Int.reduceToNat, Int.reduceBEq, ieq, d1, d2, eq_v, same_no (a := a) (b := b) (by simp [d2])]
  · simp only [walk, Nat.reduceLT, Nat.reduceBEq, Nat.reduceAdd, Nat.reduceLeDiff, reduceIte, Int.reduceLT, Int.reduceLE, Int.reduceEq, Int.reduceToNat, Int.reduceBEq, d1, same_no (a := a) (b := b) (by simp [d1])]
theorem g_pref11_Same (h1 : S_xSame (C (F n_pref03_Same))) : S_oSame ((c_pref11_Same F).gives C) := by
  intro a b ha
  refine gives_of rfl ?_
  unfold c_pref11_Same
  have hl := ha.2.2
  simp only [walk, Nat.reduceLT, Nat.reduceBEq, Nat.reduceAdd, Nat.reduceLeDiff, reduceIte, Int.reduceLT, Int.reduceLE, Int.reduceEq, Int.reduceToNat, Int.reduceBEq, ieq, ine, ne_eq, decide_not]
  by_cases d1 : a.k = b.k
  · by_cases d2 : a.v = b.v
    · by_cases d3 : a.am = b.am
      · simp only [walk, Nat.reduceLT, Nat.reduceBEq, Nat.reduceAdd, Nat.reduceLeDiff, reduceIte, Int.reduceLT, Int.reduceLE, Int.reduceEq, Int.reduceToNat, Int.reduceBEq, ieq, ine, ne_eq, decide_not, d1, d2, d3, eq_v]
        refine callWp_of (h1 a.p b.p (by have := ha.1.1; omega)) ?_
        by_cases d4 : a.p = b.p
        · have e4 : (a.p == b.p) = true := by simp [d4]
          simp only [walk, Nat.reduceLT, Nat.reduceBEq, Nat.reduceAdd, Nat.reduceLeDiff, reduceIte, Int.reduceLT, Int.reduceLE, Int.reduceEq, Int.reduceToNat, Int.reduceBEq, e4]
          by_cases d5 : a.rs.length = b.rs.length
          · have d5' : (a.rs.length : Int) = b.rs.length := by omega
            obtain ⟨ak, ap, av, aam, rs⟩ := a
            simp only at d1 d2 d3 d4 d5 d5' hl
            subst d1 d2 d3 d4
            simp only [walk, Nat.reduceLT, Nat.reduceBEq, Nat.reduceAdd, Nat.reduceLeDiff, reduceIte, Int.reduceLT, Int.reduceLE, Int.reduceEq, Int.reduceToNat, Int.reduceBEq, ieq, ine, ne_eq, decide_not, uRows_len, d5']
            refine awp_loop_ind (X := Nat) (fun k => ⟨[(0, .val (oP ⟨b.k, b.p, b.v, b.am, rs⟩)), (1, .val (oP b)), (2, .lp 2 0), (3, .lp 3 0), (4, .val (.bool false)), (5, .val (.int .i64 k)), (41, .val (.bool false))], [(2, oB ⟨b.k, b.p, b.v, b.am, rs⟩), (3, oB b)]⟩)
              (fun k => k ≤ rs.length ∧ rs.take k = b.rs.take k) (fun k => rs.length - k) 0 ⟨by omega, by simp⟩ rfl ?_
            rintro R k ⟨hk, hJ⟩ ih
            simp only [walk, Nat.reduceLT, Nat.reduceBEq, Nat.reduceAdd, Nat.reduceLeDiff, reduceIte, Int.reduceLT, Int.reduceLE, Int.reduceEq, Int.reduceToNat, Int.reduceBEq, uRows_len]
            by_cases c : k < rs.length
            · have c1 : (k : Int) < b.rs.length := by omega
              have cb : k < b.rs.length := by omega
              have c0 : (0 : Int) ≤ k := by omega
              have e1 : IntKind.i64.wrap ((k : Int) + 1) = ((k + 1 : Nat) : Int) := wrap64 (by omega) (by omega)
              simp only [walk, Nat.reduceLT, Nat.reduceBEq, Nat.reduceAdd, Nat.reduceLeDiff, reduceIte, Int.reduceLT, Int.reduceLE, Int.reduceEq, Int.reduceToNat, Int.reduceBEq, c1, d5', uRows_get c, uRows_get cb, uRows_len, eq_r, getD_at c, getD_at cb]
              by_cases he : rs[k] = b.rs[k]
              · simp only [walk, Nat.reduceLT, Nat.reduceBEq, Nat.reduceAdd, Nat.reduceLeDiff, reduceIte, Int.reduceLT, Int.reduceLE, Int.reduceEq, Int.reduceToNat, Int.reduceBEq, he, e1]
                refine ih (k + 1) ⟨by omega, ?_⟩ (by omega)
                rw [List.take_add_one, List.take_add_one, hJ, List.getElem?_eq_getElem c, List.getElem?_eq_getElem cb, he]
              · have hf : decide ((⟨b.k, b.p, b.v, b.am, rs⟩ : Ov) = b) = false := by
                  apply same_no
                  rintro ⟨_, _, _, _, h⟩
                  simp only at h
                  exact he (by simp only [h])
                simp only [walk, Nat.reduceLT, Nat.reduceBEq, Nat.reduceAdd, Nat.reduceLeDiff, reduceIte, Int.reduceLT, Int.reduceLE, Int.reduceEq, Int.reduceToNat, Int.reduceBEq, he, hf]
            · have c1 : ¬ (k : Int) < b.rs.length := by omega
              rw [List.take_of_length_le (by omega), List.take_of_length_le (by omega)] at hJ
              have hf : decide ((⟨b.k, b.p, b.v, b.am, rs⟩ : Ov) = b) = true := same_yes ⟨rfl, rfl, rfl, rfl, hJ⟩
              simp only [walk, Nat.reduceLT, Nat.reduceBEq, Nat.reduceAdd, Nat.reduceLeDiff, reduceIte, Int.reduceLT, Int.reduceLE, Int.reduceEq, Int.reduceToNat, Int.reduceBEq, c1, d5', hf]
          · have d5' : ¬ (a.rs.length : Int) = b.rs.length := by omega
            simp only [walk, Nat.reduceLT, Nat.reduceBEq, Nat.reduceAdd, Nat.reduceLeDiff, reduceIte, Int.reduceLT, Int.reduceLE, Int.reduceEq, Int.reduceToNat, Int.reduceBEq, ieq, ine, ne_eq, decide_not, uRows_len, d5', same_no (a := a) (b := b) (by rintro ⟨_, _, _, _, h⟩; exact d5 (by rw [h]))]
        · have e4 : (a.p == b.p) = false := by rw [beq_eq_false_iff_ne]; exact d4
          simp only [walk, Nat.reduceLT, Nat.reduceBEq, Nat.reduceAdd, Nat.reduceLeDiff, reduceIte, Int.reduceLT, Int.reduceLE, Int.reduceEq, Int.reduceToNat, Int.reduceBEq, e4, same_no (a := a) (b := b) (by simp [d4])]
      · simp only [walk, Nat.reduceLT, Nat.reduceBEq, Nat.reduceAdd, Nat.reduceLeDiff, reduceIte, Int.reduceLT, Int.reduceLE, Int.reduceEq, Int.reduceToNat, Int.reduceBEq, ieq, ine, ne_eq, decide_not, d1, d2, d3, eq_v, same_no (a := a) (b := b) (by simp [d3])]
    · simp only [walk, Nat.reduceLT, Nat.reduceBEq, Nat.reduceAdd, Nat.reduceLeDiff, reduceIte, Int.reduceLT, Int.reduceLE, Int.reduceEq, Int.reduceToNat, Int.reduceBEq, ieq, ine, ne_eq, decide_not, d1, d2, eq_v, same_no (a := a) (b := b) (by simp [d2])]
  · simp only [walk, Nat.reduceLT, Nat.reduceBEq, Nat.reduceAdd, Nat.reduceLeDiff, reduceIte, Int.reduceLT, Int.reduceLE, Int.reduceEq, Int.reduceToNat, Int.reduceBEq, d1, same_no (a := a) (b := b) (by simp [d1])]
theorem g_pref11_Short (h : S_pShort (C (F n_pref10_Short))) : S_oShort ((c_pref11_Short F).gives C) := by
  intro o
  refine gives_of rfl ?_
  unfold c_pref11_Short oShort
  simp only [walk, Nat.reduceLT, Nat.reduceBEq, Nat.reduceAdd, Nat.reduceLeDiff, reduceIte, Int.reduceLT, Int.reduceLE, Int.reduceEq, Int.reduceToNat, Int.reduceBEq]
  refine callWp_of (h o.p) ?_
  have e2 : ((o.v.2.2.length : Int) ≤ 200) = (o.v.2.2.length ≤ 200) := by apply propext; omega
  have e3 : ((o.rs.length : Int) ≤ 300) = (o.rs.length ≤ 300) := by apply propext; omega
  cases hp : pShort o.p with
  | false => simp only [walk, Nat.reduceLT, Nat.reduceBEq, Nat.reduceAdd, Nat.reduceLeDiff, reduceIte, Int.reduceLT, Int.reduceLE, Int.reduceEq, Int.reduceToNat, Int.reduceBEq]
  | true =>
    by_cases d2 : o.v.2.2.length ≤ 200
    · simp only [walk, Nat.reduceLT, Nat.reduceBEq, Nat.reduceAdd, Nat.reduceLeDiff, reduceIte, Int.reduceLT, Int.reduceLE, Int.reduceEq, Int.reduceToNat, Int.reduceBEq, e2, d2, uRows_len, e3]
    · simp only [walk, Nat.reduceLT, Nat.reduceBEq, Nat.reduceAdd, Nat.reduceLeDiff, reduceIte, Int.reduceLT, Int.reduceLE, Int.reduceEq, Int.reduceToNat, Int.reduceBEq, e2, d2]
end
end Go.AR
