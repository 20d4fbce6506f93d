import Derived.Test.YtmplidjdcmfeaaaDoorG34
set_option linter.all false
/-! Operations: those that are named, and the small questions. -/
namespace Go.AR
open Go
section
variable {C : CallRel} {F : Nat → FuncId}
def S_seen (R : Rel) : Prop := ∀ s b, sLen s → R [.r (rdr s b)] (.val (usP (rdSeen s b).1)) [rdr (rdSeen s b).2.1 (rdSeen s b).2.2]
theorem rdDot_suf (s : List UInt8) (b : Int) : (rdDot s b).2.1 <:+ s := (rI_suf _ _).trans (rI_suf s b)
theorem rdRefs_step (n : Nat) (s : List UInt8) (b : Int) (l : List Ud) (k : Nat) (h : k < n) :
    (l ++ (rdRefs (n - k) s b).1, (rdRefs (n - k) s b).2) = ((l ++ [((rdDot s b).1, (rI (rdDot s b).2.1 (rdDot s b).2.2).1)]) ++ (rdRefs (n - (k + 1)) (rI (rdDot s b).2.1 (rdDot s b).2.2).2.1 (rI (rdDot s b).2.1 (rdDot s b).2.2).2.2).1, (rdRefs (n - (k + 1)) (rI (rdDot s b).2.1 (rdDot s b).2.2).2.1 (rI (rdDot s b).2.1 (rdDot s b).2.2).2.2).2) := by
  rw [show n - k = (n - (k + 1)) + 1 by omega, rdRefs]
  simp
theorem g_op_seen (hM : S_rMany (C (F n_pack_Reader_Many))) (hD : S_dRead (C (F n_dot_Read))) (hI : S_rInt (C (F n_pack_Reader_Int))) : S_seen ((c_op_seen F).gives C) := by
  intro s b hs
  refine gives_of rfl ?_
  unfold c_op_seen
  simp only [walk, Nat.reduceLT, Nat.reduceBEq, Nat.reduceAdd, Nat.reduceLeDiff, reduceIte, Int.reduceLT, Int.reduceLE, Int.reduceEq, Int.reduceToNat, Int.reduceBEq]
  refine callWp_of (hM s b 256 hs) ?_
  have hm := rMany_lt 256 s b (by omega)
  have hsuf := rMany_suf 256 s b
  unfold rdSeen
  generalize rMany 256 s b = m at *
  obtain ⟨m1, s1, b1⟩ := m
  simp only at hm hsuf
  have hs1 := hsuf.length_le
  simp only [walk, Nat.reduceLT, Nat.reduceBEq, Nat.reduceAdd, Nat.reduceLeDiff, reduceIte, Int.reduceLT, Int.reduceLE, Int.reduceEq, Int.reduceToNat, Int.reduceBEq]
  generalize hq : rdRefs m1.toNat s1 b1 = q at *
  refine awp_loop_ind (X := Nat × List Ud × List UInt8 × Int) (fun x => ⟨[(0, .lp 0 0), (2, .val (.sl 3 [])), (3, .own 3 (uRows x.2.1)), (5, .val (.int .i64 m1)), (6, .val (.int .i64 x.1))], [(0, rdr x.2.2.1 x.2.2.2)]⟩)
    (fun x => x.1 ≤ m1.toNat ∧ x.2.1.length = x.1 ∧ sLen x.2.2.1 ∧ (x.2.1 ++ (rdRefs (m1.toNat - x.1) x.2.2.1 x.2.2.2).1, (rdRefs (m1.toNat - x.1) x.2.2.1 x.2.2.2).2) = q) (fun x => m1.toNat - x.1) (0, [], s1, b1) ⟨by omega, by simp, by unfold sLen at *; simp only; omega, by simpa using hq⟩ (by simp [uRows]) ?_
  rintro R ⟨k, l, t, e⟩ ⟨h1, h2, h3, hJ⟩ ih
  simp only at h1 h2 h3 hJ
  have hb2 : (l.length + 1) * 24 ≤ 140737488355328 := by omega
  simp only [walk, Nat.reduceLT, Nat.reduceBEq, Nat.reduceAdd, Nat.reduceLeDiff, reduceIte, Int.reduceLT, Int.reduceLE, Int.reduceEq, Int.reduceToNat, Int.reduceBEq]
  by_cases c : k < m1.toNat
  · have c1 : (k : Int) < m1 := by omega
    have e1 : IntKind.i64.wrap ((k : Int) + 1) = ((k + 1 : Nat) : Int) := wrap64 (by omega) (by omega)
    simp only [walk, Nat.reduceLT, Nat.reduceBEq, Nat.reduceAdd, Nat.reduceLeDiff, reduceIte, Int.reduceLT, Int.reduceLE, Int.reduceEq, Int.reduceToNat, Int.reduceBEq, c1]
    refine callWp_of (hD t e h3) ?_
    rw [rdRefs_step _ _ _ _ _ c] at hJ
    have h4 : sLen (rdDot t e).2.1 := by have := (rdDot_suf t e).length_le; unfold sLen at *; omega
    have h5 := sLen_rI (rdDot t e).2.2 h4
    have step := ih (k + 1, l ++ [((rdDot t e).1, (rI (rdDot t e).2.1 (rdDot t e).2.2).1)], (rI (rdDot t e).2.1 (rdDot t e).2.2).2.1, (rI (rdDot t e).2.1 (rdDot t e).2.2).2.2) ⟨by simp only; omega, by simp; omega, h5, hJ⟩ (by simp only; omega)
    rw [← uRows_app] at step
    simp only [walk, Nat.reduceLT, Nat.reduceBEq, Nat.reduceAdd, Nat.reduceLeDiff, reduceIte, Int.reduceLT, Int.reduceLE, Int.reduceEq, Int.reduceToNat, Int.reduceBEq]
    refine callWp_of (hI _ _ h4) ?_
    simp only [walk, Nat.reduceLT, Nat.reduceBEq, Nat.reduceAdd, Nat.reduceLeDiff, reduceIte, Int.reduceLT, Int.reduceLE, Int.reduceEq, Int.reduceToNat, Int.reduceBEq, uRows_len, hb2, e1]
    exact step
  · have c1 : ¬ (k : Int) < m1 := by omega
    rw [show m1.toNat - k = 0 by omega, rdRefs] at hJ
    simp only [List.append_nil] at hJ
    subst hJ
    simp only [walk, Nat.reduceLT, Nat.reduceBEq, Nat.reduceAdd, Nat.reduceLeDiff, reduceIte, Int.reduceLT, Int.reduceLE, Int.reduceEq, Int.reduceToNat, Int.reduceBEq, c1]
theorem refAt_eq (l : List Ud) (k : Nat) : refAt l k = (rOk (l.getD k z3) && (k == 0 || decide (rcmp (l.getD (k - 1) z3) (l.getD k z3) < 0))) := rfl
theorem g_op_Refs (hR : S_dotOk (C (F n_dot_Right))) (hC : S_rcmp (C (F n_dot_Refs))) : S_refs ((c_op_Refs F).gives C) := by
  intro l hl
  refine gives_of rfl ?_
  unfold c_op_Refs
  simp only [walk, Nat.reduceLT, Nat.reduceBEq, Nat.reduceAdd, Nat.reduceLeDiff, reduceIte, Int.reduceLT, Int.reduceLE, Int.reduceEq, Int.reduceToNat, Int.reduceBEq, uRows_len]
  refine awp_loop_ind (X := Nat) (fun k => ⟨[(0, .val (usP l)), (2, .val (.bool false)), (5, .val (usP l)), (6, .val (.int .i64 l.length)), (7, .val (.int .i64 k))], []⟩)
    (fun k => k ≤ l.length ∧ ∀ j, j < k → refAt l j = true) (fun k => l.length - k) 0 ⟨by omega, by omega⟩ rfl ?_
  rintro R k ⟨hk, hJ⟩ ih
  simp only [walk, Nat.reduceLT, Nat.reduceBEq, Nat.reduceAdd, Nat.reduceLeDiff, reduceIte, Int.reduceLT, Int.reduceLE, Int.reduceEq, Int.reduceToNat, Int.reduceBEq]
  by_cases c : k < l.length
  · have c1 : (k : Int) < l.length := by omega
    have c0 : (0 : Int) ≤ k := by omega
    have e1 : IntKind.i64.wrap ((k : Int) + 1) = ((k + 1 : Nat) : Int) := wrap64 (by omega) (by omega)
    have hat := refAt_eq l k
    have next : refAt l k = true → _ := fun h => ih (k + 1) ⟨by omega, fun j hj => by
      by_cases e : j = k
      · subst e; exact h
      · exact hJ j (by omega)⟩ (by omega)
    have nope : refAt l k = false → refsOk l = false := refsOk_no c
    simp only [walk, Nat.reduceLT, Nat.reduceBEq, Nat.reduceAdd, Nat.reduceLeDiff, reduceIte, Int.reduceLT, Int.reduceLE, Int.reduceEq, Int.reduceToNat, Int.reduceBEq, c1, uRows_get c]
    refine callWp_of (hR (l.getD k z3).1) ?_
    generalize hx : l.getD k z3 = x at *
    have hro : rOk x = (dotOk x.1 && decide (0 ≤ x.2) && decide (x.2 < 16)) := rfl
    cases hd : dotOk x.1 with
    | false =>
      rw [hd] at hro
      simp only [Bool.false_and] at hro
      rw [hro, Bool.false_and] at hat
      by_cases hk0 : (k : Int) > 0
      · have w1 : IntKind.i64.wrap ((k : Int) - 1) = ((k - 1 : Nat) : Int) := by rw [wrap64 (by omega) (by omega)]; omega
        have c3 : ((k - 1 : Nat) : Int) < l.length := by omega
        simp only [walk, Nat.reduceLT, Nat.reduceBEq, Nat.reduceAdd, Nat.reduceLeDiff, reduceIte, Int.reduceLT, Int.reduceLE, Int.reduceEq, Int.reduceToNat, Int.reduceBEq, nope hat, hk0, w1, c3, uRows_get (show k - 1 < l.length by omega)]
      · simp only [walk, Nat.reduceLT, Nat.reduceBEq, Nat.reduceAdd, Nat.reduceLeDiff, reduceIte, Int.reduceLT, Int.reduceLE, Int.reduceEq, Int.reduceToNat, Int.reduceBEq, nope hat, hk0]
    | true =>
      rw [hd] at hro
      simp only [Bool.true_and] at hro
      by_cases d1 : x.2 < 0
      · have : rOk x = false := by rw [hro]; simp; omega
        rw [this, Bool.false_and] at hat
        simp only [walk, Nat.reduceLT, Nat.reduceBEq, Nat.reduceAdd, Nat.reduceLeDiff, reduceIte, Int.reduceLT, Int.reduceLE, Int.reduceEq, Int.reduceToNat, Int.reduceBEq, nope hat, d1]
      · by_cases d2 : x.2 ≥ 16
        · have : rOk x = false := by rw [hro]; simp; omega
          rw [this, Bool.false_and] at hat
          simp only [walk, Nat.reduceLT, Nat.reduceBEq, Nat.reduceAdd, Nat.reduceLeDiff, reduceIte, Int.reduceLT, Int.reduceLE, Int.reduceEq, Int.reduceToNat, Int.reduceBEq, nope hat, d1, d2]
        · have : rOk x = true := by rw [hro]; simp; omega
          rw [this, Bool.true_and] at hat
          by_cases hk0 : (k : Int) > 0
          · have w1 : IntKind.i64.wrap ((k : Int) - 1) = ((k - 1 : Nat) : Int) := by rw [wrap64 (by omega) (by omega)]; omega
            have c3 : ((k - 1 : Nat) : Int) < l.length := by omega
            have k0 : (k == 0) = false := by rw [beq_eq_false_iff_ne]; omega
            rw [k0, Bool.false_or] at hat
            simp only [walk, Nat.reduceLT, Nat.reduceBEq, Nat.reduceAdd, Nat.reduceLeDiff, reduceIte, Int.reduceLT, Int.reduceLE, Int.reduceEq, Int.reduceToNat, Int.reduceBEq, d1, d2, hk0, w1, c3, uRows_get (show k - 1 < l.length by omega)]
            refine callWp_of (hC (l.getD (k - 1) z3) x) ?_
            by_cases d3 : rcmp (l.getD (k - 1) z3) x < 0
            · have d4 : ¬ rcmp (l.getD (k - 1) z3) x ≥ 0 := by omega
              simp only [walk, Nat.reduceLT, Nat.reduceBEq, Nat.reduceAdd, Nat.reduceLeDiff, reduceIte, Int.reduceLT, Int.reduceLE, Int.reduceEq, Int.reduceToNat, Int.reduceBEq, d4, e1]
              exact next (by rw [hat]; simpa using d3)
            · have d4 : rcmp (l.getD (k - 1) z3) x ≥ 0 := by omega
              simp only [walk, Nat.reduceLT, Nat.reduceBEq, Nat.reduceAdd, Nat.reduceLeDiff, reduceIte, Int.reduceLT, Int.reduceLE, Int.reduceEq, Int.reduceToNat, Int.reduceBEq, d4, nope (by rw [hat]; simpa using d3)]
          · have k0 : (k == 0) = true := by rw [beq_iff_eq]; omega
            rw [k0, Bool.true_or] at hat
            simp only [walk, Nat.reduceLT, Nat.reduceBEq, Nat.reduceAdd, Nat.reduceLeDiff, reduceIte, Int.reduceLT, Int.reduceLE, Int.reduceEq, Int.reduceToNat, Int.reduceBEq, d1, d2, hk0, e1]
            exact next hat
  · have c1 : ¬ (k : Int) < l.length := by omega
    have : refsOk l = true := refsOk_iff.2 (fun j hj => hJ j (by omega))
    simp only [walk, Nat.reduceLT, Nat.reduceBEq, Nat.reduceAdd, Nat.reduceLeDiff, reduceIte, Int.reduceLT, Int.reduceLE, Int.reduceEq, Int.reduceToNat, Int.reduceBEq, c1, this]
end
end Go.AR

/-! Operations: the questions. -/
namespace Go.AR
open Go
section
variable {C : CallRel} {F : Nat → FuncId}
abbrev oCells (o : Ov) : List PV := [.int .i64 o.k, ptP o.p, .int .i64 o.v.1, .int .i64 o.v.2.1, .str o.v.2.2, .int .i64 o.am, usP o.rs]
abbrev oP (o : Ov) : PV := .agg (oCells o)
def oOk (o : Ov) : Prop := pOk o.p ∧ o.v.2.2.length ≤ 20000000 ∧ o.rs.length ≤ 2000000
def S_oVal (R : Rel) : Prop := ∀ o : Ov, oOk o → R [.v (oP o)] (.val (.bool (if o.k = 3 ∨ o.k = 5 then decide (o.v = z0) else vOk o.v))) []
def amOk (o : Ov) : Bool := if o.k = 3 then decide (o.am ≠ 0) && (decide (-2147483647 ≤ o.am) && decide (o.am ≤ 2147483647)) else decide (o.am = 0)
def S_oAm (R : Rel) : Prop := ∀ o : Ov, R [.v (oP o)] (.val (.bool (amOk o))) []
def S_leaf (R : Rel) : Prop := ∀ k : Int, R [.v (.int .i64 k)] (.val (.int .i64 (oLeaf k))) []
def S_oGone (R : Rel) : Prop := ∀ o : Ov, R [.v (oP o)] (.val (.bool (oGone o))) []
def S_oSame (R : Rel) : Prop := ∀ a b : Ov, oOk a → R [.v (oP a), .v (oP b)] (.val (.bool (decide (a = b)))) []
def S_oCov (R : Rel) : Prop := ∀ (o : Ov) (r : Ud), oOk o → refsOk o.rs = true → R [.v (oP o), .v (uP r)] (.val (.bool (hasR o.rs r))) []
def S_oCheck (R : Rel) : Prop := ∀ o : Ov, oOk o → R [.v (oP o)] (.val (.int .i64 (oCheck o))) []
def S_oShort (R : Rel) : Prop := ∀ o : Ov, R [.v (oP o)] (.val (.bool (oShort o))) []
theorem g_pref11_Refs (hR : S_dotOk (C (F n_pref04_Right))) (hC : S_rcmp (C (F n_pref04_Refs))) : S_refs ((c_pref11_Refs F).gives C) := by
  intro l hl
  refine gives_of rfl ?_
  unfold c_pref11_Refs
  simp only [walk, Nat.reduceLT, Nat.reduceBEq, Nat.reduceAdd, Nat.reduceLeDiff, reduceIte, Int.reduceLT, Int.reduceLE, Int.reduceEq, Int.reduceToNat, Int.reduceBEq, uRows_len]
  refine awp_loop_ind (X := Nat) (fun k => ⟨[(0, .val (usP l)), (2, .val (.bool false)), (3, .val (.int .i64 k))], []⟩)
    (fun k => k ≤ l.length ∧ ∀ j, j < k → refAt l j = true) (fun k => l.length - k) 0 ⟨by omega, by omega⟩ rfl ?_
  rintro R k ⟨hk, hJ⟩ ih
  simp only [walk, Nat.reduceLT, Nat.reduceBEq, Nat.reduceAdd, Nat.reduceLeDiff, reduceIte, Int.reduceLT, Int.reduceLE, Int.reduceEq, Int.reduceToNat, Int.reduceBEq, uRows_len]
  by_cases c : k < l.length
  · have c1 : (k : Int) < l.length := by omega
    have c0 : (0 : Int) ≤ k := by omega
    have e1 : IntKind.i64.wrap ((k : Int) + 1) = ((k + 1 : Nat) : Int) := wrap64 (by omega) (by omega)
    have hat := refAt_eq l k
    have next : refAt l k = true → _ := fun h => ih (k + 1) ⟨by omega, fun j hj => by
      by_cases e : j = k
      · subst e; exact h
      · exact hJ j (by omega)⟩ (by omega)
    have nope : refAt l k = false → refsOk l = false := refsOk_no c
    simp only [walk, Nat.reduceLT, Nat.reduceBEq, Nat.reduceAdd, Nat.reduceLeDiff, reduceIte, Int.reduceLT, Int.reduceLE, Int.reduceEq, Int.reduceToNat, Int.reduceBEq, c1, uRows_get c, uRows_len]
    refine callWp_of (hR (l.getD k z3).1) ?_
    generalize hx : l.getD k z3 = x at *
    have hro : rOk x = (dotOk x.1 && decide (0 ≤ x.2) && decide (x.2 < 16)) := rfl
    have hg := uRows_get c
    rw [hx] at hg
    cases hd : dotOk x.1 with
    | false =>
      rw [hd] at hro
      simp only [Bool.false_and] at hro
      rw [hro, Bool.false_and] at hat
      simp only [walk, Nat.reduceLT, Nat.reduceBEq, Nat.reduceAdd, Nat.reduceLeDiff, reduceIte, Int.reduceLT, Int.reduceLE, Int.reduceEq, Int.reduceToNat, Int.reduceBEq, nope hat, c1, hg, uRows_len]
    | true =>
      rw [hd] at hro
      simp only [Bool.true_and] at hro
      by_cases d1 : x.2 < 0
      · have : rOk x = false := by rw [hro]; simp; omega
        rw [this, Bool.false_and] at hat
        simp only [walk, Nat.reduceLT, Nat.reduceBEq, Nat.reduceAdd, Nat.reduceLeDiff, reduceIte, Int.reduceLT, Int.reduceLE, Int.reduceEq, Int.reduceToNat, Int.reduceBEq, nope hat, d1, c1, hg, uRows_len]
      · by_cases d2 : x.2 > 15
        · have : rOk x = false := by rw [hro]; simp; omega
          rw [this, Bool.false_and] at hat
          simp only [walk, Nat.reduceLT, Nat.reduceBEq, Nat.reduceAdd, Nat.reduceLeDiff, reduceIte, Int.reduceLT, Int.reduceLE, Int.reduceEq, Int.reduceToNat, Int.reduceBEq, nope hat, d1, d2, c1, hg, uRows_len]
        · have : rOk x = true := by rw [hro]; simp; omega
          rw [this, Bool.true_and] at hat
          by_cases hk0 : (k : Int) > 0
          · have w1 : IntKind.i64.wrap ((k : Int) - 1) = ((k - 1 : Nat) : Int) := by rw [wrap64 (by omega) (by omega)]; omega
            have c3 : ((k - 1 : Nat) : Int) < l.length := by omega
            have k0 : (k == 0) = false := by rw [beq_eq_false_iff_ne]; omega
            rw [k0, Bool.false_or] at hat
            simp only [walk, Nat.reduceLT, Nat.reduceBEq, Nat.reduceAdd, Nat.reduceLeDiff, reduceIte, Int.reduceLT, Int.reduceLE, Int.reduceEq, Int.reduceToNat, Int.reduceBEq, d1, d2, hk0, w1, c1, c3, hg, uRows_len, uRows_get (show k - 1 < l.length by omega)]
            refine callWp_of (hC (l.getD (k - 1) z3) x) ?_
            have hcs := rcmp_cases (l.getD (k - 1) z3) x
            by_cases d3 : rcmp (l.getD (k - 1) z3) x < 0
            · have d4 : (rcmp (l.getD (k - 1) z3) x != -1) = false := by
                rw [bne, Bool.not_eq_false', beq_iff_eq]; omega
              simp only [walk, Nat.reduceLT, Nat.reduceBEq, Nat.reduceAdd, Nat.reduceLeDiff, reduceIte, Int.reduceLT, Int.reduceLE, Int.reduceEq, Int.reduceToNat, Int.reduceBEq, d4, e1]
              exact next (by rw [hat]; simpa using d3)
            · have d4 : (rcmp (l.getD (k - 1) z3) x != -1) = true := by
                rw [bne, Bool.not_eq_true', beq_eq_false_iff_ne]; omega
              simp only [walk, Nat.reduceLT, Nat.reduceBEq, Nat.reduceAdd, Nat.reduceLeDiff, reduceIte, Int.reduceLT, Int.reduceLE, Int.reduceEq, Int.reduceToNat, Int.reduceBEq, d4, nope (by rw [hat]; simpa using d3)]
          · have k0 : (k == 0) = true := by rw [beq_iff_eq]; omega
            rw [k0, Bool.true_or] at hat
            simp only [walk, Nat.reduceLT, Nat.reduceBEq, Nat.reduceAdd, Nat.reduceLeDiff, reduceIte, Int.reduceLT, Int.reduceLE, Int.reduceEq, Int.reduceToNat, Int.reduceBEq, d1, d2, hk0, e1, c1, hg, uRows_len]
            exact next hat
  · have c1 : ¬ (k : Int) < l.length := by omega
    have : refsOk l = true := refsOk_iff.2 (fun j hj => hJ j (by omega))
    simp only [walk, Nat.reduceLT, Nat.reduceBEq, Nat.reduceAdd, Nat.reduceLeDiff, reduceIte, Int.reduceLT, Int.reduceLE, Int.reduceEq, Int.reduceToNat, Int.reduceBEq, c1, this]
theorem lowR_of : ∀ {l : List Ud} {d : Ud} {i : Nat}, i ≤ l.length → (∀ k, k < i → rcmp (l.getD k z3) d < 0) → (∀ k, i ≤ k → k < l.length → ¬ rcmp (l.getD k z3) d < 0) → (l.filter fun x => decide (rcmp x d < 0)).length = i
  | [], d, i, h, _, _ => by simp at h; subst h; rfl
  | u :: l, d, 0, _, _, h2 => by
    have h0 := h2 0 (by omega) (by simp)
    simp only [List.getD_cons_zero] at h0
    have := lowR_of (l := l) (d := d) (i := 0) (by omega) (by omega) (fun k _ hk => by simpa using h2 (k + 1) (by omega) (by simpa using hk))
    rw [List.filter_cons_of_neg (by simpa using h0)]; exact this
  | u :: l, d, i + 1, hi, h1, h2 => by
    have h0 := h1 0 (by omega)
    simp only [List.getD_cons_zero] at h0
    have := lowR_of (l := l) (d := d) (i := i) (by simpa using hi) (fun k hk => by simpa using h1 (k + 1) (by omega)) (fun k hk hl => by simpa using h2 (k + 1) (by omega) (by simpa using hl))
    rw [List.filter_cons_of_pos (by simpa using h0), List.length_cons, this]
theorem g_slices_BinarySearchFunc_api_Ref : S_rfind C ((c_slices_BinarySearchFunc_api_Ref_api_Ref_api_Ref F).gives C) := by
  intro l u f hl hs hf
  refine gives_of rfl ?_
  unfold c_slices_BinarySearchFunc_api_Ref_api_Ref_api_Ref
  simp only [walk, Nat.reduceLT, Nat.reduceBEq, Nat.reduceAdd, Nat.reduceLeDiff, reduceIte, Int.reduceLT, Int.reduceLE, Int.reduceEq, Int.reduceToNat, Int.reduceBEq, uRows_len]
  refine awp_loop_ind (X := Nat × Nat) (fun x => ⟨[(0, .val (usP l)), (1, .val (uP u)), (2, .val (.fn f)), (4, .lp 4 0), (6, .val (.int .i64 0)), (7, .val (.bool false)), (8, .val (.int .i64 l.length)), (9, .val (.int .i64 x.1)), (10, .val (.int .i64 x.2))],
      [(4, .cells [.val (.int .i64 u.1.1), .val (.int .i64 u.1.2), .val (.int .i64 u.2)])]⟩)
      (fun x => x.1 ≤ x.2 ∧ x.2 ≤ l.length ∧ (∀ k, k < x.1 → rcmp (l.getD k z3) u < 0) ∧ ∀ k, x.2 ≤ k → k < l.length → ¬ rcmp (l.getD k z3) u < 0) (fun x => x.2 - x.1) (0, l.length) ⟨by omega, Nat.le_refl _, by omega, by omega⟩ rfl ?_
  rintro R ⟨i, j⟩ ⟨h1, h2, h3, h4⟩ ih
  simp only at h1 h2 h3 h4
  simp only [walk, Nat.reduceLT, Nat.reduceBEq, Nat.reduceAdd, Nat.reduceLeDiff, reduceIte, Int.reduceLT, Int.reduceLE, Int.reduceEq, Int.reduceToNat, Int.reduceBEq]
  by_cases hij : i < j
  · have c1 : (i : Int) < j := by omega
    have e1 : IntKind.i64.wrap ((i : Int) + j) = ((i + j : Nat) : Int) := wrap64 (by omega) (by omega)
    have e2 : IntKind.u64.wrap ((i + j : Nat) : Int) = ((i + j : Nat) : Int) := by unfold IntKind.wrap; simp [IntKind.bits, IntKind.signed]; omega
    have e3 : ((i + j : Nat) : Int).fdiv (2 ^ (min (1 : Nat) IntKind.u64.bits)) = (((i + j) / 2 : Nat) : Int) := by
      simp [IntKind.bits, Int.fdiv_eq_ediv]
    have e4 : IntKind.i64.wrap (((i + j) / 2 : Nat) : Int) = (((i + j) / 2 : Nat) : Int) := wrap64 (by omega) (by omega)
    obtain ⟨h, hh⟩ : ∃ h, h = (i + j) / 2 := ⟨_, rfl⟩
    have hb : i ≤ h ∧ h < j := by omega
    have hlt : h < l.length := by omega
    rw [← hh] at e3 e4
    have e5 : IntKind.i64.wrap ((h : Int) + 1) = ((h + 1 : Nat) : Int) := wrap64 (by omega) (by omega)
    simp only [walk, Nat.reduceLT, Nat.reduceBEq, Nat.reduceAdd, Nat.reduceLeDiff, reduceIte, Int.reduceLT, Int.reduceLE, Int.reduceEq, Int.reduceToNat, Int.reduceBEq, c1, e1, e2, e3, e4, uRows_get hlt]
    refine callWp_of (hf _ u) ?_
    simp only [walk, Nat.reduceLT, Nat.reduceBEq, Nat.reduceAdd, Nat.reduceLeDiff, reduceIte, Int.reduceLT, Int.reduceLE, Int.reduceEq, Int.reduceToNat, Int.reduceBEq]
    by_cases c2 : rcmp (l.getD h z3) u < 0
    · simp only [walk, Nat.reduceLT, Nat.reduceBEq, Nat.reduceAdd, Nat.reduceLeDiff, reduceIte, Int.reduceLT, Int.reduceLE, Int.reduceEq, Int.reduceToNat, Int.reduceBEq, c2, e5]
      refine ih (h + 1, j) ⟨by simp only; omega, h2, fun k hk => ?_, h4⟩ (by simp only; omega)
      simp only at hk
      by_cases e : k = h
      · subst e; exact c2
      · exact rcmp_trans (hs k h (by omega) hlt) c2
    · simp only [walk, Nat.reduceLT, Nat.reduceBEq, Nat.reduceAdd, Nat.reduceLeDiff, reduceIte, Int.reduceLT, Int.reduceLE, Int.reduceEq, Int.reduceToNat, Int.reduceBEq, c2]
      refine ih (i, h) ⟨by simp only; omega, by simp only; omega, h3, fun k hk hl' => ?_⟩ (by simp only; omega)
      simp only at hk
      by_cases e : k = h
      · subst e; exact c2
      · intro hc
        exact c2 (rcmp_trans (hs h k (by omega) hl') hc)
  · have hij' : i = j := by omega
    subst hij'
    have c1 : ¬ ((i : Int) < i) := by omega
    have q1 : lowR l u = i := lowR_of h2 h3 h4
    have q2 := hasR_low h3 h4 hs
    simp only [walk, Nat.reduceLT, Nat.reduceBEq, Nat.reduceAdd, Nat.reduceLeDiff, reduceIte, Int.reduceLT, Int.reduceLE, Int.reduceEq, Int.reduceToNat, Int.reduceBEq, c1]
    by_cases hlt : i < l.length
    · have c2 : (i : Int) < l.length := by omega
      have c0 : (0 : Int) ≤ i := by omega
      simp only [walk, Nat.reduceLT, Nat.reduceBEq, Nat.reduceAdd, Nat.reduceLeDiff, reduceIte, Int.reduceLT, Int.reduceLE, Int.reduceEq, Int.reduceToNat, Int.reduceBEq, c2, uRows_get hlt]
      refine callWp_of (hf _ u) ?_
      have q3 : (decide (i < l.length)) = true := by simpa using hlt
      rw [q3, Bool.true_and] at q2
      have q4 : ∀ x : Int, (x == 0) = decide (x = 0) := fun x => by rw [Bool.eq_iff_iff]; simp
      simp only [walk, Nat.reduceLT, Nat.reduceBEq, Nat.reduceAdd, Nat.reduceLeDiff, reduceIte, Int.reduceLT, Int.reduceLE, Int.reduceEq, Int.reduceToNat, Int.reduceBEq, q1, q2, q4]
    · have c2 : ¬ ((i : Int) < l.length) := by omega
      have q3 : (decide (i < l.length)) = false := by simpa using hlt
      rw [q3, Bool.false_and] at q2
      simp only [walk, Nat.reduceLT, Nat.reduceBEq, Nat.reduceAdd, Nat.reduceLeDiff, reduceIte, Int.reduceLT, Int.reduceLE, Int.reduceEq, Int.reduceToNat, Int.reduceBEq, c2, q1, q2]
theorem g_slices_Equal_api_Ref : S_rsame ((c_slices_Equal_api_Ref_api_Ref F).gives C) := by
  intro a b ha
  refine gives_of rfl ?_
  unfold c_slices_Equal_api_Ref_api_Ref
  simp only [walk, Nat.reduceLT, Nat.reduceBEq, Nat.reduceAdd, Nat.reduceLeDiff, reduceIte, Int.reduceLT, Int.reduceLE, Int.reduceEq, Int.reduceToNat, Int.reduceBEq, uRows_len]
  by_cases hl : a.length = b.length
  · have hl' : ((a.length : Int) != (b.length : Int)) = false := by rw [bne, hl]; simp
    simp only [walk, Nat.reduceLT, Nat.reduceBEq, Nat.reduceAdd, Nat.reduceLeDiff, reduceIte, Int.reduceLT, Int.reduceLE, Int.reduceEq, Int.reduceToNat, Int.reduceBEq, hl', uRows_len]
    refine awp_loop_ind (X := Nat) (fun k => ⟨[(0, .val (usP a)), (1, .val (usP b)), (4, .val (.bool false)), (10, .val (.bool false)), (12, .val (.int .i64 a.length)), (13, .val (.int .i64 k))], []⟩)
      (fun k => k ≤ a.length ∧ a.take k = b.take k) (fun k => a.length - k) 0 ⟨by omega, by simp⟩ rfl ?_
    rintro R k ⟨hk, hJ⟩ ih
    simp only [walk, Nat.reduceLT, Nat.reduceBEq, Nat.reduceAdd, Nat.reduceLeDiff, reduceIte, Int.reduceLT, Int.reduceLE, Int.reduceEq, Int.reduceToNat, Int.reduceBEq, uRows_len]
    by_cases c : k < a.length
    · have c1 : (k : Int) < a.length := by omega
      have cb : k < b.length := by omega
      have cb1 : (k : Int) < b.length := by omega
      have c0 : (0 : Int) ≤ k := by omega
      have e1 : IntKind.i64.wrap ((k : Int) + 1) = ((k + 1 : Nat) : Int) := wrap64 (by omega) (by omega)
      have ga : a.getD k z3 = a[k] := by simp [List.getD_eq_getElem?_getD, c]
      have gb : b.getD k z3 = b[k] := by simp [List.getD_eq_getElem?_getD, cb]
      simp only [walk, Nat.reduceLT, Nat.reduceBEq, Nat.reduceAdd, Nat.reduceLeDiff, reduceIte, Int.reduceLT, Int.reduceLE, Int.reduceEq, Int.reduceToNat, Int.reduceBEq, c1, cb1, uRows_get c, uRows_get cb, uRows_len, eq_r, ga, gb]
      by_cases he : a[k] = b[k]
      · simp only [walk, Nat.reduceLT, Nat.reduceBEq, Nat.reduceAdd, Nat.reduceLeDiff, reduceIte, Int.reduceLT, Int.reduceLE, Int.reduceEq, Int.reduceToNat, Int.reduceBEq, he, e1]
        refine ih (k + 1) ⟨by omega, ?_⟩ (by omega)
        rw [List.take_add_one, List.take_add_one, hJ, List.getElem?_eq_getElem c, List.getElem?_eq_getElem cb, he]
      · have hf : ¬ a = b := by
          rintro rfl
          exact he rfl
        simp only [walk, Nat.reduceLT, Nat.reduceBEq, Nat.reduceAdd, Nat.reduceLeDiff, reduceIte, Int.reduceLT, Int.reduceLE, Int.reduceEq, Int.reduceToNat, Int.reduceBEq, he, hf]
    · have c1 : ¬ (k : Int) < a.length := by omega
      rw [List.take_of_length_le (by omega), List.take_of_length_le (by omega)] at hJ
      subst hJ
      simp only [walk, Nat.reduceLT, Nat.reduceBEq, Nat.reduceAdd, Nat.reduceLeDiff, reduceIte, Int.reduceLT, Int.reduceLE, Int.reduceEq, Int.reduceToNat, Int.reduceBEq, c1]
  · have hl' : ((a.length : Int) != (b.length : Int)) = true := by
      rw [bne, Bool.not_eq_true', beq_eq_false_iff_ne]; omega
    have hf : ¬ a = b := by
      rintro rfl
      exact hl rfl
    simp only [walk, Nat.reduceLT, Nat.reduceBEq, Nat.reduceAdd, Nat.reduceLeDiff, reduceIte, Int.reduceLT, Int.reduceLE, Int.reduceEq, Int.reduceToNat, Int.reduceBEq, hl', hf]
end
end Go.AR
