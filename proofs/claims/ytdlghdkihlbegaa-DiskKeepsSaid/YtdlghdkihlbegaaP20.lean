import Derived.Test.YtdlghdkihlbegaaS20
set_option linter.all false
/-! Chapter 20: what was made sure stays. -/
namespace Go.AR
open Go
section
variable {C : CallRel} {F : Nat → FuncId}
/-- What holds of a disk in this law: little is on it, and what was made sure is the beginning of what is kept. -/
def Keeps (i : Nat) (d : Dk) (u : List UInt8) : Prop := d.k.length + d.w.length ≤ 2000 * i ∧ u.length ≤ d.k.length ∧ d.k.take u.length = u
set_option maxHeartbeats 4000000 in
theorem g_DiskKeeps (hA : S_yes (C (F n_plaw20_awake))) (n : S_dnew (C (F n_disk_New))) (a : S_dapp (C (F n_disk_Disk_Append))) (y : S_dsync (C (F n_disk_Disk_Sync))) (c : S_dcrash (C (F n_disk_Disk_Crash)))
    (g1 : S_dget (C (F n_disk_Disk_Kept)) (fun k _ _ => .str k)) (g2 : S_dget (C (F n_disk_Disk_Waits)) (fun _ w _ => .str w)) : S_lawDeeds ((c_plaw20_DiskKeeps F).gives C) := by
  intro l hl
  refine gives_of rfl ?_
  unfold c_plaw20_DiskKeeps
  simp only [walk, Nat.reduceLT, Nat.reduceBEq, Nat.reduceAdd, Nat.reduceLeDiff, reduceIte, Int.reduceLT, Int.reduceLE, Int.reduceEq, Int.reduceToNat, Int.reduceBEq]
  refine callWp_of n ?_
  simp only [walk, Nat.reduceLT, Nat.reduceBEq, Nat.reduceAdd, Nat.reduceLeDiff, reduceIte, Int.reduceLT, Int.reduceLE, Int.reduceEq, Int.reduceToNat, Int.reduceBEq]
  refine awp_loop_ind (X := Nat × Dk × List UInt8) (fun x => ⟨[(0, .val (deeds l)), (2, .val (.bool false)), (3, .lp 9 0), (4, .val (.str x.2.2)), (5, .val (.int .i64 x.1))], [(9, x.2.1.b)]⟩)
    (fun x => x.1 ≤ l.length ∧ x.1 ≤ 40 ∧ Keeps x.1 x.2.1 x.2.2) (fun x => l.length - x.1) (0, ⟨[], [], 0⟩, []) ⟨by simp, by simp, by simp [Keeps]⟩ rfl ?_
  rintro R ⟨i, d, u⟩ ⟨hi, hi40, hs⟩ ih
  simp only at hi hi40 hs ih ⊢
  simp only [walk, Nat.reduceLT, Nat.reduceBEq, Nat.reduceAdd, Nat.reduceLeDiff, reduceIte, Int.reduceLT, Int.reduceLE, Int.reduceEq, Int.reduceToNat, Int.reduceBEq]
  by_cases h1 : (i : Int) < l.length
  · by_cases h2 : (i : Int) < 40
    · have hil : i < l.length := by omega
      have h3' : l[i]? = some l[i] := List.getElem?_eq_getElem hil
      have hsm : d.small := by unfold Dk.small; have := hs.1; omega
      simp only [h1, h2, h3', walk, Nat.reduceLT, Nat.reduceBEq, Nat.reduceAdd, Nat.reduceLeDiff, reduceIte, Int.reduceLT, Int.reduceLE, Int.reduceEq, Int.reduceToNat, Int.reduceBEq]
      generalize hx : l[i] = x at *
      by_cases h4 : (x.s.length : Int) > 2000
      · simp only [h4, walk, Nat.reduceLT, Nat.reduceBEq, Nat.reduceAdd, Nat.reduceLeDiff, reduceIte, Int.reduceLT, Int.reduceLE, Int.reduceEq, Int.reduceToNat, Int.reduceBEq]
        refine callWp_of hA ?_
        simp only [walk, Nat.reduceLT, Nat.reduceBEq, Nat.reduceAdd, Nat.reduceLeDiff, reduceIte, Int.reduceLT, Int.reduceLE, Int.reduceEq, Int.reduceToNat, Int.reduceBEq]
      · simp only [h4, h3', walk, Nat.reduceLT, Nat.reduceBEq, Nat.reduceAdd, Nat.reduceLeDiff, reduceIte, Int.reduceLT, Int.reduceLE, Int.reduceEq, Int.reduceToNat, Int.reduceBEq]
        refine callWp_of (g1 _ _ _) ?_
        simp only [walk, Nat.reduceLT, Nat.reduceBEq, Nat.reduceAdd, Nat.reduceLeDiff, reduceIte, Int.reduceLT, Int.reduceLE, Int.reduceEq, Int.reduceToNat, Int.reduceBEq]
        refine callWp_of (g2 _ _ _) ?_
        simp only [walk, Nat.reduceLT, Nat.reduceBEq, Nat.reduceAdd, Nat.reduceLeDiff, reduceIte, Int.reduceLT, Int.reduceLE, Int.reduceEq, Int.reduceToNat, Int.reduceBEq]
        rw [bins_add (by unfold Dk.small at hsm; omega)]
        simp only [walk, Nat.reduceLT, Nat.reduceBEq, Nat.reduceAdd, Nat.reduceLeDiff, reduceIte, Int.reduceLT, Int.reduceLE, Int.reduceEq, Int.reduceToNat, Int.reduceBEq]
        have hk0 : ¬ (d.k.length : Int) < u.length := by have := hs.2.1; omega
        have hk1 : (u.length : Int) ≤ d.k.length := by have := hs.2.1; omega
        have hk2 : (d.k.take u.length == u) = true := by rw [hs.2.2]; exact beq_self_eq_true _
        by_cases k01 : x.kind = 0 ∨ x.kind = 1
        · have ea : d.app x.s = (⟨d.k, d.w ++ x.s, d.n⟩, 0) := by unfold Dk.app; rw [if_neg (by have := hs.1; omega)]
          have ca := a d x.s hsm (by omega)
          rw [ea] at ca
          have hst : R ⟨[(0, .val (deeds l)), (2, .val (.bool false)), (3, .lp 9 0), (4, .val (.str u)), (5, .val (.int .i64 ((i + 1 : Nat) : Int)))], [(9, diskB d.k (d.w ++ x.s) d.n)]⟩ :=
            ih (i + 1, ⟨d.k, d.w ++ x.s, d.n⟩, u) ⟨by simp only; omega, by simp only; omega, by have := hs.1; simp only [Keeps, List.length_append]; exact ⟨by omega, hs.2⟩⟩ (by simp only; omega)
          have assoc : (d.k ++ (d.w ++ x.s) == d.k ++ d.w ++ x.s) = true := by rw [List.append_assoc]; exact beq_self_eq_true _
          by_cases k0 : x.kind = 0
          · have e0 : (x.kind == 0) = true := by simpa using k0
            simp only [e0, walk, Nat.reduceLT, Nat.reduceBEq, Nat.reduceAdd, Nat.reduceLeDiff, reduceIte, Int.reduceLT, Int.reduceLE, Int.reduceEq, Int.reduceToNat, Int.reduceBEq]
            refine callWp_of ca ?_
            simp only [bne_self_eq_false, walk, Nat.reduceLT, Nat.reduceBEq, Nat.reduceAdd, Nat.reduceLeDiff, reduceIte, Int.reduceLT, Int.reduceLE, Int.reduceEq, Int.reduceToNat, Int.reduceBEq]
            refine callWp_of (g1 _ _ _) ?_
            simp only [walk, Nat.reduceLT, Nat.reduceBEq, Nat.reduceAdd, Nat.reduceLeDiff, reduceIte, Int.reduceLT, Int.reduceLE, Int.reduceEq, Int.reduceToNat, Int.reduceBEq]
            refine callWp_of (g2 _ _ _) ?_
            simp only [walk, Nat.reduceLT, Nat.reduceBEq, Nat.reduceAdd, Nat.reduceLeDiff, reduceIte, Int.reduceLT, Int.reduceLE, Int.reduceEq, Int.reduceToNat, Int.reduceBEq]
            rw [bins_add (by unfold Dk.small at hsm; simp only [List.length_append]; omega)]
            simp only [walk, Nat.reduceLT, Nat.reduceBEq, Nat.reduceAdd, Nat.reduceLeDiff, reduceIte, Int.reduceLT, Int.reduceLE, Int.reduceEq, Int.reduceToNat, Int.reduceBEq]
            rw [bins_add (by unfold Dk.small at hsm; simp only [List.length_append]; omega)]
            simp only [assoc, walk, Nat.reduceLT, Nat.reduceBEq, Nat.reduceAdd, Nat.reduceLeDiff, reduceIte, Int.reduceLT, Int.reduceLE, Int.reduceEq, Int.reduceToNat, Int.reduceBEq]
            refine callWp_of (g1 _ _ _) ?_
            simp only [hk0, walk, Nat.reduceLT, Nat.reduceBEq, Nat.reduceAdd, Nat.reduceLeDiff, reduceIte, Int.reduceLT, Int.reduceLE, Int.reduceEq, Int.reduceToNat, Int.reduceBEq]
            refine callWp_of (g1 _ _ _) ?_
            simp only [hk0, hk1, hk2, walk, Nat.reduceLT, Nat.reduceBEq, Nat.reduceAdd, Nat.reduceLeDiff, reduceIte, Int.reduceLT, Int.reduceLE, Int.reduceEq, Int.reduceToNat, Int.reduceBEq]
            rw [wrap64 (by omega) (by omega)]
            exact hst
          · have e0 : (x.kind == 0) = false := by simpa using k0
            have e1 : (x.kind == 1) = true := by simpa using k01.resolve_left k0
            simp only [e0, e1, walk, Nat.reduceLT, Nat.reduceBEq, Nat.reduceAdd, Nat.reduceLeDiff, reduceIte, Int.reduceLT, Int.reduceLE, Int.reduceEq, Int.reduceToNat, Int.reduceBEq]
            refine callWp_of ca ?_
            simp only [bne_self_eq_false, walk, Nat.reduceLT, Nat.reduceBEq, Nat.reduceAdd, Nat.reduceLeDiff, reduceIte, Int.reduceLT, Int.reduceLE, Int.reduceEq, Int.reduceToNat, Int.reduceBEq]
            refine callWp_of (g1 _ _ _) ?_
            simp only [walk, Nat.reduceLT, Nat.reduceBEq, Nat.reduceAdd, Nat.reduceLeDiff, reduceIte, Int.reduceLT, Int.reduceLE, Int.reduceEq, Int.reduceToNat, Int.reduceBEq]
            refine callWp_of (g2 _ _ _) ?_
            simp only [walk, Nat.reduceLT, Nat.reduceBEq, Nat.reduceAdd, Nat.reduceLeDiff, reduceIte, Int.reduceLT, Int.reduceLE, Int.reduceEq, Int.reduceToNat, Int.reduceBEq]
            rw [bins_add (by unfold Dk.small at hsm; simp only [List.length_append]; omega)]
            simp only [walk, Nat.reduceLT, Nat.reduceBEq, Nat.reduceAdd, Nat.reduceLeDiff, reduceIte, Int.reduceLT, Int.reduceLE, Int.reduceEq, Int.reduceToNat, Int.reduceBEq]
            rw [bins_add (by unfold Dk.small at hsm; simp only [List.length_append]; omega)]
            simp only [assoc, walk, Nat.reduceLT, Nat.reduceBEq, Nat.reduceAdd, Nat.reduceLeDiff, reduceIte, Int.reduceLT, Int.reduceLE, Int.reduceEq, Int.reduceToNat, Int.reduceBEq]
            refine callWp_of (g1 _ _ _) ?_
            simp only [hk0, walk, Nat.reduceLT, Nat.reduceBEq, Nat.reduceAdd, Nat.reduceLeDiff, reduceIte, Int.reduceLT, Int.reduceLE, Int.reduceEq, Int.reduceToNat, Int.reduceBEq]
            refine callWp_of (g1 _ _ _) ?_
            simp only [hk0, hk1, hk2, walk, Nat.reduceLT, Nat.reduceBEq, Nat.reduceAdd, Nat.reduceLeDiff, reduceIte, Int.reduceLT, Int.reduceLE, Int.reduceEq, Int.reduceToNat, Int.reduceBEq]
            rw [wrap64 (by omega) (by omega)]
            exact hst
        · have f0 : (x.kind == 0) = false := by rw [← Bool.not_eq_true, beq_iff_eq]; exact fun e => k01 (.inl e)
          have f1 : (x.kind == 1) = false := by rw [← Bool.not_eq_true, beq_iff_eq]; exact fun e => k01 (.inr e)
          by_cases k2 : x.kind = 2
          · have e2 : (x.kind == 2) = true := by simpa using k2
            simp only [f0, f1, e2, walk, Nat.reduceLT, Nat.reduceBEq, Nat.reduceAdd, Nat.reduceLeDiff, reduceIte, Int.reduceLT, Int.reduceLE, Int.reduceEq, Int.reduceToNat, Int.reduceBEq]
            refine callWp_of (y d hsm) ?_
            simp only [Dk.sync, walk, Nat.reduceLT, Nat.reduceBEq, Nat.reduceAdd, Nat.reduceLeDiff, reduceIte, Int.reduceLT, Int.reduceLE, Int.reduceEq, Int.reduceToNat, Int.reduceBEq]
            refine callWp_of (g1 _ _ _) ?_
            simp only [beq_self_eq_true, walk, Nat.reduceLT, Nat.reduceBEq, Nat.reduceAdd, Nat.reduceLeDiff, reduceIte, Int.reduceLT, Int.reduceLE, Int.reduceEq, Int.reduceToNat, Int.reduceBEq]
            refine callWp_of (g2 _ _ _) ?_
            simp only [beq_self_eq_true, walk, Nat.reduceLT, Nat.reduceBEq, Nat.reduceAdd, Nat.reduceLeDiff, reduceIte, Int.reduceLT, Int.reduceLE, Int.reduceEq, Int.reduceToNat, Int.reduceBEq]
            refine callWp_of (g1 _ _ _) ?_
            have q0 : ¬ (((d.k.length + d.w.length : Nat) : Int) < ((d.k.length + d.w.length : Nat) : Int)) := by omega
            simp only [q0, walk, Nat.reduceLT, Nat.reduceBEq, Nat.reduceAdd, Nat.reduceLeDiff, reduceIte, Int.reduceLT, Int.reduceLE, Int.reduceEq, Int.reduceToNat, Int.reduceBEq]
            refine callWp_of (g1 _ _ _) ?_
            have q1 : (d.k ++ d.w).take (d.k.length + d.w.length) = d.k ++ d.w := by rw [← List.length_append, List.take_length]
            simp only [q0, q1, beq_self_eq_true, walk, Nat.reduceLT, Nat.reduceBEq, Nat.reduceAdd, Nat.reduceLeDiff, reduceIte, Int.reduceLT, Int.reduceLE, Int.reduceEq, Int.reduceToNat, Int.reduceBEq]
            rw [wrap64 (n := (i : Int) + 1) (by omega) (by omega)]
            exact ih (i + 1, ⟨d.k ++ d.w, [], IntKind.i64.wrap (d.n + 1)⟩, d.k ++ d.w) ⟨by simp only; omega, by simp only; omega, by have := hs.1; simp only [Keeps, List.length_append, List.length_nil]; exact ⟨by omega, by omega, q1⟩⟩ (by simp only; omega)
          · have f2 : (x.kind == 2) = false := by simpa using k2
            by_cases k3 : x.kind = 3
            · have e3 : (x.kind == 3) = true := by simpa using k3
              obtain ⟨k', hc, p1, p2, p3⟩ : ∃ k', d.crash x.n = ⟨k', [], d.n⟩ ∧ k'.length ≤ d.k.length + d.w.length ∧ (d.k ++ d.w).take k'.length = k' ∧ d.k.length ≤ k'.length := by
                refine ⟨_, rfl, ?_, ?_, ?_⟩
                · simp only [List.length_append, List.length_take]; omega
                · rw [List.length_append, List.take_append]
                  rw [List.take_of_length_le (by omega), Nat.add_sub_cancel_left, List.length_take]
                  congr 1
                  rw [Nat.min_def]
                  split
                  · rfl
                  · rw [List.take_of_length_le (by omega), List.take_of_length_le (by omega)]
                · simp only [List.length_append]; omega
              have cc := c d x.n hsm
              rw [hc] at cc
              have q0 : ¬ ((k'.length : Int) > ((d.k.length + d.w.length : Nat) : Int)) := by omega
              have q1 : (k'.length : Int) ≤ ((d.k.length + d.w.length : Nat) : Int) := by omega
              have q2 : ¬ ((k'.length : Int) < u.length) := by have := hs.2.1; omega
              have q3 : ¬ ((k'.length : Int) < k'.length) := by omega
              have q4 : k'.take k'.length = k' := List.take_length
              simp only [f0, f1, f2, e3, walk, Nat.reduceLT, Nat.reduceBEq, Nat.reduceAdd, Nat.reduceLeDiff, reduceIte, Int.reduceLT, Int.reduceLE, Int.reduceEq, Int.reduceToNat, Int.reduceBEq]
              refine callWp_of cc ?_
              simp only [walk, Nat.reduceLT, Nat.reduceBEq, Nat.reduceAdd, Nat.reduceLeDiff, reduceIte, Int.reduceLT, Int.reduceLE, Int.reduceEq, Int.reduceToNat, Int.reduceBEq]
              refine callWp_of (g1 _ _ _) ?_
              simp only [q0, q1, p2, beq_self_eq_true, walk, Nat.reduceLT, Nat.reduceBEq, Nat.reduceAdd, Nat.reduceLeDiff, reduceIte, Int.reduceLT, Int.reduceLE, Int.reduceEq, Int.reduceToNat, Int.reduceBEq]
              refine callWp_of (g2 _ _ _) ?_
              simp only [q2, beq_self_eq_true, walk, Nat.reduceLT, Nat.reduceBEq, Nat.reduceAdd, Nat.reduceLeDiff, reduceIte, Int.reduceLT, Int.reduceLE, Int.reduceEq, Int.reduceToNat, Int.reduceBEq]
              refine callWp_of (g1 _ _ _) ?_
              simp only [q3, walk, Nat.reduceLT, Nat.reduceBEq, Nat.reduceAdd, Nat.reduceLeDiff, reduceIte, Int.reduceLT, Int.reduceLE, Int.reduceEq, Int.reduceToNat, Int.reduceBEq]
              refine callWp_of (g1 _ _ _) ?_
              simp only [q3, q4, beq_self_eq_true, walk, Nat.reduceLT, Nat.reduceBEq, Nat.reduceAdd, Nat.reduceLeDiff, reduceIte, Int.reduceLT, Int.reduceLE, Int.reduceEq, Int.reduceToNat, Int.reduceBEq]
              rw [wrap64 (n := (i : Int) + 1) (by omega) (by omega)]
              exact ih (i + 1, ⟨k', [], d.n⟩, k') ⟨by simp only; omega, by simp only; omega, by have := hs.1; simp only [Keeps, List.length_nil]; exact ⟨by omega, by omega, q4⟩⟩ (by simp only; omega)
            · have f3 : (x.kind == 3) = false := by simpa using k3
              simp only [f0, f1, f2, f3, walk, Nat.reduceLT, Nat.reduceBEq, Nat.reduceAdd, Nat.reduceLeDiff, reduceIte, Int.reduceLT, Int.reduceLE, Int.reduceEq, Int.reduceToNat, Int.reduceBEq]
              rw [wrap64 (n := (i : Int) + 1) (by omega) (by omega)]
              exact ih (i + 1, d, u) ⟨by simp only; omega, by simp only; omega, by have := hs.1; exact ⟨by simp only [Keeps] at *; omega, hs.2⟩⟩ (by simp only; omega)
    · simp only [h1, h2, walk, Nat.reduceLT, Nat.reduceBEq, Nat.reduceAdd, Nat.reduceLeDiff, reduceIte, Int.reduceLT, Int.reduceLE, Int.reduceEq, Int.reduceToNat, Int.reduceBEq]
      refine callWp_of hA ?_
      simp only [walk, Nat.reduceLT, Nat.reduceBEq, Nat.reduceAdd, Nat.reduceLeDiff, reduceIte, Int.reduceLT, Int.reduceLE, Int.reduceEq, Int.reduceToNat, Int.reduceBEq]
  · simp only [h1, walk, Nat.reduceLT, Nat.reduceBEq, Nat.reduceAdd, Nat.reduceLeDiff, reduceIte, Int.reduceLT, Int.reduceLE, Int.reduceEq, Int.reduceToNat, Int.reduceBEq]
    refine callWp_of hA ?_
    simp only [walk, Nat.reduceLT, Nat.reduceBEq, Nat.reduceAdd, Nat.reduceLeDiff, reduceIte, Int.reduceLT, Int.reduceLE, Int.reduceEq, Int.reduceToNat, Int.reduceBEq]
end
end Go.AR
