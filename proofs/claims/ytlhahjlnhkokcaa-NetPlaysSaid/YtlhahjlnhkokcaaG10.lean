import Derived.Test.YtlhahjlnhkokcaaG09
set_option linter.all false
/-! Nets: the laws. -/
namespace Go.AR
open Go
section
variable {C : CallRel} {F : Nat → FuncId}
def dRows (l : List Dd) : List (List PV) := l.map dCells
theorem dRows_len (l : List Dd) : (dRows l).length = l.length := by simp [dRows]
theorem dRows_get {l : List Dd} {k : Nat} (h : k < l.length) : (dRows l)[k]? = some (dCells l[k]) := by simp [dRows, h]
def doAll (l : List Dd) : List Fl := l.foldl doL []
theorem doAll_add (l : List Dd) (k : Nat) (h : k < l.length) : doAll (l.take (k + 1)) = doL (doAll (l.take k)) l[k] := by
  unfold doAll
  rw [List.take_add_one, List.getElem?_eq_getElem h, Option.toList_some, List.foldl_append]
  rfl
theorem g_plaw31_awake (h0 : S_nNew (C (F n_net_New))) (h1 : S_nSend (C (F n_net_Net_Send))) (h2 : S_nTake (C (F n_net_Net_Take))) (h3 : S_nLook (C (F n_net_Net_Look))) (h4 : S_nLen (C (F n_net_Net_Len))) : S_yes ((c_plaw31_awake F).gives C) := by
  refine gives_of rfl ?_
  unfold c_plaw31_awake
  have a1 : sendL [] (0, 0, [97]) = [(0, 0, [97])] := rfl
  have a2 : sendL [(0, 0, [97])] (0, 0, [98]) = [(0, 0, [97]), (0, 0, [98])] := rfl
  have a3 : sendL [(0, 0, [97]), (0, 0, [98])] (0, 0, [99]) = [(0, 0, [97]), (0, 0, [98]), (0, 0, [99])] := rfl
  have e1 : sendE [] = 0 := rfl
  have e2 : sendE [(0, 0, [97])] = 0 := rfl
  have e3 : sendE [(0, 0, [97]), (0, 0, [98])] = 0 := rfl
  have b1 : takeL [((0, 0, [97]) : Fl), (0, 0, [98]), (0, 0, [99])] 1 = [(0, 0, [97]), (0, 0, [99])] := by decide
  have b2 : getF [((0, 0, [97]) : Fl), (0, 0, [98]), (0, 0, [99])] 1 = (0, 0, [98]) := by decide
  have b3 : isL [((0, 0, [97]) : Fl), (0, 0, [98]), (0, 0, [99])] 1 = true := by decide
  have c1 : getF [((0, 0, [97]) : Fl), (0, 0, [99])] 1 = (0, 0, [99]) := by decide
  have c2 : isL [((0, 0, [97]) : Fl), (0, 0, [99])] 1 = true := by decide
  have k1 := h1 [] (0, 0, [97]) (by simp)
  have k2 := h1 [(0, 0, [97])] (0, 0, [98]) (by simp)
  have k3 := h1 [(0, 0, [97]), (0, 0, [98])] (0, 0, [99]) (by simp)
  have k4 := h2 [(0, 0, [97]), (0, 0, [98]), (0, 0, [99])] 1 (by simp)
  have k5 := h3 [(0, 0, [97]), (0, 0, [99])] 1
  have k6 := h4 [(0, 0, [97]), (0, 0, [99])]
  rw [a1, e1] at k1
  rw [a2, e2] at k2
  rw [a3, e3] at k3
  rw [b1, b2, b3] at k4
  rw [c1, c2] at k5
  have z0 : ((0 : Int) == 0) = true := rfl
  have z2 : (([(0, 0, [97]), (0, 0, [99])] : List Fl).length : Int) = 2 := rfl
  have s1 : (([98] : List UInt8) == [98]) = true := by decide
  have s2 : (([99] : List UInt8) == [99]) = true := by decide
  have z3 : ((2 : Int) == 2) = true := rfl
  simp only [walk, Nat.reduceLT, Nat.reduceBEq, Nat.reduceAdd, Nat.reduceLeDiff, reduceIte, Int.reduceLT, Int.reduceLE, Int.reduceEq, Int.reduceToNat, Int.reduceBEq]
  refine callWp_of h0 ?_
  simp only [walk, Nat.reduceLT, Nat.reduceBEq, Nat.reduceAdd, Nat.reduceLeDiff, reduceIte, Int.reduceLT, Int.reduceLE, Int.reduceEq, Int.reduceToNat, Int.reduceBEq]
  refine callWp_of k1 ?_
  simp only [walk, Nat.reduceLT, Nat.reduceBEq, Nat.reduceAdd, Nat.reduceLeDiff, reduceIte, Int.reduceLT, Int.reduceLE, Int.reduceEq, Int.reduceToNat, Int.reduceBEq]
  refine callWp_of k2 ?_
  simp only [walk, Nat.reduceLT, Nat.reduceBEq, Nat.reduceAdd, Nat.reduceLeDiff, reduceIte, Int.reduceLT, Int.reduceLE, Int.reduceEq, Int.reduceToNat, Int.reduceBEq]
  refine callWp_of k3 ?_
  simp only [walk, Nat.reduceLT, Nat.reduceBEq, Nat.reduceAdd, Nat.reduceLeDiff, reduceIte, Int.reduceLT, Int.reduceLE, Int.reduceEq, Int.reduceToNat, Int.reduceBEq]
  refine callWp_of k4 ?_
  simp only [walk, Nat.reduceLT, Nat.reduceBEq, Nat.reduceAdd, Nat.reduceLeDiff, reduceIte, Int.reduceLT, Int.reduceLE, Int.reduceEq, Int.reduceToNat, Int.reduceBEq, layT]
  refine callWp_of k5 ?_
  simp only [walk, Nat.reduceLT, Nat.reduceBEq, Nat.reduceAdd, Nat.reduceLeDiff, reduceIte, Int.reduceLT, Int.reduceLE, Int.reduceEq, Int.reduceToNat, Int.reduceBEq, layT, z0, s1, s2]
  refine callWp_of k6 ?_
  rw [z2]
  simp only [walk, Nat.reduceLT, Nat.reduceBEq, Nat.reduceAdd, Nat.reduceLeDiff, reduceIte, Int.reduceLT, Int.reduceLE, Int.reduceEq, Int.reduceToNat, Int.reduceBEq, z0, s1, s2, z3]
def S_plays (R : Rel) : Prop := ∀ l : List Dd, R [.v (.sl 6 (dRows l))] (.val (.bool true)) []
theorem g_NetPlays (hA : S_yes (C (F n_plaw31_awake))) (h0 : S_nNew (C (F n_net_New))) (h1 : S_does (C (F n_plaw31_does))) (h2 : S_nLen (C (F n_net_Net_Len))) (h3 : S_nLook (C (F n_net_Net_Look))) (h4 : S_fSame (C (F n_plaw31_same))) : S_plays ((c_plaw31_NetPlays F).gives C) := by
  intro l
  refine gives_of rfl ?_
  unfold c_plaw31_NetPlays
  have e : tagT [.sl 3 []] [0] 0 = [.own 3 []] := rfl
  have bt : ∀ n : Int, (n != n) = false := fun n => by simp
  simp only [walk, Nat.reduceLT, Nat.reduceBEq, Nat.reduceAdd, Nat.reduceLeDiff, reduceIte, Int.reduceLT, Int.reduceLE, Int.reduceEq, Int.reduceToNat, Int.reduceBEq]
  refine callWp_of h0 ?_
  simp only [walk, Nat.reduceLT, Nat.reduceBEq, Nat.reduceAdd, Nat.reduceLeDiff, reduceIte, Int.reduceLT, Int.reduceLE, Int.reduceEq, Int.reduceToNat, Int.reduceBEq, e]
  refine awp_loop_ind (X := Nat) (fun k => ⟨[(0, .val (.sl 6 (dRows l))), (2, .val (.bool false)), (3, .lp 9 0), (4, .lp 11 0), (5, .val (.int .i64 k))], [(9, netB (doAll (l.take k))), (11, netB (doAll (l.take k)))]⟩)
    (fun k => k ≤ l.length ∧ k ≤ 250 ∧ fOk (doAll (l.take k))) (fun k => l.length - k) 0 ⟨by omega, by omega, ⟨by simp [doAll], by simp [doAll]⟩⟩ rfl ?_
  rintro R k ⟨hk, hk2, hok⟩ ih
  simp only [walk, Nat.reduceLT, Nat.reduceBEq, Nat.reduceAdd, Nat.reduceLeDiff, reduceIte, Int.reduceLT, Int.reduceLE, Int.reduceEq, Int.reduceToNat, Int.reduceBEq, dRows_len]
  by_cases c : k < l.length ∧ k < 250
  · have c1 : (k : Int) < l.length := by omega
    have c3 : (k : Int) < 250 := by omega
    have c0 : (0 : Int) ≤ k := by omega
    have e1 : IntKind.i64.wrap ((k : Int) + 1) = ((k + 1 : Nat) : Int) := wrap64 (by omega) (by omega)
    have hget := dRows_get c.1
    simp only [walk, Nat.reduceLT, Nat.reduceBEq, Nat.reduceAdd, Nat.reduceLeDiff, reduceIte, Int.reduceLT, Int.reduceLE, Int.reduceEq, Int.reduceToNat, Int.reduceBEq, c1, c3, hget, dRows_len]
    by_cases hs : ((l[k].f.2.2.length : Int) > 300)
    · simp only [walk, Nat.reduceLT, Nat.reduceBEq, Nat.reduceAdd, Nat.reduceLeDiff, reduceIte, Int.reduceLT, Int.reduceLE, Int.reduceEq, Int.reduceToNat, Int.reduceBEq, hs]
      refine callWp_of hA ?_
      simp only [walk, Nat.reduceLT, Nat.reduceBEq, Nat.reduceAdd, Nat.reduceLeDiff, reduceIte, Int.reduceLT, Int.reduceLE, Int.reduceEq, Int.reduceToNat, Int.reduceBEq]
    · have hd : l[k].f.2.2.length ≤ 300 := by omega
      have hok2 := do_ok (d := l[k]) hok hd
      have next := ih (k + 1) ⟨by omega, by omega, by rw [doAll_add l k c.1]; exact hok2⟩ (by omega)
      rw [doAll_add l k c.1] at next
      simp only [walk, Nat.reduceLT, Nat.reduceBEq, Nat.reduceAdd, Nat.reduceLeDiff, reduceIte, Int.reduceLT, Int.reduceLE, Int.reduceEq, Int.reduceToNat, Int.reduceBEq, hs, hget, c1, dRows_len]
      refine callWp_of (h1 _ l[k] hok hd) ?_
      simp only [walk, Nat.reduceLT, Nat.reduceBEq, Nat.reduceAdd, Nat.reduceLeDiff, reduceIte, Int.reduceLT, Int.reduceLE, Int.reduceEq, Int.reduceToNat, Int.reduceBEq]
      refine callWp_of (h2 _) ?_
      simp only [walk, Nat.reduceLT, Nat.reduceBEq, Nat.reduceAdd, Nat.reduceLeDiff, reduceIte, Int.reduceLT, Int.reduceLE, Int.reduceEq, Int.reduceToNat, Int.reduceBEq, fRows_len, bt, e1]
      exact next
  · have c2 : (decide ((k : Int) < l.length) && decide ((k : Int) < 250)) = false := by
      rw [Bool.and_eq_false_iff, decide_eq_false_iff_not, decide_eq_false_iff_not]; omega
    clear ih
    generalize doAll (l.take k) = L at *
    have hend : ∀ b1 b2 : Bool, True := fun _ _ => trivial
    by_cases c1 : (k : Int) < l.length
    · have c3 : ¬ (k : Int) < 250 := by omega
      simp only [walk, Nat.reduceLT, Nat.reduceBEq, Nat.reduceAdd, Nat.reduceLeDiff, reduceIte, Int.reduceLT, Int.reduceLE, Int.reduceEq, Int.reduceToNat, Int.reduceBEq, c1, c3]
      refine awp_loop_ind (X := Nat) (fun j => ⟨[(0, .val (.sl 6 (dRows l))), (2, .val (.bool false)), (3, .lp 9 0), (4, .lp 11 0), (5, .val (.int .i64 k)), (6, .val (.int .i64 j)), (19, .val (.bool false))], [(9, netB L), (11, netB L)]⟩)
        (fun j => j ≤ L.length) (fun j => L.length - j) 0 (by omega) rfl ?_
      rintro R2 j hj ih
      have hL := hok.1
      simp only [walk, Nat.reduceLT, Nat.reduceBEq, Nat.reduceAdd, Nat.reduceLeDiff, reduceIte, Int.reduceLT, Int.reduceLE, Int.reduceEq, Int.reduceToNat, Int.reduceBEq, fRows_len]
      by_cases q : j < L.length
      · have q1 : (j : Int) < L.length := by omega
        have q0 : (0 : Int) ≤ j := by omega
        have e1 : IntKind.i64.wrap ((j : Int) + 1) = ((j + 1 : Nat) : Int) := wrap64 (by omega) (by omega)
        have k3 := h3 L j
        rw [getF_at q, isL_iff.2 ⟨q0, q1⟩] at k3
        simp only [walk, Nat.reduceLT, Nat.reduceBEq, Nat.reduceAdd, Nat.reduceLeDiff, reduceIte, Int.reduceLT, Int.reduceLE, Int.reduceEq, Int.reduceToNat, Int.reduceBEq, q1, fRows_len]
        refine callWp_of k3 ?_
        simp only [walk, Nat.reduceLT, Nat.reduceBEq, Nat.reduceAdd, Nat.reduceLeDiff, reduceIte, Int.reduceLT, Int.reduceLE, Int.reduceEq, Int.reduceToNat, Int.reduceBEq, layT, fRows_get q, q1, fRows_len]
        refine callWp_of (h4 L[j] L[j]) ?_
        simp only [walk, Nat.reduceLT, Nat.reduceBEq, Nat.reduceAdd, Nat.reduceLeDiff, reduceIte, Int.reduceLT, Int.reduceLE, Int.reduceEq, Int.reduceToNat, Int.reduceBEq, e1]
        exact ih (j + 1) (by omega) (by omega)
      · have q1 : ¬ (j : Int) < L.length := by omega
        simp only [walk, Nat.reduceLT, Nat.reduceBEq, Nat.reduceAdd, Nat.reduceLeDiff, reduceIte, Int.reduceLT, Int.reduceLE, Int.reduceEq, Int.reduceToNat, Int.reduceBEq, q1]
        refine callWp_of hA ?_
        simp only [walk, Nat.reduceLT, Nat.reduceBEq, Nat.reduceAdd, Nat.reduceLeDiff, reduceIte, Int.reduceLT, Int.reduceLE, Int.reduceEq, Int.reduceToNat, Int.reduceBEq]
    · simp only [walk, Nat.reduceLT, Nat.reduceBEq, Nat.reduceAdd, Nat.reduceLeDiff, reduceIte, Int.reduceLT, Int.reduceLE, Int.reduceEq, Int.reduceToNat, Int.reduceBEq, c1]
      refine awp_loop_ind (X := Nat) (fun j => ⟨[(0, .val (.sl 6 (dRows l))), (2, .val (.bool false)), (3, .lp 9 0), (4, .lp 11 0), (5, .val (.int .i64 k)), (6, .val (.int .i64 j)), (19, .val (.bool false))], [(9, netB L), (11, netB L)]⟩)
        (fun j => j ≤ L.length) (fun j => L.length - j) 0 (by omega) rfl ?_
      rintro R2 j hj ih
      have hL := hok.1
      simp only [walk, Nat.reduceLT, Nat.reduceBEq, Nat.reduceAdd, Nat.reduceLeDiff, reduceIte, Int.reduceLT, Int.reduceLE, Int.reduceEq, Int.reduceToNat, Int.reduceBEq, fRows_len]
      by_cases q : j < L.length
      · have q1 : (j : Int) < L.length := by omega
        have q0 : (0 : Int) ≤ j := by omega
        have e1 : IntKind.i64.wrap ((j : Int) + 1) = ((j + 1 : Nat) : Int) := wrap64 (by omega) (by omega)
        have k3 := h3 L j
        rw [getF_at q, isL_iff.2 ⟨q0, q1⟩] at k3
        simp only [walk, Nat.reduceLT, Nat.reduceBEq, Nat.reduceAdd, Nat.reduceLeDiff, reduceIte, Int.reduceLT, Int.reduceLE, Int.reduceEq, Int.reduceToNat, Int.reduceBEq, q1, fRows_len]
        refine callWp_of k3 ?_
        simp only [walk, Nat.reduceLT, Nat.reduceBEq, Nat.reduceAdd, Nat.reduceLeDiff, reduceIte, Int.reduceLT, Int.reduceLE, Int.reduceEq, Int.reduceToNat, Int.reduceBEq, layT, fRows_get q, q1, fRows_len]
        refine callWp_of (h4 L[j] L[j]) ?_
        simp only [walk, Nat.reduceLT, Nat.reduceBEq, Nat.reduceAdd, Nat.reduceLeDiff, reduceIte, Int.reduceLT, Int.reduceLE, Int.reduceEq, Int.reduceToNat, Int.reduceBEq, e1]
        exact ih (j + 1) (by omega) (by omega)
      · have q1 : ¬ (j : Int) < L.length := by omega
        simp only [walk, Nat.reduceLT, Nat.reduceBEq, Nat.reduceAdd, Nat.reduceLeDiff, reduceIte, Int.reduceLT, Int.reduceLE, Int.reduceEq, Int.reduceToNat, Int.reduceBEq, q1]
        refine callWp_of hA ?_
        simp only [walk, Nat.reduceLT, Nat.reduceBEq, Nat.reduceAdd, Nat.reduceLeDiff, reduceIte, Int.reduceLT, Int.reduceLE, Int.reduceEq, Int.reduceToNat, Int.reduceBEq]
def S_keeps (R : Rel) : Prop := ∀ (l : List Fl) (k x : Int), R [.v (.sl 3 (fRows l)), .v (.int .i64 k), .v (.int .i64 x)] (.val (.bool true)) []
theorem g_NetKeeps (hA : S_yes (C (F n_plaw31_awake))) (h0 : S_nNew (C (F n_net_New))) (h1 : S_nSend (C (F n_net_Net_Send))) (h2 : S_nSpoil (C (F n_net_Net_Spoil))) (h3 : S_nTake (C (F n_net_Net_Take))) (h4 : S_nLen (C (F n_net_Net_Len))) : S_keeps ((c_plaw31_NetKeeps F).gives C) := by
  intro l k x
  refine gives_of rfl ?_
  unfold c_plaw31_NetKeeps
  simp only [walk, Nat.reduceLT, Nat.reduceBEq, Nat.reduceAdd, Nat.reduceLeDiff, reduceIte, Int.reduceLT, Int.reduceLE, Int.reduceEq, Int.reduceToNat, Int.reduceBEq, fRows_len]
  by_cases hl : (l.length : Int) > 40
  · simp only [walk, Nat.reduceLT, Nat.reduceBEq, Nat.reduceAdd, Nat.reduceLeDiff, reduceIte, Int.reduceLT, Int.reduceLE, Int.reduceEq, Int.reduceToNat, Int.reduceBEq, hl]
    refine callWp_of hA ?_
    simp only [walk, Nat.reduceLT, Nat.reduceBEq, Nat.reduceAdd, Nat.reduceLeDiff, reduceIte, Int.reduceLT, Int.reduceLE, Int.reduceEq, Int.reduceToNat, Int.reduceBEq]
  have hl40 : l.length ≤ 40 := by omega
  simp only [walk, Nat.reduceLT, Nat.reduceBEq, Nat.reduceAdd, Nat.reduceLeDiff, reduceIte, Int.reduceLT, Int.reduceLE, Int.reduceEq, Int.reduceToNat, Int.reduceBEq, hl]
  refine callWp_of h0 ?_
  simp only [walk, Nat.reduceLT, Nat.reduceBEq, Nat.reduceAdd, Nat.reduceLeDiff, reduceIte, Int.reduceLT, Int.reduceLE, Int.reduceEq, Int.reduceToNat, Int.reduceBEq]
  refine awp_loop_ind (X := Nat) (fun j => ⟨[(0, .val (.sl 3 (fRows l))), (1, .val (.int .i64 k)), (2, .val (.int .i64 x)), (6, .val (.bool false)), (7, .lp 18 0), (8, .val (.int .i64 j)), (16, .val (.bool false))], [(18, netB (l.take j))]⟩)
    (fun j => j ≤ l.length ∧ ∀ f ∈ l.take j, f.2.2.length ≤ 300) (fun j => l.length - j) 0 ⟨by omega, by simp⟩ rfl ?_
  rintro R j ⟨hj, hJ⟩ ih
  simp only [walk, Nat.reduceLT, Nat.reduceBEq, Nat.reduceAdd, Nat.reduceLeDiff, reduceIte, Int.reduceLT, Int.reduceLE, Int.reduceEq, Int.reduceToNat, Int.reduceBEq, fRows_len]
  by_cases c : j < l.length
  · have c1 : (j : Int) < l.length := by omega
    have c0 : (0 : Int) ≤ j := by omega
    have e1 : IntKind.i64.wrap ((j : Int) + 1) = ((j + 1 : Nat) : Int) := wrap64 (by omega) (by omega)
    have hget := fRows_get c
    by_cases hs : ((l[j].2.2.length : Int) > 300)
    · simp only [walk, Nat.reduceLT, Nat.reduceBEq, Nat.reduceAdd, Nat.reduceLeDiff, reduceIte, Int.reduceLT, Int.reduceLE, Int.reduceEq, Int.reduceToNat, Int.reduceBEq, c1, hget, fRows_len, hs]
      refine callWp_of hA ?_
      simp only [walk, Nat.reduceLT, Nat.reduceBEq, Nat.reduceAdd, Nat.reduceLeDiff, reduceIte, Int.reduceLT, Int.reduceLE, Int.reduceEq, Int.reduceToNat, Int.reduceBEq]
    · have htl : (l.take j).length ≤ 200 := by rw [List.length_take]; omega
      have hse : sendE (l.take j) = 0 := by unfold sendE; rw [if_neg (by rw [List.length_take]; omega)]
      have hsl : sendL (l.take j) l[j] = l.take (j + 1) := by
        unfold sendL
        rw [if_neg (by rw [List.length_take]; omega), List.take_add_one, List.getElem?_eq_getElem c]; rfl
      have k1 := h1 (l.take j) l[j] htl
      rw [hse, hsl] at k1
      have z0 : ((0 : Int) != 0) = false := rfl
      have next := ih (j + 1) ⟨by omega, fun f hf => by
        rw [List.take_add_one, List.getElem?_eq_getElem c, Option.toList_some] at hf
        rcases List.mem_append.1 hf with hf | hf
        · exact hJ f hf
        · rw [List.mem_singleton.1 hf]; omega⟩ (by omega)
      simp only [walk, Nat.reduceLT, Nat.reduceBEq, Nat.reduceAdd, Nat.reduceLeDiff, reduceIte, Int.reduceLT, Int.reduceLE, Int.reduceEq, Int.reduceToNat, Int.reduceBEq, c1, hget, fRows_len, hs]
      refine callWp_of k1 ?_
      simp only [walk, Nat.reduceLT, Nat.reduceBEq, Nat.reduceAdd, Nat.reduceLeDiff, reduceIte, Int.reduceLT, Int.reduceLE, Int.reduceEq, Int.reduceToNat, Int.reduceBEq, z0, e1]
      exact next
  have c1 : ¬ (j : Int) < l.length := by omega
  rw [List.take_of_length_le (by omega)] at hJ ⊢
  clear ih
  have hok : fOk l := ⟨by omega, hJ⟩
  obtain ⟨t1, t2⟩ := spoil_twice l k x
  have k1 := h2 l k x hok
  have k2 := h2 (spoilL l k x) k x (spoil_ok hok k x)
  rw [t1, t2] at k2
  have bn : ∀ n : Int, (n != n) = false := fun n => by simp
  simp only [walk, Nat.reduceLT, Nat.reduceBEq, Nat.reduceAdd, Nat.reduceLeDiff, reduceIte, Int.reduceLT, Int.reduceLE, Int.reduceEq, Int.reduceToNat, Int.reduceBEq, c1]
  refine callWp_of k1 ?_
  simp only [walk, Nat.reduceLT, Nat.reduceBEq, Nat.reduceAdd, Nat.reduceLeDiff, reduceIte, Int.reduceLT, Int.reduceLE, Int.reduceEq, Int.reduceToNat, Int.reduceBEq]
  refine callWp_of k2 ?_
  simp only [walk, Nat.reduceLT, Nat.reduceBEq, Nat.reduceAdd, Nat.reduceLeDiff, reduceIte, Int.reduceLT, Int.reduceLE, Int.reduceEq, Int.reduceToNat, Int.reduceBEq, bn]
  refine awp_loop_ind (X := Nat) (fun m => ⟨[(0, .val (.sl 3 (fRows l))), (1, .val (.int .i64 k)), (2, .val (.int .i64 x)), (6, .val (.bool false)), (7, .lp 18 0), (8, .val (.int .i64 j)), (9, .val (.int .i64 (spoilE l k x))), (10, .val (.int .i64 (spoilE l k x))), (11, .val (.int .i64 m)), (16, .val (.bool false)), (22, .val (.bool false)), (50, .val (.bool false))], [(18, netB (l.drop m))]⟩)
    (fun m => m ≤ l.length) (fun m => l.length - m) 0 (by omega) rfl ?_
  rintro R2 m hm ih
  simp only [walk, Nat.reduceLT, Nat.reduceBEq, Nat.reduceAdd, Nat.reduceLeDiff, reduceIte, Int.reduceLT, Int.reduceLE, Int.reduceEq, Int.reduceToNat, Int.reduceBEq, fRows_len]
  by_cases q : m < l.length
  · have q1 : (m : Int) < l.length := by omega
    have q0 : (0 : Int) ≤ m := by omega
    have e1 : IntKind.i64.wrap ((m : Int) + 1) = ((m + 1 : Nat) : Int) := wrap64 (by omega) (by omega)
    have hdl : 0 < (l.drop m).length := by rw [List.length_drop]; omega
    have hdl2 : (l.drop m).length ≤ 200 := by rw [List.length_drop]; omega
    have hi0 : isL (l.drop m) 0 = true := isL_iff.2 ⟨by omega, by omega⟩
    have hg0 : getF (l.drop m) 0 = l[m] := by
      have := getF_at hdl
      rw [show ((0 : Nat) : Int) = 0 from rfl] at this
      rw [this, List.getElem_drop]
      simp
    have ht0 : takeL (l.drop m) 0 = l.drop (m + 1) := by
      unfold takeL
      rw [if_pos hi0]
      simp
    have k3 := h3 (l.drop m) 0 hdl2
    rw [hi0, hg0, ht0] at k3
    have hget := fRows_get q
    have next := ih (m + 1) (by omega) (by omega)
    have sn : ∀ s : List UInt8, (s == s) = true := fun s => by simp
    clear ih
    generalize l[m] = f at *
    simp only [walk, Nat.reduceLT, Nat.reduceBEq, Nat.reduceAdd, Nat.reduceLeDiff, reduceIte, Int.reduceLT, Int.reduceLE, Int.reduceEq, Int.reduceToNat, Int.reduceBEq, q1]
    refine callWp_of k3 ?_
    simp only [walk, Nat.reduceLT, Nat.reduceBEq, Nat.reduceAdd, Nat.reduceLeDiff, reduceIte, Int.reduceLT, Int.reduceLE, Int.reduceEq, Int.reduceToNat, Int.reduceBEq, layT, q1, hget, fRows_len, bn, sn, e1]
    exact next
  · have q1 : ¬ (m : Int) < l.length := by omega
    have hd : l.drop m = [] := List.drop_of_length_le (by omega)
    have k4 := h4 []
    have z0 : ((0 : Int) == 0) = true := rfl
    rw [hd]
    simp only [walk, Nat.reduceLT, Nat.reduceBEq, Nat.reduceAdd, Nat.reduceLeDiff, reduceIte, Int.reduceLT, Int.reduceLE, Int.reduceEq, Int.reduceToNat, Int.reduceBEq, q1]
    refine callWp_of k4 ?_
    simp only [walk, Nat.reduceLT, Nat.reduceBEq, Nat.reduceAdd, Nat.reduceLeDiff, reduceIte, Int.reduceLT, Int.reduceLE, Int.reduceEq, Int.reduceToNat, Int.reduceBEq, List.length_nil, z0]
    refine callWp_of hA ?_
    simp only [walk, Nat.reduceLT, Nat.reduceBEq, Nat.reduceAdd, Nat.reduceLeDiff, reduceIte, Int.reduceLT, Int.reduceLE, Int.reduceEq, Int.reduceToNat, Int.reduceBEq]
def S_nTake0 (R : Rel) : Prop := ∀ k, R [.v .nilp, .v (.int .i64 k)] (.val (.tup [fP zf, .bool false])) []
def S_none (R : Rel) : Prop := ∀ (f : Fl) (k x : Int), R [.v (fP f), .v (.int .i64 k), .v (.int .i64 x)] (.val (.bool true)) []
theorem g_NetNone (hA : S_yes (C (F n_plaw31_awake))) (h0 : S_nNew (C (F n_net_New))) (h1 : S_nSend (C (F n_net_Net_Send))) (h2 : S_nTwice (C (F n_net_Net_Twice))) (h3 : S_nLen (C (F n_net_Net_Len))) (o1 : S_nTake0 (C (F n_net_Net_Take))) (o2 : S_nLook0 (C (F n_net_Net_Look))) (o3 : S_nSend0 (C (F n_net_Net_Send))) (o4 : S_nTwice0 (C (F n_net_Net_Twice))) (o5 : S_nSpoil0 (C (F n_net_Net_Spoil))) (o6 : S_nLen0 (C (F n_net_Net_Len))) : S_none ((c_plaw31_NetNone F).gives C) := by
  intro f k x
  refine gives_of rfl ?_
  unfold c_plaw31_NetNone
  simp only [walk, Nat.reduceLT, Nat.reduceBEq, Nat.reduceAdd, Nat.reduceLeDiff, reduceIte, Int.reduceLT, Int.reduceLE, Int.reduceEq, Int.reduceToNat, Int.reduceBEq]
  by_cases hl : ((f.2.2.length : Int) > 300)
  · simp only [walk, Nat.reduceLT, Nat.reduceBEq, Nat.reduceAdd, Nat.reduceLeDiff, reduceIte, Int.reduceLT, Int.reduceLE, Int.reduceEq, Int.reduceToNat, Int.reduceBEq, hl]
    refine callWp_of hA ?_
    simp only [walk, Nat.reduceLT, Nat.reduceBEq, Nat.reduceAdd, Nat.reduceLeDiff, reduceIte, Int.reduceLT, Int.reduceLE, Int.reduceEq, Int.reduceToNat, Int.reduceBEq]
  have z1 : ((1 : Int) != 1) = false := rfl
  have z0 : ((0 : Int) != 0) = false := rfl
  have z7 : ((7 : Int) == 7) = true := rfl
  simp only [walk, Nat.reduceLT, Nat.reduceBEq, Nat.reduceAdd, Nat.reduceLeDiff, reduceIte, Int.reduceLT, Int.reduceLE, Int.reduceEq, Int.reduceToNat, Int.reduceBEq, hl]
  refine callWp_of (o1 k) ?_
  simp only [walk, Nat.reduceLT, Nat.reduceBEq, Nat.reduceAdd, Nat.reduceLeDiff, reduceIte, Int.reduceLT, Int.reduceLE, Int.reduceEq, Int.reduceToNat, Int.reduceBEq, layT]
  refine callWp_of (o2 k) ?_
  simp only [walk, Nat.reduceLT, Nat.reduceBEq, Nat.reduceAdd, Nat.reduceLeDiff, reduceIte, Int.reduceLT, Int.reduceLE, Int.reduceEq, Int.reduceToNat, Int.reduceBEq, layT]
  refine callWp_of (o3 f) ?_
  simp only [walk, Nat.reduceLT, Nat.reduceBEq, Nat.reduceAdd, Nat.reduceLeDiff, reduceIte, Int.reduceLT, Int.reduceLE, Int.reduceEq, Int.reduceToNat, Int.reduceBEq, z1]
  refine callWp_of (o4 k) ?_
  simp only [walk, Nat.reduceLT, Nat.reduceBEq, Nat.reduceAdd, Nat.reduceLeDiff, reduceIte, Int.reduceLT, Int.reduceLE, Int.reduceEq, Int.reduceToNat, Int.reduceBEq, z1]
  refine callWp_of (o5 k x) ?_
  simp only [walk, Nat.reduceLT, Nat.reduceBEq, Nat.reduceAdd, Nat.reduceLeDiff, reduceIte, Int.reduceLT, Int.reduceLE, Int.reduceEq, Int.reduceToNat, Int.reduceBEq, z1]
  refine callWp_of o6 ?_
  simp only [walk, Nat.reduceLT, Nat.reduceBEq, Nat.reduceAdd, Nat.reduceLeDiff, reduceIte, Int.reduceLT, Int.reduceLE, Int.reduceEq, Int.reduceToNat, Int.reduceBEq, z1, z0]
  refine callWp_of h0 ?_
  simp only [walk, Nat.reduceLT, Nat.reduceBEq, Nat.reduceAdd, Nat.reduceLeDiff, reduceIte, Int.reduceLT, Int.reduceLE, Int.reduceEq, Int.reduceToNat, Int.reduceBEq]
  refine awp_loop_ind (X := Nat) (fun j => ⟨[(0, .val (fP f)), (1, .val (.int .i64 k)), (2, .val (.int .i64 x)), (3, .lp 3 0), (6, .val (.bool false)), (7, .val .nilp), (9, .val (.bool false)), (11, .val (.bool false)), (12, .lp 59 0), (13, .val (.int .i64 j)), (17, .val (.bool false)), (58, .val (.bool false))], [(3, .cells [.val (.int .i64 f.1), .val (.int .i64 f.2.1), .val (.str f.2.2)]), (8, .cells [.val (.int .i64 zf.1), .val (.int .i64 zf.2.1), .val (.str zf.2.2)]), (10, .cells [.val (.int .i64 zf.1), .val (.int .i64 zf.2.1), .val (.str zf.2.2)]), (59, netB (List.replicate j f))]⟩)
    (fun j => j ≤ 200) (fun j => 200 - j) 0 (by omega) rfl ?_
  rintro R2 j hj ih
  have hrl : (List.replicate j f).length = j := List.length_replicate
  by_cases c : j < 200
  · have c1 : (j : Int) < 200 := by omega
    have e1 : IntKind.i64.wrap ((j : Int) + 1) = ((j + 1 : Nat) : Int) := wrap64 (by omega) (by omega)
    have k1 := h1 (List.replicate j f) f (by rw [hrl]; omega)
    have hse : sendE (List.replicate j f) = 0 := by unfold sendE; rw [hrl, if_neg (by omega)]
    have hsl : sendL (List.replicate j f) f = List.replicate (j + 1) f := by
      unfold sendL
      rw [hrl, if_neg (by omega), List.replicate_succ']
    rw [hse, hsl] at k1
    have next := ih (j + 1) (by omega) (by omega)
    simp only [walk, Nat.reduceLT, Nat.reduceBEq, Nat.reduceAdd, Nat.reduceLeDiff, reduceIte, Int.reduceLT, Int.reduceLE, Int.reduceEq, Int.reduceToNat, Int.reduceBEq, c1]
    refine callWp_of k1 ?_
    simp only [walk, Nat.reduceLT, Nat.reduceBEq, Nat.reduceAdd, Nat.reduceLeDiff, reduceIte, Int.reduceLT, Int.reduceLE, Int.reduceEq, Int.reduceToNat, Int.reduceBEq, z0, e1]
    exact next
  have hj200 : j = 200 := by omega
  subst hj200
  clear ih
  have hse : sendE (List.replicate 200 f) = 7 := by unfold sendE; rw [hrl, if_pos (by omega)]
  have hsl : sendL (List.replicate 200 f) f = List.replicate 200 f := by unfold sendL; rw [hrl, if_pos (by omega)]
  have hi3 : isL (List.replicate 200 f) 3 = true := isL_iff.2 ⟨by omega, by rw [hrl]; omega⟩
  have hte : twiceE (List.replicate 200 f) 3 = 7 := by unfold twiceE; rw [if_pos hi3, hse]
  have htl : twiceL (List.replicate 200 f) 3 = List.replicate 200 f := by
    unfold twiceL sendL
    rw [if_pos hi3, hrl, if_pos (by omega)]
  have k1 := h1 (List.replicate 200 f) f (by rw [hrl]; omega)
  have k2 := h2 (List.replicate 200 f) 3 (by rw [hrl]; omega)
  have k3 := h3 (List.replicate 200 f)
  rw [hse, hsl] at k1
  rw [hte, htl] at k2
  rw [hrl] at k3
  generalize List.replicate 200 f = X at *
  have c1 : ¬ ((200 : Nat) : Int) < 200 := by omega
  have z2 : (((200 : Nat) : Int) == 200) = true := rfl
  simp only [walk, Nat.reduceLT, Nat.reduceBEq, Nat.reduceAdd, Nat.reduceLeDiff, reduceIte, Int.reduceLT, Int.reduceLE, Int.reduceEq, Int.reduceToNat, Int.reduceBEq, c1]
  refine callWp_of k1 ?_
  simp only [walk, Nat.reduceLT, Nat.reduceBEq, Nat.reduceAdd, Nat.reduceLeDiff, reduceIte, Int.reduceLT, Int.reduceLE, Int.reduceEq, Int.reduceToNat, Int.reduceBEq, z7]
  refine callWp_of k2 ?_
  simp only [walk, Nat.reduceLT, Nat.reduceBEq, Nat.reduceAdd, Nat.reduceLeDiff, reduceIte, Int.reduceLT, Int.reduceLE, Int.reduceEq, Int.reduceToNat, Int.reduceBEq, z7]
  refine callWp_of k3 ?_
  simp only [walk, Nat.reduceLT, Nat.reduceBEq, Nat.reduceAdd, Nat.reduceLeDiff, reduceIte, Int.reduceLT, Int.reduceLE, Int.reduceEq, Int.reduceToNat, Int.reduceBEq, z7, z2]
  refine callWp_of hA ?_
  simp only [walk, Nat.reduceLT, Nat.reduceBEq, Nat.reduceAdd, Nat.reduceLeDiff, reduceIte, Int.reduceLT, Int.reduceLE, Int.reduceEq, Int.reduceToNat, Int.reduceBEq, z7, z2]
end
end Go.AR
