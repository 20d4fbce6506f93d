import Derived.Test.YtlhahjlnhkokcaaG04
import Derived.Test.YtlhahjlnhkokcaaG02
import Derived.Test.YtlhahjlnhkokcaaG07
set_option linter.all false
/-! Nets: what the functions give. -/
namespace Go.AR
open Go
abbrev Fl := Int × Int × List UInt8
def zf : Fl := (0, 0, [])
abbrev fCells (f : Fl) : List PV := [.int .i64 f.1, .int .i64 f.2.1, .str f.2.2]
abbrev fP (f : Fl) : PV := .agg (fCells f)
def fRows (l : List Fl) : List (List PV) := l.map fCells
theorem fRows_len (l : List Fl) : (fRows l).length = l.length := by simp [fRows]
theorem fRows_get {l : List Fl} {k : Nat} (h : k < l.length) : (fRows l)[k]? = some (fCells l[k]) := by simp [fRows, h]
theorem fRows_app (l : List Fl) (f : Fl) : fRows l ++ [fCells f] = fRows (l ++ [f]) := by simp [fRows]
theorem fRows_c (l : List Fl) : ∀ r ∈ fRows l, r.length = 3 := by
  intro r hr
  obtain ⟨v, _, rfl⟩ := List.mem_map.1 hr
  rfl
theorem fRows_one (l : List Fl) : ∀ p ∈ (fRows l).flatten, p.one = true := by
  intro p hp
  obtain ⟨r, hr, hp⟩ := List.mem_flatten.1 hp
  obtain ⟨v, _, rfl⟩ := List.mem_map.1 hr
  simp only [fCells, List.mem_cons, List.not_mem_nil, or_false] at hp
  rcases hp with rfl | rfl | rfl <;> rfl
abbrev netB (l : List Fl) : Blk := .cells [.own 3 (fRows l)]
def isL (l : List Fl) (k : Int) : Bool := decide (0 ≤ k) && decide (k < l.length)
def getF (l : List Fl) (k : Int) : Fl := if isL l k = true then l.getD k.toNat zf else zf
def sendE (l : List Fl) : Int := if l.length ≥ 200 then 7 else 0
def sendL (l : List Fl) (f : Fl) : List Fl := if l.length ≥ 200 then l else l ++ [f]
def takeL (l : List Fl) (k : Int) : List Fl := if isL l k = true then l.take k.toNat ++ l.drop (k.toNat + 1) else l
def twiceE (l : List Fl) (k : Int) : Int := if isL l k = true then sendE l else 12
def twiceL (l : List Fl) (k : Int) : List Fl := if isL l k = true then sendL l (getF l k) else l
theorem isL_iff {l : List Fl} {k : Int} : isL l k = true ↔ 0 ≤ k ∧ k < l.length := by simp [isL]
theorem isL_nat {l : List Fl} {k : Int} (h : isL l k = true) : ∃ n : Nat, k = n ∧ n < l.length := by
  obtain ⟨h1, h2⟩ := isL_iff.1 h
  exact ⟨k.toNat, by omega, by omega⟩
theorem getF_at {l : List Fl} {n : Nat} (h : n < l.length) : getF l (n : Int) = l[n] := by
  unfold getF
  rw [if_pos (isL_iff.2 ⟨by omega, by omega⟩)]
  simp [List.getD_eq_getElem?_getD, h]
theorem getF_no {l : List Fl} {k : Int} (h : isL l k = false) : getF l k = zf := by unfold getF; rw [h]; simp
section
variable {C : CallRel} {F : Nat → FuncId}
def S_nNew (R : Rel) : Prop := R [] (.new (netB [])) []
def S_nLen (R : Rel) : Prop := ∀ l, R [.r (netB l)] (.val (.int .i64 l.length)) [netB l]
def S_nIs (R : Rel) : Prop := ∀ l k, R [.r (netB l), .v (.int .i64 k)] (.val (.bool (isL l k))) [netB l]
def S_nLook (R : Rel) : Prop := ∀ l k, R [.r (netB l), .v (.int .i64 k)] (.val (.tup [fP (getF l k), .bool (isL l k)])) [netB l]
def S_nSend (R : Rel) : Prop := ∀ l f, l.length ≤ 200 → R [.r (netB l), .v (fP f)] (.val (.int .i64 (sendE l))) [netB (sendL l f)]
def S_nTake (R : Rel) : Prop := ∀ l k, l.length ≤ 200 → R [.r (netB l), .v (.int .i64 k)] (.val (.tup [fP (getF l k), .bool (isL l k)])) [netB (takeL l k)]
def S_nTwice (R : Rel) : Prop := ∀ l k, l.length ≤ 200 → R [.r (netB l), .v (.int .i64 k)] (.val (.int .i64 (twiceE l k))) [netB (twiceL l k)]
def S_nLen0 (R : Rel) : Prop := R [.v .nilp] (.val (.int .i64 0)) []
def S_nIs0 (R : Rel) : Prop := ∀ k, R [.v .nilp, .v (.int .i64 k)] (.val (.bool false)) []
def S_nLook0 (R : Rel) : Prop := ∀ k, R [.v .nilp, .v (.int .i64 k)] (.val (.tup [fP zf, .bool false])) []
def S_nSend0 (R : Rel) : Prop := ∀ f, R [.v .nilp, .v (fP f)] (.val (.int .i64 1)) []
def S_nTwice0 (R : Rel) : Prop := ∀ k, R [.v .nilp, .v (.int .i64 k)] (.val (.int .i64 1)) []
def S_nSpoil0 (R : Rel) : Prop := ∀ k x, R [.v .nilp, .v (.int .i64 k), .v (.int .i64 x)] (.val (.int .i64 1)) []
theorem g_net_New : S_nNew ((c_net_New F).gives C) := by
  refine gives_of rfl ?_
  unfold c_net_New
  have e : tagT [.sl 3 []] [0] 0 = [.own 3 []] := rfl
  simp only [walk, Nat.reduceLT, Nat.reduceBEq, Nat.reduceAdd, Nat.reduceLeDiff, reduceIte, Int.reduceLT, Int.reduceLE, Int.reduceEq, Int.reduceToNat, Int.reduceBEq, e]
  all_goals rfl
theorem g_net_Len : S_nLen ((c_net_Net_Len F).gives C) := by
  intro l
  refine gives_of rfl ?_
  unfold c_net_Net_Len
  simp only [walk, Nat.reduceLT, Nat.reduceBEq, Nat.reduceAdd, Nat.reduceLeDiff, reduceIte, Int.reduceLT, Int.reduceLE, Int.reduceEq, Int.reduceToNat, Int.reduceBEq, fRows_len]
theorem g_net_Len0 : S_nLen0 ((c_net_Net_Len__nil F).gives C) := by
  refine gives_of rfl ?_
  unfold c_net_Net_Len__nil
  simp only [walk, Nat.reduceLT, Nat.reduceBEq, Nat.reduceAdd, Nat.reduceLeDiff, reduceIte, Int.reduceLT, Int.reduceLE, Int.reduceEq, Int.reduceToNat, Int.reduceBEq]
theorem g_net_is (h : S_nLen (C (F n_net_Net_Len))) : S_nIs ((c_net_Net_is F).gives C) := by
  intro l k
  refine gives_of rfl ?_
  unfold c_net_Net_is isL
  simp only [walk, Nat.reduceLT, Nat.reduceBEq, Nat.reduceAdd, Nat.reduceLeDiff, reduceIte, Int.reduceLT, Int.reduceLE, Int.reduceEq, Int.reduceToNat, Int.reduceBEq]
  by_cases h1 : k ≥ 0
  · have h1' : (0 ≤ k) := h1
    simp only [walk, Nat.reduceLT, Nat.reduceBEq, Nat.reduceAdd, Nat.reduceLeDiff, reduceIte, Int.reduceLT, Int.reduceLE, Int.reduceEq, Int.reduceToNat, Int.reduceBEq, h1, h1']
    refine callWp_of (h l) ?_
    simp only [walk, Nat.reduceLT, Nat.reduceBEq, Nat.reduceAdd, Nat.reduceLeDiff, reduceIte, Int.reduceLT, Int.reduceLE, Int.reduceEq, Int.reduceToNat, Int.reduceBEq]
  · have h1' : ¬ (0 ≤ k) := h1
    simp only [walk, Nat.reduceLT, Nat.reduceBEq, Nat.reduceAdd, Nat.reduceLeDiff, reduceIte, Int.reduceLT, Int.reduceLE, Int.reduceEq, Int.reduceToNat, Int.reduceBEq, h1, h1']
theorem g_net_is0 (h : S_nLen0 (C (F n_net_Net_Len))) : S_nIs0 ((c_net_Net_is__nil F).gives C) := by
  intro k
  refine gives_of rfl ?_
  unfold c_net_Net_is__nil
  simp only [walk, Nat.reduceLT, Nat.reduceBEq, Nat.reduceAdd, Nat.reduceLeDiff, reduceIte, Int.reduceLT, Int.reduceLE, Int.reduceEq, Int.reduceToNat, Int.reduceBEq]
  by_cases h1 : k ≥ 0
  · have h2 : ¬ k < 0 := by omega
    simp only [walk, Nat.reduceLT, Nat.reduceBEq, Nat.reduceAdd, Nat.reduceLeDiff, reduceIte, Int.reduceLT, Int.reduceLE, Int.reduceEq, Int.reduceToNat, Int.reduceBEq, h1]
    refine callWp_of h ?_
    simp only [walk, Nat.reduceLT, Nat.reduceBEq, Nat.reduceAdd, Nat.reduceLeDiff, reduceIte, Int.reduceLT, Int.reduceLE, Int.reduceEq, Int.reduceToNat, Int.reduceBEq, h2]
  · simp only [walk, Nat.reduceLT, Nat.reduceBEq, Nat.reduceAdd, Nat.reduceLeDiff, reduceIte, Int.reduceLT, Int.reduceLE, Int.reduceEq, Int.reduceToNat, Int.reduceBEq, h1]
theorem g_net_Look (h : S_nIs (C (F n_net_Net_is))) : S_nLook ((c_net_Net_Look F).gives C) := by
  intro l k
  refine gives_of rfl ?_
  unfold c_net_Net_Look
  simp only [walk, Nat.reduceLT, Nat.reduceBEq, Nat.reduceAdd, Nat.reduceLeDiff, reduceIte, Int.reduceLT, Int.reduceLE, Int.reduceEq, Int.reduceToNat, Int.reduceBEq]
  refine callWp_of (h l k) ?_
  cases hi : isL l k with
  | false =>
    rw [getF_no hi]
    simp only [walk, Nat.reduceLT, Nat.reduceBEq, Nat.reduceAdd, Nat.reduceLeDiff, reduceIte, Int.reduceLT, Int.reduceLE, Int.reduceEq, Int.reduceToNat, Int.reduceBEq, layT]
    all_goals rfl
  | true =>
    obtain ⟨n, rfl, hn⟩ := isL_nat hi
    rw [getF_at hn]
    simp only [walk, Nat.reduceLT, Nat.reduceBEq, Nat.reduceAdd, Nat.reduceLeDiff, reduceIte, Int.reduceLT, Int.reduceLE, Int.reduceEq, Int.reduceToNat, Int.reduceBEq, fRows_get hn, layT]
    all_goals rfl
theorem g_net_Look0 (h : S_nIs0 (C (F n_net_Net_is))) : S_nLook0 ((c_net_Net_Look__nil F).gives C) := by
  intro k
  refine gives_of rfl ?_
  unfold c_net_Net_Look__nil
  simp only [walk, Nat.reduceLT, Nat.reduceBEq, Nat.reduceAdd, Nat.reduceLeDiff, reduceIte, Int.reduceLT, Int.reduceLE, Int.reduceEq, Int.reduceToNat, Int.reduceBEq]
  refine callWp_of (h k) ?_
  simp only [walk, Nat.reduceLT, Nat.reduceBEq, Nat.reduceAdd, Nat.reduceLeDiff, reduceIte, Int.reduceLT, Int.reduceLE, Int.reduceEq, Int.reduceToNat, Int.reduceBEq, layT]
  all_goals rfl
end
end Go.AR

/-! Nets: sent, and the document's. -/
namespace Go.AR
open Go
section
variable {C : CallRel} {F : Nat → FuncId}
theorem g_net_Send : S_nSend ((c_net_Net_Send F).gives C) := by
  intro l f hl
  refine gives_of rfl ?_
  unfold c_net_Net_Send sendE sendL
  simp only [walk, Nat.reduceLT, Nat.reduceBEq, Nat.reduceAdd, Nat.reduceLeDiff, reduceIte, Int.reduceLT, Int.reduceLE, Int.reduceEq, Int.reduceToNat, Int.reduceBEq, fRows_len]
  by_cases h : l.length ≥ 200
  · have h' : (l.length : Int) ≥ 200 := by omega
    have h2 : 200 ≤ l.length := h
    simp only [walk, Nat.reduceLT, Nat.reduceBEq, Nat.reduceAdd, Nat.reduceLeDiff, reduceIte, Int.reduceLT, Int.reduceLE, Int.reduceEq, Int.reduceToNat, Int.reduceBEq, h, h', h2, ge_iff_le]
    all_goals rfl
  · have h' : ¬ (l.length : Int) ≥ 200 := by omega
    have hb : (l.length + 1) * 32 ≤ 140737488355328 := by omega
    have h2 : ¬ 200 ≤ l.length := h
    simp only [walk, Nat.reduceLT, Nat.reduceBEq, Nat.reduceAdd, Nat.reduceLeDiff, reduceIte, Int.reduceLT, Int.reduceLE, Int.reduceEq, Int.reduceToNat, Int.reduceBEq, h', h2, fRows_len, hb, ge_iff_le]
    exact congrArg (fun r => some [Blk.cells [.own 3 r]]) (fRows_app l f)
theorem g_net_Send0 : S_nSend0 ((c_net_Net_Send__nil F).gives C) := by
  intro f
  refine gives_of rfl ?_
  unfold c_net_Net_Send__nil
  simp only [walk, Nat.reduceLT, Nat.reduceBEq, Nat.reduceAdd, Nat.reduceLeDiff, reduceIte, Int.reduceLT, Int.reduceLE, Int.reduceEq, Int.reduceToNat, Int.reduceBEq]
theorem g_net_Twice (h1 : S_nLook (C (F n_net_Net_Look))) (h2 : S_nSend (C (F n_net_Net_Send))) : S_nTwice ((c_net_Net_Twice F).gives C) := by
  intro l k hl
  refine gives_of rfl ?_
  unfold c_net_Net_Twice twiceE twiceL
  simp only [walk, Nat.reduceLT, Nat.reduceBEq, Nat.reduceAdd, Nat.reduceLeDiff, reduceIte, Int.reduceLT, Int.reduceLE, Int.reduceEq, Int.reduceToNat, Int.reduceBEq]
  refine callWp_of (h1 l k) ?_
  cases hi : isL l k with
  | false =>
    simp only [walk, Nat.reduceLT, Nat.reduceBEq, Nat.reduceAdd, Nat.reduceLeDiff, reduceIte, Int.reduceLT, Int.reduceLE, Int.reduceEq, Int.reduceToNat, Int.reduceBEq, layT]
    all_goals rfl
  | true =>
    simp only [walk, Nat.reduceLT, Nat.reduceBEq, Nat.reduceAdd, Nat.reduceLeDiff, reduceIte, Int.reduceLT, Int.reduceLE, Int.reduceEq, Int.reduceToNat, Int.reduceBEq, layT]
    refine callWp_of (h2 l (getF l k) hl) ?_
    simp only [walk, Nat.reduceLT, Nat.reduceBEq, Nat.reduceAdd, Nat.reduceLeDiff, reduceIte, Int.reduceLT, Int.reduceLE, Int.reduceEq, Int.reduceToNat, Int.reduceBEq]
    all_goals rfl
theorem g_net_Twice0 (h1 : S_nLook0 (C (F n_net_Net_Look))) : S_nTwice0 ((c_net_Net_Twice__nil F).gives C) := by
  intro k
  refine gives_of rfl ?_
  unfold c_net_Net_Twice__nil
  simp only [walk, Nat.reduceLT, Nat.reduceBEq, Nat.reduceAdd, Nat.reduceLeDiff, reduceIte, Int.reduceLT, Int.reduceLE, Int.reduceEq, Int.reduceToNat, Int.reduceBEq]
  refine callWp_of (h1 k) ?_
  simp only [walk, Nat.reduceLT, Nat.reduceBEq, Nat.reduceAdd, Nat.reduceLeDiff, reduceIte, Int.reduceLT, Int.reduceLE, Int.reduceEq, Int.reduceToNat, Int.reduceBEq, layT]
  all_goals rfl
end
end Go.AR

/-! Nets: the laws, plain; a deed in both. -/
namespace Go.AR
open Go
structure Dd where
  k : Int
  i : Int
  x : Int
  f : Fl
/-! Spoilt twice. -/
section
variable {C : CallRel} {F : Nat → FuncId}
end
end Go.AR

/-! Nets: the laws. -/
namespace Go.AR
open Go
section
variable {C : CallRel} {F : Nat → FuncId}
theorem g_plaw31_awake (h0 : S_nNew (C (F n_net_New))) (h1 : S_nSend (C (F n_net_Net_Send))) (h2 : S_nTake (C (F n_net_Net_Take))) (h3 : S_nLook (C (F n_net_Net_Look))) (h4 : S_nLen (C (F n_net_Net_Len))) : S_yes ((c_plaw31_awake F).gives C) := by
  refine gives_of rfl ?_
  unfold c_plaw31_awake
  have a1 : sendL [] (0, 0, [97]) = [(0, 0, [97])] := rfl
  have a2 : sendL [(0, 0, [97])] (0, 0, [98]) = [(0, 0, [97]), (0, 0, [98])] := rfl
  have a3 : sendL [(0, 0, [97]), (0, 0, [98])] (0, 0, [99]) = [(0, 0, [97]), (0, 0, [98]), (0, 0, [99])] := rfl
  have e1 : sendE [] = 0 := rfl
  have e2 : sendE [(0, 0, [97])] = 0 := rfl
  have e3 : sendE [(0, 0, [97]), (0, 0, [98])] = 0 := rfl
  have b1 : takeL [((0, 0, [97]) : Fl), (0, 0, [98]), (0, 0, [99])] 1 = [(0, 0, [97]), (0, 0, [99])] := by decide
  have b2 : getF [((0, 0, [97]) : Fl), (0, 0, [98]), (0, 0, [99])] 1 = (0, 0, [98]) := by decide
  have b3 : isL [((0, 0, [97]) : Fl), (0, 0, [98]), (0, 0, [99])] 1 = true := by decide
  have c1 : getF [((0, 0, [97]) : Fl), (0, 0, [99])] 1 = (0, 0, [99]) := by decide
  have c2 : isL [((0, 0, [97]) : Fl), (0, 0, [99])] 1 = true := by decide
  have k1 := h1 [] (0, 0, [97]) (by simp)
  have k2 := h1 [(0, 0, [97])] (0, 0, [98]) (by simp)
  have k3 := h1 [(0, 0, [97]), (0, 0, [98])] (0, 0, [99]) (by simp)
  have k4 := h2 [(0, 0, [97]), (0, 0, [98]), (0, 0, [99])] 1 (by simp)
  have k5 := h3 [(0, 0, [97]), (0, 0, [99])] 1
  have k6 := h4 [(0, 0, [97]), (0, 0, [99])]
  rw [a1, e1] at k1
  rw [a2, e2] at k2
  rw [a3, e3] at k3
  rw [b1, b2, b3] at k4
  rw [c1, c2] at k5
  have z0 : ((0 : Int) == 0) = true := rfl
  have z2 : (([(0, 0, [97]), (0, 0, [99])] : List Fl).length : Int) = 2 := rfl
  have s1 : (([98] : List UInt8) == [98]) = true := by decide
  have s2 : (([99] : List UInt8) == [99]) = true := by decide
  have z3 : ((2 : Int) == 2) = true := rfl
  simp only [walk, Nat.reduceLT, Nat.reduceBEq, Nat.reduceAdd, Nat.reduceLeDiff, reduceIte, Int.reduceLT, Int.reduceLE, Int.reduceEq, Int.reduceToNat, Int.reduceBEq]
  refine callWp_of h0 ?_
  simp only [walk, Nat.reduceLT, Nat.reduceBEq, Nat.reduceAdd, Nat.reduceLeDiff, reduceIte, Int.reduceLT, Int.reduceLE, Int.reduceEq, Int.reduceToNat, Int.reduceBEq]
  refine callWp_of k1 ?_
  simp only [walk, Nat.reduceLT, Nat.reduceBEq, Nat.reduceAdd, Nat.reduceLeDiff, reduceIte, Int.reduceLT, Int.reduceLE, Int.reduceEq, Int.reduceToNat, Int.reduceBEq]
  refine callWp_of k2 ?_
  simp only [walk, Nat.reduceLT, Nat.reduceBEq, Nat.reduceAdd, Nat.reduceLeDiff, reduceIte, Int.reduceLT, Int.reduceLE, Int.reduceEq, Int.reduceToNat, Int.reduceBEq]
  refine callWp_of k3 ?_
  simp only [walk, Nat.reduceLT, Nat.reduceBEq, Nat.reduceAdd, Nat.reduceLeDiff, reduceIte, Int.reduceLT, Int.reduceLE, Int.reduceEq, Int.reduceToNat, Int.reduceBEq]
  refine callWp_of k4 ?_
  simp only [walk, Nat.reduceLT, Nat.reduceBEq, Nat.reduceAdd, Nat.reduceLeDiff, reduceIte, Int.reduceLT, Int.reduceLE, Int.reduceEq, Int.reduceToNat, Int.reduceBEq, layT]
  refine callWp_of k5 ?_
  simp only [walk, Nat.reduceLT, Nat.reduceBEq, Nat.reduceAdd, Nat.reduceLeDiff, reduceIte, Int.reduceLT, Int.reduceLE, Int.reduceEq, Int.reduceToNat, Int.reduceBEq, layT, z0, s1, s2]
  refine callWp_of k6 ?_
  rw [z2]
  simp only [walk, Nat.reduceLT, Nat.reduceBEq, Nat.reduceAdd, Nat.reduceLeDiff, reduceIte, Int.reduceLT, Int.reduceLE, Int.reduceEq, Int.reduceToNat, Int.reduceBEq, z0, s1, s2, z3]
def S_nTake0 (R : Rel) : Prop := ∀ k, R [.v .nilp, .v (.int .i64 k)] (.val (.tup [fP zf, .bool false])) []
def S_none (R : Rel) : Prop := ∀ (f : Fl) (k x : Int), R [.v (fP f), .v (.int .i64 k), .v (.int .i64 x)] (.val (.bool true)) []
theorem g_NetNone (hA : S_yes (C (F n_plaw31_awake))) (h0 : S_nNew (C (F n_net_New))) (h1 : S_nSend (C (F n_net_Net_Send))) (h2 : S_nTwice (C (F n_net_Net_Twice))) (h3 : S_nLen (C (F n_net_Net_Len))) (o1 : S_nTake0 (C (F n_net_Net_Take))) (o2 : S_nLook0 (C (F n_net_Net_Look))) (o3 : S_nSend0 (C (F n_net_Net_Send))) (o4 : S_nTwice0 (C (F n_net_Net_Twice))) (o5 : S_nSpoil0 (C (F n_net_Net_Spoil))) (o6 : S_nLen0 (C (F n_net_Net_Len))) : S_none ((c_plaw31_NetNone F).gives C) := by
  intro f k x
  refine gives_of rfl ?_
  unfold c_plaw31_NetNone
  simp only [walk, Nat.reduceLT, Nat.reduceBEq, Nat.reduceAdd, Nat.reduceLeDiff, reduceIte, Int.reduceLT, Int.reduceLE, Int.reduceEq, Int.reduceToNat, Int.reduceBEq]
  by_cases hl : ((f.2.2.length : Int) > 300)
  · simp only [walk, Nat.reduceLT, Nat.reduceBEq, Nat.reduceAdd, Nat.reduceLeDiff, reduceIte, Int.reduceLT, Int.reduceLE, Int.reduceEq, Int.reduceToNat, Int.reduceBEq, hl]
    refine callWp_of hA ?_
    simp only [walk, Nat.reduceLT, Nat.reduceBEq, Nat.reduceAdd, Nat.reduceLeDiff, reduceIte, Int.reduceLT, Int.reduceLE, Int.reduceEq, Int.reduceToNat, Int.reduceBEq]
  have z1 : ((1 : Int) != 1) = false := rfl
  have z0 : ((0 : Int) != 0) = false := rfl
  have z7 : ((7 : Int) == 7) = true := rfl
  simp only [walk, Nat.reduceLT, Nat.reduceBEq, Nat.reduceAdd, Nat.reduceLeDiff, reduceIte, Int.reduceLT, Int.reduceLE, Int.reduceEq, Int.reduceToNat, Int.reduceBEq, hl]
  refine callWp_of (o1 k) ?_
  simp only [walk, Nat.reduceLT, Nat.reduceBEq, Nat.reduceAdd, Nat.reduceLeDiff, reduceIte, Int.reduceLT, Int.reduceLE, Int.reduceEq, Int.reduceToNat, Int.reduceBEq, layT]
  refine callWp_of (o2 k) ?_
  simp only [walk, Nat.reduceLT, Nat.reduceBEq, Nat.reduceAdd, Nat.reduceLeDiff, reduceIte, Int.reduceLT, Int.reduceLE, Int.reduceEq, Int.reduceToNat, Int.reduceBEq, layT]
  refine callWp_of (o3 f) ?_
  simp only [walk, Nat.reduceLT, Nat.reduceBEq, Nat.reduceAdd, Nat.reduceLeDiff, reduceIte, Int.reduceLT, Int.reduceLE, Int.reduceEq, Int.reduceToNat, Int.reduceBEq, z1]
  refine callWp_of (o4 k) ?_
  simp only [walk, Nat.reduceLT, Nat.reduceBEq, Nat.reduceAdd, Nat.reduceLeDiff, reduceIte, Int.reduceLT, Int.reduceLE, Int.reduceEq, Int.reduceToNat, Int.reduceBEq, z1]
  refine callWp_of (o5 k x) ?_
  simp only [walk, Nat.reduceLT, Nat.reduceBEq, Nat.reduceAdd, Nat.reduceLeDiff, reduceIte, Int.reduceLT, Int.reduceLE, Int.reduceEq, Int.reduceToNat, Int.reduceBEq, z1]
  refine callWp_of o6 ?_
  simp only [walk, Nat.reduceLT, Nat.reduceBEq, Nat.reduceAdd, Nat.reduceLeDiff, reduceIte, Int.reduceLT, Int.reduceLE, Int.reduceEq, Int.reduceToNat, Int.reduceBEq, z1, z0]
  refine callWp_of h0 ?_
  simp only [walk, Nat.reduceLT, Nat.reduceBEq, Nat.reduceAdd, Nat.reduceLeDiff, reduceIte, Int.reduceLT, Int.reduceLE, Int.reduceEq, Int.reduceToNat, Int.reduceBEq]
  refine awp_loop_ind (X := Nat) (fun j => ⟨[(0, .val (fP f)), (1, .val (.int .i64 k)), (2, .val (.int .i64 x)), (3, .lp 3 0), (6, .val (.bool false)), (7, .val .nilp), (9, .val (.bool false)), (11, .val (.bool false)), (12, .lp 59 0), (13, .val (.int .i64 j)), (17, .val (.bool false)), (58, .val (.bool false))], [(3, .cells [.val (.int .i64 f.1), .val (.int .i64 f.2.1), .val (.str f.2.2)]), (8, .cells [.val (.int .i64 zf.1), .val (.int .i64 zf.2.1), .val (.str zf.2.2)]), (10, .cells [.val (.int .i64 zf.1), .val (.int .i64 zf.2.1), .val (.str zf.2.2)]), (59, netB (List.replicate j f))]⟩)
    (fun j => j ≤ 200) (fun j => 200 - j) 0 (by omega) rfl ?_
  rintro R2 j hj ih
  have hrl : (List.replicate j f).length = j := List.length_replicate
  by_cases c : j < 200
  · have c1 : (j : Int) < 200 := by omega
    have e1 : IntKind.i64.wrap ((j : Int) + 1) = ((j + 1 : Nat) : Int) := wrap64 (by omega) (by omega)
    have k1 := h1 (List.replicate j f) f (by rw [hrl]; omega)
    have hse : sendE (List.replicate j f) = 0 := by unfold sendE; rw [hrl, if_neg (by omega)]
    have hsl : sendL (List.replicate j f) f = List.replicate (j + 1) f := by
      unfold sendL
      rw [hrl, if_neg (by omega), List.replicate_succ']
    rw [hse, hsl] at k1
    have next := ih (j + 1) (by omega) (by omega)
    simp only [walk, Nat.reduceLT, Nat.reduceBEq, Nat.reduceAdd, Nat.reduceLeDiff, reduceIte, Int.reduceLT, Int.reduceLE, Int.reduceEq, Int.reduceToNat, Int.reduceBEq, c1]
    refine callWp_of k1 ?_
    simp only [walk, Nat.reduceLT, Nat.reduceBEq, Nat.reduceAdd, Nat.reduceLeDiff, reduceIte, Int.reduceLT, Int.reduceLE, Int.reduceEq, Int.reduceToNat, Int.reduceBEq, z0, e1]
    exact next
  have hj200 : j = 200 := by omega
  subst hj200
  clear ih
  have hse : sendE (List.replicate 200 f) = 7 := by unfold sendE; rw [hrl, if_pos (by omega)]
  have hsl : sendL (List.replicate 200 f) f = List.replicate 200 f := by unfold sendL; rw [hrl, if_pos (by omega)]
  have hi3 : isL (List.replicate 200 f) 3 = true := isL_iff.2 ⟨by omega, by rw [hrl]; omega⟩
  have hte : twiceE (List.replicate 200 f) 3 = 7 := by unfold twiceE; rw [if_pos hi3, hse]
  have htl : twiceL (List.replicate 200 f) 3 = List.replicate 200 f := by
    unfold twiceL sendL
    rw [if_pos hi3, hrl, if_pos (by omega)]
  have k1 := h1 (List.replicate 200 f) f (by rw [hrl]; omega)
  have k2 := h2 (List.replicate 200 f) 3 (by rw [hrl]; omega)
  have k3 := h3 (List.replicate 200 f)
  rw [hse, hsl] at k1
  rw [hte, htl] at k2
  rw [hrl] at k3
  generalize List.replicate 200 f = X at *
  have c1 : ¬ ((200 : Nat) : Int) < 200 := by omega
  have z2 : (((200 : Nat) : Int) == 200) = true := rfl
  simp only [walk, Nat.reduceLT, Nat.reduceBEq, Nat.reduceAdd, Nat.reduceLeDiff, reduceIte, Int.reduceLT, Int.reduceLE, Int.reduceEq, Int.reduceToNat, Int.reduceBEq, c1]
  refine callWp_of k1 ?_
  simp only [walk, Nat.reduceLT, Nat.reduceBEq, Nat.reduceAdd, Nat.reduceLeDiff, reduceIte, Int.reduceLT, Int.reduceLE, Int.reduceEq, Int.reduceToNat, Int.reduceBEq, z7]
  refine callWp_of k2 ?_
  simp only [walk, Nat.reduceLT, Nat.reduceBEq, Nat.reduceAdd, Nat.reduceLeDiff, reduceIte, Int.reduceLT, Int.reduceLE, Int.reduceEq, Int.reduceToNat, Int.reduceBEq, z7]
  refine callWp_of k3 ?_
  simp only [walk, Nat.reduceLT, Nat.reduceBEq, Nat.reduceAdd, Nat.reduceLeDiff, reduceIte, Int.reduceLT, Int.reduceLE, Int.reduceEq, Int.reduceToNat, Int.reduceBEq, z7, z2]
  refine callWp_of hA ?_
  simp only [walk, Nat.reduceLT, Nat.reduceBEq, Nat.reduceAdd, Nat.reduceLeDiff, reduceIte, Int.reduceLT, Int.reduceLE, Int.reduceEq, Int.reduceToNat, Int.reduceBEq, z7, z2]
end
end Go.AR
