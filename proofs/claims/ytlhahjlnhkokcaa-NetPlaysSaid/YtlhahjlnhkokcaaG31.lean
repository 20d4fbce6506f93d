import Derived.Test.YtlhahjlnhkokcaaG29
import Derived.Test.YtlhahjlnhkokcaaG30
import Derived.Test.YtlhahjlnhkokcaaChecked
import Derived.WalkKit
import Derived.Handy
import Derived.Laws.OwnMore
set_option linter.all false
namespace Go.AR
open Go Go.Proofs Go.RowKit Go.Lib
theorem setCells_ne {b b' : Nat} (h : b' ≠ b) : ∀ (vs : List Value) (o : Nat) (w : World), (w.setCells b o vs).heap[b']? = w.heap[b']?
  | [], _, _ => rfl
  | v :: vs, o, w => (setCells_ne h vs (o + 1) (w.setCell ⟨b, o, none⟩ v)).trans (setCell_other b' h)
theorem setCells_size {b : Nat} : ∀ (vs : List Value) (o : Nat) (w : World), (w.setCells b o vs).heap.size = w.heap.size
  | [], _, _ => rfl
  | v :: vs, o, w => (setCells_size vs (o + 1) (w.setCell ⟨b, o, none⟩ v)).trans (by simp [World.setCell])
theorem setCells_same {b : Nat} : ∀ (vs : List Value) (o : Nat) (w : World), (w.setCells b o vs).os = w.os ∧ (w.setCells b o vs).tape = w.tape ∧ (w.setCells b o vs).output = w.output
  | [], _, _ => ⟨rfl, rfl, rfl⟩
  | v :: vs, o, w => setCells_same vs (o + 1) (w.setCell ⟨b, o, none⟩ v)
/-- What a row holds, part of which is written. -/
theorem setCells_list {b : Nat} {e : TypeId} : ∀ (vs : List Value) (o : Nat) (w : World) (cur : Array Value), w.heap[b]? = some (.cells cur e (0, 0)) → o + vs.length ≤ cur.size →
    ∃ cur', (w.setCells b o vs).heap[b]? = some (.cells cur' e (0, 0)) ∧ cur'.toList = cur.toList.take o ++ vs ++ cur.toList.drop (o + vs.length)
  | [], o, w, cur, h, _ => ⟨cur, h, by simp⟩
  | v :: vs, o, w, cur, h, hl => by
    simp only [List.length_cons] at hl
    obtain ⟨c', h1, h2⟩ := setCells_list vs (o + 1) _ _ (heap_setCell_same w b o cur e v h) (by simp; omega)
    refine ⟨c', h1, ?_⟩
    rw [h2, Array.toList_setIfInBounds]
    have hol : o < cur.toList.length := by simp; omega
    rw [List.take_add_one, List.getElem?_set_self hol, Option.toList_some, List.take_set_of_le (Nat.le_refl o), List.drop_set_of_lt (by omega), List.length_cons]
    simp only [List.append_assoc, List.singleton_append, List.cons_append, List.nil_append]
    rw [show o + 1 + vs.length = o + (vs.length + 1) by omega]
theorem frozen_of_block {w w' : World} {b i : Nat} (h : w'.heap[b]? = w.heap[b]?) : w'.frozen? ⟨b, i, none⟩ = w.frozen? ⟨b, i, none⟩ := by simp [World.frozen?, h]
theorem run_copy_noneE {P : Program} (w : World) (dT sT ty elem : TypeId) (e : Nat) (d a : Option Addr) (dLen dCap sLen sCap : Nat) (hu : P.underlying dT = some (.slice elem)) (hs : (P.info? elem).map (·.size) = some e) (hn : Nat.min sLen dLen = 0) :
    (Builtin.copy_ #[dT, sT] ty #[.slice d dLen dCap, .slice a sLen sCap]).run P w = .ok (goInt 0) w := by
  cases hq : P.info? elem with
  | none => simp [hq] at hs
  | some i =>
    have hl : ∀ (x : Addr), (loadCells x 0).run P w = .ok #[] w := fun x => by simpa using run_loadCells_list (P := P) w x [] (by simp)
    cases d <;> cases a <;> simp [Builtin.copy_, run_underlying hu, Builtin.lenOf, Builtin.firstCells, sizeOf, typeInfo, hq, hn, storeCells, hl]
/-- Said, and not to be used by the walk. -/
def Hid (p : Prop) : Prop := p
/-- The world in which a net's row was copied without one element. -/
structure TookW (w1 : World) (k : Nat) (V : List Value) (W5 : World) : Prop where
  os : W5.os = w1.os
  tape : W5.tape = w1.tape
  output : W5.output = w1.output
  size : W5.heap.size = w1.heap.size + 2
  old : ∀ j, j < w1.heap.size → W5.heap[j]? = w1.heap[j]?
  row : ∃ cur, W5.heap[w1.heap.size + 1]? = some (.cells cur 27 (0, 0)) ∧ cur.toList = V.take (k * 3) ++ V.drop ((k + 1) * 3)
/-- What is known of the world behind Look. -/
structure YesF (w : World) (b n : Nat) (V : List Value) (w1 : World) (g cap : Nat) : Prop where
  hh : w1.heap[w.heap.size]? = some (.cells #[.int .i64 0, .int .i64 0, .string ⟨#[]⟩] 27 (0, 0))
  hlt : w.heap.size < w1.heap.size
  cb : w1.cell? ⟨b, 0, none⟩ = some (.slice (some ⟨g, 0, none⟩) n cap)
  fb : w1.frozen? ⟨b, 0, none⟩ = false
  hg : g < w1.heap.size
  hgb : g ≠ b
  hnc : n ≤ cap
  hcm : cap ≤ 9223372036854775807
  hVc : ∀ j v, V[j]? = some v → w1.cell? ⟨g, j, none⟩ = some v
  hgh : g ≠ w.heap.size
set_option maxHeartbeats 1000000 in
set_option maxRecDepth 100000 in
theorem take_no (p : Option Addr) (kk : Int) (w : World) (x y : Int) (s : ByteArray) (Q : World → Prop)
   (hl : Calls Try.prog 13 #[.pointer p, .int .i64 kk] (w.alloc (.cells #[.int .i64 0, .int .i64 0, .string ⟨#[]⟩] 27)) fun e w1 => e = .returned (.tuple #[.agg #[.int .i64 x, .int .i64 y, .string s], .bool false]) ∧ (w1.heap[w.heap.size]? = some (.cells #[.int .i64 0, .int .i64 0, .string ⟨#[]⟩] 27 (0, 0)) ∧ w.heap.size < w1.heap.size) ∧ Q w1) :
    Calls Try.prog 10 #[.pointer p, .int .i64 kk] w fun e w' => e = .returned (.tuple #[.agg #[.int .i64 x, .int .i64 y, .string s], .bool false]) ∧ ∃ w1, (w1.heap[w.heap.size]? = some (.cells #[.int .i64 0, .int .i64 0, .string ⟨#[]⟩] 27 (0, 0)) ∧ w.heap.size < w1.heap.size) ∧ Q w1 ∧ w' = (((w1.setCell ⟨w.heap.size, 0, none⟩ (.int .i64 x)).setCell ⟨w.heap.size, 1, none⟩ (.int .i64 y)).setCell ⟨w.heap.size, 2, none⟩ (.string s)).alloc (.cells #[.int .i64 x, .int .i64 y, .string s] 27) := by
  go_enter Try.func10, Try.ntmps10
  go_wp2_with fail
  refine hl.mono ?_
  clear hl
  rintro e w' ⟨rfl, ⟨hh, hlt⟩, hQ⟩
  have hQ' : Hid ((w'.heap[w.heap.size]? = some (.cells #[.int .i64 0, .int .i64 0, .string ⟨#[]⟩] 27 (0, 0)) ∧ w.heap.size < w'.heap.size) ∧ Q w') := ⟨⟨hh, hlt⟩, hQ⟩
  have c0 : w'.cell? ⟨w.heap.size, 0, none⟩ = some (.int .i64 0) := Lib.cell_of_heap hh 0
  have c1 : w'.cell? ⟨w.heap.size, 1, none⟩ = some (.int .i64 0) := Lib.cell_of_heap hh 1
  have c2 : w'.cell? ⟨w.heap.size, 2, none⟩ = some (.string ⟨#[]⟩) := Lib.cell_of_heap hh 2
  have f0 := Lib.frozen_of_heap hh 0
  have f1 := Lib.frozen_of_heap hh 1
  have f2 := Lib.frozen_of_heap hh 2
  have hne : w.heap.size ≠ w'.heap.size := by omega
  have hne2 : w'.heap.size ≠ w.heap.size := by omega
  go_wp2_with fail
  have H3 : ((((w'.setCell ⟨w.heap.size, 0, none⟩ (.int .i64 x)).setCell ⟨w.heap.size, 1, none⟩ (.int .i64 y)).setCell ⟨w.heap.size, 2, none⟩ (.string s)).alloc (.cells #[.int .i64 x, .int .i64 y, .string s] 27)).heap[w.heap.size]? = some (.cells #[.int .i64 x, .int .i64 y, .string s] 27 (0, 0)) := by
    have g1 := heap_setCell_same w' w.heap.size 0 _ _ (.int .i64 x) hh
    have g2 := heap_setCell_same _ w.heap.size 1 _ _ (.int .i64 y) g1
    have g3 := heap_setCell_same _ w.heap.size 2 _ _ (.string s) g2
    rw [Go.Lib.alloc_old _ _ _ (by simp [World.setCell]; omega)]
    simpa using g3
  have q0 := Lib.cell_of_heap H3 0
  have q1 := Lib.cell_of_heap H3 1
  have q2 := Lib.cell_of_heap H3 2
  refine bodyPost_ret (v := .tuple #[.agg #[.int .i64 x, .int .i64 y, .string s], .bool false]) (by simp [results, Try.results10, go_sem, q0, q1, q2]) rfl ?_
  exact ⟨rfl, w', hQ'.1, hQ'.2, rfl⟩
set_option maxHeartbeats 2000000 in
set_option maxRecDepth 100000 in
theorem take_yes (b k n : Nat) (V : List Value) (w : World) (x y : Int) (s : ByteArray) (Q : World → Nat → Nat → Prop)
    (hl : Calls Try.prog 13 #[.pointer (some ⟨b, 0, none⟩), .int .i64 (k : Nat)] (w.alloc (.cells #[.int .i64 0, .int .i64 0, .string ⟨#[]⟩] 27)) fun e w1 => e = .returned (.tuple #[.agg #[.int .i64 x, .int .i64 y, .string s], .bool true]) ∧ ∃ g cap, YesF w b n V w1 g cap ∧ Q w1 g cap)
    (hb : b < w.heap.size) (hk : k < n) (hn : n ≤ 200) (hVl : V.length = n * 3) (h1V : ∀ v ∈ V, v.oneCell' = true) (hA : k < n - 1) :
    Calls Try.prog 10 #[.pointer (some ⟨b, 0, none⟩), .int .i64 (k : Nat)] w fun e w' => e = .returned (.tuple #[.agg #[.int .i64 x, .int .i64 y, .string s], .bool true]) ∧ ∃ w1 g cap W5, YesF w b n V w1 g cap ∧ Q w1 g cap ∧ TookW w1 k V W5 ∧ w' = (((W5.setCell ⟨b, 0, none⟩ (.slice (some ⟨w1.heap.size + 1, 0, none⟩) (n - 1) (n - 1))).setCell ⟨w.heap.size, 0, none⟩ (.int .i64 x)).setCell ⟨w.heap.size, 1, none⟩ (.int .i64 y)).setCell ⟨w.heap.size, 2, none⟩ (.string s) := by
  go_enter Try.func10, Try.ntmps10
  go_wp2_with fail
  refine hl.mono ?_
  clear hl
  rintro e w1 ⟨rfl, g, cap, hY, hQ⟩
  have hYQ : Hid (YesF w b n V w1 g cap ∧ Q w1 g cap) := ⟨hY, hQ⟩
  obtain ⟨hh, hlt, cb, fb, hg, hgb, hnc, hcm, hVc, hgh⟩ := hY
  clear hQ
  have c0 : w1.cell? ⟨w.heap.size, 0, none⟩ = some (.int .i64 0) := Lib.cell_of_heap hh 0
  have c1 : w1.cell? ⟨w.heap.size, 1, none⟩ = some (.int .i64 0) := Lib.cell_of_heap hh 1
  have c2 : w1.cell? ⟨w.heap.size, 2, none⟩ = some (.string ⟨#[]⟩) := Lib.cell_of_heap hh 2
  have f0 := Lib.frozen_of_heap hh 0
  have f1 := Lib.frozen_of_heap hh 1
  have f2 := Lib.frozen_of_heap hh 2
  have hne : w.heap.size ≠ w1.heap.size := by omega
  have hne2 : w1.heap.size ≠ w.heap.size := by omega
  have hbn : b ≠ w1.heap.size := by omega
  have hbn2 : b ≠ w1.heap.size + 1 := by omega
  have hgn : g ≠ w1.heap.size := by omega
  have hw : IntKind.i64.wrap ((n : Int) - 1) = (n : Int) - 1 := by rw [IntKind.wrap_i64]; omega
  have cb2 : ∀ o, (w1.alloc o).cell? ⟨b, 0, none⟩ = some (.slice (some ⟨g, 0, none⟩) n cap) := fun o => by
    rw [World.cell?_of_block (a := ⟨b, 0, none⟩) (Go.Lib.alloc_old w1 o b (by omega))]; exact cb
  obtain ⟨i0, hi0, hz0, hzs, hzb⟩ := info_parts (P := Try.prog) (e := 27) (z := .agg #[.int .i64 0, .int .i64 0, .string ⟨#[]⟩]) (size := 3) (bytes := 32) (by kernel_rfl)
  have hmk : ∀ W : World, (Instr.makeSlice 22 (.int .i64 ((n : Int) - 1)) (.int .i64 ((n : Int) - 1))).run Try.prog W = .ok (.slice (some ⟨W.heap.size, 0, none⟩) (n - 1) (n - 1)) (W.alloc (.cells (madeCells #[.int .i64 0, .int .i64 0, .string ⟨#[]⟩] ((n - 1) * 3)) 27)) := fun W => by
    have := run_make (P := Try.prog) W 22 27 i0 _ Try.underlying22 hi0 hz0 .i64 .i64 ((n : Int) - 1) ((n : Int) - 1) (by omega) (Int.le_refl _) (by rw [hzb]; omega) (by omega)
    rw [hzs, show ((n : Int) - 1).toNat = n - 1 by omega] at this
    exact this
  have cb3 : ∀ o o2, ((w1.alloc o).alloc o2).cell? ⟨b, 0, none⟩ = some (.slice (some ⟨g, 0, none⟩) n cap) := fun o o2 => by
    rw [World.cell?_of_block (a := ⟨b, 0, none⟩) (Go.Lib.alloc_old (w1.alloc o) o2 b (by simp; omega))]; exact cb2 o
  have hk1 : (k : Int) ≤ n := by omega
  have hk0 : (0 : Int) ≤ k := by omega
  have htn : ((k : Int)).toNat = k := rfl
  have hkc : (k : Int) ≤ cap := by omega
  obtain ⟨W3, hW3⟩ : ∃ W3, W3 = (w1.alloc (.cells #[.int .i64 x, .int .i64 y, .string s] 27)).alloc (.cells (madeCells #[.int .i64 0, .int .i64 0, .string ⟨#[]⟩] ((n - 1) * 3)) 27) := ⟨_, rfl⟩
  have old3 : ∀ j, j < w1.heap.size → W3.heap[j]? = w1.heap[j]? := fun j hj => by
    rw [hW3, Go.Lib.alloc_old _ _ _ (by simp; omega), Go.Lib.alloc_old _ _ _ hj]
  have new3 : W3.heap[w1.heap.size + 1]? = some (.cells (madeCells #[.int .i64 0, .int .i64 0, .string ⟨#[]⟩] ((n - 1) * 3)) 27 (0, 0)) := by
    rw [hW3]; exact heap_alloc2_new w1 _ _
  have six3 : W3.heap[w1.heap.size]? = some (.cells #[.int .i64 x, .int .i64 y, .string s] 27 (0, 0)) := by
    rw [hW3]; exact heap_alloc2_old w1 _ _
  have size3 : W3.heap.size = w1.heap.size + 2 := by rw [hW3]; simp
  obtain ⟨g1, hg1⟩ : ∃ g1, g1 = w1.heap.size + 1 := ⟨_, rfl⟩
  rw [← hg1] at new3
  have hsz : (Try.prog.info? 27).map (·.size) = some 3 := by rw [hi0]; simp [hzs]
  have hV1 : (V.take (k * 3)).length = k * 3 := by rw [List.length_take, hVl]; omega
  have hcp1 : (Builtin.copy_ #[22, 22] 3 #[.slice (some ⟨g1, 0, none⟩) (n - 1) (n - 1), .slice (some ⟨g, 0, none⟩) k cap]).run Try.prog W3 = .ok (.int .i64 k) (W3.setCells g1 0 (V.take (k * 3))) :=
    run_copy_cellsE W3 22 22 3 27 3 k g1 0 (n - 1) (n - 1) ⟨g, 0, none⟩ k cap (V.take (k * 3)) Try.underlying22 hsz (by simp only [Nat.min_def]; split <;> omega) hV1
      (fun j v hj => by
        rw [List.getElem?_take] at hj
        split at hj
        · rw [Addr.add_lit, Nat.zero_add, World.cell?_of_block (a := ⟨g, j, none⟩) (old3 g hg)]; exact hVc j v hj
        · cases hj)
      (fun j hj => by rw [Lib.cell_of_heap new3]; rw [hV1] at hj; simp [size_madeCells]; omega) (fun j hj => Lib.frozen_of_heap new3 _) (fun v hv => h1V v (List.mem_of_mem_take hv))
  obtain ⟨W4, hW4⟩ : ∃ W4, W4 = W3.setCells g1 0 (V.take (k * 3)) := ⟨_, rfl⟩
  have old4 : ∀ j, j ≠ g1 → W4.heap[j]? = W3.heap[j]? := fun j hj => by rw [hW4]; exact setCells_ne hj _ _ _
  have new4 : ∃ cur, W4.heap[g1]? = some (.cells cur 27 (0, 0)) ∧ cur.size = (n - 1) * 3 := by
    rw [hW4]
    obtain ⟨cur, h1, h2⟩ := setCells_row (V.take (k * 3)) 0 W3 _ new3
    exact ⟨cur, h1, by rw [h2, size_madeCells]⟩
  obtain ⟨cur4, new4, cur4l⟩ := new4
  have cb4 : W4.drew.cell? ⟨b, 0, none⟩ = some (.slice (some ⟨g, 0, none⟩) n cap) := by
    have e : W4.drew.heap[b]? = w1.heap[b]? := (old4 b (by omega)).trans (old3 b (by omega))
    rw [World.cell?_of_block (a := ⟨b, 0, none⟩) e]; exact cb
  have b1 : b ≠ g1 := by omega
  have b2 : g1 ≠ b := by omega
  have b3 : w.heap.size ≠ g1 := by omega
  have b4 : w1.heap.size ≠ g1 := by omega
  have mixed : Try.prog.follows .mixedOrders = true := by kernel_rfl
  have hw2 : IntKind.i64.wrap ((k : Int) + 1) = (k : Int) + 1 := by rw [IntKind.wrap_i64]; omega
  have hk2 : (k : Int) + 1 ≤ n := by omega
  have hk3 : (0 : Int) ≤ (k : Int) + 1 := by omega
  have htn2 : ((k : Int) + 1).toNat = k + 1 := by omega
  have hk4 : (k : Int) ≤ ((n - 1 : Nat) : Int) := by omega
  have hkn : ¬ (n - 1 = k) := by omega
  have hcn : ¬ (cap = k + 1) := by omega
  have hk5 : k ≤ n - 1 := by omega
  have hV2 : (V.drop ((k + 1) * 3)).length = (n - 1 - k) * 3 := by rw [List.length_drop, hVl]; omega
  have hcp2 : ∀ ty dc sc, (Builtin.copy_ #[22, 22] ty #[.slice (some ⟨g1, k * 3, none⟩) (n - 1 - k) dc, .slice (some ⟨g, (k + 1) * 3, none⟩) (n - (k + 1)) sc]).run Try.prog W4.drew = .ok (goInt (n - 1 - k : Nat)) (W4.drew.setCells g1 (k * 3) (V.drop ((k + 1) * 3))) := fun ty dc sc =>
    run_copy_cellsE W4.drew 22 22 ty 27 3 (n - 1 - k) g1 (k * 3) (n - 1 - k) dc ⟨g, (k + 1) * 3, none⟩ (n - (k + 1)) sc (V.drop ((k + 1) * 3)) Try.underlying22 hsz (by simp only [Nat.min_def]; split <;> omega) hV2
      (fun j v hj => by
        rw [List.getElem?_drop] at hj
        have e : W4.drew.heap[g]? = w1.heap[g]? := (old4 g (by omega)).trans (old3 g hg)
        rw [Addr.add_lit, World.cell?_of_block (a := ⟨g, (k + 1) * 3 + j, none⟩) e]; exact hVc _ v hj)
      (fun j hj => by
        have e : W4.drew.heap[g1]? = some (.cells cur4 27 (0, 0)) := new4
        rw [Lib.cell_of_heap e]; rw [hV2] at hj; simp; omega) (fun j hj => Lib.frozen_of_heap (w := W4.drew) new4 _) (fun v hv => h1V v (List.mem_of_mem_drop hv))
  obtain ⟨W5, hW5⟩ : ∃ W5, W5 = W4.drew.setCells g1 (k * 3) (V.drop ((k + 1) * 3)) := ⟨_, rfl⟩
  have old5 : ∀ j, j ≠ g1 → W5.heap[j]? = W3.heap[j]? := fun j hj => by
    rw [hW5, setCells_ne hj _ _ _]; exact old4 j hj
  have cb5 : W5.cell? ⟨b, 0, none⟩ = some (.slice (some ⟨g, 0, none⟩) n cap) := by
    rw [World.cell?_of_block (a := ⟨b, 0, none⟩) ((old5 b b1).trans (old3 b (by omega)))]; exact cb
  have fb5 : W5.frozen? ⟨b, 0, none⟩ = false := by
    rw [frozen_of_block ((old5 b b1).trans (old3 b (by omega)))]; exact fb
  have six5 := (old5 w1.heap.size b4).trans six3
  have h45 : W5.heap[w.heap.size]? = some (.cells #[.int .i64 0, .int .i64 0, .string ⟨#[]⟩] 27 (0, 0)) := ((old5 _ b3).trans (old3 _ hlt)).trans hh
  have s0 : W5.cell? ⟨w1.heap.size, 0, none⟩ = some (.int .i64 x) := Lib.cell_of_heap six5 0
  have s1 : W5.cell? ⟨w1.heap.size, 1, none⟩ = some (.int .i64 y) := Lib.cell_of_heap six5 1
  have s2 : W5.cell? ⟨w1.heap.size, 2, none⟩ = some (.string s) := Lib.cell_of_heap six5 2
  have t0 : W5.cell? ⟨w.heap.size, 0, none⟩ = some (.int .i64 0) := Lib.cell_of_heap h45 0
  have t1 : W5.cell? ⟨w.heap.size, 1, none⟩ = some (.int .i64 0) := Lib.cell_of_heap h45 1
  have t2 : W5.cell? ⟨w.heap.size, 2, none⟩ = some (.string ⟨#[]⟩) := Lib.cell_of_heap h45 2
  have u0 : W5.frozen? ⟨w.heap.size, 0, none⟩ = false := Lib.frozen_of_heap h45 0
  have u1 : W5.frozen? ⟨w.heap.size, 1, none⟩ = false := Lib.frozen_of_heap h45 1
  have u2 : W5.frozen? ⟨w.heap.size, 2, none⟩ = false := Lib.frozen_of_heap h45 2
  have took : TookW w1 k V W5 := by
    have e5 := setCells_same (b := g1) (V.drop ((k + 1) * 3)) (k * 3) W4.drew
    have e4 := setCells_same (b := g1) (V.take (k * 3)) 0 W3
    rw [← hW5] at e5
    rw [← hW4] at e4
    refine ⟨e5.1.trans (e4.1.trans (by rw [hW3]; rfl)), e5.2.1.trans (e4.2.1.trans (by rw [hW3]; rfl)), e5.2.2.trans (e4.2.2.trans (by rw [hW3]; rfl)), ?_, fun j hj => (old5 j (by omega)).trans (old3 j hj), ?_⟩
    · rw [hW5, setCells_size]
      show W4.heap.size = _
      rw [hW4, setCells_size, size3]
    · obtain ⟨c4, p1, p2⟩ := setCells_list (V.take (k * 3)) 0 W3 _ new3 (by rw [hV1, size_madeCells]; omega)
      rw [← hW4] at p1
      have c4l : c4.size = (n - 1) * 3 := by
        rw [← Array.length_toList, p2]
        simp only [List.take_zero, List.nil_append, List.length_append, List.length_drop, hV1, Array.length_toList, size_madeCells]; omega
      obtain ⟨c5, p3, p4⟩ := setCells_list (V.drop ((k + 1) * 3)) (k * 3) W4.drew c4 p1 (by rw [List.length_drop, hVl, c4l]; omega)
      rw [← hW5, hg1] at p3
      refine ⟨c5, p3, ?_⟩
      rw [p4, List.drop_of_length_le (show c4.toList.length ≤ _ by rw [Array.length_toList, c4l, List.length_drop, hVl]; omega), List.append_nil, p2]
      congr 1
      rw [List.take_zero, List.nil_append, List.take_append_of_le_length (by omega), List.take_of_length_le (by omega)]
  have h4r : (((W5.setCell ⟨b, 0, none⟩ (.slice (some ⟨g1, 0, none⟩) (n - 1) (n - 1))).setCell ⟨w.heap.size, 0, none⟩ (.int .i64 x)).setCell ⟨w.heap.size, 1, none⟩ (.int .i64 y)).setCell ⟨w.heap.size, 2, none⟩ (.string s) |>.heap[w.heap.size]? = some (.cells #[.int .i64 x, .int .i64 y, .string s] 27 (0, 0)) := by
    have q0 : (W5.setCell ⟨b, 0, none⟩ (.slice (some ⟨g1, 0, none⟩) (n - 1) (n - 1))).heap[w.heap.size]? = some (.cells #[.int .i64 0, .int .i64 0, .string ⟨#[]⟩] 27 (0, 0)) := by
      rw [setCell_other _ (by omega)]; exact h45
    have q1 := heap_setCell_same _ w.heap.size 0 _ _ (.int .i64 x) q0
    have q2 := heap_setCell_same _ w.heap.size 1 _ _ (.int .i64 y) q1
    have q3 := heap_setCell_same _ w.heap.size 2 _ _ (.string s) q2
    simpa using q3
  have r0 := Lib.cell_of_heap h4r 0
  have r1 := Lib.cell_of_heap h4r 1
  have r2 := Lib.cell_of_heap h4r 2
  have hid : Hid (w1.heap.size + 1 = g1 ∧ TookW w1 k V W5) := ⟨hg1.symm, took⟩
  clear took
  have b5 : b ≠ w.heap.size := by omega
  have b6 : w.heap.size ≠ b := by omega
  have b7 : w1.heap.size ≠ b := by omega
  go_wp2_with fail
  rw [← hW3, ← hg1]
  clear hW3 hg1
  rw [hcp1]
  simp only [Result.andThen]
  rw [Oper.upon_value]
  go_wp2_with fail
  rw [← hW4]
  clear hW4
  go_region_law_o (refine step_copy_runI rfl _ _ 22 22 rfl _ _ (by simp [Act.eval, Act.put]) (by simp [Act.eval, Act.put]) (hcp2 _ _ _) ?_)
  rw [← hW5]
  clear hW5
  go_wp2_with fail
  refine bodyPost_ret (v := .tuple #[.agg #[.int .i64 x, .int .i64 y, .string s], .bool true]) (by simp [results, Try.results10, go_sem, r0, r1, r2]) rfl ?_
  obtain ⟨z1, z2⟩ := hid
  refine ⟨rfl, w1, g, cap, W5, hYQ.1, hYQ.2, z2, ?_⟩
  rw [z1]

set_option maxHeartbeats 2000000 in
set_option maxRecDepth 100000 in
theorem take_last (b k n : Nat) (V : List Value) (w : World) (x y : Int) (s : ByteArray) (Q : World → Nat → Nat → Prop)
    (hl : Calls Try.prog 13 #[.pointer (some ⟨b, 0, none⟩), .int .i64 (k : Nat)] (w.alloc (.cells #[.int .i64 0, .int .i64 0, .string ⟨#[]⟩] 27)) fun e w1 => e = .returned (.tuple #[.agg #[.int .i64 x, .int .i64 y, .string s], .bool true]) ∧ ∃ g cap, YesF w b n V w1 g cap ∧ Q w1 g cap)
    (hb : b < w.heap.size) (hk : k < n) (hn : n ≤ 200) (hVl : V.length = n * 3) (h1V : ∀ v ∈ V, v.oneCell' = true) (hA : ¬ k + 1 < n) :
    Calls Try.prog 10 #[.pointer (some ⟨b, 0, none⟩), .int .i64 (k : Nat)] w fun e w' => e = .returned (.tuple #[.agg #[.int .i64 x, .int .i64 y, .string s], .bool true]) ∧ ∃ w1 g cap W5, YesF w b n V w1 g cap ∧ Q w1 g cap ∧ TookW w1 k V W5 ∧ w' = (((W5.setCell ⟨b, 0, none⟩ (.slice (some ⟨w1.heap.size + 1, 0, none⟩) (n - 1) (n - 1))).setCell ⟨w.heap.size, 0, none⟩ (.int .i64 x)).setCell ⟨w.heap.size, 1, none⟩ (.int .i64 y)).setCell ⟨w.heap.size, 2, none⟩ (.string s) := by
  go_enter Try.func10, Try.ntmps10
  go_wp2_with fail
  refine hl.mono ?_
  clear hl
  rintro e w1 ⟨rfl, g, cap, hY, hQ⟩
  have hYQ : Hid (YesF w b n V w1 g cap ∧ Q w1 g cap) := ⟨hY, hQ⟩
  obtain ⟨hh, hlt, cb, fb, hg, hgb, hnc, hcm, hVc, hgh⟩ := hY
  clear hQ
  have c0 : w1.cell? ⟨w.heap.size, 0, none⟩ = some (.int .i64 0) := Lib.cell_of_heap hh 0
  have c1 : w1.cell? ⟨w.heap.size, 1, none⟩ = some (.int .i64 0) := Lib.cell_of_heap hh 1
  have c2 : w1.cell? ⟨w.heap.size, 2, none⟩ = some (.string ⟨#[]⟩) := Lib.cell_of_heap hh 2
  have f0 := Lib.frozen_of_heap hh 0
  have f1 := Lib.frozen_of_heap hh 1
  have f2 := Lib.frozen_of_heap hh 2
  have hne : w.heap.size ≠ w1.heap.size := by omega
  have hne2 : w1.heap.size ≠ w.heap.size := by omega
  have hbn : b ≠ w1.heap.size := by omega
  have hbn2 : b ≠ w1.heap.size + 1 := by omega
  have hgn : g ≠ w1.heap.size := by omega
  have hw : IntKind.i64.wrap ((n : Int) - 1) = (n : Int) - 1 := by rw [IntKind.wrap_i64]; omega
  have cb2 : ∀ o, (w1.alloc o).cell? ⟨b, 0, none⟩ = some (.slice (some ⟨g, 0, none⟩) n cap) := fun o => by
    rw [World.cell?_of_block (a := ⟨b, 0, none⟩) (Go.Lib.alloc_old w1 o b (by omega))]; exact cb
  obtain ⟨i0, hi0, hz0, hzs, hzb⟩ := info_parts (P := Try.prog) (e := 27) (z := .agg #[.int .i64 0, .int .i64 0, .string ⟨#[]⟩]) (size := 3) (bytes := 32) (by kernel_rfl)
  have hmk : ∀ W : World, (Instr.makeSlice 22 (.int .i64 ((n : Int) - 1)) (.int .i64 ((n : Int) - 1))).run Try.prog W = .ok (.slice (some ⟨W.heap.size, 0, none⟩) (n - 1) (n - 1)) (W.alloc (.cells (madeCells #[.int .i64 0, .int .i64 0, .string ⟨#[]⟩] ((n - 1) * 3)) 27)) := fun W => by
    have := run_make (P := Try.prog) W 22 27 i0 _ Try.underlying22 hi0 hz0 .i64 .i64 ((n : Int) - 1) ((n : Int) - 1) (by omega) (Int.le_refl _) (by rw [hzb]; omega) (by omega)
    rw [hzs, show ((n : Int) - 1).toNat = n - 1 by omega] at this
    exact this
  have cb3 : ∀ o o2, ((w1.alloc o).alloc o2).cell? ⟨b, 0, none⟩ = some (.slice (some ⟨g, 0, none⟩) n cap) := fun o o2 => by
    rw [World.cell?_of_block (a := ⟨b, 0, none⟩) (Go.Lib.alloc_old (w1.alloc o) o2 b (by simp; omega))]; exact cb2 o
  have hk1 : (k : Int) ≤ n := by omega
  have hk0 : (0 : Int) ≤ k := by omega
  have htn : ((k : Int)).toNat = k := rfl
  have hkc : (k : Int) ≤ cap := by omega
  obtain ⟨W3, hW3⟩ : ∃ W3, W3 = (w1.alloc (.cells #[.int .i64 x, .int .i64 y, .string s] 27)).alloc (.cells (madeCells #[.int .i64 0, .int .i64 0, .string ⟨#[]⟩] ((n - 1) * 3)) 27) := ⟨_, rfl⟩
  have old3 : ∀ j, j < w1.heap.size → W3.heap[j]? = w1.heap[j]? := fun j hj => by
    rw [hW3, Go.Lib.alloc_old _ _ _ (by simp; omega), Go.Lib.alloc_old _ _ _ hj]
  have new3 : W3.heap[w1.heap.size + 1]? = some (.cells (madeCells #[.int .i64 0, .int .i64 0, .string ⟨#[]⟩] ((n - 1) * 3)) 27 (0, 0)) := by
    rw [hW3]; exact heap_alloc2_new w1 _ _
  have six3 : W3.heap[w1.heap.size]? = some (.cells #[.int .i64 x, .int .i64 y, .string s] 27 (0, 0)) := by
    rw [hW3]; exact heap_alloc2_old w1 _ _
  have size3 : W3.heap.size = w1.heap.size + 2 := by rw [hW3]; simp
  obtain ⟨g1, hg1⟩ : ∃ g1, g1 = w1.heap.size + 1 := ⟨_, rfl⟩
  rw [← hg1] at new3
  have hsz : (Try.prog.info? 27).map (·.size) = some 3 := by rw [hi0]; simp [hzs]
  have hV1 : (V.take (k * 3)).length = k * 3 := by rw [List.length_take, hVl]; omega
  have hcp1 : (Builtin.copy_ #[22, 22] 3 #[.slice (some ⟨g1, 0, none⟩) (n - 1) (n - 1), .slice (some ⟨g, 0, none⟩) k cap]).run Try.prog W3 = .ok (.int .i64 k) (W3.setCells g1 0 (V.take (k * 3))) :=
    run_copy_cellsE W3 22 22 3 27 3 k g1 0 (n - 1) (n - 1) ⟨g, 0, none⟩ k cap (V.take (k * 3)) Try.underlying22 hsz (by simp only [Nat.min_def]; split <;> omega) hV1
      (fun j v hj => by
        rw [List.getElem?_take] at hj
        split at hj
        · rw [Addr.add_lit, Nat.zero_add, World.cell?_of_block (a := ⟨g, j, none⟩) (old3 g hg)]; exact hVc j v hj
        · cases hj)
      (fun j hj => by rw [Lib.cell_of_heap new3]; rw [hV1] at hj; simp [size_madeCells]; omega) (fun j hj => Lib.frozen_of_heap new3 _) (fun v hv => h1V v (List.mem_of_mem_take hv))
  obtain ⟨W4, hW4⟩ : ∃ W4, W4 = W3.setCells g1 0 (V.take (k * 3)) := ⟨_, rfl⟩
  have old4 : ∀ j, j ≠ g1 → W4.heap[j]? = W3.heap[j]? := fun j hj => by rw [hW4]; exact setCells_ne hj _ _ _
  have new4 : ∃ cur, W4.heap[g1]? = some (.cells cur 27 (0, 0)) ∧ cur.size = (n - 1) * 3 := by
    rw [hW4]
    obtain ⟨cur, h1, h2⟩ := setCells_row (V.take (k * 3)) 0 W3 _ new3
    exact ⟨cur, h1, by rw [h2, size_madeCells]⟩
  obtain ⟨cur4, new4, cur4l⟩ := new4
  have cb4 : W4.drew.cell? ⟨b, 0, none⟩ = some (.slice (some ⟨g, 0, none⟩) n cap) := by
    have e : W4.drew.heap[b]? = w1.heap[b]? := (old4 b (by omega)).trans (old3 b (by omega))
    rw [World.cell?_of_block (a := ⟨b, 0, none⟩) e]; exact cb
  have b1 : b ≠ g1 := by omega
  have b2 : g1 ≠ b := by omega
  have b3 : w.heap.size ≠ g1 := by omega
  have b4 : w1.heap.size ≠ g1 := by omega
  have mixed : Try.prog.follows .mixedOrders = true := by kernel_rfl
  have hw2 : IntKind.i64.wrap ((k : Int) + 1) = (k : Int) + 1 := by rw [IntKind.wrap_i64]; omega
  have hk2 : (k : Int) + 1 ≤ n := by omega
  have hk3 : (0 : Int) ≤ (k : Int) + 1 := by omega
  have htn2 : ((k : Int) + 1).toNat = k + 1 := by omega
  have hk4 : (k : Int) ≤ ((n - 1 : Nat) : Int) := by omega
  have hVd : V.drop ((k + 1) * 3) = [] := List.drop_of_length_le (by omega)
  have hcp2 : ∀ (d a : Option Addr) ty dc sc, (Builtin.copy_ #[22, 22] ty #[.slice d (n - 1 - k) dc, .slice a (n - (k + 1)) sc]).run Try.prog W4.drew = .ok (goInt (0 : Nat)) W4.drew := fun d a ty dc sc => by
    exact run_copy_noneE W4.drew 22 22 ty 27 3 d a (n - 1 - k) dc (n - (k + 1)) sc Try.underlying22 hsz (by simp only [Nat.min_def]; split <;> omega)
  obtain ⟨W5, hW5⟩ : ∃ W5, W5 = W4.drew.setCells g1 (k * 3) (V.drop ((k + 1) * 3)) := ⟨_, rfl⟩
  have old5 : ∀ j, j ≠ g1 → W5.heap[j]? = W3.heap[j]? := fun j hj => by
    rw [hW5, setCells_ne hj _ _ _]; exact old4 j hj
  have cb5 : W5.cell? ⟨b, 0, none⟩ = some (.slice (some ⟨g, 0, none⟩) n cap) := by
    rw [World.cell?_of_block (a := ⟨b, 0, none⟩) ((old5 b b1).trans (old3 b (by omega)))]; exact cb
  have fb5 : W5.frozen? ⟨b, 0, none⟩ = false := by
    rw [frozen_of_block ((old5 b b1).trans (old3 b (by omega)))]; exact fb
  have six5 := (old5 w1.heap.size b4).trans six3
  have h45 : W5.heap[w.heap.size]? = some (.cells #[.int .i64 0, .int .i64 0, .string ⟨#[]⟩] 27 (0, 0)) := ((old5 _ b3).trans (old3 _ hlt)).trans hh
  have s0 : W5.cell? ⟨w1.heap.size, 0, none⟩ = some (.int .i64 x) := Lib.cell_of_heap six5 0
  have s1 : W5.cell? ⟨w1.heap.size, 1, none⟩ = some (.int .i64 y) := Lib.cell_of_heap six5 1
  have s2 : W5.cell? ⟨w1.heap.size, 2, none⟩ = some (.string s) := Lib.cell_of_heap six5 2
  have t0 : W5.cell? ⟨w.heap.size, 0, none⟩ = some (.int .i64 0) := Lib.cell_of_heap h45 0
  have t1 : W5.cell? ⟨w.heap.size, 1, none⟩ = some (.int .i64 0) := Lib.cell_of_heap h45 1
  have t2 : W5.cell? ⟨w.heap.size, 2, none⟩ = some (.string ⟨#[]⟩) := Lib.cell_of_heap h45 2
  have u0 : W5.frozen? ⟨w.heap.size, 0, none⟩ = false := Lib.frozen_of_heap h45 0
  have u1 : W5.frozen? ⟨w.heap.size, 1, none⟩ = false := Lib.frozen_of_heap h45 1
  have u2 : W5.frozen? ⟨w.heap.size, 2, none⟩ = false := Lib.frozen_of_heap h45 2
  have hW5' : W5 = W4.drew := by rw [hW5, hVd]; rfl
  have took : TookW w1 k V W5 := by
    have e5 := setCells_same (b := g1) (V.drop ((k + 1) * 3)) (k * 3) W4.drew
    have e4 := setCells_same (b := g1) (V.take (k * 3)) 0 W3
    rw [← hW5] at e5
    rw [← hW4] at e4
    refine ⟨e5.1.trans (e4.1.trans (by rw [hW3]; rfl)), e5.2.1.trans (e4.2.1.trans (by rw [hW3]; rfl)), e5.2.2.trans (e4.2.2.trans (by rw [hW3]; rfl)), ?_, fun j hj => (old5 j (by omega)).trans (old3 j hj), ?_⟩
    · rw [hW5, setCells_size]
      show W4.heap.size = _
      rw [hW4, setCells_size, size3]
    · obtain ⟨c4, p1, p2⟩ := setCells_list (V.take (k * 3)) 0 W3 _ new3 (by rw [hV1, size_madeCells]; omega)
      rw [← hW4] at p1
      have c4l : c4.size = (n - 1) * 3 := by
        rw [← Array.length_toList, p2]
        simp only [List.take_zero, List.nil_append, List.length_append, List.length_drop, hV1, Array.length_toList, size_madeCells]; omega
      obtain ⟨c5, p3, p4⟩ := setCells_list (V.drop ((k + 1) * 3)) (k * 3) W4.drew c4 p1 (by rw [List.length_drop, hVl, c4l]; omega)
      rw [← hW5, hg1] at p3
      refine ⟨c5, p3, ?_⟩
      rw [p4, List.drop_of_length_le (show c4.toList.length ≤ _ by rw [Array.length_toList, c4l, List.length_drop, hVl]; omega), List.append_nil, p2]
      congr 1
      rw [List.take_zero, List.nil_append, List.take_append_of_le_length (by omega), List.take_of_length_le (by omega)]
  have h4r : (((W5.setCell ⟨b, 0, none⟩ (.slice (some ⟨g1, 0, none⟩) (n - 1) (n - 1))).setCell ⟨w.heap.size, 0, none⟩ (.int .i64 x)).setCell ⟨w.heap.size, 1, none⟩ (.int .i64 y)).setCell ⟨w.heap.size, 2, none⟩ (.string s) |>.heap[w.heap.size]? = some (.cells #[.int .i64 x, .int .i64 y, .string s] 27 (0, 0)) := by
    have q0 : (W5.setCell ⟨b, 0, none⟩ (.slice (some ⟨g1, 0, none⟩) (n - 1) (n - 1))).heap[w.heap.size]? = some (.cells #[.int .i64 0, .int .i64 0, .string ⟨#[]⟩] 27 (0, 0)) := by
      rw [setCell_other _ (by omega)]; exact h45
    have q1 := heap_setCell_same _ w.heap.size 0 _ _ (.int .i64 x) q0
    have q2 := heap_setCell_same _ w.heap.size 1 _ _ (.int .i64 y) q1
    have q3 := heap_setCell_same _ w.heap.size 2 _ _ (.string s) q2
    simpa using q3
  have r0 := Lib.cell_of_heap h4r 0
  have r1 := Lib.cell_of_heap h4r 1
  have r2 := Lib.cell_of_heap h4r 2
  have hid : Hid (w1.heap.size + 1 = g1 ∧ TookW w1 k V W5) := ⟨hg1.symm, took⟩
  clear took
  have b5 : b ≠ w.heap.size := by omega
  have b6 : w.heap.size ≠ b := by omega
  have b7 : w1.heap.size ≠ b := by omega
  clear hVd hW5
  go_wp2_with fail
  rw [← hW3, ← hg1]
  clear hW3 hg1
  rw [hcp1]
  simp only [Result.andThen]
  rw [Oper.upon_value]
  go_wp2_with fail
  rw [← hW4]
  clear hW4
  go_region_law_o (refine step_copy_runI rfl _ _ 22 22 rfl _ _ (by simp [Act.eval, Act.put]) (by simp [Act.eval, Act.put]) (hcp2 _ _ _ _ _) ?_)
  rw [← hW5']
  clear hW5'
  generalize (if n - 1 = k then some (⟨g1, 0, none⟩ : Addr) else some ⟨g1, k * 3, none⟩) = D
  generalize (if cap = k + 1 then some (⟨g, 0, none⟩ : Addr) else some ⟨g, (k + 1) * 3, none⟩) = E
  go_wp2_with fail
  refine bodyPost_ret (v := .tuple #[.agg #[.int .i64 x, .int .i64 y, .string s], .bool true]) (by simp [results, Try.results10, go_sem, r0, r1, r2]) rfl ?_
  obtain ⟨z1, z2⟩ := hid
  refine ⟨rfl, w1, g, cap, W5, hYQ.1, hYQ.2, z2, ?_⟩
  rw [z1]

end Go.AR
