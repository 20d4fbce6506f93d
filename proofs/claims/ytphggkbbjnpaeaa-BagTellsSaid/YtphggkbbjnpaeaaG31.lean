import Derived.Test.YtphggkbbjnpaeaaG26
import Derived.Test.YtphggkbbjnpaeaaG03
import Derived.Shelf.Spec.SlicesInsertGrow
set_option linter.all false
/-! slices.Insert, of one element, at any type of elements. -/
namespace Go.AR
open Go Go.Proofs Go.Shelf Go.RowKit Go.Lib
noncomputable def insFn (ρ : Ren) (nm : String) (ta : Array TypeId) : Func := { Body2.n22 ρ with name := nm, targs := ta }
theorem insFn_ntmps (ρ : Ren) (nm : String) (ta : Array TypeId) : (insFn ρ nm ta).ntmps = 95 := Body2.n22_ntmps ρ
structure LIns (P : Program) (ρ : Ren) (nm : String) (ta : Array TypeId) (e : Nat) (bytes : Nat) (z : Value) : Prop where
  mixed : P.follows .mixedOrders = true
  f22 : P.funcs[ρ.f 22]? = some (insFn ρ nm ta)
  ov : ∀ (va : Array Value) (w : World) (v : Value), (Extern.SlicesOverlaps.overlaps #[ρ.t 24, ρ.t 24] #[ρ.t 4] va).run P w = .ok v w → (callFunc (ρ.f 29) va).run P w = .ok (.value v) w
  t0 : P.underlying (ρ.t 0) = some (TypeDesc.tuple #[])
  a0 : ∀ w, (isAgg (ρ.t 0)).run P w = .ok false w
  z0 : ∀ w, (Go.sizeOf (ρ.t 0)).run P w = .ok 1 w
  v0 : ∀ w, (zeroValue (ρ.t 0)).run P w = .ok (Value.tuple #[]) w
  t3 : P.underlying (ρ.t 3) = some (TypeDesc.int IntKind.i64)
  a3 : ∀ w, (isAgg (ρ.t 3)).run P w = .ok false w
  z3 : ∀ w, (Go.sizeOf (ρ.t 3)).run P w = .ok 1 w
  v3 : ∀ w, (zeroValue (ρ.t 3)).run P w = .ok (Value.int IntKind.i64 0) w
  t4 : P.underlying (ρ.t 4) = some (TypeDesc.bool)
  a4 : ∀ w, (isAgg (ρ.t 4)).run P w = .ok false w
  z4 : ∀ w, (Go.sizeOf (ρ.t 4)).run P w = .ok 1 w
  v4 : ∀ w, (zeroValue (ρ.t 4)).run P w = .ok (Value.bool false) w
  z9 : ∀ w, (Go.sizeOf (ρ.t 9)).run P w = .ok e w
  t24 : P.underlying (ρ.t 24) = some (TypeDesc.slice (ρ.t 9))
  a24 : ∀ w, (isAgg (ρ.t 24)).run P w = .ok false w
  z24 : ∀ w, (Go.sizeOf (ρ.t 24)).run P w = .ok 1 w
  v24 : ∀ w, (zeroValue (ρ.t 24)).run P w = .ok (Value.slice none 0 0) w
  i9 : (P.info? (ρ.t 9)).map (fun i => (i.zero, i.size, i.bytes)) = some (some z, e, bytes)
  nmok : nm ≠ "runtime.NumGoroutine"
  pos : 0 < e
  bpos : 0 < bytes
  zc : z.cells.size = e
section
variable {P : Program} {ρ : Ren} {nm : String} {ta : Array TypeId} {e bytes : Nat} {z : Value}
theorem run_copy_cellsE (w : World) (dT sT ty elem : TypeId) (e k b o dLen dCap : Nat) (a : Addr) (sLen sCap : Nat) (cs : List Value)
    (hu : P.underlying dT = some (.slice elem)) (hs : (P.info? elem).map (·.size) = some e) (hk : Nat.min sLen dLen = k) (hn : cs.length = k * e)
    (hsrc : ∀ j v, cs[j]? = some v → w.cell? (a.add j) = some v) (hc : ∀ j, j < cs.length → (w.cell? ⟨b, o + j, none⟩).isSome = true) (hf : ∀ j, j < cs.length → w.frozen? ⟨b, o + j, none⟩ = false) (h1 : ∀ v ∈ cs, v.oneCell' = true) :
    (Builtin.copy_ #[dT, sT] ty #[.slice (some ⟨b, o, none⟩) dLen dCap, .slice (some a) sLen sCap]).run P w = .ok (goInt k) (w.setCells b o cs) := by
  have hl := run_loadCells_list (P := P) w a cs hsrc
  have hst := run_storeCells_cells (P := P) b o cs 0 w (by simpa using hc) (by simpa using hf) h1
  cases hq : P.info? elem with
  | none => simp [hq] at hs
  | some i =>
    have hi : i.size = e := by simpa [hq] using hs
    simp [Builtin.copy_, run_underlying hu, Builtin.lenOf, Builtin.firstCells, sizeOf, typeInfo, hq, hi, hk, ← hn, hl, hst]
set_option maxHeartbeats 4000000 in
set_option maxRecDepth 100000 in
theorem insert_shift (L : LIns P ρ nm ta e bytes z) (b n c i vb vc : Nat) (cs vs : List Value) (w : World) (hi : i < n) (hroom : n + 1 ≤ c) (hc63 : c ≤ 9223372036854775807) (hvb : vb ≠ b)
    (hcl : cs.length = n * e) (hvl : vs.length = e)
    (hcs : ∀ j v, cs[j]? = some v → w.cell? ⟨b, j, none⟩ = some v) (hsp : ∀ j, j < (n + 1) * e → (w.cell? ⟨b, j, none⟩).isSome = true) (hfz : ∀ j, w.frozen? ⟨b, j, none⟩ = false)
    (hvs : ∀ j v, vs[j]? = some v → w.cell? ⟨vb, j, none⟩ = some v) (h1c : ∀ v ∈ cs, v.oneCell' = true) (h1v : ∀ v ∈ vs, v.oneCell' = true)
    (tA tB : TypeId) (kA kB : Nat) (hsa : w.shape? vb = some (tA, kA)) (hsb : w.shape? b = some (tB, kB)) (hkB : kB ≠ 0) (hfa : w.frozen? ⟨vb, 0, none⟩ = false) (hfe : w.frozen? ⟨vb, kA, none⟩ = false) :
    Calls P (ρ.f 22) #[.slice (some ⟨b, 0, none⟩) n c, .int .i64 i, .slice (some ⟨vb, 0, none⟩) 1 vc] w fun e' w' =>
      e' = .returned (.slice (some ⟨b, 0, none⟩) (n + 1) c) ∧ w' = (w.drew.setCells b ((i + 1) * e) (cs.drop (i * e))).setCells b (i * e) vs := by
  have t0 := L.t0; have a0 := L.a0; have z0 := L.z0; have v0 := L.v0; have t3 := L.t3; have a3 := L.a3; have z3 := L.z3; have v3 := L.v3; have t4 := L.t4; have a4 := L.a4; have z4 := L.z4; have v4 := L.v4; have z9 := L.z9; have t24 := L.t24; have a24 := L.a24; have z24 := L.z24; have v24 := L.v24
  have u0 := run_underlying L.t0; have u3 := run_underlying L.t3; have u4 := run_underlying L.t4; have u24 := run_underlying L.t24
  have hz2 : ¬ ((i : Int) = (n : Int)) := by omega
  have hsz : (P.info? (ρ.t 9)).map (·.size) = some e := by
    obtain ⟨i0, hi0, h0, h1, h2⟩ := info_parts L.i9
    rw [hi0]; simp [h1]
  have hov : ∀ lb cb, (callFunc (ρ.f 29) #[.slice (some ⟨vb, 0, none⟩) 1 vc, .slice (some ⟨b, (i + 1) * e, none⟩) lb cb]).run P w = .ok (.value (.bool false)) w := fun lb cb =>
    L.ov _ _ _ (Lib.run_overlaps_apart w (ρ.t 24) (ρ.t 4) (ρ.t 9) L.t24 e L.z9 ⟨vb, 0, none⟩ ⟨b, (i + 1) * e, none⟩ 1 vc lb cb hvb tA tB kA kB hsa hsb hkB hfa hfe)
  have hpos := L.pos
  have hdl : (cs.drop (i * e)).length = (n - i) * e := by rw [List.length_drop, hcl, Nat.sub_mul]
  have hmn : (n - i) * e ≤ n * e := Nat.mul_le_mul_right _ (by omega)
  have hin1 : (i + 1) * e + (n - i) * e = (n + 1) * e := by rw [← Nat.add_mul]; congr 1; omega
  obtain ⟨D, hD⟩ : ∃ D, D = (n - i) * e := ⟨_, rfl⟩
  rw [← hD] at hdl hin1 hmn
  have hin2 : i * e + e ≤ (n + 1) * e := by rw [← Nat.succ_mul]; exact Nat.mul_le_mul_right _ (by omega)
  have mixed := L.mixed
  have hw1 : IntKind.i64.wrap ((i : Int) + (1 : Int)) = (i : Int) + (1 : Int) := by rw [IntKind.wrap_i64]; omega
  have hw2 : IntKind.i64.wrap ((n : Int) + (1 : Int)) = (n : Int) + (1 : Int) := by rw [IntKind.wrap_i64]; omega
  have hb1 : (0 : Int) ≤ (i : Int) + (1 : Int) := by omega
  have hin : i ≤ n := by omega
  have htn : ((i : Int) + (1 : Int)).toNat = i + 1 := by omega
  have hb2 : ¬ (c = i + 1) := by omega
  have hb3 : (i : Int) ≤ (n : Int) + (1 : Int) := by omega
  have hb4 : ¬ (c = i) := by omega
  have hcp1 : ∀ ty dc sc, (Builtin.copy_ #[(ρ.t 24), (ρ.t 24)] ty #[.slice (some ⟨b, (i + 1) * e, none⟩) (n - i) dc, .slice (some ⟨b, i * e, none⟩) (n + 1 - i) sc]).run P w.drew = .ok (goInt (n - i : Nat)) (w.drew.setCells b ((i + 1) * e) (cs.drop (i * e))) := fun ty dc sc =>
    run_copy_cellsE w.drew _ _ ty (ρ.t 9) e (n - i) b ((i + 1) * e) (n - i) dc ⟨b, i * e, none⟩ (n + 1 - i) sc (cs.drop (i * e)) L.t24 hsz (by simp only [Nat.min_def]; split <;> omega) (by rw [hdl, hD])
      (fun j v hj => by rw [Addr.add_lit]; exact hcs (i * e + j) v (by rwa [List.getElem?_drop] at hj))
      (fun j hj => hsp _ (by rw [hdl] at hj; omega)) (fun j hj => hfz _) (fun v hv => h1c v (List.mem_of_mem_drop hv))
  obtain ⟨W1, hW1⟩ : ∃ W1, W1 = w.drew.setCells b ((i + 1) * e) (cs.drop (i * e)) := ⟨_, rfl⟩
  have hsp1 : ∀ k, k < (n + 1) * e → (W1.cell? ⟨b, k, none⟩).isSome = true := fun k hk => by
    rw [hW1]
    exact isSome_setCells b (cs.drop (i * e)) ((i + 1) * e) w.drew (fun j hj => hsp ((i + 1) * e + j) (by rw [hdl] at hj; omega)) k (hsp k hk)
  have hcp2 : ∀ (W : World), (∀ x, W.cell? x = W1.cell? x) → (∀ x, W.frozen? x = W1.frozen? x) → ∀ ty dc, (Builtin.copy_ #[(ρ.t 24), (ρ.t 24)] ty #[.slice (some ⟨b, i * e, none⟩) (n + 1 - i) dc, .slice (some ⟨vb, 0, none⟩) 1 vc]).run P W = .ok (goInt (1 : Nat)) (W.setCells b (i * e) vs) := fun W hWc hWf ty dc =>
    run_copy_cellsE W _ _ ty (ρ.t 9) e 1 b (i * e) (n + 1 - i) dc ⟨vb, 0, none⟩ 1 vc vs L.t24 hsz (by simp only [Nat.min_def]; split <;> omega) (by omega)
      (fun j v hj => by
        rw [Addr.add_lit, hWc, hW1, World.cell?_setCells_out b _ _ _ _ (fun h _ => absurd h hvb), Nat.zero_add]
        exact hvs j v hj)
      (fun j hj => by rw [hWc]; exact hsp1 _ (by omega)) (fun j hj => by rw [hWf, hW1, World.frozen?_setCells]; exact hfz _) h1v
  rw [← hW1] at hcp1
  go_enter L.f22, insFn_ntmps ρ nm ta
  go_wp2_with (simp only [hov])
  go_region_law_o (refine step_copy_runI rfl _ _ (ρ.t 24) (ρ.t 24) rfl _ _ (by simp [Act.eval, Act.put]) (by simp [Act.eval, Act.put]) (hcp1 _ _ _) ?_)
  go_wp2_with (at_builtin; refine wpList_copy_runI _ rfl _ _ (ρ.t 24) (ρ.t 24) rfl _ _ rfl rfl (hcp2 _ (fun _ => rfl) (fun _ => rfl) _ _) ?_)
  go_ret
  first | exact ⟨rfl, rfl⟩ | exact ⟨rfl, by rw [hW1]⟩
set_option maxHeartbeats 4000000 in
set_option maxRecDepth 100000 in
theorem insert_end (L : LIns P ρ nm ta e bytes z) (base : Option Addr) (n c vb vc : Nat) (w : World) (hnc : n ≤ c) (hc63 : c ≤ 9223372036854775807) {v' : Value} {w' : World}
    (hrun : (Builtin.append_ #[ρ.t 24, ρ.t 24] (ρ.t 24) #[.slice base n c, .slice (some ⟨vb, 0, none⟩) 1 vc]).run P w = .ok v' w') :
    Calls P (ρ.f 22) #[.slice base n c, .int .i64 n, .slice (some ⟨vb, 0, none⟩) 1 vc] w fun e' w'' => e' = .returned v' ∧ w'' = w' := by
  have t0 := L.t0; have a0 := L.a0; have z0 := L.z0; have v0 := L.v0; have t3 := L.t3; have a3 := L.a3; have z3 := L.z3; have v3 := L.v3; have t4 := L.t4; have a4 := L.a4; have z4 := L.z4; have v4 := L.v4; have z9 := L.z9; have t24 := L.t24; have a24 := L.a24; have z24 := L.z24; have v24 := L.v24
  have u0 := run_underlying L.t0; have u3 := run_underlying L.t3; have u4 := run_underlying L.t4; have u24 := run_underlying L.t24
  have mixed := L.mixed
  go_enter L.f22, insFn_ntmps ρ nm ta
  cases base with
  | none =>
    go_wp2_with (at_builtin; refine Lib.wpList_append_run _ rfl _ _ _ _ rfl _ _ rfl rfl _ _ hrun ?_)
    go_ret
    exact ⟨rfl, rfl⟩
  | some a =>
    obtain ⟨ab, ao, asp⟩ := a
    go_wp2_with (at_builtin; refine Lib.wpList_append_run _ rfl _ _ _ _ rfl _ _ rfl rfl _ _ hrun ?_)
    all_goals (go_ret; exact ⟨rfl, rfl⟩)
set_option maxHeartbeats 4000000 in
set_option maxRecDepth 100000 in
theorem insert_grow (L : LIns P ρ nm ta e bytes z) (b n c i vb vc : Nat) (cs vs : List Value) (w : World) (hi : i < n) (hnc : n ≤ c) (hroom : c < n + 1) (hbig : (n + 1) * bytes ≤ 140737488355328) (hn63 : n + 1 ≤ maxLen)
    (hbw : b < w.heap.size) (hvw : vb < w.heap.size)
    (hcl : cs.length = n * e) (hvl : vs.length = e)
    (hcs : ∀ j v, cs[j]? = some v → w.cell? ⟨b, j, none⟩ = some v)
    (hvs : ∀ j v, vs[j]? = some v → w.cell? ⟨vb, j, none⟩ = some v) (h1c : ∀ v ∈ cs, v.oneCell' = true) (h1v : ∀ v ∈ vs, v.oneCell' = true) :
    ∃ G ROW, n + 1 ≤ G ∧ G ≤ maxLen ∧ ROW.size = G * e ∧ ROW.toList.take (i * e) = cs.take (i * e) ∧
    Calls P (ρ.f 22) #[.slice (some ⟨b, 0, none⟩) n c, .int .i64 i, .slice (some ⟨vb, 0, none⟩) 1 vc] w fun e' w' =>
      e' = .returned (.slice (some ⟨w.heap.size, 0, none⟩) (n + 1) G) ∧
      w' = (((w.alloc (.cells ROW (ρ.t 9))).drew.setCells w.heap.size (i * e) vs).drew).setCells w.heap.size ((i + 1) * e) (cs.drop (i * e)) := by
  have t0 := L.t0; have a0 := L.a0; have z0 := L.z0; have v0 := L.v0; have t3 := L.t3; have a3 := L.a3; have z3 := L.z3; have v3 := L.v3; have t4 := L.t4; have a4 := L.a4; have z4 := L.z4; have v4 := L.v4; have z9 := L.z9; have t24 := L.t24; have a24 := L.a24; have z24 := L.z24; have v24 := L.v24
  have u0 := run_underlying L.t0; have u3 := run_underlying L.t3; have u4 := run_underlying L.t4; have u24 := run_underlying L.t24
  have mixed := L.mixed
  obtain ⟨i0, hi0, hz0, hzs, hzb⟩ := info_parts L.i9
  have hpos := L.pos
  have hzc := L.zc
  have hm63 : n + 1 ≤ 9223372036854775807 := by unfold maxLen at hn63; omega
  have hz2 : ¬ ((i : Int) = (n : Int)) := by omega
  have hz3 : (c : Int) < (n : Int) + (1 : Int) := by omega
  have hsz : (P.info? (ρ.t 9)).map (·.size) = some e := by rw [hi0]; simp [hzs]
  have hkk : (n : Int) + (1 : Int) - (i : Int) = ((n + 1 - i : Nat) : Int) := by omega
  have hik : i + (n + 1 - i) = n + 1 := by omega
  have hile : i * e ≤ n * e := Nat.mul_le_mul_right _ (by omega)
  have htl : (cs.take (i * e)).length = i * e := by rw [List.length_take]; omega
  have hold : (Builtin.firstCells i0.size i (.slice (some ⟨b, 0, none⟩) i c)).run P w.drew = .ok (cs.take (i * e)).toArray w.drew := by
    rw [hzs]
    exact run_firstCells_some (P := P) w.drew e i ⟨b, 0, none⟩ i c (cs.take (i * e)) htl (fun j v hj => by
      rw [Addr.add_lit, Nat.zero_add]
      rw [List.getElem?_take] at hj
      split at hj
      · exact hcs j v hj
      · cases hj)
  have hkb : (n + 1 - i) * bytes ≤ (n + 1) * bytes := Nat.mul_le_mul_right _ (by omega)
  have hrz : ∀ ty, (Builtin.append_ #[(ρ.t 24), (ρ.t 3)] ty #[.slice (some ⟨b, 0, none⟩) i c, .int .i64 ((n : Int) + (1 : Int) - (i : Int))]).run P w =
      .ok (.slice (some ⟨w.heap.size, 0, none⟩) (n + 1) (grownCap w (n + 1) c (ρ.t 9))) (w.drew.alloc (.cells ((cs.take (i * e)).toArray ++ Builtin.zeroCells z.cells (n + 1 - i) ++ Builtin.zeroCells z.cells (grownCap w (n + 1) c (ρ.t 9) - (n + 1))) (ρ.t 9))) := fun ty => by
    have h := Lib.run_append_grow_zeros w (ρ.t 24) (ρ.t 3) ty (ρ.t 9) i0 _ .i64 .i64 L.t24 L.t3 hi0 hz0 (some ⟨b, 0, none⟩) i c (cs.take (i * e)) hold (n + 1 - i) (by omega) (by omega) (by omega) (by omega) (by rw [hzb]; omega) (by rw [hzb, hik]; exact growslice_fits hroom hbig)
    rw [hik] at h
    rw [hkk]
    exact h
  obtain ⟨G, hG⟩ : ∃ G, G = grownCap w (n + 1) c (ρ.t 9) := ⟨_, rfl⟩
  obtain ⟨ROW, hROW⟩ : ∃ ROW : Array Value, ROW = (cs.take (i * e)).toArray ++ Builtin.zeroCells z.cells (n + 1 - i) ++ Builtin.zeroCells z.cells (G - (n + 1)) := ⟨_, rfl⟩
  rw [← hG] at hrz
  rw [← hROW] at hrz
  have hGn : n + 1 ≤ G := by rw [hG]; exact grownCap_ge w _ _ _
  have hGm : G ≤ maxLen := by rw [hG]; exact grownCap_le_maxLen w (n + 1) c (ρ.t 9) hn63
  have hRs : ROW.size = G * e := by
    rw [hROW]
    simp only [Array.size_append, List.size_toArray, size_zeroCells, hzc, htl, ← Nat.add_mul]
    congr 1
    omega
  have hR1 : (n + 1) * e ≤ ROW.size := by rw [hRs]; exact Nat.mul_le_mul_right _ hGn
  have hRt : ROW.toList.take (i * e) = cs.take (i * e) := by
    rw [hROW]
    simp only [Array.toList_append, List.append_assoc]
    rw [List.take_append_of_le_length (by rw [htl]; exact Nat.le_refl _), List.take_of_length_le (by rw [htl]; exact Nat.le_refl _)]
  refine ⟨G, ROW, hGn, hGm, hRs, hRt, ?_⟩
  obtain ⟨W1, hW1⟩ : ∃ W1, W1 = w.drew.alloc (.cells ROW (ρ.t 9)) := ⟨_, rfl⟩
  rw [← hW1] at hrz
  have hN : ∀ j, j < (n + 1) * e → (W1.cell? ⟨w.heap.size, j, none⟩).isSome = true := fun j hj => by
    rw [hW1, World.cell?_alloc_at (w := w.drew) ROW _ w.heap.size j rfl, Array.getElem?_eq_getElem (by omega)]; rfl
  have hNf : ∀ j, W1.frozen? ⟨w.heap.size, j, none⟩ = false := fun j => by rw [hW1]; exact World.frozen?_alloc_at (w := w.drew) ROW _ w.heap.size j rfl
  have hOb : ∀ j v, w.cell? ⟨b, j, none⟩ = some v → W1.cell? ⟨b, j, none⟩ = some v := fun j v h => by rw [hW1, World.cell?_alloc_past (w := w.drew) _ b j hbw]; exact h
  have hOv : ∀ j v, w.cell? ⟨vb, j, none⟩ = some v → W1.cell? ⟨vb, j, none⟩ = some v := fun j v h => by rw [hW1, World.cell?_alloc_past (w := w.drew) _ vb j hvw]; exact h
  have hin2 : i * e + e ≤ (n + 1) * e := by rw [← Nat.succ_mul]; exact Nat.mul_le_mul_right _ (by omega)
  have hdl : (cs.drop (i * e)).length = (n - i) * e := by rw [List.length_drop, hcl, Nat.sub_mul]
  have hin1 : (i + 1) * e + (n - i) * e = (n + 1) * e := by rw [← Nat.add_mul]; congr 1; omega
  obtain ⟨D, hD⟩ : ∃ D, D = (n - i) * e := ⟨_, rfl⟩
  rw [← hD] at hdl hin1
  have hcpA : ∀ (W : World), (∀ x, W.cell? x = W1.cell? x) → (∀ x, W.frozen? x = W1.frozen? x) → ∀ ty dc, (Builtin.copy_ #[(ρ.t 24), (ρ.t 24)] ty #[.slice (some ⟨w.heap.size, i * e, none⟩) (n + 1 - i) dc, .slice (some ⟨vb, 0, none⟩) 1 vc]).run P W = .ok (goInt (1 : Nat)) (W.setCells w.heap.size (i * e) vs) := fun W hWc hWf ty dc =>
    run_copy_cellsE W _ _ ty (ρ.t 9) e 1 w.heap.size (i * e) (n + 1 - i) dc ⟨vb, 0, none⟩ 1 vc vs L.t24 hsz (by simp only [Nat.min_def]; split <;> omega) (by omega)
      (fun j v hj => by rw [Addr.add_lit, hWc, Nat.zero_add]; exact hOv _ v (hvs j v hj))
      (fun j hj => by rw [hWc]; exact hN _ (by omega)) (fun j hj => by rw [hWf]; exact hNf _) h1v
  have hG63 : G ≤ 9223372036854775807 := by unfold maxLen at hGm; omega
  have hGi : ¬ (G = i) := by omega
  have hGim : ¬ (G = i + 1) := by omega
  have hci : ¬ (c = i) := by omega
  have hbN : b ≠ w.heap.size := by omega
  have hcpB : ∀ (W : World), (∀ x, W.cell? x = (W1.setCells w.heap.size (i * e) vs).cell? x) → (∀ x, W.frozen? x = (W1.setCells w.heap.size (i * e) vs).frozen? x) → ∀ ty dc sc, (Builtin.copy_ #[(ρ.t 24), (ρ.t 24)] ty #[.slice (some ⟨w.heap.size, (i + 1) * e, none⟩) (n - i) dc, .slice (some ⟨b, i * e, none⟩) (n - i) sc]).run P W = .ok (goInt (n - i : Nat)) (W.setCells w.heap.size ((i + 1) * e) (cs.drop (i * e))) := fun W hWc hWf ty dc sc =>
    run_copy_cellsE W _ _ ty (ρ.t 9) e (n - i) w.heap.size ((i + 1) * e) (n - i) dc ⟨b, i * e, none⟩ (n - i) sc (cs.drop (i * e)) L.t24 hsz (by simp only [Nat.min_def]; split <;> omega) (by rw [hdl, hD])
      (fun j v hj => by
        rw [Addr.add_lit, hWc, World.cell?_setCells_out _ _ _ _ _ (fun h _ => absurd h hbN)]
        exact hOb _ v (hcs (i * e + j) v (by rwa [List.getElem?_drop] at hj)))
      (fun j hj => by rw [hWc]; exact isSome_setCells w.heap.size vs (i * e) W1 (fun t ht => hN (i * e + t) (by omega)) _ (hN ((i + 1) * e + j) (by rw [hdl] at hj; omega)))
      (fun j hj => by rw [hWf, World.frozen?_setCells]; exact hNf _) (fun v hv => h1c v (List.mem_of_mem_drop hv))
  subst hW1
  have hE1 : ∀ x, ((w.alloc (.cells ROW (ρ.t 9))).drew).cell? x = (w.drew.alloc (.cells ROW (ρ.t 9))).cell? x := fun x => rfl
  have hE2 : ∀ x, ((w.alloc (.cells ROW (ρ.t 9))).drew).frozen? x = (w.drew.alloc (.cells ROW (ρ.t 9))).frozen? x := fun x => rfl
  have hF1 : ∀ x, (((w.alloc (.cells ROW (ρ.t 9))).drew.setCells w.heap.size (i * e) vs).drew).cell? x = ((w.drew.alloc (.cells ROW (ρ.t 9))).setCells w.heap.size (i * e) vs).cell? x := fun x => rfl
  have hF2 : ∀ x, (((w.alloc (.cells ROW (ρ.t 9))).drew.setCells w.heap.size (i * e) vs).drew).frozen? x = ((w.drew.alloc (.cells ROW (ρ.t 9))).setCells w.heap.size (i * e) vs).frozen? x := fun x => rfl
  have hw1 : IntKind.i64.wrap ((i : Int) + (1 : Int)) = (i : Int) + (1 : Int) := by rw [IntKind.wrap_i64]; omega
  have hw2 : IntKind.i64.wrap ((n : Int) + (1 : Int)) = (n : Int) + (1 : Int) := by rw [IntKind.wrap_i64]; omega
  have hb1 : (0 : Int) ≤ (i : Int) + (1 : Int) := by omega
  have hin : i ≤ n := by omega
  have htn : ((i : Int) + (1 : Int)).toNat = i + 1 := by omega
  have hb3 : (i : Int) ≤ (n : Int) := by omega
  clear hkk hik hold hROW hG hRs hR1 hRt
  go_enter L.f22, insFn_ntmps ρ nm ta
  go_wp2_with (first
    | (at_builtin; refine Lib.wpList_append_run _ rfl _ _ _ _ rfl _ _ rfl rfl _ _ (hrz _) ?_)
    | (at_builtin; refine wpList_copy_runI _ rfl _ _ (ρ.t 24) (ρ.t 24) rfl _ _ rfl rfl (hcpA _ hE1 hE2 _ _) ?_)
    | (at_builtin; refine wpList_copy_runI _ rfl _ _ (ρ.t 24) (ρ.t 24) rfl _ _ rfl rfl (hcpB _ (fun _ => rfl) (fun _ => rfl) _ _ _) ?_))
  go_region_law_o (refine step_copy_runI rfl _ _ (ρ.t 24) (ρ.t 24) rfl (.slice (some ⟨w.heap.size, (i + 1) * e, none⟩) (n - i) (G - (i + 1))) (.slice (some ⟨b, i * e, none⟩) (n - i) (c - i)) (by simp [Act.eval, Act.put]) (by simp [Act.eval, Act.put]) (hcpB _ hF1 hF2 (ρ.t 3) (G - (i + 1)) (c - i)) ?_)
  go_wp2
  go_ret
  exact ⟨rfl, rfl⟩
end
end Go.AR

/-! slices.Insert of one element, for the abstract machine. -/
namespace Go.AR
open Go Go.Proofs Go.Shelf Go.RowKit Go.Lib
/-- slices.Insert: a row that is given away, a place in it, a row of one that is given away. -/
def S_Insert (c bytes : Nat) (R : List Arg → RV → List Blk → Prop) : Prop := ∀ (rows : List (List PV)) (i : Nat) (r : List PV), i ≤ rows.length → (rows.length + 1) * bytes ≤ 140737488355328 → rows.length + 1 ≤ 9223372036854775807 →
  R [.x c rows, .v (.int .i64 i), .x c [r]] (.exc c (rows.take i ++ r :: rows.drop i)) []
theorem setCell_other' {w : World} {b i : Nat} {v : Value} (b' : Nat) (h : b' ≠ b) : (w.setCell ⟨b, i, none⟩ v).heap[b']? = w.heap[b']? := by simp [World.setCell, Array.getElem?_modify, Ne.symm h]
theorem setCell_evo' {T : Nat → Prop} {w : World} {G : Nat → Nat} {b i : Nat} {v : Value} (hT : T b) (hG : G b = 0) : Evo T w G (w.setCell ⟨b, i, none⟩ v) G := by
  refine ⟨rfl, rfl, rfl, by simp [World.setCell], ⟨fun _ => Nat.le_refl _, fun b' off ho => ?_, fun b' sh hs => ?_⟩, fun b' _ ht => ⟨setCell_other' b' (fun e => ht (e ▸ hT)), rfl⟩⟩
  · refine World.cell?_of_block (a := ⟨b', off, none⟩) (setCell_other' b' (fun e => ?_))
    subst e; omega
  · by_cases e : b' = b
    · subst e
      rw [← hs]
      simp only [World.shape?, World.setCell, Array.getElem?_modify, if_true]
      cases w.heap[b']? with
      | none => rfl
      | some x => cases x <;> simp
    · rw [shape_of_block (setCell_other' b' e)]; exact hs
theorem setCells_evo {T : Nat → Prop} {G : Nat → Nat} {b : Nat} (hT : T b) (hG : G b = 0) : ∀ (vs : List Value) (o : Nat) (w : World), Evo T w G (w.setCells b o vs) G
  | [], o, w => .refl _ _ _
  | v :: vs, o, w => (setCell_evo' (i := o) (v := v) hT hG).trans (setCells_evo hT hG vs (o + 1) _) (fun _ _ h => h)
theorem setCells_row {b : Nat} {e : TypeId} : ∀ (vs : List Value) (o : Nat) (w : World) (cur : Array Value), w.heap[b]? = some (.cells cur e (0, 0)) → ∃ cur', (w.setCells b o vs).heap[b]? = some (.cells cur' e (0, 0)) ∧ cur'.size = cur.size
  | [], o, w, cur, h => ⟨cur, h, rfl⟩
  | v :: vs, o, w, cur, h => by
    obtain ⟨c', h1, h2⟩ := setCells_row vs (o + 1) _ _ (heap_setCell_same w b o cur e v h)
    exact ⟨c', h1, by rw [h2]; simp⟩
theorem drew_evo {T : Nat → Prop} {w : World} {G : Nat → Nat} : Evo T w G w.drew G := ⟨rfl, rfl, rfl, Nat.le_refl _, ⟨fun _ => Nat.le_refl _, fun _ _ _ => rfl, fun _ _ h => h⟩, fun _ _ _ => ⟨rfl, rfl⟩⟩
theorem ins_fin {w w' : World} {G G' : Nat → Nat} {ω' : Nat → Option Occ} {occ : Occ} {n c i cap b' : Nat} {rows : List (List PV)} {r : List PV} {xs vs : List Value} {arr' : Array Value} {e' : TypeId}
    (hh : w'.heap[b']? = some (.cells arr' e' (0, 0))) (hsz : arr'.size = cap * c) (hcap : n + 1 ≤ cap) (hcm : cap ≤ maxLen) (hrows : ∀ q ∈ rows, q.length = c) (hr : r.length = c) (hn : rows.length = n) (hi : i ≤ n)
    (hxl : xs.length = rows.flatten.length) (hvl : vs.length = c) (hxr : ∀ (j : Nat) (p : PV) (x : Value), rows.flatten[j]? = some p → xs[j]? = some x → Rep w G p x) (hvr : ∀ (j : Nat) (p : PV) (x : Value), r[j]? = some p → vs[j]? = some x → Rep w G p x)
    (h1 : ∀ p ∈ rows.flatten, p.one = true) (h2 : ∀ p ∈ r, p.one = true) (ext : GExt w G w' G')
    (c1 : ∀ (j : Nat) (x : Value), j < i * c → xs[j]? = some x → arr'[j]? = some x) (c2 : ∀ (j : Nat) (x : Value), vs[j]? = some x → arr'[i * c + j]? = some x) (c3 : ∀ (j : Nat) (x : Value), i * c ≤ j → xs[j]? = some x → arr'[c + j]? = some x)
    (hω : ω' b' = some occ) (hG : G' b' = 0) : ORepX w' G' ω' occ c (rows.take i ++ r :: rows.drop i) (.slice (some ⟨b', 0, none⟩) (n + 1) cap) := by
  have hln : (rows.take i ++ r :: rows.drop i).length = n + 1 := by simp [hn]; omega
  have hfl : rows.flatten.length = n * c := by rw [flat_len hrows, hn]
  have hf1 : (rows.take i).flatten = rows.flatten.take (i * c) := by
    have e1 : rows.flatten = (rows.take i).flatten ++ (rows.drop i).flatten := by rw [← List.flatten_append, List.take_append_drop]
    have e2 : (rows.take i).flatten.length = i * c := by rw [flat_len (fun q hq => hrows q (List.mem_of_mem_take hq)), List.length_take, hn, Nat.min_eq_left hi]
    rw [e1, ← e2, List.take_left]
  have hf2 : (rows.drop i).flatten = rows.flatten.drop (i * c) := by
    have e1 : rows.flatten = (rows.take i).flatten ++ (rows.drop i).flatten := by rw [← List.flatten_append, List.take_append_drop]
    have e2 : (rows.take i).flatten.length = i * c := by rw [flat_len (fun q hq => hrows q (List.mem_of_mem_take hq)), List.length_take, hn, Nat.min_eq_left hi]
    rw [e1, ← e2, List.drop_left]
  have hF : (rows.take i ++ r :: rows.drop i).flatten = rows.flatten.take (i * c) ++ (r ++ rows.flatten.drop (i * c)) := by rw [List.flatten_append, List.flatten_cons, hf1, hf2]
  have hic : i * c ≤ n * c := Nat.mul_le_mul_right _ hi
  have htl : (rows.flatten.take (i * c)).length = i * c := by rw [List.length_take, hfl]; omega
  have hlen : (rows.take i ++ r :: rows.drop i).flatten.length = (n + 1) * c := by
    rw [hF, List.length_append, List.length_append, htl, List.length_drop, hfl, hr, Nat.add_mul]; omega
  have hcc : (n + 1) * c ≤ cap * c := Nat.mul_le_mul_right _ hcap
  refine ⟨e', arr'.toList.take ((n + 1) * c), ⟨by rw [hln, List.length_take, Array.length_toList, hsz, Nat.min_eq_left hcc], .inr ⟨b', cap, arr', by rw [hln], Nat.zero_le _, hh, by rw [hln]; exact hcap, hcm, hsz, by rw [hln]⟩⟩, fun q hq => ?_, ?_, fun j p x hp hx => ?_, fun p hp => ?_, fun g hg => ?_⟩
  · rcases List.mem_append.1 hq with h | h
    · exact hrows q (List.mem_of_mem_take h)
    · rcases List.mem_cons.1 h with rfl | h
      · exact hr
      · exact hrows q (List.mem_of_mem_drop h)
  · rw [hlen, List.length_take, Array.length_toList, hsz, Nat.min_eq_left hcc]
  · have hj : j < (n + 1) * c := by rw [← hlen]; exact (List.getElem?_eq_some_iff.1 hp).1
    rw [List.getElem?_take, if_pos hj, Array.getElem?_toList] at hx
    rw [hF] at hp
    by_cases k1 : j < i * c
    · rw [List.getElem?_append_left (by rw [htl]; exact k1), List.getElem?_take, if_pos k1] at hp
      have hjx : j < xs.length := by rw [hxl, hfl]; omega
      have := c1 j _ k1 (List.getElem?_eq_getElem hjx)
      rw [this] at hx
      cases hx
      exact (hxr j p _ hp (List.getElem?_eq_getElem hjx)).mono ext
    · rw [List.getElem?_append_right (by rw [htl]; omega), htl] at hp
      by_cases k2 : j < i * c + c
      · rw [List.getElem?_append_left (by rw [hr]; omega)] at hp
        have hjv : j - i * c < vs.length := by rw [hvl]; omega
        have := c2 (j - i * c) _ (List.getElem?_eq_getElem hjv)
        rw [show i * c + (j - i * c) = j by omega] at this
        rw [this] at hx
        cases hx
        exact (hvr _ p _ hp (List.getElem?_eq_getElem hjv)).mono ext
      · rw [List.getElem?_append_right (by rw [hr]; omega), hr, List.getElem?_drop] at hp
        have e1 : i * c + (j - i * c - c) = j - c := by omega
        rw [e1] at hp
        have hjx : j - c < xs.length := by rw [hxl]; exact (List.getElem?_eq_some_iff.1 hp).1
        have := c3 (j - c) _ (by omega) (List.getElem?_eq_getElem hjx)
        rw [show c + (j - c) = j by omega] at this
        rw [this] at hx
        cases hx
        exact (hxr _ p _ hp (List.getElem?_eq_getElem hjx)).mono ext
  · rw [hF] at hp
    rcases List.mem_append.1 hp with h | h
    · exact h1 p (List.mem_of_mem_take h)
    · rcases List.mem_append.1 h with h | h
      · exact h2 p h
      · exact h1 p (List.mem_of_mem_drop h)
  · simp [Value.ownBlock] at hg
    subst hg
    exact ⟨hω, hG⟩
section
variable {P : Program} {ρ : Ren} {nm : String} {ta : Array TypeId} {c bytes : Nat} {z : Value}
theorem acall_Insert (L : LIns P ρ nm ta c bytes z) : S_Insert c bytes (ACall P (ρ.f 22)) := by
  intro rows i r hi hb h63
  refine ⟨fun va w => ?_, fun w G β ω va hgn hωn hargs => ?_⟩
  · exact enters_of L.f22 (by show (nm == "runtime.NumGoroutine") = false; simpa using L.nmok) rfl va w
  obtain ⟨i0, hi0, hz0, hzs, hzb⟩ := info_parts L.i9
  rcases va with _ | ⟨v1, _ | ⟨v2, _ | ⟨v3, _ | ⟨v4, va⟩⟩⟩⟩
  · exact hargs.elim
  · exact hargs.2.elim
  · exact hargs.2.2.elim
  · obtain ⟨⟨e1, xs, hor1, hrows, hxl, hxr, hone, hg1⟩, hv2, ⟨e3, vs, hor3, hr3, hvl3, hvr, hone3, hg3⟩, _⟩ := hargs
    have hv2' := Rep.int_inv hv2
    subst hv2'
    have hrc : r.length = c := hr3 r (by simp)
    have hvl : vs.length = c := by rw [hvl3]; simp [hrc]
    rcases hor3.2 with ⟨_, h0⟩ | ⟨vb, vc, curv, rfl, _, hhv, hvcap, _, hvsz, hvtake⟩
    · simp at h0
    have hωv := (hg3 vb rfl).1
    have hGv := (hg3 vb rfl).2
    have hvw : vb < w.heap.size := hωn vb (by rw [hωv]; simp)
    have hvs : ∀ j v, vs[j]? = some v → w.cell? ⟨vb, j, none⟩ = some v := fun j v hj => by
      rw [cell_of_block hhv]
      rw [← hvtake, List.getElem?_take] at hj
      split at hj
      · simpa using hj
      · cases hj
    have h1v : ∀ v ∈ vs, v.oneCell' = true := fun v hv => by
      obtain ⟨j, hj⟩ := List.getElem?_of_mem hv
      have hjl : j < ([r] : List (List PV)).flatten.length := by rw [← hvl3]; exact (List.getElem?_eq_some_iff.1 hj).1
      have hp := List.getElem?_eq_getElem hjl
      exact one_oneCell (hvr j _ v hp hj) (hone3 _ (List.mem_of_getElem? hp))
    have hvr' : ∀ (j : Nat) (p : PV) (x : Value), r[j]? = some p → vs[j]? = some x → Rep w G p x := fun j p x hp hx => hvr j p x (by simpa using hp) hx
    have hone3' : ∀ p ∈ r, p.one = true := fun p hp => hone3 p (by simpa using hp)
    have hfl := flat_len hrows
    -- what is left to be shown
    have fin : ∀ (w' : World) (v' : Value) (bb : Nat), Evo (fun b => ω b ≠ none) w G w' G → bb < w'.heap.size → (ω bb ≠ none ∨ w.heap.size ≤ bb) → ORepX w' G (upd (fun _ => none) bb (some (.tmp 3))) (.tmp 3) c (rows.take i ++ r :: rows.drop i) v' →
        ∃ v G' ω', Ending.returned v' = .returned v ∧ Evo (fun b => ω b ≠ none) w G w' G' ∧ (∀ b, w'.heap.size ≤ b → G' b = 0) ∧ (∀ b, ω' b ≠ none → b < w'.heap.size) ∧
          (∀ b, ω' b ≠ none → ω b ≠ none ∨ w.heap.size ≤ b) ∧ OutsRep w' G' β ω' 0 [.x c rows, .v (.int .i64 i), .x c [r]] [] ∧ RVRep w' G' ω' 3 (.exc c (rows.take i ++ r :: rows.drop i)) v := by
      intro w' v' bb hev hlt hdom hrep
      refine ⟨v', G, upd (fun _ => none) bb (some (.tmp 3)), rfl, hev, fun b hb => hgn b (Nat.le_trans hev.size hb), fun b hb => ?_, fun b hb => ?_, trivial, hrep⟩
      · by_cases e : b = bb
        · subst e; exact hlt
        · rw [upd_ne _ _ _ _ e] at hb; exact absurd rfl hb
      · by_cases e : b = bb
        · subst e; exact hdom
        · rw [upd_ne _ _ _ _ e] at hb; exact absurd rfl hb
    have hmax : rows.length + 1 ≤ maxLen := by unfold maxLen; omega
    by_cases hend : i = rows.length
    · -- behind the last one
      subst hend
      obtain ⟨v', w', hrun, hcase⟩ := run_append_any (P := P) (ρ.t 24) (ρ.t 24) (ρ.t 9) i0 z L.t24 hi0 hz0 (by rw [hzs]; exact L.zc) (by rw [hzs]; exact L.pos) (e' := e1) (v := v1) (n := rows.length) (xs := xs) (by rw [hzs]; exact hor1)
        (A := some ⟨vb, 0, none⟩) (m := 1) (c := vc) (news := vs) (by rw [hvl, hzs]; omega) (fun _ => ⟨_, rfl, fun j u hu => by rw [Addr.add_lit, Nat.zero_add]; exact hvs j u hu⟩) h1v (by rw [hzb]; exact hb) hmax
      have hev1 : ∃ base cap, v1 = .slice base rows.length cap ∧ rows.length ≤ cap ∧ cap ≤ 9223372036854775807 := by
        rcases hor1.2 with ⟨rfl, h0⟩ | ⟨g, cap, cur, rfl, _, _, hc1, hc2, _⟩
        · exact ⟨none, 0, by rw [h0], by omega, by omega⟩
        · exact ⟨_, cap, rfl, hc1, by unfold maxLen at hc2; omega⟩
      obtain ⟨base, cap0, rfl, hnc, hc63⟩ := hev1
      refine (insert_end L base rows.length cap0 vb vc w hnc hc63 hrun).mono ?_
      rintro e w'' ⟨rfl, rfl⟩
      have htk : rows.length * i0.size = rows.length * c := by rw [hzs]
      rcases hcase with ⟨h0, _, _⟩ | ⟨g, cap, cur, hv, rfl, hgc, hroom, hcm, hcs, rfl⟩ | ⟨cap, arr, rfl, rfl, hcp, hcm, hasz, htake⟩
      · omega
      · cases hv
        obtain ⟨hωg, hGg⟩ := hg1 g rfl
        have hxs : cur.toList.take (rows.length * c) = xs := by
          rcases hor1.2 with ⟨h0, _⟩ | ⟨g', cap'', cur', hv', _, hh', _, _, _, ht'⟩
          · cases h0
          · cases hv'
            rw [hgc] at hh'; cases hh'
            exact ht'
        have hle : rows.length * c + vs.length ≤ cur.size := by rw [hvl, hcs, hzs, ← Nat.succ_mul]; exact Nat.mul_le_mul_right _ hroom
        have hlx : xs.length = rows.length * c := by rw [hxl, hfl]
        have hev : Evo (fun b => ω b ≠ none) w G (w.setRow g (cur.toList.take (rows.length * i0.size) ++ vs ++ cur.toList.drop (rows.length * i0.size + vs.length)).toArray) G := by
          have hG' : upd G g 0 = G := by
            funext b
            by_cases e : b = g
            · subst e; rw [upd_eq, hGg]
            · rw [upd_ne _ _ _ _ e]
          have := setRow_evo (G := G) (T := fun b => ω b ≠ none) (cs := (cur.toList.take (rows.length * i0.size) ++ vs ++ cur.toList.drop (rows.length * i0.size + vs.length)).toArray) hgc 0 (by rw [hGg]; exact Nat.le_refl _) (by rw [hωg]; simp) (fun j hj => by rw [hGg] at hj; omega)
            (by rw [htk]; simp only [List.size_toArray, List.length_append, List.length_take, List.length_drop, Array.length_toList]; omega)
          rwa [hG'] at this
        refine fin _ _ g hev (by rw [size_setRow]; exact hωn g (by rw [hωg]; simp)) (.inl (by rw [hωg]; simp)) ?_
        refine ins_fin (w := w) (setRow_heap w g cur _ _ _ hgc) ?_ hroom hcm hrows hrc rfl (Nat.le_refl _) hxl hvl hxr hvr' hone hone3' hev.ext (fun j x hj hx => ?_) (fun j x hx => ?_) (fun j x hj hx => ?_) (upd_eq _ _ _) hGg
        · rw [htk, ← hzs, ← hcs]
          simp only [List.size_toArray, List.length_append, List.length_take, List.length_drop, Array.length_toList]; rw [hzs]; omega
        · rw [htk, hxs]
          simp only [List.getElem?_toArray, List.append_assoc]
          rw [List.getElem?_append_left (by rw [hlx]; exact hj)]; exact hx
        · rw [htk, hxs]
          simp only [List.getElem?_toArray, List.append_assoc]
          have hj := (List.getElem?_eq_some_iff.1 hx).1
          rw [List.getElem?_append_right (by rw [hlx]; omega), hlx, List.getElem?_append_left (by omega), show rows.length * c + j - rows.length * c = j by omega]; exact hx
        · have := (List.getElem?_eq_some_iff.1 hx).1
          omega
      · have hlx : xs.length = rows.length * c := by rw [hxl, hfl]
        have hev : Evo (fun b => ω b ≠ none) w G (w.drew.alloc (.cells arr (ρ.t 9))) G := by
          have := alloc_evo (T := fun b => ω b ≠ none) (w := w.drew) (G := G) (.cells arr (ρ.t 9)) 0 hgn
          have hG' : upd G w.drew.heap.size 0 = G := by
            funext b
            by_cases e : b = w.drew.heap.size
            · rw [e, upd_eq]; exact (hgn _ (Nat.le_refl _)).symm
            · rw [upd_ne _ _ _ _ e]
          rw [hG'] at this
          exact ⟨this.os, this.tape, this.output, this.size, ⟨this.ext.le, this.ext.cell, this.ext.shape⟩, this.block⟩
        have hgt : ∀ j, j < (rows.length + 1) * c → arr[j]? = (xs ++ vs)[j]? := fun j hj => by
          rw [← htake, hzs, List.getElem?_take, if_pos hj]; simp
        have h1c : (rows.length + 1) * c = rows.length * c + c := Nat.succ_mul _ _
        refine fin _ _ w.heap.size hev (by simp) (.inr (Nat.le_refl _)) ?_
        refine ins_fin (w := w) (heap_alloc_new w.drew _) (by rw [hasz, hzs]) hcp hcm hrows hrc rfl (Nat.le_refl _) hxl hvl hxr hvr' hone hone3' hev.ext (fun j x hj hx => ?_) (fun j x hx => ?_) (fun j x hj hx => ?_) (upd_eq _ _ _) (hgn _ (Nat.le_refl _))
        · rw [hgt j (by omega), List.getElem?_append_left (by rw [hlx]; exact hj)]; exact hx
        · have hj := (List.getElem?_eq_some_iff.1 hx).1
          rw [hgt _ (by omega), List.getElem?_append_right (by rw [hlx]; omega), hlx, show rows.length * c + j - rows.length * c = j by omega]; exact hx
        · have := (List.getElem?_eq_some_iff.1 hx).1
          omega
    · -- in the midst
      have hlt : i < rows.length := by omega
      rcases hor1.2 with ⟨_, h0⟩ | ⟨b, cap, cur, rfl, _, hh, hcap, hcm, hcs, htake⟩
      · omega
      obtain ⟨hωb, hGb⟩ := hg1 b rfl
      have hbw : b < w.heap.size := hωn b (by rw [hωb]; simp)
      have hvb : vb ≠ b := fun e => by rw [e, hωb] at hωv; cases hωv
      have hlx : xs.length = rows.length * c := by rw [hxl, hfl]
      have hxs : ∀ j v, xs[j]? = some v → w.cell? ⟨b, j, none⟩ = some v := fun j v hj => by
        rw [cell_of_block hh]
        rw [← htake, List.getElem?_take] at hj
        split at hj
        · simpa using hj
        · cases hj
      have h1c : ∀ v ∈ xs, v.oneCell' = true := fun v hv => by
        obtain ⟨j, hj⟩ := List.getElem?_of_mem hv
        have hjl : j < rows.flatten.length := by rw [← hxl]; exact (List.getElem?_eq_some_iff.1 hj).1
        have hp := List.getElem?_eq_getElem hjl
        exact one_oneCell (hxr j _ v hp hj) (hone _ (List.mem_of_getElem? hp))
      have hic : i * c + c ≤ rows.length * c := by rw [← Nat.succ_mul]; exact Nat.mul_le_mul_right _ hlt
      have hi1 : (i + 1) * c = i * c + c := Nat.succ_mul _ _
      by_cases hroom : rows.length + 1 ≤ cap
      · have hcc : (rows.length + 1) * c ≤ cur.size := by rw [hcs]; exact Nat.mul_le_mul_right _ hroom
        refine (insert_shift L b rows.length cap i vb vc xs vs w hlt hroom (by unfold maxLen at hcm; omega) hvb hlx hvl hxs (fun j hj => ?_) (fun j => frozen_of_row w b j cur e1 hh) hvs h1c h1v e3 e1 curv.size cur.size (by simp [World.shape?, hhv]) (by simp [World.shape?, hh]) ?_
          (frozen_of_row w vb 0 curv e3 hhv) (frozen_of_row w vb _ curv e3 hhv)).mono ?_
        · rw [cell_of_block hh, Array.getElem?_eq_getElem (by omega)]; rfl
        · have := L.pos
          have : 0 < (rows.length + 1) * c := Nat.mul_pos (by omega) this
          omega
        rintro e w' ⟨rfl, rfl⟩
        have hev : Evo (fun b => ω b ≠ none) w G ((w.drew.setCells b ((i + 1) * c) (xs.drop (i * c))).setCells b (i * c) vs) G :=
          (drew_evo.trans (setCells_evo (T := fun b => ω b ≠ none) (by rw [hωb]; simp) hGb (xs.drop (i * c)) _ _) (fun _ _ h => h)).trans (setCells_evo (T := fun b => ω b ≠ none) (by rw [hωb]; simp) hGb vs _ _) (fun _ _ h => h)
        have hh0 : w.drew.heap[b]? = some (.cells cur e1 (0, 0)) := hh
        obtain ⟨a1, k1, k2⟩ := setCells_row (xs.drop (i * c)) ((i + 1) * c) w.drew cur hh0
        obtain ⟨a2, m1, m2⟩ := setCells_row vs (i * c) _ a1 k1
        have hdl : (xs.drop (i * c)).length = rows.length * c - i * c := by rw [List.length_drop, hlx]
        have hc0 : ∀ j, j < cur.size → (w.drew.cell? ⟨b, j, none⟩).isSome = true := fun j hj => by rw [cell_of_block hh0, Array.getElem?_eq_getElem hj]; rfl
        have h1s : (rows.length + 1) * c = rows.length * c + c := Nat.succ_mul _ _
        have hc1 : ∀ j, j < cur.size → ((w.drew.setCells b ((i + 1) * c) (xs.drop (i * c))).cell? ⟨b, j, none⟩).isSome = true := fun j hj => by rw [cell_of_block k1, Array.getElem?_eq_getElem (by omega)]; rfl
        have hget : ∀ j, a2[j]? = ((w.drew.setCells b ((i + 1) * c) (xs.drop (i * c))).setCells b (i * c) vs).cell? ⟨b, j, none⟩ := fun j => (cell_of_block m1 j).symm
        refine fin _ _ b hev (Nat.lt_of_lt_of_le hbw hev.size) (.inl (by rw [hωb]; simp)) ?_
        refine ins_fin (w := w) m1 (by rw [m2, k2, hcs]) hroom hcm hrows hrc rfl hi hxl hvl hxr hvr' hone hone3' hev.ext (fun j x hj hx => ?_) (fun j x hx => ?_) (fun j x hj hx => ?_) (upd_eq _ _ _) hGb
        · rw [hget, World.cell?_setCells_out b _ _ _ _ (fun _ _ => .inl hj), World.cell?_setCells_out b _ _ _ _ (fun _ _ => .inl (by show j < (i + 1) * c; omega))]
          exact hxs j x hx
        · have hj := (List.getElem?_eq_some_iff.1 hx).1
          rw [hget, World.cell?_setCells_in b vs (i * c) _ (fun t ht => hc1 _ (by omega)) j hj, ← List.getElem?_eq_getElem hj]; exact hx
        · have hjl := (List.getElem?_eq_some_iff.1 hx).1
          rw [hget, World.cell?_setCells_out b _ _ _ _ (fun _ _ => .inr (by show i * c + vs.length ≤ c + j; omega))]
          have := World.cell?_setCells_in b (xs.drop (i * c)) ((i + 1) * c) w.drew (fun t ht => hc0 _ (by rw [hdl] at ht; omega)) (j - i * c) (by rw [hdl]; omega)
          rw [show (i + 1) * c + (j - i * c) = c + j by omega] at this
          rw [this, ← List.getElem?_eq_getElem, List.getElem?_drop, show i * c + (j - i * c) = j by omega]; exact hx
      · obtain ⟨Gc, ROW, hG1, hG2, hR1, hR2, hcall⟩ := insert_grow L b rows.length cap i vb vc xs vs w hlt hcap (by omega) hb hmax hbw hvw hlx hvl hxs hvs h1c h1v
        refine hcall.mono ?_
        rintro e w' ⟨rfl, rfl⟩
        have hgn0 : G w.heap.size = 0 := hgn _ (Nat.le_refl _)
        have hG' : upd G w.heap.size 0 = G := by
          funext q
          by_cases e : q = w.heap.size
          · rw [e, upd_eq, hgn0]
          · rw [upd_ne _ _ _ _ e]
        have hal : Evo (fun b => ω b ≠ none) w G (w.alloc (.cells ROW (ρ.t 9))) G := by
          have := alloc_evo (T := fun b => ω b ≠ none) (w := w) (G := G) (.cells ROW (ρ.t 9)) 0 hgn
          rwa [hG'] at this
        have hset : ∀ (u : World) (o : Nat) (ys : List Value), w.heap.size ≤ u.heap.size → Evo (fun b => ω b ≠ none ∨ w.heap.size ≤ b) u G (u.setCells w.heap.size o ys) G := fun u o ys _ => setCells_evo (T := fun b => ω b ≠ none ∨ w.heap.size ≤ b) (.inr (Nat.le_refl _)) hgn0 ys o u
        have low : ∀ b', b' < w.heap.size → (ω b' ≠ none ∨ w.heap.size ≤ b') → ω b' ≠ none := fun b' h1 h2 => by
          rcases h2 with h | h
          · exact h
          · omega
        have hs1 : w.heap.size ≤ (w.alloc (.cells ROW (ρ.t 9))).drew.heap.size := by show w.heap.size ≤ (w.alloc (.cells ROW (ρ.t 9))).heap.size; simp
        have hev : Evo (fun b => ω b ≠ none) w G ((((w.alloc (.cells ROW (ρ.t 9))).drew.setCells w.heap.size (i * c) vs).drew).setCells w.heap.size ((i + 1) * c) (xs.drop (i * c))) G := by
          have s1 := (hal.trans (drew_evo (T := fun b => ω b ≠ none)) (fun _ _ h => h)).trans (hset _ (i * c) vs hs1) low
          exact (s1.trans (drew_evo (T := fun b => ω b ≠ none)) (fun _ _ h => h)).trans (hset _ ((i + 1) * c) (xs.drop (i * c)) (Nat.le_trans hs1 ((hset _ (i * c) vs hs1).size))) low
        have hh0 : (w.alloc (.cells ROW (ρ.t 9))).drew.heap[w.heap.size]? = some (.cells ROW (ρ.t 9) (0, 0)) := heap_alloc_new w _
        obtain ⟨a1, k1, k2⟩ := setCells_row vs (i * c) _ ROW hh0
        have k1' : ((w.alloc (.cells ROW (ρ.t 9))).drew.setCells w.heap.size (i * c) vs).drew.heap[w.heap.size]? = some (.cells a1 (ρ.t 9) (0, 0)) := k1
        obtain ⟨a2, m1, m2⟩ := setCells_row (xs.drop (i * c)) ((i + 1) * c) _ a1 k1'
        have hRl : (rows.length + 1) * c ≤ ROW.size := by rw [hR1]; exact Nat.mul_le_mul_right _ hG1
        have h1s : (rows.length + 1) * c = rows.length * c + c := Nat.succ_mul _ _
        have hdl : (xs.drop (i * c)).length = rows.length * c - i * c := by rw [List.length_drop, hlx]
        have hget : ∀ j, a2[j]? = ((((w.alloc (.cells ROW (ρ.t 9))).drew.setCells w.heap.size (i * c) vs).drew).setCells w.heap.size ((i + 1) * c) (xs.drop (i * c))).cell? ⟨w.heap.size, j, none⟩ := fun j => (cell_of_block m1 j).symm
        have hc0 : ∀ j, j < ROW.size → ((w.alloc (.cells ROW (ρ.t 9))).drew.cell? ⟨w.heap.size, j, none⟩).isSome = true := fun j hj => by rw [cell_of_block hh0, Array.getElem?_eq_getElem hj]; rfl
        have hc1 : ∀ j, j < ROW.size → (((w.alloc (.cells ROW (ρ.t 9))).drew.setCells w.heap.size (i * c) vs).drew.cell? ⟨w.heap.size, j, none⟩).isSome = true := fun j hj => by rw [cell_of_block k1', Array.getElem?_eq_getElem (by omega)]; rfl
        have hdr : ∀ (u : World) (a : Addr), u.drew.cell? a = u.cell? a := fun _ _ => rfl
        refine fin _ _ w.heap.size hev (Array.getElem?_eq_some_iff.1 m1).1 (.inr (Nat.le_refl _)) ?_
        refine ins_fin (w := w) m1 (by rw [m2, k2, hR1]) hG1 hG2 hrows hrc rfl hi hxl hvl hxr hvr' hone hone3' hev.ext (fun j x hj hx => ?_) (fun j x hx => ?_) (fun j x hj hx => ?_) (upd_eq _ _ _) hgn0
        · rw [hget, World.cell?_setCells_out _ _ _ _ _ (fun _ _ => .inl (by show j < (i + 1) * c; omega)), hdr, World.cell?_setCells_out _ _ _ _ _ (fun _ _ => .inl hj), cell_of_block hh0]
          have h2 : (ROW.toList.take (i * c))[j]? = (xs.take (i * c))[j]? := by rw [hR2]
          rw [List.getElem?_take, List.getElem?_take, if_pos hj, if_pos hj] at h2
          rw [← Array.getElem?_toList, h2]; exact hx
        · have hj := (List.getElem?_eq_some_iff.1 hx).1
          rw [hget, World.cell?_setCells_out _ _ _ _ _ (fun _ _ => .inl (by show i * c + j < (i + 1) * c; omega)), hdr, World.cell?_setCells_in _ vs (i * c) _ (fun t ht => hc0 _ (by omega)) j hj, ← List.getElem?_eq_getElem hj]; exact hx
        · have hjl := (List.getElem?_eq_some_iff.1 hx).1
          have := World.cell?_setCells_in w.heap.size (xs.drop (i * c)) ((i + 1) * c) ((w.alloc (.cells ROW (ρ.t 9))).drew.setCells w.heap.size (i * c) vs).drew (fun t ht => hc1 _ (by rw [hdl] at ht; omega)) (j - i * c) (by rw [hdl]; omega)
          rw [show (i + 1) * c + (j - i * c) = c + j by omega] at this
          rw [hget, this, ← List.getElem?_eq_getElem, List.getElem?_drop, show i * c + (j - i * c) = j by omega]; exact hx
  · exact hargs.2.2.2.elim
end
end Go.AR
