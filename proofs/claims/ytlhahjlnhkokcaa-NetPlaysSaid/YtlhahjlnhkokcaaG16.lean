import Derived.Test.YtlhahjlnhkokcaaG15
set_option linter.all false
namespace Go.AR
open Go
section ops
variable {P : Program} {w : World} {G β : Nat → Nat} {ω : Nat → Option Occ} {σ σ' : Fr} {a : Act} {o : Oper}

theorem run_append_room' (t ty e e' : TypeId) (i : TypeInfo) (ht : P.underlying t = some (.slice e)) (hi : P.info? e = some i)
    (g sLen sCap : Nat) (cur : Array Value) (hg : w.heap[g]? = some (.cells cur e' (0, 0)))
    (a : Addr) (m c : Nat) (news : List Value) (hl : news.length = m * i.size) (hnews : ∀ j u, news[j]? = some u → w.cell? (a.add j) = some u) (h1 : ∀ u ∈ news, u.oneCell' = true)
    (hroom : sLen + m ≤ sCap) (hfit : sLen * i.size + news.length ≤ cur.size) :
    (Builtin.append_ #[t, t] ty #[.slice (some ⟨g, 0, none⟩) sLen sCap, .slice (some a) m c]).run P w =
      .ok (.slice (some ⟨g, 0, none⟩) (sLen + m) sCap) (w.setRow g (cur.toList.take (sLen * i.size) ++ news ++ cur.toList.drop (sLen * i.size + news.length)).toArray) := by
  have hf := run_firstCells_some (P := P) w i.size m a m c news hl hnews
  have hst := run_storeCells_at P g (sLen * i.size) e' news 0 cur w hg (by simpa using hfit) h1
  simp only [Nat.add_zero] at hst
  simp [Builtin.append_, run_underlying ht, sizeOf, typeInfo, hi, Builtin.lenOf, hroom, hf, Addr.add_lit, hst]

/-- 'append': what becomes of the row, and of the block that it lies in. -/
theorem run_append_any (t ty e : TypeId) (i : TypeInfo) (z : Value) (ht : P.underlying t = some (.slice e)) (hi : P.info? e = some i) (hz : i.zero = some z) (hzs : z.cells.size = i.size) (hsz : 0 < i.size)
    {e' : TypeId} {v : Value} {n : Nat} {xs : List Value} (hown : w.ownsRow 0 e' i.size v n xs) {A : Option Addr} {m c : Nat} {news : List Value} (hl : news.length = m * i.size)
    (hA : 0 < m → ∃ ad, A = some ad ∧ ∀ j u, news[j]? = some u → w.cell? (ad.add j) = some u) (h1 : ∀ u ∈ news, u.oneCell' = true)
    (hbytes : (n + m) * i.bytes ≤ 140737488355328) (h63 : n + m ≤ maxLen) :
    ∃ v' w', (Builtin.append_ #[t, t] ty #[v, .slice A m c]).run P w = .ok v' w' ∧
      ((m = 0 ∧ v' = v ∧ w' = w) ∨
       (∃ g cap cur, v = .slice (some ⟨g, 0, none⟩) n cap ∧ v' = .slice (some ⟨g, 0, none⟩) (n + m) cap ∧ w.heap[g]? = some (.cells cur e' (0, 0)) ∧ n + m ≤ cap ∧ cap ≤ maxLen ∧ cur.size = cap * i.size ∧
          w' = w.setRow g (cur.toList.take (n * i.size) ++ news ++ cur.toList.drop (n * i.size + news.length)).toArray) ∨
       (∃ cap arr, v' = .slice (some ⟨w.heap.size, 0, none⟩) (n + m) cap ∧ w' = w.drew.alloc (.cells arr e) ∧ n + m ≤ cap ∧ cap ≤ maxLen ∧ arr.size = cap * i.size ∧ arr.toList.take ((n + m) * i.size) = xs ++ news)) := by
  have hsmall : n + m ≤ 9223372036854775807 := by simp only [maxLen] at h63; omega
  by_cases hm : m = 0
  · subst hm
    have hn : news = [] := List.eq_nil_of_length_eq_zero (by simpa using hl)
    subst hn
    refine ⟨v, w, ?_, .inl ⟨rfl, rfl, rfl⟩⟩
    have hf : (Builtin.firstCells i.size 0 (.slice A 0 c)).run P w = .ok #[] w := by
      cases A <;> simp [Builtin.firstCells, loadCells, loadCellsFrom]
    rcases hown.2 with ⟨rfl, rfl⟩ | ⟨g, cap, cur, rfl, _, hg, hnc, hcm, hcs, htake⟩
    · simp [Builtin.append_, run_underlying ht, sizeOf, typeInfo, hi, Builtin.lenOf, hf]
    · simp [Builtin.append_, run_underlying ht, sizeOf, typeInfo, hi, Builtin.lenOf, hf, hnc, storeCells]
  · obtain ⟨ad, rfl, hnews⟩ := hA (by omega)
    have hgr : ∀ old, old < n + m → (grownCap w (n + m) old e ≤ maxLen ∧ n + m ≤ grownCap w (n + m) old e ∧ (xs.toArray ++ news.toArray ++ Builtin.zeroCells z.cells (grownCap w (n + m) old e - (n + m))).size = grownCap w (n + m) old e * i.size) := by
      intro old _
      have hge := grownCap_ge w (n + m) old e
      refine ⟨grownCap_le_maxLen w (n + m) old e h63, hge, ?_⟩
      simp only [Array.size_append, List.size_toArray, size_zeroCells, hzs, hown.1, hl, ← Nat.add_mul]
      congr 1
      omega
    have htk : ∀ k, (xs.toArray ++ news.toArray ++ Builtin.zeroCells z.cells k).toList.take ((n + m) * i.size) = xs ++ news := by
      intro k
      have hlen : (xs ++ news).length = (n + m) * i.size := by rw [List.length_append, hown.1, hl, Nat.add_mul]
      simp only [Array.toList_append, List.append_assoc]
      rw [← List.append_assoc, ← hlen]
      exact List.take_left
    rcases hown.2 with ⟨rfl, rfl⟩ | ⟨g, cap, cur, rfl, _, hg, hnc, hcm, hcs, htake⟩
    · have hx : xs = [] := List.eq_nil_of_length_eq_zero (by simpa using hown.1)
      subst hx
      have hr := run_append_nil (P := P) w t ty e i z ht hi hz ad m c news hl hnews (by omega) (by omega) (by have hb := hbytes; simp only [Nat.zero_add] at hb; omega)
      obtain ⟨k1, k2, k3⟩ := hgr 0 (by omega)
      have k4 := htk (grownCap w (0 + m) 0 e - (0 + m))
      simp only [Nat.zero_add, List.nil_append, Array.empty_append] at k1 k2 k3 k4 ⊢
      exact ⟨_, _, hr, .inr (.inr ⟨_, _, rfl, rfl, k2, k1, k3, k4⟩)⟩
    · by_cases hroom : n + m ≤ cap
      · have hfit : n * i.size + news.length ≤ cur.size := by rw [hl, hcs, ← Nat.add_mul]; exact Nat.mul_le_mul_right _ hroom
        exact ⟨_, _, run_append_room' (P := P) t ty e e' i ht hi g n cap cur hg ad m c news hl hnews h1 hroom hfit, .inr (.inl ⟨g, cap, cur, rfl, rfl, hg, hroom, hcm, hcs, rfl⟩)⟩
      · have holds : ∀ j u, xs[j]? = some u → w.cell? ((⟨g, 0, none⟩ : Addr).add j) = some u := hown.cells (g := g) rfl
        have hr := run_append_grow (P := P) w t ty e i z ht hi hz ⟨g, 0, none⟩ n cap xs hown.1 holds ad m c news hl hnews (by omega) (by omega) (growslice_fits (by omega) hbytes)
        obtain ⟨k1, k2, k3⟩ := hgr cap (by omega)
        exact ⟨_, _, hr, .inr (.inr ⟨_, _, rfl, rfl, k2, k1, k3, htk _⟩)⟩

theorem one_oneCell {p : PV} {v : Value} (h : Rep w G p v) (h1 : p.one = true) : v.oneCell' = true := by
  cases h <;> first | rfl | (simp [PV.one] at h1)

theorem ok_append {e0 e1 : Option TypeId} {c : Call} {t e : TypeId} {s d n : Nat} {x : Operand} {x' : Opnd} {i : TypeInfo} {z : Value} {r r' : List (List PV)} (hF : FRel w G β ω σ a.tmps) (hd : d < a.tmps.size) (hs : s < a.tmps.size) (hdst : o.dst = some d) (hne : d ≠ s)
    (ho : o.op = .call c) (hc : c.callee = .builtin .append) (hat : c.argTypes = #[t, t]) (hargs : c.args = #[.tmp s, x]) (hu : P.underlying t = some (.slice e)) (hi : P.info? e = some i) (hz : i.zero = some z) (hzs : z.cells.size = i.size) (hpos : 0 < i.size)
    (hx : OOk x x') (es : tget σ.tmps s = .ownE e0 n r) (he1 : e1 = none ∨ (e0 = some e ∧ e1 = some e)) (ex : (x'.ev σ.tmps).ro = .val (.sl n r')) (hni : n = i.size) (hb : (r.length + r'.length) * i.bytes ≤ 140737488355328) (hb2 : r.length + r'.length ≤ maxLen) :
    StepOk P w G ω β a o σ { σ with tmps := set (set σ.tmps d (.ownE e1 n (r ++ r'))) s (.val (.sl n r)) } := by
  subst hni
  have hown := hF.tmp s
  rw [es] at hown
  have hrold := ORepE.rep hown
  obtain ⟨e'', xs, hor, hc1, hxl, hxr, ho1, hg⟩ := hown
  obtain ⟨e', he'⟩ : ∃ e', e0.getD e'' = e' := ⟨_, rfl⟩
  rw [he'] at hor
  have het : e1.getD e' = e' := by
    rcases he1 with rfl | ⟨h1, h2⟩
    · rfl
    · subst h1; subst h2; simpa using he'
  have hee : e1.getD e = e := by
    rcases he1 with rfl | ⟨h1, h2⟩
    · rfl
    · subst h2; rfl
  obtain ⟨A, cap, e2, hc2, hone, hcap, hcell⟩ := Rep.sl_inv (hx.valro hF ex)
  have hrl : r'.flatten.length = r'.length * i.size := flat_len hc2
  -- the cells of what is appended
  obtain ⟨news, hnl, hnews, hnrep⟩ : ∃ news : List Value, news.length = r'.length * i.size ∧ (0 < r'.length → ∃ ad, A = some ad ∧ ∀ j u, news[j]? = some u → w.cell? (ad.add j) = some u) ∧
      (∀ (j : Nat) (p : PV) (u : Value), r'.flatten[j]? = some p → news[j]? = some u → Rep w G p u) := by
    by_cases he : r' = []
    · subst he; exact ⟨[], by simp, fun h => by simp at h, by simp⟩
    · obtain ⟨b, off, rfl, hG, hcl⟩ := hcell he
      refine ⟨(List.range (r'.length * i.size)).map fun j => (w.cell? ⟨b, off + j, none⟩).getD undef, by simp, fun _ => ⟨_, rfl, fun j u hu => ?_⟩, fun j p u hp hu => ?_⟩
      · have hj : j < r'.length * i.size := by have := (List.getElem?_eq_some_iff.1 hu).1; simpa using this
        obtain ⟨y, hy, _⟩ := hcl j _ (List.getElem?_eq_getElem (by rw [hrl]; exact hj))
        simp [hj, hy] at hu
        subst hu
        rw [addr_add]; exact hy
      · obtain ⟨y, hy, hr⟩ := hcl j p hp
        have hj : j < r'.length * i.size := by rw [← hrl]; exact (List.getElem?_eq_some_iff.1 hp).1
        simp [hj, hy] at hu
        subst hu
        exact hr
  have hn1 : ∀ u ∈ news, u.oneCell' = true := fun u hu => by
    obtain ⟨j, hj⟩ := List.getElem?_of_mem hu
    have hjl : j < r'.flatten.length := by rw [hrl, ← hnl]; exact (List.getElem?_eq_some_iff.1 hj).1
    have hp := List.getElem?_eq_getElem hjl
    exact one_oneCell (hnrep j _ u hp hj) (hone _ (List.mem_of_getElem? hp))
  obtain ⟨v', w', hrun, hcase⟩ := run_append_any (P := P) t o.type e i z hu hi hz hzs hpos (c := cap) hor hnl hnews hn1 hb hb2
  have hex : (execOp a.eval o).run P w = .ok (.value v') w' := by
    have e3 : a.eval (.tmp s) = a.tmps.getD s undef := rfl
    simp [-Array.getD_eq_getD_getElem?, execOp, ho, resolve, hc, hargs, hat, invoke, builtin, e2, e3, hrun]
  have hfl : (r ++ r').flatten.length = (r.length + r'.length) * i.size := by rw [List.flatten_append, List.length_append, flat_len hc1, hrl, Nat.add_mul]
  have hcc : ∀ q ∈ r ++ r', q.length = i.size := fun q hq => by
    rcases List.mem_append.1 hq with h | h
    · exact hc1 q h
    · exact hc2 q h
  have hoo : ∀ p ∈ (r ++ r').flatten, p.one = true := fun p hp => by
    rw [List.flatten_append] at hp
    rcases List.mem_append.1 hp with h | h
    · exact ho1 p h
    · exact hone p h
  have hrr : ∀ (j : Nat) (p : PV) (u : Value), (r ++ r').flatten[j]? = some p → (xs ++ news)[j]? = some u → Rep w G p u := by
    intro j p u hp hu
    rw [List.flatten_append] at hp
    by_cases hj : j < r.flatten.length
    · rw [List.getElem?_append_left hj] at hp
      rw [List.getElem?_append_left (by omega)] at hu
      exact hxr j p u hp hu
    · rw [List.getElem?_append_right (by omega)] at hp
      rw [List.getElem?_append_right (by omega), hxl] at hu
      exact hnrep _ p u hp hu
  have hlen2 : (xs ++ news).length = (r ++ r').flatten.length := by rw [hfl, List.length_append, hxl, hnl, flat_len hc1, Nat.add_mul]
  -- what is left to be shown, whatever the case
  have fin : ∀ (G' : Nat → Nat) (ω' : Nat → Option Occ), Evo (fun b => ω b ≠ none) w G w' G' → Same (fun t => t = s) (fun _ => False) w G β ω w' G' β ω' → (∀ b, w'.heap.size ≤ b → G' b = 0) → (∀ b, ω' b ≠ none → b < w'.heap.size) →
      (∀ b, ω' b ≠ none → ω b ≠ none ∨ w.heap.size ≤ b) → ORepE e1 w' G' ω' (.tmp d) i.size (r ++ r') v' → StepOk P w G ω β a o σ { σ with tmps := set (set σ.tmps d (.ownE e1 i.size (r ++ r'))) s (.val (.sl i.size r)) } := by
    intro G' ω' hevo hsame hgn hωn hdom hnew
    refine ⟨.value v', v', w', G', β, ω', hex, .inl rfl, hevo, hdom, fun _ _ => rfl, ⟨fun t => ?_, fun t s' h => ?_, fun s' b hb => hF.rest_blk hsame (fun _ _ => rfl) s' id b hb, hgn, hωn⟩⟩
    · simp only [hdst, Act.put]
      rw [tget_set, tget_set]
      by_cases e1 : t = s
      · subst e1
        rw [if_pos rfl, getD_set_ne _ _ _ _ _ hne]
        exact hrold.mono hevo.ext
      · rw [if_neg e1]
        by_cases e2 : t = d
        · subst e2
          rw [if_pos rfl, getD_set_eq _ _ _ _ hd]
          exact hnew
        · rw [if_neg e2, getD_set_ne _ _ _ _ _ (Ne.symm e2)]
          exact hF.rest_tmp hsame (fun _ _ => rfl) t e1
    · rw [tget_set, tget_set] at h
      split at h
      · cases h
      · split at h
        · cases h
        · exact hF.live t _ h
  rcases hcase with ⟨hm0, rfl, rfl⟩ | ⟨g, cap', cur, hv, rfl, hgc, hroom, hcm, hcs, rfl⟩ | ⟨cap', arr, rfl, rfl, hcp, hcm, hasz, htake⟩
  · -- nothing is appended
    have hr0 : r' = [] := List.eq_nil_of_length_eq_zero hm0
    subst hr0
    refine fin G (srcω ω (some s) (.tmp d)) (.refl _ _ _) ⟨.refl _ _, fun g t hg ht => ⟨rfl, rfl, srcω_keep hg (fun q e e2 => ht (by cases e; cases e2; rfl))⟩, fun g t hg _ => ⟨rfl, rfl, srcω_keep hg (fun q e e2 => by cases e2)⟩,
      fun g t i hg _ => ⟨rfl, rfl, srcω_keep hg (fun q e e2 => by cases e2)⟩⟩ hF.gnew (fun b hb => hF.ωnew b (srcω_dom hb)) (fun b hb => .inl (srcω_dom hb)) ?_
    have hown' : ORepE e1 _ G ω (.tmp s) i.size r (a.tmps.getD s undef) := ⟨e', xs, by rw [het]; exact hor, hc1, hxl, hxr, ho1, hg⟩
    rw [List.append_nil]
    exact hown'.mono (.refl _ _) (fun g hg => ⟨rfl, rfl, srcω_src hg⟩)
  · -- in place
    obtain ⟨hωg, hGg⟩ := hg g (by rw [hv]; rfl)
    have hxs : cur.toList.take (r.length * i.size) = xs := by
      rcases hor.2 with ⟨h0, _⟩ | ⟨g', cap'', cur', hv', _, hh', _, _, _, ht'⟩
      · rw [hv] at h0; cases h0
      · rw [hv] at hv'; cases hv'
        rw [hgc] at hh'; cases hh'
        exact ht'
    have hle : r.length * i.size + news.length ≤ cur.size := by rw [hnl, hcs, ← Nat.add_mul]; exact Nat.mul_le_mul_right _ hroom
    have hrf := flat_len hc1
    have hevo : Evo (fun b => ω b ≠ none) w G (w.setRow g (cur.toList.take (r.length * i.size) ++ news ++ cur.toList.drop (r.length * i.size + news.length)).toArray) (upd G g (r ++ r').flatten.length) := by
      refine setRow_evo hgc _ (by rw [hGg, hrf, hfl, Nat.add_mul]; omega) (by rw [hωg]; simp) (fun j hj => ?_) (by simp only [List.size_toArray, List.length_append, List.length_take, List.length_drop, Array.length_toList]; omega)
      rw [hGg, hrf] at hj
      have htl : (cur.toList.take (r.length * i.size)).length = r.length * i.size := by simp; omega
      simp only [List.getElem?_toArray, List.append_assoc]
      rw [List.getElem?_append_left (by rw [htl]; exact hj), List.getElem?_take, if_pos hj]; simp
    have hkn : ∀ g' oc, ω g' = some oc → oc ≠ .tmp s → g' ≠ g := fun g' oc h1 h2 e => h2 (by rw [e, hωg] at h1; exact (Option.some.inj h1).symm)
    have hsame : Same (fun t => t = s) (fun _ => False) w G β ω (w.setRow g (cur.toList.take (r.length * i.size) ++ news ++ cur.toList.drop (r.length * i.size + news.length)).toArray) (upd G g (r ++ r').flatten.length) β (srcω ω (some s) (.tmp d)) := by
      refine ⟨hevo.ext, fun g' t hg' ht => ?_, fun g' t hg' _ => ?_, fun g' t i hg' _ => ?_⟩
      · have := hkn g' _ hg' (fun e => ht (by cases e; rfl))
        exact ⟨setRow_other w _ _ _ this, upd_ne _ _ _ _ this, srcω_keep hg' (fun q e e2 => ht (by cases e; cases e2; rfl))⟩
      · have := hkn g' _ hg' (by simp)
        exact ⟨setRow_other w _ _ _ this, upd_ne _ _ _ _ this, srcω_keep hg' (fun q e e2 => by cases e2)⟩
      · have := hkn g' _ hg' (by simp)
        exact ⟨setRow_other w _ _ _ this, upd_ne _ _ _ _ this, srcω_keep hg' (fun q e e2 => by cases e2)⟩
    have hglt : g < w.heap.size := hF.ωnew g (by rw [hωg]; simp)
    refine fin _ _ hevo hsame (fun b hb => ?_) (fun b hb => by rw [size_setRow]; exact hF.ωnew b (srcω_dom hb)) (fun b hb => .inl (srcω_dom hb)) ?_
    · rw [size_setRow] at hb
      rw [upd_ne _ _ _ _ (by omega)]; exact hF.gnew b hb
    · refine ⟨e', xs ++ news, ⟨?_, .inr ⟨g, cap', _, by simp, Nat.zero_le _, by rw [het]; exact setRow_heap w g cur _ _ _ hgc, by simpa using hroom, hcm, ?_, ?_⟩⟩, hcc, hlen2, fun j p u hp hu => (hrr j p u hp hu).mono hevo.ext, hoo, fun g' hg' => ?_⟩
      · rw [hlen2, hfl, List.length_append]
      · simp only [List.size_toArray, List.length_append, List.length_take, List.length_drop, Array.length_toList]
        omega
      · rw [hxs]
        have : (r ++ r').length * i.size = (xs ++ news).length := by rw [hlen2, hfl, List.length_append]
        rw [this]
        exact List.take_left
      · simp [Value.ownBlock] at hg'
        subst hg'
        exact ⟨srcω_src hωg, upd_eq _ _ _⟩
  · -- a new row
    have hlt := hF.ωnew
    have hevo : Evo (fun b => ω b ≠ none) w G (w.drew.alloc (.cells arr e)) (upd G w.heap.size (r ++ r').flatten.length) := by
      have := alloc_evo (T := fun b => ω b ≠ none) (w := w.drew) (G := G) (.cells arr e) (r ++ r').flatten.length hF.gnew
      exact ⟨this.os, this.tape, this.output, this.size, ⟨this.ext.le, this.ext.cell, this.ext.shape⟩, this.block⟩
    have hsame : Same (fun t => t = s) (fun _ => False) w G β ω (w.drew.alloc (.cells arr e)) (upd G w.heap.size (r ++ r').flatten.length) β (upd ω w.heap.size (some (.tmp d))) := by
      refine ⟨hevo.ext, fun g t hg _ => ?_, fun g t hg _ => ?_, fun g t i hg _ => ?_⟩ <;>
      (have := hlt g (by rw [hg]; simp); exact ⟨heap_alloc_old w.drew _ this, upd_ne _ _ _ _ (by omega), by rw [upd_ne _ _ _ _ (by omega)]; exact hg⟩)
    have hsz' : (w.drew.alloc (.cells arr e)).heap.size = w.heap.size + 1 := by simp
    refine fin _ _ hevo hsame (fun b hb => ?_) (fun b hb => ?_) (fun b hb => ?_) ?_
    · rw [hsz'] at hb
      rw [upd_ne _ _ _ _ (by omega)]; exact hF.gnew b (by omega)
    · rw [hsz']
      by_cases e : b = w.heap.size
      · omega
      · rw [upd_ne _ _ _ _ e] at hb
        have := hlt b hb; omega
    · by_cases e : b = w.heap.size
      · exact .inr (by omega)
      · rw [upd_ne _ _ _ _ e] at hb; exact .inl hb
    · refine ⟨e, xs ++ news, ⟨?_, .inr ⟨w.heap.size, cap', arr, by simp, Nat.zero_le _, by rw [hee]; exact heap_alloc_new w.drew _, by simpa using hcp, hcm, hasz, ?_⟩⟩, hcc, hlen2, fun j p u hp hu => (hrr j p u hp hu).mono hevo.ext, hoo, fun g' hg' => ?_⟩
      · rw [hlen2, hfl, List.length_append]
      · rw [List.length_append]; exact htake
      · simp [Value.ownBlock] at hg'
        subst hg'
        exact ⟨upd_eq _ _ _, upd_eq _ _ _⟩
end ops
end Go.AR

namespace Go.AR
open Go
section ops
variable {P : Program} {w : World} {G β : Nat → Nat} {ω : Nat → Option Occ} {σ σ' : Fr} {a : Act} {o : Oper}

theorem eqCells_len : ∀ {ks : List CK} {as bs : List PV} {r : Bool}, eqCells ks as bs = some r → as.length = ks.length ∧ bs.length = ks.length
  | [], [], [], _, _ => ⟨rfl, rfl⟩
  | [], [], _ :: _, _, h => by simp [eqCells] at h
  | [], _ :: _, _, _, h => by simp [eqCells] at h
  | _ :: _, [], _, _, h => by simp [eqCells] at h
  | _ :: _, _ :: _, [], _, h => by simp [eqCells] at h
  | k :: ks, a :: as, b :: bs, r, h => by
    simp only [eqCells] at h
    split at h
    · rename_i x y hx hy
      obtain ⟨h1, h2⟩ := eqCells_len hy
      simp [h1, h2]
    · cases h
theorem eqCells_app : ∀ (s r : List CK) {as bs : List PV} {q : Bool}, eqCells (s ++ r) as bs = some q →
    ∃ x y, eqCells s (as.take s.length) (bs.take s.length) = some x ∧ eqCells r (as.drop s.length) (bs.drop s.length) = some y ∧ q = (x && y)
  | [], r, as, bs, q, h => ⟨true, q, by simp [eqCells], by simpa using h, by simp⟩
  | k :: s, r, [], bs, q, h => by simp [eqCells] at h
  | k :: s, r, a :: as, [], q, h => by simp [eqCells] at h
  | k :: s, r, a :: as, b :: bs, q, h => by
    simp only [List.cons_append, eqCells] at h
    split at h
    · rename_i x y hx hy
      obtain ⟨u, v, h1, h2, rfl⟩ := eqCells_app s r hy
      simp at h; subst h
      exact ⟨x && u, v, by simp [eqCells, hx, h1], by simpa using h2, by simp [Bool.and_assoc]⟩
    · cases h

/-- A value of a type, as cells. -/
def AtT (P : Program) (w : World) (G : Nat → Nat) (t : TypeId) (x : Value) (cs : List PV) : Prop :=
  (isAggT P t = some true ∧ ∃ arr, x = .agg arr ∧ CellsRep w G cs arr) ∨ (isAggT P t = some false ∧ ∃ p, cs = [p] ∧ Rep w G p x)

theorem CellsRep.sub {cs : List PV} {arr : Array Value} (h : CellsRep w G cs arr) (off n : Nat) (hle : off + n ≤ cs.length) : CellsRep w G ((cs.drop off).take n) (arr.extract off (off + n)) := by
  obtain ⟨vs', e, hl, h', h1⟩ := Rep.agg_inv (h.agg.part off n hle)
  cases e
  exact ⟨hl, h1, h'⟩
theorem shp_agg {n : Nat} {t : TypeId} {sh : List CK} (h : shp P n t = some sh) : isAggT P t = some true ∨ (isAggT P t = some false ∧ sh.length = 1) := by
  cases n with
  | zero => simp [shp] at h
  | succ n =>
    simp only [shp, isAggT, uT] at h ⊢
    cases hu : P.underlying t with
    | none => simp [hu] at h
    | some d => cases d <;> simp [hu] at h <;> simp <;> (subst h; rfl)
theorem run_part_at {t : TypeId} {n : Nat} {sh : List CK} {cs : List PV} {arr : Array Value} {off : Nat} (hs : shp P n t = some sh) (hz : szT P t = some sh.length) (h : CellsRep w G cs arr) (hle : off + sh.length ≤ cs.length) :
    ∃ x, (part t arr off).run P w = .ok x w ∧ AtT P w G t x ((cs.drop off).take sh.length) := by
  rcases shp_agg hs with hg | ⟨hg, hl⟩
  · exact ⟨.agg (arr.extract off (off + sh.length)), by simp [part, run_isAggT hg, run_szT hz], .inl ⟨hg, _, rfl, h.sub off _ hle⟩⟩
  · have hlt : off < arr.size := by rw [h.1]; omega
    have hlt2 : off < cs.length := by omega
    refine ⟨arr[off], by simp [part, run_isAggT hg, Array.getElem?_eq_getElem hlt], .inr ⟨hg, cs[off], ?_, h.2.2 off _ _ (List.getElem?_eq_getElem hlt2) (Array.getElem?_eq_getElem hlt)⟩⟩
    rw [hl]
    apply List.ext_getElem?
    intro i
    cases i with
    | zero => simp [List.getElem?_eq_getElem hlt2]
    | succ i => simp; omega

theorem eqFields_at {n D : Nat} (IH : ∀ (t : TypeId) (sh : List CK), shp P n t = some sh → ∀ (x y : Value) (cs ds : List PV) (r : Bool), AtT P w G t x cs → AtT P w G t y ds → eqCells sh cs ds = some r → (Op.equalIn D t x y).run P w = .ok r w)
    {xs ys : Array Value} {cs ds : List PV} (hx : CellsRep w G cs xs) (hy : CellsRep w G ds ys) :
    ∀ (fs : List Field) (off : Nat) (sh : List CK) (r : Bool), off ≤ cs.length → off ≤ ds.length → shpF P (shp P n) off fs = some sh → eqCells sh (cs.drop off) (ds.drop off) = some r → (Op.eqFields D xs ys fs).run P w = .ok r w
  | [], off, sh, r, _, _, h, he => by
    simp [shpF] at h; subst h
    have hl := eqCells_len he
    have e1 : cs.drop off = [] := List.eq_nil_of_length_eq_zero hl.1
    have e2 : ds.drop off = [] := List.eq_nil_of_length_eq_zero hl.2
    rw [e1, e2] at he
    simp [eqCells] at he; subst he
    simp [Op.eqFields]
  | f :: fs, off, sh, r, hoc, hod, h, he => by
    simp only [shpF] at h
    split at h
    · rename_i hcond
      obtain ⟨ho, hn⟩ := hcond
      split at h
      · rename_i s hs
        split at h
        · rename_i hz
          split at h
          · rename_i q hq
            simp at h; subst h
            obtain ⟨u, v, h1, h2, rfl⟩ := eqCells_app s q he
            have hl := eqCells_len he
            simp at hl
            have hcl : off + s.length ≤ cs.length := by omega
            have hdl : off + s.length ≤ ds.length := by omega
            obtain ⟨vx, px, ax⟩ := run_part_at hs hz hx hcl
            obtain ⟨vy, py, ay⟩ := run_part_at hs hz hy hdl
            have hr := IH f.type s hs vx vy _ _ u ax ay h1
            subst ho
            rw [List.drop_drop, List.drop_drop] at h2
            have ih := eqFields_at IH hx hy fs _ q v hcl hdl hq h2
            simp only [Op.eqFields, hn, ne_eq, not_false_eq_true, if_true, Sem.run_bind, px, py, Result.andThen_ok, hr]
            cases u
            · simp
            · simpa using ih
          · cases h
        · cases h
      · cases h
    · cases h

theorem eqItems_at {n D : Nat} {e : TypeId} {s : List CK} (IH : ∀ (x y : Value) (cs ds : List PV) (r : Bool), AtT P w G e x cs → AtT P w G e y ds → eqCells s cs ds = some r → (Op.equalIn D e x y).run P w = .ok r w)
    (hs : shp P n e = some s) (hz : szT P e = some s.length) {xs ys : Array Value} {cs ds : List PV} (hx : CellsRep w G cs xs) (hy : CellsRep w G ds ys) :
    ∀ (k i : Nat) (r : Bool), (i + k) * s.length ≤ cs.length → (i + k) * s.length ≤ ds.length → eqCells (List.replicate k s).flatten (cs.drop (i * s.length)) (ds.drop (i * s.length)) = some r → (Op.eqItems D e s.length xs ys (List.range' i k)).run P w = .ok r w
  | 0, i, r, _, _, he => by
    simp at he
    have hl := eqCells_len he
    have e1 : cs.drop (i * s.length) = [] := List.eq_nil_of_length_eq_zero hl.1
    have e2 : ds.drop (i * s.length) = [] := List.eq_nil_of_length_eq_zero hl.2
    rw [e1, e2] at he
    simp [eqCells] at he; subst he
    simp [Op.eqItems]
  | k + 1, i, r, hc, hd, he => by
    rw [List.replicate_succ, List.flatten_cons] at he
    obtain ⟨u, v, h1, h2, rfl⟩ := eqCells_app s _ he
    have hle : i * s.length + s.length ≤ (i + (k + 1)) * s.length := by rw [← Nat.succ_mul]; exact Nat.mul_le_mul_right _ (by omega)
    obtain ⟨vx, px, ax⟩ := run_part_at hs hz hx (off := i * s.length) (by omega)
    obtain ⟨vy, py, ay⟩ := run_part_at hs hz hy (off := i * s.length) (by omega)
    have hr := IH vx vy _ _ u ax ay h1
    rw [List.drop_drop, List.drop_drop, show i * s.length + s.length = (i + 1) * s.length by rw [Nat.add_mul]; omega] at h2
    have ih := eqItems_at IH hs hz hx hy k (i + 1) v (by rw [show i + 1 + k = i + (k + 1) by omega]; exact hc) (by rw [show i + 1 + k = i + (k + 1) by omega]; exact hd) h2
    simp only [List.range'_succ, Op.eqItems, Sem.run_bind, px, py, Result.andThen_ok, hr]
    cases u
    · simp
    · simpa using ih

def aggD : TypeDesc → Bool
  | .struct _ => true
  | .array _ _ => true
  | _ => false
theorem isAggT_of {t : TypeId} {d : TypeDesc} (h : P.underlying t = some d) : isAggT P t = some (aggD d) := by
  unfold isAggT uT
  rw [h]
  cases d <;> rfl
theorem eqIn : ∀ (n : Nat) (t : TypeId) (sh : List CK), shp P n t = some sh → ∀ (D : Nat), n ≤ D → ∀ (x y : Value) (cs ds : List PV) (r : Bool), AtT P w G t x cs → AtT P w G t y ds → eqCells sh cs ds = some r →
    (Op.equalIn D t x y).run P w = .ok r w
  | 0, t, sh, h, _, _, _, _, _, _, _, _, _, _ => by simp [shp] at h
  | n + 1, t, sh, h, D, hD, x, y, cs, ds, r, hx, hy, he => by
    obtain ⟨D, rfl⟩ : ∃ d, D = d + 1 := ⟨D - 1, by omega⟩
    have scalar : ∀ {ck}, sh = [ck] → isAggT P t = some false → ∃ p q, cs = [p] ∧ ds = [q] ∧ Rep w G p x ∧ Rep w G q y ∧ eqB ck p q = some r := by
      intro ck hsh hg
      rcases hx with ⟨h1, _⟩ | ⟨_, p, rfl, hp⟩
      · rw [hg] at h1; cases h1
      · rcases hy with ⟨h1, _⟩ | ⟨_, q, rfl, hq⟩
        · rw [hg] at h1; cases h1
        · subst hsh
          refine ⟨p, q, rfl, rfl, hp, hq, ?_⟩
          simp only [eqCells] at he
          split at he
          · rename_i a b ha hb
            simp at hb he
            subst hb; simp at he; subst he; exact ha
          · cases he
    have aggr : isAggT P t = some true → ∃ xa ya, x = .agg xa ∧ y = .agg ya ∧ CellsRep w G cs xa ∧ CellsRep w G ds ya := by
      intro hg
      rcases hx with ⟨_, xa, rfl, hxa⟩ | ⟨h1, _⟩
      · rcases hy with ⟨_, ya, rfl, hya⟩ | ⟨h1, _⟩
        · exact ⟨xa, ya, rfl, rfl, hxa, hya⟩
        · rw [hg] at h1; cases h1
      · rw [hg] at h1; cases h1
    simp only [shp, uT] at h
    cases hu : P.underlying t with
    | none => simp [hu] at h
    | some d =>
      have hga := isAggT_of hu
      cases d <;> simp only [hu] at h <;> try (cases h; done)
      case bool =>
        cases h
        obtain ⟨p, q, rfl, rfl, hp, hq, hb⟩ := scalar rfl hga
        cases p <;> cases q <;> simp [eqB] at hb
        subst hb
        rw [Rep.bool_inv hp, Rep.bool_inv hq]
        exact run_equalIn_bool w D t _ _ hu
      case int k =>
        cases h
        obtain ⟨p, q, rfl, rfl, hp, hq, hb⟩ := scalar rfl hga
        cases p <;> cases q <;> simp [eqB] at hb
        obtain ⟨rfl, rfl⟩ := hb
        rw [Rep.int_inv hp, Rep.int_inv hq]
        exact run_equalIn_int w D t _ _ _ _ hu
      case string =>
        cases h
        obtain ⟨p, q, rfl, rfl, hp, hq, hb⟩ := scalar rfl hga
        cases p <;> cases q <;> simp [eqB] at hb
        subst hb
        rw [Rep.str_inv hp, Rep.str_inv hq]
        rw [run_equalIn_string w D t _ _ hu]
        simp
      case array k e =>
        split at h
        · rename_i s hs
          split at h
          · rename_i hz
            cases h
            obtain ⟨xa, ya, rfl, rfl, hxa, hya⟩ := aggr hga
            obtain ⟨i, hi, hsz⟩ := szT_info hz
            have hfl : (List.replicate k s).flatten.length = k * s.length := by
              have : ∀ (k : Nat), (List.replicate k s).flatten.length = k * s.length := fun k => by
                induction k with
                | zero => simp
                | succ k ih => rw [List.replicate_succ, List.flatten_cons, List.length_append, ih, Nat.add_mul]; omega
              exact this k
            have hl := eqCells_len he
            have hcs : P.cellsOf e = s.length := by simp [Program.cellsOf, hi, hsz]
            rw [run_equalIn_array w D xa ya hu hi, hcs, List.range_eq_range']
            exact eqItems_at (n := n) (fun x y cs ds r => eqIn n e s hs D (by omega) x y cs ds r) hs hz hxa hya k 0 r (by rw [hl.1, hfl]; simp) (by rw [hl.2, hfl]; simp) (by simpa using he)
          · cases h
        · cases h
      case struct fs =>
        split at h
        · cases h
        · rename_i hst
          obtain ⟨xa, ya, rfl, rfl, hxa, hya⟩ := aggr hga
          have hfo : P.fieldsOf t = fs := by simp [Program.fieldsOf, hu]
          rw [run_equalIn_struct w D t xa ya (by rw [hfo]; exact hu) (by simpa using hst), hfo]
          exact eqFields_at (n := n) (fun t sh hs x y cs ds r => eqIn n t sh hs D (by omega) x y cs ds r) hxa hya fs.toList 0 sh r (Nat.zero_le _) (Nat.zero_le _) h (by simpa using he)

theorem ok_eqa {n : Bool} {op : BinOp} {t t' : TypeId} {x y : Operand} {x' y' : Opnd} {sh : List CK} {cs ds : List PV} {r : Bool} (hF : FRel w G β ω σ a.tmps) (hd : ∀ d, o.dst = some d → d < a.tmps.size)
    (ho : o.op = .binOp op t x y t') (hga : isAggT P t = some true) (hgt : P.eqGuardType P.depth t = false) (hs : shp P 8 t = some sh) (hop : op = if n then .neq else .eql) (hx : OOk x x') (hy : OOk y y')
    (ex : x'.ev σ.tmps = .val (.agg cs)) (ey : y'.ev σ.tmps = .val (.agg ds)) (he : eqCells sh cs ds = some r) :
    StepOk P w G ω β a o σ (σ.put o.dst (.val (.bool (if n then !r else r)))) := by
  obtain ⟨xa, e1, hxa⟩ := Rep.agg_inv (hx.val hF ex)
  obtain ⟨ya, e2, hya⟩ := Rep.agg_inv (hy.val hF ey)
  have hr := eqIn (P := P) (w := w) (G := G) 8 t sh hs 10000 (by omega) (.agg xa) (.agg ya) cs ds r (.inl ⟨hga, xa, rfl, hxa.1, hxa.2.2, hxa.2.1⟩) (.inl ⟨hga, ya, rfl, hya.1, hya.2.2, hya.2.1⟩) he
  have hg := fun op => run_eqGuard_agg (P := P) w op t x y xa ya hgt
  cases n <;> simp at hop <;> subst hop <;> refine ok_val hF hd ?_ (Rep.bool _)
  · simp only [execOp, ho, e1, e2, Sem.run_bind, hg, Result.andThen_ok, run_eql_struct, hr, Sem.run_pure, Bool.false_eq_true, if_false]
  · simp only [execOp, ho, e1, e2, Sem.run_bind, hg, Result.andThen_ok, run_neq_struct, hr, Sem.run_pure, if_true]
end ops
end Go.AR

/-! Slicing an array variable: its block stays as it is from here on. -/
namespace Go.AR
open Go
section ops
variable {P : Program} {w : World} {G β : Nat → Nat} {ω : Nat → Option Occ} {σ σ' : Fr} {a : Act} {o : Oper}

/-- The cells of a block that is given up for writing. -/
def Blk.still : Blk → Option (List PV)
  | .cellsE _ ts => pvs ts
  | .frozen ps => some ps
  | _ => none
theorem still_rep {bb s : Nat} {b : Blk} {ps : List PV} (hb : BRep w G ω bb s b) (h : b.still = some ps) : ∃ arr e, w.heap[bb]? = some (.cells arr e (0, 0)) ∧ ps.length ≤ arr.size ∧ G bb ≤ ps.length ∧ (∀ p ∈ ps, p.one = true) ∧
    ∀ (i : Nat) (p : PV) (x : Value), ps[i]? = some p → arr[i]? = some x → Rep w G p x := by
  cases b with
  | cellsE e0 ts =>
    obtain ⟨arr, e, h1, ⟨h2, _⟩, h3, h4⟩ := hb
    obtain ⟨hl, hget⟩ := pvs_get h
    have hrep : ∀ (i : Nat) (p : PV) (x : Value), ps[i]? = some p → arr[i]? = some x → Rep w G p x ∧ p.one = true := fun i p x hp hx => by
      obtain ⟨tv, htv, htp⟩ := hget i p hp
      exact CRep.pv (h4 i tv x htv hx) htp
    refine ⟨arr, _, h1, by omega, by omega, fun p hp => ?_, fun i p x hp hx => (hrep i p x hp hx).1⟩
    obtain ⟨i, hi⟩ := List.mem_iff_getElem?.1 hp
    have hlt : i < arr.size := by have := (List.getElem?_eq_some_iff.1 hi).1; omega
    exact (hrep i p _ hi (Array.getElem?_eq_getElem hlt)).2
  | frozen cs =>
    cases h
    obtain ⟨arr, e, h1, h2, h3, h4, h5⟩ := hb
    exact ⟨arr, e, h1, h2, by omega, h4, h5⟩
  | iter l p => cases h
  | map kvs => cases h

theorem ok_slicea {t e : TypeId} {n c s : Nat} {x : Operand} {x' : Opnd} {lo hi : Option Operand} {ts : List TypeId} {ys : List Opnd} {b : Blk} {ps : List PV} {l h : Nat} (hF : FRel w G β ω σ a.tmps) (hd : ∀ d, o.dst = some d → d < a.tmps.size)
    (ho : o.op = .slice t x lo hi none) (hu : P.underlying t = some (.array n e)) (hn : szT P e = some c) (hc0 : 0 < c) (hx : OOk x x') (ex : x'.ev σ.tmps = .lp s 0) (hc : cOpnds P ts (lo.toList ++ hi.toList) = some ys)
    (hm : get σ.mem s = some b) (hst : b.still = some ps) (hl : ps.length = n * c) (hb : bnds n lo.isSome hi.isSome (ys.map (·.ev σ.tmps)) = some (l, h)) :
    StepOk P w G ω β a o σ { tmps := (σ.put o.dst (.val (.sl c (((chunks c n ps).drop l).take (h - l))))).tmps, mem := set σ.mem s (.frozen ps) } := by
  have h0 := hx.trep hF
  rw [ex] at h0
  have e1 : a.eval x = .pointer (some ⟨β s, 0, none⟩) := h0
  obtain ⟨hω, hrep⟩ := hF.blk s _ hm
  obtain ⟨arr, ee, hh, hsz, hG, hone, hcell⟩ := still_rep hrep hst
  obtain ⟨hr, h1, h2⟩ := run_bnds (P := P) (cap := n) false hF hc (Nat.le_refl _) hb
  obtain ⟨hcl, hcr, hcf⟩ := chunks_spec c hc0 n ps hl
  let G' := upd G (β s) ps.length
  have hext : GExt w G w G' := ⟨fun b' => by
      by_cases e : b' = β s
      · subst e; simp only [G', upd_eq]; exact hG
      · simp only [G']; rw [upd_ne _ _ _ _ e]; exact Nat.le_refl _, fun _ _ _ => rfl, fun _ _ h => h⟩
  have hne : ∀ g occ, ω g = some occ → occ ≠ .blk s → g ≠ β s := fun g occ hg hq e => by rw [e, hω] at hg; cases hg; exact hq rfl
  have hsame : Same (fun _ => False) (fun s' => s' = s) w G β ω w G' β ω := by
    refine ⟨hext, fun g t hg _ => ⟨rfl, ?_, hg⟩, fun g t hg hq => ⟨rfl, ?_, hg⟩, fun g t i hg hq => ⟨rfl, ?_, hg⟩⟩
    · exact upd_ne _ _ _ _ (hne g _ hg (by simp))
    · exact upd_ne _ _ _ _ (hne g _ hg (by simp; exact hq))
    · exact upd_ne _ _ _ _ (hne g _ hg (by simp))
  have hrow : Rep w G' (.sl c (chunks c n ps)) (.slice (some ⟨β s, 0, none⟩) (chunks c n ps).length n) := by
    refine Rep.sl c (chunks c n ps) (β s) 0 n (fun j => arr.getD j undef) hcr ?_ ?_ ?_ ?_ (by rw [hcl]; exact Nat.le_refl _)
    · rw [hcf]; simp [G', upd_eq]
    · intro j hj
      rw [hcf] at hj
      rw [Nat.zero_add, cell_of_block hh]
      rw [Array.getElem?_eq_getElem (by omega)]
      simp [Array.getD_eq_getD_getElem?, Array.getElem?_eq_getElem (show j < arr.size by omega)]
    · intro j p hp
      rw [hcf] at hp
      have hj : j < arr.size := Nat.lt_of_lt_of_le (List.getElem?_eq_some_iff.1 hp).1 hsz
      have := hcell j p arr[j] hp (Array.getElem?_eq_getElem hj)
      simp only [Array.getD_eq_getD_getElem?, Array.getElem?_eq_getElem hj]
      exact this.mono hext
    · rw [hcf]; exact hone
  have hval := hrow.slice (l := l) (h := h) h1 (by rw [hcl]; exact h2)
  refine ⟨.value (.slice (some (if n = l then ⟨β s, 0, none⟩ else Addr.add ⟨β s, 0, none⟩ (l * c))) (h - l) (n - l)), _, w, G', β, ω, ?_, .inl rfl, ⟨rfl, rfl, rfl, Nat.le_refl _, hext, fun b' _ hq => ⟨rfl, upd_ne _ _ _ _ (fun e => hq (by rw [e, hω]; simp))⟩⟩, fun b' hq => .inl hq, fun _ _ => rfl, ?_⟩
  · simp only [execOp, ho, Instr.sliceAt, Sem.run_bind, run_underlying hu, Result.andThen_ok, e1, Instr.sureAddr, Sem.run_pure, Option.map_none, hr, run_szT hn]
  · have hv' : Rep w G' (.sl c (((chunks c n ps).drop l).take (h - l))) (.slice (some (if n = l then ⟨β s, 0, none⟩ else Addr.add ⟨β s, 0, none⟩ (l * c))) (h - l) (n - l)) := by
      by_cases e : n = l
      · rw [if_pos e] at hval ⊢; exact hval
      · rw [if_neg e] at hval ⊢; exact hval
    have base : FRel w G' β ω { σ with mem := set σ.mem s (.frozen ps) } a.tmps := by
      refine ⟨fun t => hF.rest_tmp hsame (fun _ _ => rfl) t id, fun t s' h => ?_, fun s' b' hb' => ?_, fun b' hb' => ?_, hF.ωnew⟩
      · simp only [get_set]
        split
        · simp
        · exact hF.live t s' h
      · simp only [get_set] at hb'
        split at hb'
        · rename_i e2
          subst e2
          cases hb'
          exact ⟨hω, arr, ee, hh, hsz, by simp [G', upd_eq], hone, fun i p x hp hx => (hcell i p x hp hx).mono hext⟩
        · rename_i e2
          exact hF.rest_blk hsame (fun _ _ => rfl) s' e2 b' hb'
      · have : β s < w.heap.size := hF.ωnew _ (by rw [hω]; simp)
        simp only [G']
        rw [upd_ne _ _ _ _ (by omega)]
        exact hF.gnew b' hb'
    cases hdd : o.dst with
    | none => exact base
    | some d => exact base.put d (hd d hdd) _ _ hv' (fun s e => by cases e)
end ops
end Go.AR
