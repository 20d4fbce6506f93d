import Derived.Test.YtcpkejkpabgabaaDoorOps7
set_option linter.all false
namespace Go.AR
open Go
section ops
variable {P : Program} {w : World} {G β : Nat → Nat} {ω : Nat → Option Occ} {σ σ' : Fr} {a : Act} {o : Oper}

theorem run_append_room' (t ty e e' : TypeId) (i : TypeInfo) (ht : P.underlying t = some (.slice e)) (hi : P.info? e = some i)
    (g sLen sCap : Nat) (cur : Array Value) (hg : w.heap[g]? = some (.cells cur e' (0, 0)))
    (a : Addr) (m c : Nat) (news : List Value) (hl : news.length = m * i.size) (hnews : ∀ j u, news[j]? = some u → w.cell? (a.add j) = some u) (h1 : ∀ u ∈ news, u.oneCell' = true)
    (hroom : sLen + m ≤ sCap) (hfit : sLen * i.size + news.length ≤ cur.size) :
    (Builtin.append_ #[t, t] ty #[.slice (some ⟨g, 0, none⟩) sLen sCap, .slice (some a) m c]).run P w =
      .ok (.slice (some ⟨g, 0, none⟩) (sLen + m) sCap) (w.setRow g (cur.toList.take (sLen * i.size) ++ news ++ cur.toList.drop (sLen * i.size + news.length)).toArray) := by
  have hf := run_firstCells_some (P := P) w i.size m a m c news hl hnews
  have hst := run_storeCells_at P g (sLen * i.size) e' news 0 cur w hg (by simpa using hfit) h1
  simp only [Nat.add_zero] at hst
  simp [Builtin.append_, run_underlying ht, sizeOf, typeInfo, hi, Builtin.lenOf, hroom, hf, Addr.add_lit, hst]

/-- 'append': what becomes of the row, and of the block that it lies in. -/
theorem run_append_any (t ty e : TypeId) (i : TypeInfo) (z : Value) (ht : P.underlying t = some (.slice e)) (hi : P.info? e = some i) (hz : i.zero = some z) (hzs : z.cells.size = i.size) (hsz : 0 < i.size)
    {e' : TypeId} {v : Value} {n : Nat} {xs : List Value} (hown : w.ownsRow 0 e' i.size v n xs) {A : Option Addr} {m c : Nat} {news : List Value} (hl : news.length = m * i.size)
    (hA : 0 < m → ∃ ad, A = some ad ∧ ∀ j u, news[j]? = some u → w.cell? (ad.add j) = some u) (h1 : ∀ u ∈ news, u.oneCell' = true)
    (hbytes : (n + m) * i.bytes ≤ 140737488355328) (h63 : n + m ≤ maxLen) :
    ∃ v' w', (Builtin.append_ #[t, t] ty #[v, .slice A m c]).run P w = .ok v' w' ∧
      ((m = 0 ∧ v' = v ∧ w' = w) ∨
       (∃ g cap cur, v = .slice (some ⟨g, 0, none⟩) n cap ∧ v' = .slice (some ⟨g, 0, none⟩) (n + m) cap ∧ w.heap[g]? = some (.cells cur e' (0, 0)) ∧ n + m ≤ cap ∧ cap ≤ maxLen ∧ cur.size = cap * i.size ∧
          w' = w.setRow g (cur.toList.take (n * i.size) ++ news ++ cur.toList.drop (n * i.size + news.length)).toArray) ∨
       (∃ cap arr, v' = .slice (some ⟨w.heap.size, 0, none⟩) (n + m) cap ∧ w' = w.drew.alloc (.cells arr e) ∧ n + m ≤ cap ∧ cap ≤ maxLen ∧ arr.size = cap * i.size ∧ arr.toList.take ((n + m) * i.size) = xs ++ news)) := by
  have hsmall : n + m ≤ 9223372036854775807 := by simp only [maxLen] at h63; omega
  by_cases hm : m = 0
  · subst hm
    have hn : news = [] := List.eq_nil_of_length_eq_zero (by simpa using hl)
    subst hn
    refine ⟨v, w, ?_, .inl ⟨rfl, rfl, rfl⟩⟩
    have hf : (Builtin.firstCells i.size 0 (.slice A 0 c)).run P w = .ok #[] w := by
      cases A <;> simp [Builtin.firstCells, loadCells, loadCellsFrom]
    rcases hown.2 with ⟨rfl, rfl⟩ | ⟨g, cap, cur, rfl, _, hg, hnc, hcm, hcs, htake⟩
    · simp [Builtin.append_, run_underlying ht, sizeOf, typeInfo, hi, Builtin.lenOf, hf]
    · simp [Builtin.append_, run_underlying ht, sizeOf, typeInfo, hi, Builtin.lenOf, hf, hnc, storeCells]
  · obtain ⟨ad, rfl, hnews⟩ := hA (by omega)
    have hgr : ∀ old, old < n + m → (grownCap w (n + m) old e ≤ maxLen ∧ n + m ≤ grownCap w (n + m) old e ∧ (xs.toArray ++ news.toArray ++ Builtin.zeroCells z.cells (grownCap w (n + m) old e - (n + m))).size = grownCap w (n + m) old e * i.size) := by
      intro old _
      have hge := grownCap_ge w (n + m) old e
      refine ⟨grownCap_le_maxLen w (n + m) old e h63, hge, ?_⟩
      simp only [Array.size_append, List.size_toArray, size_zeroCells, hzs, hown.1, hl, ← Nat.add_mul]
      congr 1
      omega
    have htk : ∀ k, (xs.toArray ++ news.toArray ++ Builtin.zeroCells z.cells k).toList.take ((n + m) * i.size) = xs ++ news := by
      intro k
      have hlen : (xs ++ news).length = (n + m) * i.size := by rw [List.length_append, hown.1, hl, Nat.add_mul]
      simp only [Array.toList_append, List.append_assoc]
      rw [← List.append_assoc, ← hlen]
      exact List.take_left
    rcases hown.2 with ⟨rfl, rfl⟩ | ⟨g, cap, cur, rfl, _, hg, hnc, hcm, hcs, htake⟩
    · have hx : xs = [] := List.eq_nil_of_length_eq_zero (by simpa using hown.1)
      subst hx
      have hr := run_append_nil (P := P) w t ty e i z ht hi hz ad m c news hl hnews (by omega) (by omega) (by have hb := hbytes; simp only [Nat.zero_add] at hb; omega)
      obtain ⟨k1, k2, k3⟩ := hgr 0 (by omega)
      have k4 := htk (grownCap w (0 + m) 0 e - (0 + m))
      simp only [Nat.zero_add, List.nil_append, Array.empty_append] at k1 k2 k3 k4 ⊢
      exact ⟨_, _, hr, .inr (.inr ⟨_, _, rfl, rfl, k2, k1, k3, k4⟩)⟩
    · by_cases hroom : n + m ≤ cap
      · have hfit : n * i.size + news.length ≤ cur.size := by rw [hl, hcs, ← Nat.add_mul]; exact Nat.mul_le_mul_right _ hroom
        exact ⟨_, _, run_append_room' (P := P) t ty e e' i ht hi g n cap cur hg ad m c news hl hnews h1 hroom hfit, .inr (.inl ⟨g, cap, cur, rfl, rfl, hg, hroom, hcm, hcs, rfl⟩)⟩
      · have holds : ∀ j u, xs[j]? = some u → w.cell? ((⟨g, 0, none⟩ : Addr).add j) = some u := hown.cells (g := g) rfl
        have hr := run_append_grow (P := P) w t ty e i z ht hi hz ⟨g, 0, none⟩ n cap xs hown.1 holds ad m c news hl hnews (by omega) (by omega) (growslice_fits (by omega) hbytes)
        obtain ⟨k1, k2, k3⟩ := hgr cap (by omega)
        exact ⟨_, _, hr, .inr (.inr ⟨_, _, rfl, rfl, k2, k1, k3, htk _⟩)⟩

theorem one_oneCell {p : PV} {v : Value} (h : Rep w G p v) (h1 : p.one = true) : v.oneCell' = true := by
  cases h <;> first | rfl | (simp [PV.one] at h1)

theorem ok_append {e0 e1 : Option TypeId} {c : Call} {t e : TypeId} {s d n : Nat} {x : Operand} {x' : Opnd} {i : TypeInfo} {z : Value} {r r' : List (List PV)} (hF : FRel w G β ω σ a.tmps) (hd : d < a.tmps.size) (hs : s < a.tmps.size) (hdst : o.dst = some d) (hne : d ≠ s)
    (ho : o.op = .call c) (hc : c.callee = .builtin .append) (hat : c.argTypes = #[t, t]) (hargs : c.args = #[.tmp s, x]) (hu : P.underlying t = some (.slice e)) (hi : P.info? e = some i) (hz : i.zero = some z) (hzs : z.cells.size = i.size) (hpos : 0 < i.size)
    (hx : OOk x x') (es : tget σ.tmps s = .ownE e0 n r) (he1 : e1 = none ∨ (e0 = some e ∧ e1 = some e)) (ex : (x'.ev σ.tmps).ro = .val (.sl n r')) (hni : n = i.size) (hb : (r.length + r'.length) * i.bytes ≤ 140737488355328) (hb2 : r.length + r'.length ≤ maxLen) :
    StepOk P w G ω β a o σ { σ with tmps := set (set σ.tmps d (.ownE e1 n (r ++ r'))) s (.val (.sl n r)) } := by
  subst hni
  have hown := hF.tmp s
  rw [es] at hown
  have hrold := ORepE.rep hown
  obtain ⟨e'', xs, hor, hc1, hxl, hxr, ho1, hg⟩ := hown
  obtain ⟨e', he'⟩ : ∃ e', e0.getD e'' = e' := ⟨_, rfl⟩
  rw [he'] at hor
  have het : e1.getD e' = e' := by
    rcases he1 with rfl | ⟨h1, h2⟩
    · rfl
    · subst h1; subst h2; simpa using he'
  have hee : e1.getD e = e := by
    rcases he1 with rfl | ⟨h1, h2⟩
    · rfl
    · subst h2; rfl
  obtain ⟨A, cap, e2, hc2, hone, hcap, hcell⟩ := Rep.sl_inv (hx.valro hF ex)
  have hrl : r'.flatten.length = r'.length * i.size := flat_len hc2
  -- the cells of what is appended
  obtain ⟨news, hnl, hnews, hnrep⟩ : ∃ news : List Value, news.length = r'.length * i.size ∧ (0 < r'.length → ∃ ad, A = some ad ∧ ∀ j u, news[j]? = some u → w.cell? (ad.add j) = some u) ∧
      (∀ (j : Nat) (p : PV) (u : Value), r'.flatten[j]? = some p → news[j]? = some u → Rep w G p u) := by
    by_cases he : r' = []
    · subst he; exact ⟨[], by simp, fun h => by simp at h, by simp⟩
    · obtain ⟨b, off, rfl, hG, hcl⟩ := hcell he
      refine ⟨(List.range (r'.length * i.size)).map fun j => (w.cell? ⟨b, off + j, none⟩).getD undef, by simp, fun _ => ⟨_, rfl, fun j u hu => ?_⟩, fun j p u hp hu => ?_⟩
      · have hj : j < r'.length * i.size := by have := (List.getElem?_eq_some_iff.1 hu).1; simpa using this
        obtain ⟨y, hy, _⟩ := hcl j _ (List.getElem?_eq_getElem (by rw [hrl]; exact hj))
        simp [hj, hy] at hu
        subst hu
        rw [addr_add]; exact hy
      · obtain ⟨y, hy, hr⟩ := hcl j p hp
        have hj : j < r'.length * i.size := by rw [← hrl]; exact (List.getElem?_eq_some_iff.1 hp).1
        simp [hj, hy] at hu
        subst hu
        exact hr
  have hn1 : ∀ u ∈ news, u.oneCell' = true := fun u hu => by
    obtain ⟨j, hj⟩ := List.getElem?_of_mem hu
    have hjl : j < r'.flatten.length := by rw [hrl, ← hnl]; exact (List.getElem?_eq_some_iff.1 hj).1
    have hp := List.getElem?_eq_getElem hjl
    exact one_oneCell (hnrep j _ u hp hj) (hone _ (List.mem_of_getElem? hp))
  obtain ⟨v', w', hrun, hcase⟩ := run_append_any (P := P) t o.type e i z hu hi hz hzs hpos (c := cap) hor hnl hnews hn1 hb hb2
  have hex : (execOp a.eval o).run P w = .ok (.value v') w' := by
    have e3 : a.eval (.tmp s) = a.tmps.getD s undef := rfl
    simp [-Array.getD_eq_getD_getElem?, execOp, ho, resolve, hc, hargs, hat, invoke, builtin, e2, e3, hrun]
  have hfl : (r ++ r').flatten.length = (r.length + r'.length) * i.size := by rw [List.flatten_append, List.length_append, flat_len hc1, hrl, Nat.add_mul]
  have hcc : ∀ q ∈ r ++ r', q.length = i.size := fun q hq => by
    rcases List.mem_append.1 hq with h | h
    · exact hc1 q h
    · exact hc2 q h
  have hoo : ∀ p ∈ (r ++ r').flatten, p.one = true := fun p hp => by
    rw [List.flatten_append] at hp
    rcases List.mem_append.1 hp with h | h
    · exact ho1 p h
    · exact hone p h
  have hrr : ∀ (j : Nat) (p : PV) (u : Value), (r ++ r').flatten[j]? = some p → (xs ++ news)[j]? = some u → Rep w G p u := by
    intro j p u hp hu
    rw [List.flatten_append] at hp
    by_cases hj : j < r.flatten.length
    · rw [List.getElem?_append_left hj] at hp
      rw [List.getElem?_append_left (by omega)] at hu
      exact hxr j p u hp hu
    · rw [List.getElem?_append_right (by omega)] at hp
      rw [List.getElem?_append_right (by omega), hxl] at hu
      exact hnrep _ p u hp hu
  have hlen2 : (xs ++ news).length = (r ++ r').flatten.length := by rw [hfl, List.length_append, hxl, hnl, flat_len hc1, Nat.add_mul]
  -- what is left to be shown, whatever the case
  have fin : ∀ (G' : Nat → Nat) (ω' : Nat → Option Occ), Evo (fun b => ω b ≠ none) w G w' G' → Same (fun t => t = s) (fun _ => False) w G β ω w' G' β ω' → (∀ b, w'.heap.size ≤ b → G' b = 0) → (∀ b, ω' b ≠ none → b < w'.heap.size) →
      (∀ b, ω' b ≠ none → ω b ≠ none ∨ w.heap.size ≤ b) → ORepE e1 w' G' ω' (.tmp d) i.size (r ++ r') v' → StepOk P w G ω β a o σ { σ with tmps := set (set σ.tmps d (.ownE e1 i.size (r ++ r'))) s (.val (.sl i.size r)) } := by
    intro G' ω' hevo hsame hgn hωn hdom hnew
    refine ⟨.value v', v', w', G', β, ω', hex, .inl rfl, hevo, hdom, fun _ _ => rfl, ⟨fun t => ?_, fun t s' h => ?_, fun s' b hb => hF.rest_blk hsame (fun _ _ => rfl) s' id b hb, hgn, hωn⟩⟩
    · simp only [hdst, Act.put]
      rw [tget_set, tget_set]
      by_cases e1 : t = s
      · subst e1
        rw [if_pos rfl, getD_set_ne _ _ _ _ _ hne]
        exact hrold.mono hevo.ext
      · rw [if_neg e1]
        by_cases e2 : t = d
        · subst e2
          rw [if_pos rfl, getD_set_eq _ _ _ _ hd]
          exact hnew
        · rw [if_neg e2, getD_set_ne _ _ _ _ _ (Ne.symm e2)]
          exact hF.rest_tmp hsame (fun _ _ => rfl) t e1
    · rw [tget_set, tget_set] at h
      split at h
      · cases h
      · split at h
        · cases h
        · exact hF.live t _ h
  rcases hcase with ⟨hm0, rfl, rfl⟩ | ⟨g, cap', cur, hv, rfl, hgc, hroom, hcm, hcs, rfl⟩ | ⟨cap', arr, rfl, rfl, hcp, hcm, hasz, htake⟩
  · -- nothing is appended
    have hr0 : r' = [] := List.eq_nil_of_length_eq_zero hm0
    subst hr0
    refine fin G (srcω ω (some s) (.tmp d)) (.refl _ _ _) ⟨.refl _ _, fun g t hg ht => ⟨rfl, rfl, srcω_keep hg (fun q e e2 => ht (by cases e; cases e2; rfl))⟩, fun g t hg _ => ⟨rfl, rfl, srcω_keep hg (fun q e e2 => by cases e2)⟩,
      fun g t i hg _ => ⟨rfl, rfl, srcω_keep hg (fun q e e2 => by cases e2)⟩⟩ hF.gnew (fun b hb => hF.ωnew b (srcω_dom hb)) (fun b hb => .inl (srcω_dom hb)) ?_
    have hown' : ORepE e1 _ G ω (.tmp s) i.size r (a.tmps.getD s undef) := ⟨e', xs, by rw [het]; exact hor, hc1, hxl, hxr, ho1, hg⟩
    rw [List.append_nil]
    exact hown'.mono (.refl _ _) (fun g hg => ⟨rfl, rfl, srcω_src hg⟩)
  · -- in place
    obtain ⟨hωg, hGg⟩ := hg g (by rw [hv]; rfl)
    have hxs : cur.toList.take (r.length * i.size) = xs := by
      rcases hor.2 with ⟨h0, _⟩ | ⟨g', cap'', cur', hv', _, hh', _, _, _, ht'⟩
      · rw [hv] at h0; cases h0
      · rw [hv] at hv'; cases hv'
        rw [hgc] at hh'; cases hh'
        exact ht'
    have hle : r.length * i.size + news.length ≤ cur.size := by rw [hnl, hcs, ← Nat.add_mul]; exact Nat.mul_le_mul_right _ hroom
    have hrf := flat_len hc1
    have hevo : Evo (fun b => ω b ≠ none) w G (w.setRow g (cur.toList.take (r.length * i.size) ++ news ++ cur.toList.drop (r.length * i.size + news.length)).toArray) (upd G g (r ++ r').flatten.length) := by
      refine setRow_evo hgc _ (by rw [hGg, hrf, hfl, Nat.add_mul]; omega) (by rw [hωg]; simp) (fun j hj => ?_) (by simp only [List.size_toArray, List.length_append, List.length_take, List.length_drop, Array.length_toList]; omega)
      rw [hGg, hrf] at hj
      have htl : (cur.toList.take (r.length * i.size)).length = r.length * i.size := by simp; omega
      simp only [List.getElem?_toArray, List.append_assoc]
      rw [List.getElem?_append_left (by rw [htl]; exact hj), List.getElem?_take, if_pos hj]; simp
    have hkn : ∀ g' oc, ω g' = some oc → oc ≠ .tmp s → g' ≠ g := fun g' oc h1 h2 e => h2 (by rw [e, hωg] at h1; exact (Option.some.inj h1).symm)
    have hsame : Same (fun t => t = s) (fun _ => False) w G β ω (w.setRow g (cur.toList.take (r.length * i.size) ++ news ++ cur.toList.drop (r.length * i.size + news.length)).toArray) (upd G g (r ++ r').flatten.length) β (srcω ω (some s) (.tmp d)) := by
      refine ⟨hevo.ext, fun g' t hg' ht => ?_, fun g' t hg' _ => ?_, fun g' t i hg' _ => ?_⟩
      · have := hkn g' _ hg' (fun e => ht (by cases e; rfl))
        exact ⟨setRow_other w _ _ _ this, upd_ne _ _ _ _ this, srcω_keep hg' (fun q e e2 => ht (by cases e; cases e2; rfl))⟩
      · have := hkn g' _ hg' (by simp)
        exact ⟨setRow_other w _ _ _ this, upd_ne _ _ _ _ this, srcω_keep hg' (fun q e e2 => by cases e2)⟩
      · have := hkn g' _ hg' (by simp)
        exact ⟨setRow_other w _ _ _ this, upd_ne _ _ _ _ this, srcω_keep hg' (fun q e e2 => by cases e2)⟩
    have hglt : g < w.heap.size := hF.ωnew g (by rw [hωg]; simp)
    refine fin _ _ hevo hsame (fun b hb => ?_) (fun b hb => by rw [size_setRow]; exact hF.ωnew b (srcω_dom hb)) (fun b hb => .inl (srcω_dom hb)) ?_
    · rw [size_setRow] at hb
      rw [upd_ne _ _ _ _ (by omega)]; exact hF.gnew b hb
    · refine ⟨e', xs ++ news, ⟨?_, .inr ⟨g, cap', _, by simp, Nat.zero_le _, by rw [het]; exact setRow_heap w g cur _ _ _ hgc, by simpa using hroom, hcm, ?_, ?_⟩⟩, hcc, hlen2, fun j p u hp hu => (hrr j p u hp hu).mono hevo.ext, hoo, fun g' hg' => ?_⟩
      · rw [hlen2, hfl, List.length_append]
      · simp only [List.size_toArray, List.length_append, List.length_take, List.length_drop, Array.length_toList]
        omega
      · rw [hxs]
        have : (r ++ r').length * i.size = (xs ++ news).length := by rw [hlen2, hfl, List.length_append]
        rw [this]
        exact List.take_left
      · simp [Value.ownBlock] at hg'
        subst hg'
        exact ⟨srcω_src hωg, upd_eq _ _ _⟩
  · -- a new row
    have hlt := hF.ωnew
    have hevo : Evo (fun b => ω b ≠ none) w G (w.drew.alloc (.cells arr e)) (upd G w.heap.size (r ++ r').flatten.length) := by
      have := alloc_evo (T := fun b => ω b ≠ none) (w := w.drew) (G := G) (.cells arr e) (r ++ r').flatten.length hF.gnew
      exact ⟨this.os, this.tape, this.output, this.size, ⟨this.ext.le, this.ext.cell, this.ext.shape⟩, this.block⟩
    have hsame : Same (fun t => t = s) (fun _ => False) w G β ω (w.drew.alloc (.cells arr e)) (upd G w.heap.size (r ++ r').flatten.length) β (upd ω w.heap.size (some (.tmp d))) := by
      refine ⟨hevo.ext, fun g t hg _ => ?_, fun g t hg _ => ?_, fun g t i hg _ => ?_⟩ <;>
      (have := hlt g (by rw [hg]; simp); exact ⟨heap_alloc_old w.drew _ this, upd_ne _ _ _ _ (by omega), by rw [upd_ne _ _ _ _ (by omega)]; exact hg⟩)
    have hsz' : (w.drew.alloc (.cells arr e)).heap.size = w.heap.size + 1 := by simp
    refine fin _ _ hevo hsame (fun b hb => ?_) (fun b hb => ?_) (fun b hb => ?_) ?_
    · rw [hsz'] at hb
      rw [upd_ne _ _ _ _ (by omega)]; exact hF.gnew b (by omega)
    · rw [hsz']
      by_cases e : b = w.heap.size
      · omega
      · rw [upd_ne _ _ _ _ e] at hb
        have := hlt b hb; omega
    · by_cases e : b = w.heap.size
      · exact .inr (by omega)
      · rw [upd_ne _ _ _ _ e] at hb; exact .inl hb
    · refine ⟨e, xs ++ news, ⟨?_, .inr ⟨w.heap.size, cap', arr, by simp, Nat.zero_le _, by rw [hee]; exact heap_alloc_new w.drew _, by simpa using hcp, hcm, hasz, ?_⟩⟩, hcc, hlen2, fun j p u hp hu => (hrr j p u hp hu).mono hevo.ext, hoo, fun g' hg' => ?_⟩
      · rw [hlen2, hfl, List.length_append]
      · rw [List.length_append]; exact htake
      · simp [Value.ownBlock] at hg'
        subst hg'
        exact ⟨upd_eq _ _ _, upd_eq _ _ _⟩
end ops
end Go.AR
