import Derived.Test.YtlhahjlnhkokcaaG26
import Derived.Test.YtlhahjlnhkokcaaG29
import Derived.Test.YtlhahjlnhkokcaaChecked
import Derived.WalkKit
import Derived.Handy
set_option linter.all false
/-! Nets: Take, for the abstract machine. -/
namespace Go.AR
open Go Go.Proofs Go.Shelf Go.RowKit
/-- What Look leaves. -/
def LookK (w : World) (G : Nat → Nat) (ω : Nat → Option Occ) (b : Nat) (l : List Fl) (w1 : World) (G1 : Nat → Nat) (ω1 : Nat → Option Occ) : Prop :=
  Evo (fun b' => w.heap.size ≤ b' ∨ ω b' ≠ none) w G w1 G1 ∧ (∀ b', w1.heap.size ≤ b' → G1 b' = 0) ∧ (∀ b', ω1 b' ≠ none → b' < w1.heap.size) ∧ (∀ b', ω1 b' ≠ none → ω b' ≠ none ∨ w.heap.size ≤ b') ∧
    ω1 w.heap.size = none ∧ G1 w.heap.size = 0 ∧ ω1 b = some (.blk 0) ∧ BRep w1 G1 ω1 b 0 (netB l)
def zObj : Obj := .cells #[.int .i64 0, .int .i64 0, .string ⟨#[]⟩] 27
theorem Evo.wide {w : World} {G : Nat → Nat} {w' : World} {G' : Nat → Nat} {ω : Nat → Option Occ} (h : Evo (fun b' => w.heap.size ≤ b' ∨ ω b' ≠ none) w G w' G') : Evo (fun b' => ω b' ≠ none) w G w' G' :=
  ⟨h.os, h.tape, h.output, h.size, h.ext, fun b hb ht => h.block b hb (fun k => k.elim (fun k => by omega) ht)⟩
theorem alloc0_evo {T : Nat → Prop} {w : World} {G : Nat → Nat} (o : Obj) (hgn : ∀ b, w.heap.size ≤ b → G b = 0) : Evo T w G (w.alloc o) G := by
  have := alloc_evo (T := T) (w := w) (G := G) o 0 hgn
  have hG' : upd G w.heap.size 0 = G := by
    funext b
    by_cases e : b = w.heap.size
    · rw [e, upd_eq]; exact (hgn _ (Nat.le_refl _)).symm
    · rw [upd_ne _ _ _ _ e]
  rwa [hG'] at this
/-- Look, called behind a new block. -/
theorem look_call {w : World} {G β : Nat → Nat} {ω : Nat → Option Occ} (hL : S_nLook (ACall Try.prog 13)) (l : List Fl) (kk : Int) (hgn : ∀ b, w.heap.size ≤ b → G b = 0) (hωn : ∀ b, ω b ≠ none → b < w.heap.size) (hωb : ω (β 0) = some (.blk 0)) (hB : BRep w G ω (β 0) 0 (netB l)) :
    Calls Try.prog 13 #[.pointer (some ⟨β 0, 0, none⟩), .int .i64 kk] (w.alloc zObj) fun e w1 => e = .returned (.tuple #[.agg #[.int .i64 (getF l kk).1, .int .i64 (getF l kk).2.1, .string ⟨⟨(getF l kk).2.2⟩⟩], .bool (isL l kk)]) ∧
      (w1.heap[w.heap.size]? = some (.cells #[.int .i64 0, .int .i64 0, .string ⟨#[]⟩] 27 (0, 0)) ∧ w.heap.size < w1.heap.size) ∧ ∃ G1 ω1, LookK w G ω (β 0) l w1 G1 ω1 := by
  have hsz : (w.alloc zObj).heap.size = w.heap.size + 1 := by simp
  have hbl : β 0 < w.heap.size := hωn _ (by rw [hωb]; simp)
  have ev0 : Evo (fun b' => w.heap.size ≤ b' ∨ ω b' ≠ none) w G (w.alloc zObj) G := alloc0_evo zObj hgn
  have hB0 : BRep (w.alloc zObj) G ω (β 0) 0 (netB l) := hB.mono ev0.ext (Go.Lib.alloc_old w zObj _ hbl) rfl (fun g i hg => ⟨Go.Lib.alloc_old w zObj _ (hωn g (by rw [hg]; simp)), rfl, hg⟩)
  have hnew : (w.alloc zObj).heap[w.heap.size]? = some zObj := heap_alloc_new w zObj
  have hω0 : ω w.heap.size = none := by
    cases h : ω w.heap.size with
    | none => rfl
    | some _ => have := hωn w.heap.size (by rw [h]; simp); omega
  have hc := (hL l kk).2 (w.alloc zObj) G β ω [.pointer (some ⟨β 0, 0, none⟩), .int .i64 kk] (fun b hb => hgn b (by omega)) (fun b hb => by have := hωn b hb; omega) ⟨⟨rfl, hωb, hB0⟩, .int _ _, trivial⟩
  refine hc.mono ?_
  rintro e w1 ⟨v, G1, ω1, rfl, hev, hgn1, hωn1, hdom, hout, hrv⟩
  have hv := pair_rep hrv
  subst hv
  obtain ⟨⟨ho1, ho2⟩, _⟩ := hout
  obtain ⟨hk1, hk2⟩ := hev.block w.heap.size (by omega) (fun h => h hω0)
  refine ⟨rfl, ⟨by rw [hk1, hnew]; rfl, by have := hev.size; omega⟩, G1, ω1, ?_, hgn1, hωn1, fun b hb => ?_, ?_, ?_, ho1, ho2⟩
  · exact ev0.trans (T := fun b' => w.heap.size ≤ b' ∨ ω b' ≠ none) (T' := fun b' => ω b' ≠ none) hev (fun b _ h => .inr h)
  · rcases hdom b hb with h | h
    · exact .inl h
    · exact .inr (by omega)
  · cases h : ω1 w.heap.size with
    | none => rfl
    | some _ =>
      rcases hdom w.heap.size (by rw [h]; simp) with k | k
      · exact absurd hω0 k
      · omega
  · rw [hk2]; exact hgn _ (Nat.le_refl _)
/-- A cell of a block that is new to the caller. -/
theorem set_new {w0 w : World} {G : Nat → Nat} {ω : Nat → Option Occ} {h i : Nat} {v : Value} (hh : w0.heap.size ≤ h) (hG : G h = 0) : Evo (fun b' => w0.heap.size ≤ b' ∨ ω b' ≠ none) w G (w.setCell ⟨h, i, none⟩ v) G := setCell_evo (.inl hh) hG
theorem setCell_size (w : World) (a : Addr) (v : Value) : (w.setCell a v).heap.size = w.heap.size := by simp [World.setCell]
/-- A net's row, that is not empty, in the world. -/
theorem yes_of {w w1 : World} {G1 : Nat → Nat} {ω1 : Nat → Option Occ} {b : Nat} {l : List Fl} (hh : w1.heap[w.heap.size]? = some (.cells #[.int .i64 0, .int .i64 0, .string ⟨#[]⟩] 27 (0, 0))) (hlt : w.heap.size < w1.heap.size) (ho0 : ω1 w.heap.size = none) (hob : ω1 b = some (.blk 0)) (hB1 : BRep w1 G1 ω1 b 0 (netB l)) (hne : l ≠ []) :
    ∃ g cap, YesF w b l.length (fVals l) w1 g cap := by
  obtain ⟨arr1, e1, hb1, ⟨hsz, _⟩, hGb, hcell⟩ := hB1
  simp only [Option.getD_none] at hb1
  have h0 : 0 < arr1.size := hsz
  obtain ⟨e', xs, ho, hc, hxl, hxr, h1, hgow⟩ := hcell 0 (.own 3 (fRows l)) arr1[0] rfl (by simp [h0])
  rcases ho.2 with ⟨_, hz⟩ | ⟨g, cap, cur, hv, _, hhg, hcap, hcm, hcsz, htk⟩
  · rw [fRows_len] at hz; exact absurd (List.eq_nil_of_length_eq_zero hz) hne
  · have hxs : xs = fVals l := fVals_of l xs hxl hxr
    subst hxs
    obtain ⟨hωg, hGg⟩ := hgow g (by rw [hv]; rfl)
    have hgl : g < w1.heap.size := by
      rcases Nat.lt_or_ge g w1.heap.size with h | h
      · exact h
      · rw [Array.getElem?_eq_none h] at hhg; cases hhg
    refine ⟨g, cap, ⟨hh, hlt, ?_, Lib.frozen_of_heap hb1 0, hgl, fun e => (by rw [e, hob] at hωg; cases hωg), (by rw [fRows_len] at hcap; exact hcap), (by unfold maxLen at hcm; omega), fun j v hj => ?_, fun e => (by rw [e, ho0] at hωg; cases hωg)⟩⟩
    · rw [Lib.cell_of_heap hb1 0, Array.getElem?_eq_getElem h0, hv, fRows_len]
    · rw [Lib.cell_of_heap hhg j, ← Array.getElem?_toList]
      rw [← htk, List.getElem?_take] at hj
      split at hj
      · exact hj
      · cases hj
/-- A net whose row is a new one. -/
theorem net_new {w' : World} {G1 : Nat → Nat} {ω1 : Nat → Option Occ} {b g1 n : Nat} {l' : List Fl} {arr cur : Array Value} {e1 : TypeId} (hb : w'.heap[b]? = some (.cells arr e1 (0, 0))) (h0 : arr[0]? = some (.slice (some ⟨g1, 0, none⟩) n n)) (hn : l'.length = n) (hnm : n ≤ 200) (hGb : G1 b = 0) (hne : b ≠ g1) (hg : w'.heap[g1]? = some (.cells cur 27 (0, 0))) (hcur : cur.toList = fVals l') :
    BRep w' (upd G1 g1 (n * 3)) (upd ω1 g1 (some (.cell 0 0))) b 0 (netB l') := by
  refine ⟨arr, e1, hb, ⟨?_, fun h => absurd rfl h⟩, by rw [upd_ne _ _ _ _ hne]; exact hGb, fun i t x ht hx => ?_⟩
  · have := (Array.getElem?_eq_some_iff.1 h0).1
    simp only [List.length_singleton]; omega
  · cases i with
    | succ i => simp at ht
    | zero =>
      simp at ht; subst ht
      rw [h0] at hx; cases hx
      have hcs : cur.size = n * 3 := by rw [← Array.length_toList, hcur, fVals_len, hn]
      refine ⟨27, fVals l', ⟨by rw [fVals_len, fRows_len], .inr ⟨g1, n, cur, by rw [fRows_len, hn], Nat.zero_le _, hg, by rw [fRows_len, hn]; exact Nat.le_refl _, by unfold maxLen; omega, hcs, by rw [hcur, fRows_len, List.take_of_length_le (by rw [fVals_len]; exact Nat.le_refl _)]⟩⟩, fRows_c l', by rw [fRows_flat', fVals_len], fun j p x hp hx => fVals_rep l' j p x hp hx, fRows_one l', fun g hg' => ?_⟩
      simp [Value.ownBlock] at hg'
      subst hg'
      exact ⟨upd_eq _ _ _, by rw [upd_eq, fRows_flat', hn]⟩
theorem acall_Take (hL : S_nLook (ACall Try.prog 13)) : S_nTake (ACall Try.prog 10) := by
  intro l kk hl
  refine ⟨fun va w => enters_of Try.func10 (by kernel_rfl) rfl va w, fun w G β ω va hgn hωn hargs => ?_⟩
  rcases va with _ | ⟨v1, _ | ⟨v2, _ | ⟨v3, va⟩⟩⟩
  · exact hargs.elim
  · exact hargs.2.elim
  · obtain ⟨⟨rfl, hωb, hB⟩, hv2, _⟩ := hargs
    have hv2' := Rep.int_inv hv2
    subst hv2'
    have hlook := look_call hL l kk hgn hωn hωb hB
    have hbl : β 0 < w.heap.size := hωn _ (by rw [hωb]; simp)
    cases hi : isL l kk with
    | false =>
      rw [hi] at hlook
      refine (take_no (some ⟨β 0, 0, none⟩) kk w _ _ _ (fun w1 => ∃ G1 ω1, LookK w G ω (β 0) l w1 G1 ω1) hlook).mono ?_
      rintro e w' ⟨rfl, w1, ⟨hh, hlt⟩, ⟨G1, ω1, hev, hgn1, hωn1, hdom, ho0, hG0, hob, hB1⟩, rfl⟩
      generalize hf : getF l kk = f
      have s1 := set_new (w0 := w) (w := w1) (G := G1) (ω := ω) (h := w.heap.size) (i := 0) (v := .int .i64 f.1) (Nat.le_refl _) hG0
      have s2 := set_new (w0 := w) (w := w1.setCell ⟨w.heap.size, 0, none⟩ (.int .i64 f.1)) (G := G1) (ω := ω) (h := w.heap.size) (i := 1) (v := .int .i64 f.2.1) (Nat.le_refl _) hG0
      have s3 := set_new (w0 := w) (w := (w1.setCell ⟨w.heap.size, 0, none⟩ (.int .i64 f.1)).setCell ⟨w.heap.size, 1, none⟩ (.int .i64 f.2.1)) (G := G1) (ω := ω) (h := w.heap.size) (i := 2) (v := .string ⟨⟨f.2.2⟩⟩) (Nat.le_refl _) hG0
      have hsz3 : (((w1.setCell ⟨w.heap.size, 0, none⟩ (.int .i64 f.1)).setCell ⟨w.heap.size, 1, none⟩ (.int .i64 f.2.1)).setCell ⟨w.heap.size, 2, none⟩ (.string ⟨⟨f.2.2⟩⟩)).heap.size = w1.heap.size := by rw [setCell_size, setCell_size, setCell_size]
      have s4 := alloc0_evo (T := fun b' => w.heap.size ≤ b' ∨ ω b' ≠ none) (w := ((w1.setCell ⟨w.heap.size, 0, none⟩ (.int .i64 f.1)).setCell ⟨w.heap.size, 1, none⟩ (.int .i64 f.2.1)).setCell ⟨w.heap.size, 2, none⟩ (.string ⟨⟨f.2.2⟩⟩)) (G := G1) (.cells #[.int .i64 f.1, .int .i64 f.2.1, .string ⟨⟨f.2.2⟩⟩] 27) (fun b hb => hgn1 b (by rw [hsz3] at hb; exact hb))
      have same : ∀ b, b < w1.heap.size → b ≠ w.heap.size → ((((w1.setCell ⟨w.heap.size, 0, none⟩ (.int .i64 f.1)).setCell ⟨w.heap.size, 1, none⟩ (.int .i64 f.2.1)).setCell ⟨w.heap.size, 2, none⟩ (.string ⟨⟨f.2.2⟩⟩)).alloc (.cells #[.int .i64 f.1, .int .i64 f.2.1, .string ⟨⟨f.2.2⟩⟩] 27)).heap[b]? = w1.heap[b]? := fun b h1 h2 => by
        rw [Go.Lib.alloc_old _ _ _ (by rw [hsz3]; exact h1), setCell_other _ h2, setCell_other _ h2, setCell_other _ h2]
      have s123 := (s1.trans s2 (fun _ _ h => h)).trans s3 (fun _ _ h => h)
      have s1234 := s123.trans s4 (fun _ _ h => h)
      have ev := hev.trans s1234 (fun _ _ h => h)
      have htl : takeL l kk = l := by unfold takeL; rw [hi]; simp
      have hfsz : ((((w1.setCell ⟨w.heap.size, 0, none⟩ (.int .i64 f.1)).setCell ⟨w.heap.size, 1, none⟩ (.int .i64 f.2.1)).setCell ⟨w.heap.size, 2, none⟩ (.string ⟨⟨f.2.2⟩⟩)).alloc (.cells #[.int .i64 f.1, .int .i64 f.2.1, .string ⟨⟨f.2.2⟩⟩] 27)).heap.size = w1.heap.size + 1 := by
        rw [show ∀ (W : World) (o : Obj), (W.alloc o).heap.size = W.heap.size + 1 from fun W o => by simp, hsz3]
      rw [htl]
      refine ⟨_, G1, ω1, rfl, ev.wide, fun b hb => hgn1 b (by rw [hfsz] at hb; omega), fun b hb => by have := hωn1 b hb; rw [hfsz]; omega, hdom, ⟨⟨hob, ?_⟩, trivial⟩, rep_pair f false⟩
      exact hB1.mono s1234.ext (same _ (hωn1 _ (by rw [hob]; simp)) (by omega)) rfl (fun g i hg => ⟨same g (hωn1 g (by rw [hg]; simp)) (fun e => by rw [e, ho0] at hg; cases hg), rfl, hg⟩)
    | true =>
      obtain ⟨k, rfl, hk⟩ := isL_nat hi
      rw [hi] at hlook
      have hne : l ≠ [] := fun e => by rw [e] at hk; simp at hk
      generalize hf : getF l k = f at hlook ⊢
      have hl2 := hlook.mono (R' := fun e w1 => e = .returned (.tuple #[.agg #[.int .i64 f.1, .int .i64 f.2.1, .string ⟨⟨f.2.2⟩⟩], .bool true]) ∧ ∃ g cap, YesF w (β 0) l.length (fVals l) w1 g cap ∧ ∃ G1 ω1, LookK w G ω (β 0) l w1 G1 ω1) (by
        rintro e w1 ⟨rfl, ⟨hh, hlt⟩, G1, ω1, hK⟩
        obtain ⟨g, cap, hY⟩ := yes_of hh hlt hK.2.2.2.2.1 hK.2.2.2.2.2.2.1 hK.2.2.2.2.2.2.2 hne
        exact ⟨rfl, g, cap, hY, G1, ω1, hK⟩)
      have htk : takeL l (k : Int) = l.take k ++ l.drop (k + 1) := by unfold takeL; rw [if_pos hi]; simp
      have fin : ∀ (e : Ending) (w' : World), (e = .returned (.tuple #[.agg #[.int .i64 f.1, .int .i64 f.2.1, .string ⟨⟨f.2.2⟩⟩], .bool true]) ∧ ∃ w1 g cap W5, YesF w (β 0) l.length (fVals l) w1 g cap ∧ (∃ G1 ω1, LookK w G ω (β 0) l w1 G1 ω1) ∧ TookW w1 k (fVals l) W5 ∧ w' = (((W5.setCell ⟨β 0, 0, none⟩ (.slice (some ⟨w1.heap.size + 1, 0, none⟩) (l.length - 1) (l.length - 1))).setCell ⟨w.heap.size, 0, none⟩ (.int .i64 f.1)).setCell ⟨w.heap.size, 1, none⟩ (.int .i64 f.2.1)).setCell ⟨w.heap.size, 2, none⟩ (.string ⟨⟨f.2.2⟩⟩)) →
          ∃ v G' ω', e = .returned v ∧ Evo (fun b => ω b ≠ none) w G w' G' ∧ (∀ b, w'.heap.size ≤ b → G' b = 0) ∧ (∀ b, ω' b ≠ none → b < w'.heap.size) ∧ (∀ b, ω' b ≠ none → ω b ≠ none ∨ w.heap.size ≤ b) ∧
            OutsRep w' G' β ω' 0 [.r (netB l), .v (.int .i64 (k : Int))] [netB (takeL l k)] ∧ RVRep w' G' ω' 2 (.val (.tup [fP f, .bool true])) v := by
        rintro e w' ⟨rfl, w1, g, cap, W5, hY, ⟨G1, ω1, hev, hgn1, hωn1, hdom, ho0, hG0, hob, hB1⟩, hT, rfl⟩
        have hlt := hY.hlt
        have hb1 : β 0 < w1.heap.size := hωn1 _ (by rw [hob]; simp)
        let g1 := w1.heap.size + 1
        have ev5 : Evo (fun b' => w.heap.size ≤ b' ∨ ω b' ≠ none) w1 G1 W5 (upd G1 g1 ((l.length - 1) * 3)) := by
          refine ⟨hT.os, hT.tape, hT.output, by rw [hT.size]; omega, ⟨fun b => ?_, fun b off ho => ?_, fun b sh hs => ?_⟩, fun b hb _ => ⟨hT.old b hb, upd_ne _ _ _ _ (by show b ≠ w1.heap.size + 1; omega)⟩⟩
          · by_cases e : b = g1
            · subst e; rw [hgn1 _ (by show w1.heap.size ≤ w1.heap.size + 1; omega)]; exact Nat.zero_le _
            · rw [upd_ne _ _ _ _ e]; exact Nat.le_refl _
          · refine World.cell?_of_block (a := ⟨b, off, none⟩) (hT.old b ?_)
            rcases Nat.lt_or_ge b w1.heap.size with h | h
            · exact h
            · rw [hgn1 b h] at ho; omega
          · rw [shape_of_block (hT.old b (shape_lt hs))]; exact hs
        have hGb : upd G1 g1 ((l.length - 1) * 3) (β 0) = 0 := by
          rw [upd_ne _ _ _ _ (by show β 0 ≠ w1.heap.size + 1; omega)]
          obtain ⟨arr1, e1, _, _, hGb, _⟩ := hB1
          exact hGb
        have hGh : upd G1 g1 ((l.length - 1) * 3) w.heap.size = 0 := by rw [upd_ne _ _ _ _ (by show w.heap.size ≠ w1.heap.size + 1; omega)]; exact hG0
        have ev6 : Evo (fun b' => w.heap.size ≤ b' ∨ ω b' ≠ none) W5 (upd G1 g1 ((l.length - 1) * 3)) (W5.setCell ⟨β 0, 0, none⟩ (.slice (some ⟨w1.heap.size + 1, 0, none⟩) (l.length - 1) (l.length - 1))) (upd G1 g1 ((l.length - 1) * 3)) := setCell_evo (.inr (by rw [hωb]; simp)) hGb
        have ev7 := set_new (w0 := w) (w := W5.setCell ⟨β 0, 0, none⟩ (.slice (some ⟨w1.heap.size + 1, 0, none⟩) (l.length - 1) (l.length - 1))) (ω := ω) (h := w.heap.size) (i := 0) (v := .int .i64 f.1) (Nat.le_refl _) hGh
        have ev8 := set_new (w0 := w) (w := (W5.setCell ⟨β 0, 0, none⟩ (.slice (some ⟨w1.heap.size + 1, 0, none⟩) (l.length - 1) (l.length - 1))).setCell ⟨w.heap.size, 0, none⟩ (.int .i64 f.1)) (ω := ω) (h := w.heap.size) (i := 1) (v := .int .i64 f.2.1) (Nat.le_refl _) hGh
        have ev9 := set_new (w0 := w) (w := ((W5.setCell ⟨β 0, 0, none⟩ (.slice (some ⟨w1.heap.size + 1, 0, none⟩) (l.length - 1) (l.length - 1))).setCell ⟨w.heap.size, 0, none⟩ (.int .i64 f.1)).setCell ⟨w.heap.size, 1, none⟩ (.int .i64 f.2.1)) (ω := ω) (h := w.heap.size) (i := 2) (v := .string ⟨⟨f.2.2⟩⟩) (Nat.le_refl _) hGh
        have ev := ((((hev.trans ev5 (fun _ _ h => h)).trans ev6 (fun _ _ h => h)).trans ev7 (fun _ _ h => h)).trans ev8 (fun _ _ h => h)).trans ev9 (fun _ _ h => h)
        have hsz : ((((W5.setCell ⟨β 0, 0, none⟩ (.slice (some ⟨w1.heap.size + 1, 0, none⟩) (l.length - 1) (l.length - 1))).setCell ⟨w.heap.size, 0, none⟩ (.int .i64 f.1)).setCell ⟨w.heap.size, 1, none⟩ (.int .i64 f.2.1)).setCell ⟨w.heap.size, 2, none⟩ (.string ⟨⟨f.2.2⟩⟩)).heap.size = w1.heap.size + 2 := by rw [setCell_size, setCell_size, setCell_size, setCell_size, hT.size]
        obtain ⟨arr1, e1, hba, ⟨hsz1, _⟩, hG10, _⟩ := hB1
        simp only [Option.getD_none] at hba
        have h10 : 0 < arr1.size := hsz1
        obtain ⟨cur, hcur, hcl⟩ := hT.row
        have hbw : β 0 ≠ w.heap.size := by omega
        have hb5 : W5.heap[β 0]? = some (.cells arr1 e1 (0, 0)) := (hT.old _ hb1).trans hba
        have hb6 := heap_setCell_same W5 (β 0) 0 _ _ (.slice (some ⟨w1.heap.size + 1, 0, none⟩) (l.length - 1) (l.length - 1)) hb5
        have hlen' : (takeL l (k : Int)).length = l.length - 1 := by rw [htk]; simp; omega
        refine ⟨_, upd G1 g1 ((l.length - 1) * 3), upd ω1 g1 (some (.cell 0 0)), rfl, ev.wide, fun b hb => ?_, fun b hb => ?_, fun b hb => ?_, ⟨⟨?_, ?_⟩, trivial⟩, ?_⟩
        · rw [hsz] at hb
          rw [upd_ne _ _ _ _ (by show b ≠ w1.heap.size + 1; omega)]; exact hgn1 b (by omega)
        · rw [hsz]
          by_cases e : b = g1
          · subst e; show w1.heap.size + 1 < _; omega
          · rw [upd_ne _ _ _ _ e] at hb; have := hωn1 b hb; omega
        · by_cases e : b = g1
          · subst e; right; show w.heap.size ≤ w1.heap.size + 1; omega
          · rw [upd_ne _ _ _ _ e] at hb; exact hdom b hb
        · rw [upd_ne _ _ _ _ (by show β 0 ≠ w1.heap.size + 1; omega)]; exact hob
        · refine net_new (arr := arr1.setIfInBounds 0 (.slice (some ⟨w1.heap.size + 1, 0, none⟩) (l.length - 1) (l.length - 1))) (cur := cur) (e1 := e1) ?_ (by simp [h10]) hlen' (by omega) hG10 (by show β 0 ≠ w1.heap.size + 1; omega) ?_ ?_
          · rw [setCell_other _ hbw, setCell_other _ hbw, setCell_other _ hbw]; exact hb6
          · show _ = _
            have n1 : w1.heap.size + 1 ≠ w.heap.size := by omega
            have n2 : w1.heap.size + 1 ≠ β 0 := by omega
            rw [show g1 = w1.heap.size + 1 from rfl, setCell_other _ n1, setCell_other _ n1, setCell_other _ n1, setCell_other _ n2]; exact hcur
          · rw [hcl, htk, fVals_app, fVals_take, fVals_drop]
        · exact rep_pair f true
      by_cases hA : k < l.length - 1
      · exact (take_yes (β 0) k l.length (fVals l) w _ _ _ _ hl2 hbl hk hl (fVals_len l) (fVals_one l) hA).mono fin
      · exact (take_last (β 0) k l.length (fVals l) w _ _ _ _ hl2 hbl hk hl (fVals_len l) (fVals_one l) (by omega)).mono fin
  · exact hargs.2.2.elim
end Go.AR

/-! Nets: Take and Spoil of none. -/
namespace Go.AR
open Go Go.Proofs Go.Shelf Go.RowKit Go.Lib
set_option maxHeartbeats 1000000 in
set_option maxRecDepth 100000 in
theorem spoil_nil (kk xx : Int) (w : World) (x y : Int) (s : ByteArray) (Q : World → Prop)
   (hl : Calls Try.prog 13 #[.pointer none, .int .i64 kk] w fun e w1 => e = .returned (.tuple #[.agg #[.int .i64 x, .int .i64 y, .string s], .bool false]) ∧ Q w1) :
    Calls Try.prog 9 #[.pointer none, .int .i64 kk, .int .i64 xx] w fun e w' => e = .returned (.int .i64 1) ∧ ∃ w1, Q w1 ∧ w' = w1.alloc (.cells #[.int .i64 x, .int .i64 y, .string s] 27) := by
  go_enter Try.func9, Try.ntmps9
  go_wp2_with fail
  refine hl.mono ?_
  clear hl
  rintro e w1 ⟨rfl, hQ⟩
  go_wp2_with fail
  go_ret
  exact ⟨rfl, w1, hQ, rfl⟩
/-- What a Look of none leaves. -/
def Look0K (w : World) (G : Nat → Nat) (ω : Nat → Option Occ) (w1 : World) (G1 : Nat → Nat) (ω1 : Nat → Option Occ) : Prop :=
  Evo (fun b' => ω b' ≠ none) w G w1 G1 ∧ (∀ b', w1.heap.size ≤ b' → G1 b' = 0) ∧ (∀ b', ω1 b' ≠ none → b' < w1.heap.size) ∧ (∀ b', ω1 b' ≠ none → ω b' ≠ none ∨ w.heap.size ≤ b')
theorem look0_call {w : World} {G β : Nat → Nat} {ω : Nat → Option Occ} (hL : S_nLook0 (ACall Try.prog 13)) (kk : Int) (hgn : ∀ b, w.heap.size ≤ b → G b = 0) (hωn : ∀ b, ω b ≠ none → b < w.heap.size) :
    Calls Try.prog 13 #[.pointer none, .int .i64 kk] w fun e w1 => e = .returned (.tuple #[.agg #[.int .i64 0, .int .i64 0, .string ⟨⟨[]⟩⟩], .bool false]) ∧ ∃ G1 ω1, Look0K w G ω w1 G1 ω1 := by
  have hc := (hL kk).2 w G β ω [.pointer none, .int .i64 kk] hgn hωn ⟨.nilp, .int _ _, trivial⟩
  refine hc.mono ?_
  rintro e w1 ⟨v, G1, ω1, rfl, hev, hgn1, hωn1, hdom, _, hrv⟩
  have hv := pair_rep hrv
  subst hv
  exact ⟨rfl, G1, ω1, hev, hgn1, hωn1, hdom⟩
theorem acall_Spoil0 (hL : S_nLook0 (ACall Try.prog 13)) : S_nSpoil0 (ACall Try.prog 9) := by
  intro kk xx
  refine ⟨fun va w => enters_of Try.func9 (by kernel_rfl) rfl va w, fun w G β ω va hgn hωn hargs => ?_⟩
  rcases va with _ | ⟨v1, _ | ⟨v2, _ | ⟨v3, _ | ⟨v4, va⟩⟩⟩⟩
  · exact hargs.elim
  · exact hargs.2.elim
  · exact hargs.2.2.elim
  · obtain ⟨hv1, hv2, hv3, _⟩ := hargs
    have e1 := Rep.nilp_inv hv1
    have e2 := Rep.int_inv hv2
    have e3 := Rep.int_inv hv3
    subst e1 e2 e3
    refine (spoil_nil kk xx w 0 0 ⟨⟨[]⟩⟩ (fun w1 => ∃ G1 ω1, Look0K w G ω w1 G1 ω1) (look0_call (β := β) hL kk hgn hωn)).mono ?_
    rintro e w' ⟨rfl, w1, ⟨G1, ω1, hev, hgn1, hωn1, hdom⟩, rfl⟩
    have ev := hev.trans (alloc0_evo (T := fun b' => ω b' ≠ none) (.cells #[.int .i64 0, .int .i64 0, .string ⟨⟨[]⟩⟩] 27) hgn1) (fun _ _ h => h)
    have hsz : (w1.alloc (.cells #[.int .i64 0, .int .i64 0, .string ⟨⟨[]⟩⟩] 27)).heap.size = w1.heap.size + 1 := by simp
    exact ⟨_, G1, ω1, rfl, ev, fun b hb => hgn1 b (by omega), fun b hb => by have := hωn1 b hb; omega, hdom, trivial, .int _ _⟩
  · exact hargs.2.2.2.elim
def S_nTake0' (R : ARel) : Prop := ∀ k, R [.v .nilp, .v (.int .i64 k)] (.val (.tup [fP zf, .bool false])) []
theorem acall_Take0 (hL : S_nLook0 (ACall Try.prog 13)) : S_nTake0' (ACall Try.prog 10) := by
  intro kk
  refine ⟨fun va w => enters_of Try.func10 (by kernel_rfl) rfl va w, fun w G β ω va hgn hωn hargs => ?_⟩
  rcases va with _ | ⟨v1, _ | ⟨v2, _ | ⟨v3, va⟩⟩⟩
  · exact hargs.elim
  · exact hargs.2.elim
  · obtain ⟨hv1, hv2, _⟩ := hargs
    have e1 := Rep.nilp_inv hv1
    have e2 := Rep.int_inv hv2
    subst e1 e2
    have hsz0 : (w.alloc zObj).heap.size = w.heap.size + 1 := by simp
    have hω0 : ω w.heap.size = none := by
      cases h : ω w.heap.size with
      | none => rfl
      | some _ => have := hωn w.heap.size (by rw [h]; simp); omega
    have ev0 : Evo (fun b' => w.heap.size ≤ b' ∨ ω b' ≠ none) w G (w.alloc zObj) G := alloc0_evo zObj hgn
    have hlook := (look0_call (w := w.alloc zObj) (G := G) (β := β) (ω := ω) hL kk (fun b hb => hgn b (by omega)) (fun b hb => by have := hωn b hb; omega)).mono (R' := fun e w1 => e = .returned (.tuple #[.agg #[.int .i64 0, .int .i64 0, .string ⟨⟨[]⟩⟩], .bool false]) ∧ (w1.heap[w.heap.size]? = some (.cells #[.int .i64 0, .int .i64 0, .string ⟨#[]⟩] 27 (0, 0)) ∧ w.heap.size < w1.heap.size) ∧ ∃ G1 ω1, Look0K (w.alloc zObj) G ω w1 G1 ω1 ∧ G1 w.heap.size = 0) (by
      rintro e w1 ⟨rfl, G1, ω1, hev, hgn1, hωn1, hdom⟩
      obtain ⟨hk1, hk2⟩ := hev.block w.heap.size (by omega) (fun h => h hω0)
      have hnew : (w.alloc zObj).heap[w.heap.size]? = some zObj := heap_alloc_new w zObj
      exact ⟨rfl, ⟨by rw [hk1, hnew]; rfl, by have := hev.size; omega⟩, G1, ω1, ⟨hev, hgn1, hωn1, hdom⟩, by rw [hk2]; exact hgn _ (Nat.le_refl _)⟩)
    refine (take_no none kk w 0 0 ⟨⟨[]⟩⟩ (fun w1 => ∃ G1 ω1, Look0K (w.alloc zObj) G ω w1 G1 ω1 ∧ G1 w.heap.size = 0) hlook).mono ?_
    rintro e w' ⟨rfl, w1, ⟨hh, hlt⟩, ⟨G1, ω1, ⟨hev, hgn1, hωn1, hdom⟩, hG0⟩, rfl⟩
    have s1 := set_new (w0 := w) (w := w1) (G := G1) (ω := ω) (h := w.heap.size) (i := 0) (v := .int .i64 0) (Nat.le_refl _) hG0
    have s2 := set_new (w0 := w) (w := w1.setCell ⟨w.heap.size, 0, none⟩ (.int .i64 0)) (G := G1) (ω := ω) (h := w.heap.size) (i := 1) (v := .int .i64 0) (Nat.le_refl _) hG0
    have s3 := set_new (w0 := w) (w := (w1.setCell ⟨w.heap.size, 0, none⟩ (.int .i64 0)).setCell ⟨w.heap.size, 1, none⟩ (.int .i64 0)) (G := G1) (ω := ω) (h := w.heap.size) (i := 2) (v := .string ⟨⟨[]⟩⟩) (Nat.le_refl _) hG0
    have hsz3 : (((w1.setCell ⟨w.heap.size, 0, none⟩ (.int .i64 0)).setCell ⟨w.heap.size, 1, none⟩ (.int .i64 0)).setCell ⟨w.heap.size, 2, none⟩ (.string ⟨⟨[]⟩⟩)).heap.size = w1.heap.size := by rw [setCell_size, setCell_size, setCell_size]
    have s4 := alloc0_evo (T := fun b' => w.heap.size ≤ b' ∨ ω b' ≠ none) (w := ((w1.setCell ⟨w.heap.size, 0, none⟩ (.int .i64 0)).setCell ⟨w.heap.size, 1, none⟩ (.int .i64 0)).setCell ⟨w.heap.size, 2, none⟩ (.string ⟨⟨[]⟩⟩)) (G := G1) (.cells #[.int .i64 0, .int .i64 0, .string ⟨⟨[]⟩⟩] 27) (fun b hb => hgn1 b (by rw [hsz3] at hb; exact hb))
    have ev := (ev0.trans (T := fun b' => w.heap.size ≤ b' ∨ ω b' ≠ none) (T' := fun b' => ω b' ≠ none) hev (fun b _ h => .inr h)).trans (((s1.trans s2 (fun _ _ h => h)).trans s3 (fun _ _ h => h)).trans s4 (fun _ _ h => h)) (fun _ _ h => h)
    have hfsz : ((((w1.setCell ⟨w.heap.size, 0, none⟩ (.int .i64 0)).setCell ⟨w.heap.size, 1, none⟩ (.int .i64 0)).setCell ⟨w.heap.size, 2, none⟩ (.string ⟨⟨[]⟩⟩)).alloc (.cells #[.int .i64 0, .int .i64 0, .string ⟨⟨[]⟩⟩] 27)).heap.size = w1.heap.size + 1 := by
      rw [show ∀ (W : World) (o : Obj), (W.alloc o).heap.size = W.heap.size + 1 from fun W o => by simp, hsz3]
    exact ⟨_, G1, ω1, rfl, ev.wide, fun b hb => hgn1 b (by rw [hfsz] at hb; omega), fun b hb => by have := hωn1 b hb; rw [hfsz]; omega, fun b hb => by
      rcases hdom b hb with h | h
      · exact .inl h
      · exact .inr (by omega), trivial, rep_pair zf false⟩
  · exact hargs.2.2.elim
end Go.AR
