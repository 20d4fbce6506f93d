import Derived.Test.YtlhahjlnhkokcaaG28
import Derived.Test.YtlhahjlnhkokcaaG31
import Derived.Test.YtlhahjlnhkokcaaG09
import Derived.Test.YtlhahjlnhkokcaaChecked
import Derived.WalkKit
import Derived.Handy
import Derived.Lib.ConvBytes
set_option linter.all false
/-! Nets: Take, for the abstract machine. -/
namespace Go.AR
open Go Go.Proofs Go.Shelf Go.RowKit
/-- What Look leaves. -/
def LookK (w : World) (G : Nat → Nat) (ω : Nat → Option Occ) (b : Nat) (l : List Fl) (w1 : World) (G1 : Nat → Nat) (ω1 : Nat → Option Occ) : Prop :=
  Evo (fun b' => w.heap.size ≤ b' ∨ ω b' ≠ none) w G w1 G1 ∧ (∀ b', w1.heap.size ≤ b' → G1 b' = 0) ∧ (∀ b', ω1 b' ≠ none → b' < w1.heap.size) ∧ (∀ b', ω1 b' ≠ none → ω b' ≠ none ∨ w.heap.size ≤ b') ∧
    ω1 w.heap.size = none ∧ G1 w.heap.size = 0 ∧ ω1 b = some (.blk 0) ∧ BRep w1 G1 ω1 b 0 (netB l)
def zObj : Obj := .cells #[.int .i64 0, .int .i64 0, .string ⟨#[]⟩] 27
theorem Evo.wide {w : World} {G : Nat → Nat} {w' : World} {G' : Nat → Nat} {ω : Nat → Option Occ} (h : Evo (fun b' => w.heap.size ≤ b' ∨ ω b' ≠ none) w G w' G') : Evo (fun b' => ω b' ≠ none) w G w' G' :=
  ⟨h.os, h.tape, h.output, h.size, h.ext, fun b hb ht => h.block b hb (fun k => k.elim (fun k => by omega) ht)⟩
theorem alloc0_evo {T : Nat → Prop} {w : World} {G : Nat → Nat} (o : Obj) (hgn : ∀ b, w.heap.size ≤ b → G b = 0) : Evo T w G (w.alloc o) G := by
  have := alloc_evo (T := T) (w := w) (G := G) o 0 hgn
  have hG' : upd G w.heap.size 0 = G := by
    funext b
    by_cases e : b = w.heap.size
    · rw [e, upd_eq]; exact (hgn _ (Nat.le_refl _)).symm
    · rw [upd_ne _ _ _ _ e]
  rwa [hG'] at this
/-- Look, called behind a new block. -/
theorem look_call {w : World} {G β : Nat → Nat} {ω : Nat → Option Occ} (hL : S_nLook (ACall Try.prog 13)) (l : List Fl) (kk : Int) (hgn : ∀ b, w.heap.size ≤ b → G b = 0) (hωn : ∀ b, ω b ≠ none → b < w.heap.size) (hωb : ω (β 0) = some (.blk 0)) (hB : BRep w G ω (β 0) 0 (netB l)) :
    Calls Try.prog 13 #[.pointer (some ⟨β 0, 0, none⟩), .int .i64 kk] (w.alloc zObj) fun e w1 => e = .returned (.tuple #[.agg #[.int .i64 (getF l kk).1, .int .i64 (getF l kk).2.1, .string ⟨⟨(getF l kk).2.2⟩⟩], .bool (isL l kk)]) ∧
      (w1.heap[w.heap.size]? = some (.cells #[.int .i64 0, .int .i64 0, .string ⟨#[]⟩] 27 (0, 0)) ∧ w.heap.size < w1.heap.size) ∧ ∃ G1 ω1, LookK w G ω (β 0) l w1 G1 ω1 := by
  have hsz : (w.alloc zObj).heap.size = w.heap.size + 1 := by simp
  have hbl : β 0 < w.heap.size := hωn _ (by rw [hωb]; simp)
  have ev0 : Evo (fun b' => w.heap.size ≤ b' ∨ ω b' ≠ none) w G (w.alloc zObj) G := alloc0_evo zObj hgn
  have hB0 : BRep (w.alloc zObj) G ω (β 0) 0 (netB l) := hB.mono ev0.ext (Go.Lib.alloc_old w zObj _ hbl) rfl (fun g i hg => ⟨Go.Lib.alloc_old w zObj _ (hωn g (by rw [hg]; simp)), rfl, hg⟩)
  have hnew : (w.alloc zObj).heap[w.heap.size]? = some zObj := heap_alloc_new w zObj
  have hω0 : ω w.heap.size = none := by
    cases h : ω w.heap.size with
    | none => rfl
    | some _ => have := hωn w.heap.size (by rw [h]; simp); omega
  have hc := (hL l kk).2 (w.alloc zObj) G β ω [.pointer (some ⟨β 0, 0, none⟩), .int .i64 kk] (fun b hb => hgn b (by omega)) (fun b hb => by have := hωn b hb; omega) ⟨⟨rfl, hωb, hB0⟩, .int _ _, trivial⟩
  refine hc.mono ?_
  rintro e w1 ⟨v, G1, ω1, rfl, hev, hgn1, hωn1, hdom, hout, hrv⟩
  have hv := pair_rep hrv
  subst hv
  obtain ⟨⟨ho1, ho2⟩, _⟩ := hout
  obtain ⟨hk1, hk2⟩ := hev.block w.heap.size (by omega) (fun h => h hω0)
  refine ⟨rfl, ⟨by rw [hk1, hnew]; rfl, by have := hev.size; omega⟩, G1, ω1, ?_, hgn1, hωn1, fun b hb => ?_, ?_, ?_, ho1, ho2⟩
  · exact ev0.trans (T := fun b' => w.heap.size ≤ b' ∨ ω b' ≠ none) (T' := fun b' => ω b' ≠ none) hev (fun b _ h => .inr h)
  · rcases hdom b hb with h | h
    · exact .inl h
    · exact .inr (by omega)
  · cases h : ω1 w.heap.size with
    | none => rfl
    | some _ =>
      rcases hdom w.heap.size (by rw [h]; simp) with k | k
      · exact absurd hω0 k
      · omega
  · rw [hk2]; exact hgn _ (Nat.le_refl _)
/-- A cell of a block that is new to the caller. -/
theorem set_new {w0 w : World} {G : Nat → Nat} {ω : Nat → Option Occ} {h i : Nat} {v : Value} (hh : w0.heap.size ≤ h) (hG : G h = 0) : Evo (fun b' => w0.heap.size ≤ b' ∨ ω b' ≠ none) w G (w.setCell ⟨h, i, none⟩ v) G := setCell_evo (.inl hh) hG
theorem setCell_size (w : World) (a : Addr) (v : Value) : (w.setCell a v).heap.size = w.heap.size := by simp [World.setCell]
/-- A net's row, that is not empty, in the world. -/
theorem yes_of {w w1 : World} {G1 : Nat → Nat} {ω1 : Nat → Option Occ} {b : Nat} {l : List Fl} (hh : w1.heap[w.heap.size]? = some (.cells #[.int .i64 0, .int .i64 0, .string ⟨#[]⟩] 27 (0, 0))) (hlt : w.heap.size < w1.heap.size) (ho0 : ω1 w.heap.size = none) (hob : ω1 b = some (.blk 0)) (hB1 : BRep w1 G1 ω1 b 0 (netB l)) (hne : l ≠ []) :
    ∃ g cap, YesF w b l.length (fVals l) w1 g cap := by
  obtain ⟨arr1, e1, hb1, ⟨hsz, _⟩, hGb, hcell⟩ := hB1
  simp only [Option.getD_none] at hb1
  have h0 : 0 < arr1.size := hsz
  obtain ⟨e', xs, ho, hc, hxl, hxr, h1, hgow⟩ := hcell 0 (.own 3 (fRows l)) arr1[0] rfl (by simp [h0])
  rcases ho.2 with ⟨_, hz⟩ | ⟨g, cap, cur, hv, _, hhg, hcap, hcm, hcsz, htk⟩
  · rw [fRows_len] at hz; exact absurd (List.eq_nil_of_length_eq_zero hz) hne
  · have hxs : xs = fVals l := fVals_of l xs hxl hxr
    subst hxs
    obtain ⟨hωg, hGg⟩ := hgow g (by rw [hv]; rfl)
    have hgl : g < w1.heap.size := by
      rcases Nat.lt_or_ge g w1.heap.size with h | h
      · exact h
      · rw [Array.getElem?_eq_none h] at hhg; cases hhg
    refine ⟨g, cap, ⟨hh, hlt, ?_, Lib.frozen_of_heap hb1 0, hgl, fun e => (by rw [e, hob] at hωg; cases hωg), (by rw [fRows_len] at hcap; exact hcap), (by unfold maxLen at hcm; omega), fun j v hj => ?_, fun e => (by rw [e, ho0] at hωg; cases hωg)⟩⟩
    · rw [Lib.cell_of_heap hb1 0, Array.getElem?_eq_getElem h0, hv, fRows_len]
    · rw [Lib.cell_of_heap hhg j, ← Array.getElem?_toList]
      rw [← htk, List.getElem?_take] at hj
      split at hj
      · exact hj
      · cases hj
/-- A net whose row is a new one. -/
theorem net_new {w' : World} {G1 : Nat → Nat} {ω1 : Nat → Option Occ} {b g1 n : Nat} {l' : List Fl} {arr cur : Array Value} {e1 : TypeId} (hb : w'.heap[b]? = some (.cells arr e1 (0, 0))) (h0 : arr[0]? = some (.slice (some ⟨g1, 0, none⟩) n n)) (hn : l'.length = n) (hnm : n ≤ 200) (hGb : G1 b = 0) (hne : b ≠ g1) (hg : w'.heap[g1]? = some (.cells cur 27 (0, 0))) (hcur : cur.toList = fVals l') :
    BRep w' (upd G1 g1 (n * 3)) (upd ω1 g1 (some (.cell 0 0))) b 0 (netB l') := by
  refine ⟨arr, e1, hb, ⟨?_, fun h => absurd rfl h⟩, by rw [upd_ne _ _ _ _ hne]; exact hGb, fun i t x ht hx => ?_⟩
  · have := (Array.getElem?_eq_some_iff.1 h0).1
    simp only [List.length_singleton]; omega
  · cases i with
    | succ i => simp at ht
    | zero =>
      simp at ht; subst ht
      rw [h0] at hx; cases hx
      have hcs : cur.size = n * 3 := by rw [← Array.length_toList, hcur, fVals_len, hn]
      refine ⟨27, fVals l', ⟨by rw [fVals_len, fRows_len], .inr ⟨g1, n, cur, by rw [fRows_len, hn], Nat.zero_le _, hg, by rw [fRows_len, hn]; exact Nat.le_refl _, by unfold maxLen; omega, hcs, by rw [hcur, fRows_len, List.take_of_length_le (by rw [fVals_len]; exact Nat.le_refl _)]⟩⟩, fRows_c l', by rw [fRows_flat', fVals_len], fun j p x hp hx => fVals_rep l' j p x hp hx, fRows_one l', fun g hg' => ?_⟩
      simp [Value.ownBlock] at hg'
      subst hg'
      exact ⟨upd_eq _ _ _, by rw [upd_eq, fRows_flat', hn]⟩
theorem acall_Take (hL : S_nLook (ACall Try.prog 13)) : S_nTake (ACall Try.prog 10) := by
  intro l kk hl
  refine ⟨fun va w => enters_of Try.func10 (by kernel_rfl) rfl va w, fun w G β ω va hgn hωn hargs => ?_⟩
  rcases va with _ | ⟨v1, _ | ⟨v2, _ | ⟨v3, va⟩⟩⟩
  · exact hargs.elim
  · exact hargs.2.elim
  · obtain ⟨⟨rfl, hωb, hB⟩, hv2, _⟩ := hargs
    have hv2' := Rep.int_inv hv2
    subst hv2'
    have hlook := look_call hL l kk hgn hωn hωb hB
    have hbl : β 0 < w.heap.size := hωn _ (by rw [hωb]; simp)
    cases hi : isL l kk with
    | false =>
      rw [hi] at hlook
      refine (take_no (some ⟨β 0, 0, none⟩) kk w _ _ _ (fun w1 => ∃ G1 ω1, LookK w G ω (β 0) l w1 G1 ω1) hlook).mono ?_
      rintro e w' ⟨rfl, w1, ⟨hh, hlt⟩, ⟨G1, ω1, hev, hgn1, hωn1, hdom, ho0, hG0, hob, hB1⟩, rfl⟩
      generalize hf : getF l kk = f
      have s1 := set_new (w0 := w) (w := w1) (G := G1) (ω := ω) (h := w.heap.size) (i := 0) (v := .int .i64 f.1) (Nat.le_refl _) hG0
      have s2 := set_new (w0 := w) (w := w1.setCell ⟨w.heap.size, 0, none⟩ (.int .i64 f.1)) (G := G1) (ω := ω) (h := w.heap.size) (i := 1) (v := .int .i64 f.2.1) (Nat.le_refl _) hG0
      have s3 := set_new (w0 := w) (w := (w1.setCell ⟨w.heap.size, 0, none⟩ (.int .i64 f.1)).setCell ⟨w.heap.size, 1, none⟩ (.int .i64 f.2.1)) (G := G1) (ω := ω) (h := w.heap.size) (i := 2) (v := .string ⟨⟨f.2.2⟩⟩) (Nat.le_refl _) hG0
      have hsz3 : (((w1.setCell ⟨w.heap.size, 0, none⟩ (.int .i64 f.1)).setCell ⟨w.heap.size, 1, none⟩ (.int .i64 f.2.1)).setCell ⟨w.heap.size, 2, none⟩ (.string ⟨⟨f.2.2⟩⟩)).heap.size = w1.heap.size := by rw [setCell_size, setCell_size, setCell_size]
      have s4 := alloc0_evo (T := fun b' => w.heap.size ≤ b' ∨ ω b' ≠ none) (w := ((w1.setCell ⟨w.heap.size, 0, none⟩ (.int .i64 f.1)).setCell ⟨w.heap.size, 1, none⟩ (.int .i64 f.2.1)).setCell ⟨w.heap.size, 2, none⟩ (.string ⟨⟨f.2.2⟩⟩)) (G := G1) (.cells #[.int .i64 f.1, .int .i64 f.2.1, .string ⟨⟨f.2.2⟩⟩] 27) (fun b hb => hgn1 b (by rw [hsz3] at hb; exact hb))
      have same : ∀ b, b < w1.heap.size → b ≠ w.heap.size → ((((w1.setCell ⟨w.heap.size, 0, none⟩ (.int .i64 f.1)).setCell ⟨w.heap.size, 1, none⟩ (.int .i64 f.2.1)).setCell ⟨w.heap.size, 2, none⟩ (.string ⟨⟨f.2.2⟩⟩)).alloc (.cells #[.int .i64 f.1, .int .i64 f.2.1, .string ⟨⟨f.2.2⟩⟩] 27)).heap[b]? = w1.heap[b]? := fun b h1 h2 => by
        rw [Go.Lib.alloc_old _ _ _ (by rw [hsz3]; exact h1), setCell_other _ h2, setCell_other _ h2, setCell_other _ h2]
      have s123 := (s1.trans s2 (fun _ _ h => h)).trans s3 (fun _ _ h => h)
      have s1234 := s123.trans s4 (fun _ _ h => h)
      have ev := hev.trans s1234 (fun _ _ h => h)
      have htl : takeL l kk = l := by unfold takeL; rw [hi]; simp
      have hfsz : ((((w1.setCell ⟨w.heap.size, 0, none⟩ (.int .i64 f.1)).setCell ⟨w.heap.size, 1, none⟩ (.int .i64 f.2.1)).setCell ⟨w.heap.size, 2, none⟩ (.string ⟨⟨f.2.2⟩⟩)).alloc (.cells #[.int .i64 f.1, .int .i64 f.2.1, .string ⟨⟨f.2.2⟩⟩] 27)).heap.size = w1.heap.size + 1 := by
        rw [show ∀ (W : World) (o : Obj), (W.alloc o).heap.size = W.heap.size + 1 from fun W o => by simp, hsz3]
      rw [htl]
      refine ⟨_, G1, ω1, rfl, ev.wide, fun b hb => hgn1 b (by rw [hfsz] at hb; omega), fun b hb => by have := hωn1 b hb; rw [hfsz]; omega, hdom, ⟨⟨hob, ?_⟩, trivial⟩, rep_pair f false⟩
      exact hB1.mono s1234.ext (same _ (hωn1 _ (by rw [hob]; simp)) (by omega)) rfl (fun g i hg => ⟨same g (hωn1 g (by rw [hg]; simp)) (fun e => by rw [e, ho0] at hg; cases hg), rfl, hg⟩)
    | true =>
      obtain ⟨k, rfl, hk⟩ := isL_nat hi
      rw [hi] at hlook
      have hne : l ≠ [] := fun e => by rw [e] at hk; simp at hk
      generalize hf : getF l k = f at hlook ⊢
      have hl2 := hlook.mono (R' := fun e w1 => e = .returned (.tuple #[.agg #[.int .i64 f.1, .int .i64 f.2.1, .string ⟨⟨f.2.2⟩⟩], .bool true]) ∧ ∃ g cap, YesF w (β 0) l.length (fVals l) w1 g cap ∧ ∃ G1 ω1, LookK w G ω (β 0) l w1 G1 ω1) (by
        rintro e w1 ⟨rfl, ⟨hh, hlt⟩, G1, ω1, hK⟩
        obtain ⟨g, cap, hY⟩ := yes_of hh hlt hK.2.2.2.2.1 hK.2.2.2.2.2.2.1 hK.2.2.2.2.2.2.2 hne
        exact ⟨rfl, g, cap, hY, G1, ω1, hK⟩)
      have htk : takeL l (k : Int) = l.take k ++ l.drop (k + 1) := by unfold takeL; rw [if_pos hi]; simp
      have fin : ∀ (e : Ending) (w' : World), (e = .returned (.tuple #[.agg #[.int .i64 f.1, .int .i64 f.2.1, .string ⟨⟨f.2.2⟩⟩], .bool true]) ∧ ∃ w1 g cap W5, YesF w (β 0) l.length (fVals l) w1 g cap ∧ (∃ G1 ω1, LookK w G ω (β 0) l w1 G1 ω1) ∧ TookW w1 k (fVals l) W5 ∧ w' = (((W5.setCell ⟨β 0, 0, none⟩ (.slice (some ⟨w1.heap.size + 1, 0, none⟩) (l.length - 1) (l.length - 1))).setCell ⟨w.heap.size, 0, none⟩ (.int .i64 f.1)).setCell ⟨w.heap.size, 1, none⟩ (.int .i64 f.2.1)).setCell ⟨w.heap.size, 2, none⟩ (.string ⟨⟨f.2.2⟩⟩)) →
          ∃ v G' ω', e = .returned v ∧ Evo (fun b => ω b ≠ none) w G w' G' ∧ (∀ b, w'.heap.size ≤ b → G' b = 0) ∧ (∀ b, ω' b ≠ none → b < w'.heap.size) ∧ (∀ b, ω' b ≠ none → ω b ≠ none ∨ w.heap.size ≤ b) ∧
            OutsRep w' G' β ω' 0 [.r (netB l), .v (.int .i64 (k : Int))] [netB (takeL l k)] ∧ RVRep w' G' ω' 2 (.val (.tup [fP f, .bool true])) v := by
        rintro e w' ⟨rfl, w1, g, cap, W5, hY, ⟨G1, ω1, hev, hgn1, hωn1, hdom, ho0, hG0, hob, hB1⟩, hT, rfl⟩
        have hlt := hY.hlt
        have hb1 : β 0 < w1.heap.size := hωn1 _ (by rw [hob]; simp)
        let g1 := w1.heap.size + 1
        have ev5 : Evo (fun b' => w.heap.size ≤ b' ∨ ω b' ≠ none) w1 G1 W5 (upd G1 g1 ((l.length - 1) * 3)) := by
          refine ⟨hT.os, hT.tape, hT.output, by rw [hT.size]; omega, ⟨fun b => ?_, fun b off ho => ?_, fun b sh hs => ?_⟩, fun b hb _ => ⟨hT.old b hb, upd_ne _ _ _ _ (by show b ≠ w1.heap.size + 1; omega)⟩⟩
          · by_cases e : b = g1
            · subst e; rw [hgn1 _ (by show w1.heap.size ≤ w1.heap.size + 1; omega)]; exact Nat.zero_le _
            · rw [upd_ne _ _ _ _ e]; exact Nat.le_refl _
          · refine World.cell?_of_block (a := ⟨b, off, none⟩) (hT.old b ?_)
            rcases Nat.lt_or_ge b w1.heap.size with h | h
            · exact h
            · rw [hgn1 b h] at ho; omega
          · rw [shape_of_block (hT.old b (shape_lt hs))]; exact hs
        have hGb : upd G1 g1 ((l.length - 1) * 3) (β 0) = 0 := by
          rw [upd_ne _ _ _ _ (by show β 0 ≠ w1.heap.size + 1; omega)]
          obtain ⟨arr1, e1, _, _, hGb, _⟩ := hB1
          exact hGb
        have hGh : upd G1 g1 ((l.length - 1) * 3) w.heap.size = 0 := by rw [upd_ne _ _ _ _ (by show w.heap.size ≠ w1.heap.size + 1; omega)]; exact hG0
        have ev6 : Evo (fun b' => w.heap.size ≤ b' ∨ ω b' ≠ none) W5 (upd G1 g1 ((l.length - 1) * 3)) (W5.setCell ⟨β 0, 0, none⟩ (.slice (some ⟨w1.heap.size + 1, 0, none⟩) (l.length - 1) (l.length - 1))) (upd G1 g1 ((l.length - 1) * 3)) := setCell_evo (.inr (by rw [hωb]; simp)) hGb
        have ev7 := set_new (w0 := w) (w := W5.setCell ⟨β 0, 0, none⟩ (.slice (some ⟨w1.heap.size + 1, 0, none⟩) (l.length - 1) (l.length - 1))) (ω := ω) (h := w.heap.size) (i := 0) (v := .int .i64 f.1) (Nat.le_refl _) hGh
        have ev8 := set_new (w0 := w) (w := (W5.setCell ⟨β 0, 0, none⟩ (.slice (some ⟨w1.heap.size + 1, 0, none⟩) (l.length - 1) (l.length - 1))).setCell ⟨w.heap.size, 0, none⟩ (.int .i64 f.1)) (ω := ω) (h := w.heap.size) (i := 1) (v := .int .i64 f.2.1) (Nat.le_refl _) hGh
        have ev9 := set_new (w0 := w) (w := ((W5.setCell ⟨β 0, 0, none⟩ (.slice (some ⟨w1.heap.size + 1, 0, none⟩) (l.length - 1) (l.length - 1))).setCell ⟨w.heap.size, 0, none⟩ (.int .i64 f.1)).setCell ⟨w.heap.size, 1, none⟩ (.int .i64 f.2.1)) (ω := ω) (h := w.heap.size) (i := 2) (v := .string ⟨⟨f.2.2⟩⟩) (Nat.le_refl _) hGh
        have ev := ((((hev.trans ev5 (fun _ _ h => h)).trans ev6 (fun _ _ h => h)).trans ev7 (fun _ _ h => h)).trans ev8 (fun _ _ h => h)).trans ev9 (fun _ _ h => h)
        have hsz : ((((W5.setCell ⟨β 0, 0, none⟩ (.slice (some ⟨w1.heap.size + 1, 0, none⟩) (l.length - 1) (l.length - 1))).setCell ⟨w.heap.size, 0, none⟩ (.int .i64 f.1)).setCell ⟨w.heap.size, 1, none⟩ (.int .i64 f.2.1)).setCell ⟨w.heap.size, 2, none⟩ (.string ⟨⟨f.2.2⟩⟩)).heap.size = w1.heap.size + 2 := by rw [setCell_size, setCell_size, setCell_size, setCell_size, hT.size]
        obtain ⟨arr1, e1, hba, ⟨hsz1, _⟩, hG10, _⟩ := hB1
        simp only [Option.getD_none] at hba
        have h10 : 0 < arr1.size := hsz1
        obtain ⟨cur, hcur, hcl⟩ := hT.row
        have hbw : β 0 ≠ w.heap.size := by omega
        have hb5 : W5.heap[β 0]? = some (.cells arr1 e1 (0, 0)) := (hT.old _ hb1).trans hba
        have hb6 := heap_setCell_same W5 (β 0) 0 _ _ (.slice (some ⟨w1.heap.size + 1, 0, none⟩) (l.length - 1) (l.length - 1)) hb5
        have hlen' : (takeL l (k : Int)).length = l.length - 1 := by rw [htk]; simp; omega
        refine ⟨_, upd G1 g1 ((l.length - 1) * 3), upd ω1 g1 (some (.cell 0 0)), rfl, ev.wide, fun b hb => ?_, fun b hb => ?_, fun b hb => ?_, ⟨⟨?_, ?_⟩, trivial⟩, ?_⟩
        · rw [hsz] at hb
          rw [upd_ne _ _ _ _ (by show b ≠ w1.heap.size + 1; omega)]; exact hgn1 b (by omega)
        · rw [hsz]
          by_cases e : b = g1
          · subst e; show w1.heap.size + 1 < _; omega
          · rw [upd_ne _ _ _ _ e] at hb; have := hωn1 b hb; omega
        · by_cases e : b = g1
          · subst e; right; show w.heap.size ≤ w1.heap.size + 1; omega
          · rw [upd_ne _ _ _ _ e] at hb; exact hdom b hb
        · rw [upd_ne _ _ _ _ (by show β 0 ≠ w1.heap.size + 1; omega)]; exact hob
        · refine net_new (arr := arr1.setIfInBounds 0 (.slice (some ⟨w1.heap.size + 1, 0, none⟩) (l.length - 1) (l.length - 1))) (cur := cur) (e1 := e1) ?_ (by simp [h10]) hlen' (by omega) hG10 (by show β 0 ≠ w1.heap.size + 1; omega) ?_ ?_
          · rw [setCell_other _ hbw, setCell_other _ hbw, setCell_other _ hbw]; exact hb6
          · show _ = _
            have n1 : w1.heap.size + 1 ≠ w.heap.size := by omega
            have n2 : w1.heap.size + 1 ≠ β 0 := by omega
            rw [show g1 = w1.heap.size + 1 from rfl, setCell_other _ n1, setCell_other _ n1, setCell_other _ n1, setCell_other _ n2]; exact hcur
          · rw [hcl, htk, fVals_app, fVals_take, fVals_drop]
        · exact rep_pair f true
      by_cases hA : k < l.length - 1
      · exact (take_yes (β 0) k l.length (fVals l) w _ _ _ _ hl2 hbl hk hl (fVals_len l) (fVals_one l) hA).mono fin
      · exact (take_last (β 0) k l.length (fVals l) w _ _ _ _ hl2 hbl hk hl (fVals_len l) (fVals_one l) (by omega)).mono fin
  · exact hargs.2.2.elim
end Go.AR

/-! Nets: Take and Spoil of none. -/
namespace Go.AR
open Go Go.Proofs Go.Shelf Go.RowKit Go.Lib
set_option maxHeartbeats 1000000 in
set_option maxRecDepth 100000 in
theorem spoil_nil (kk xx : Int) (w : World) (x y : Int) (s : ByteArray) (Q : World → Prop)
   (hl : Calls Try.prog 13 #[.pointer none, .int .i64 kk] w fun e w1 => e = .returned (.tuple #[.agg #[.int .i64 x, .int .i64 y, .string s], .bool false]) ∧ Q w1) :
    Calls Try.prog 9 #[.pointer none, .int .i64 kk, .int .i64 xx] w fun e w' => e = .returned (.int .i64 1) ∧ ∃ w1, Q w1 ∧ w' = w1.alloc (.cells #[.int .i64 x, .int .i64 y, .string s] 27) := by
  go_enter Try.func9, Try.ntmps9
  go_wp2_with fail
  refine hl.mono ?_
  clear hl
  rintro e w1 ⟨rfl, hQ⟩
  go_wp2_with fail
  go_ret
  exact ⟨rfl, w1, hQ, rfl⟩
/-- What a Look of none leaves. -/
def Look0K (w : World) (G : Nat → Nat) (ω : Nat → Option Occ) (w1 : World) (G1 : Nat → Nat) (ω1 : Nat → Option Occ) : Prop :=
  Evo (fun b' => ω b' ≠ none) w G w1 G1 ∧ (∀ b', w1.heap.size ≤ b' → G1 b' = 0) ∧ (∀ b', ω1 b' ≠ none → b' < w1.heap.size) ∧ (∀ b', ω1 b' ≠ none → ω b' ≠ none ∨ w.heap.size ≤ b')
theorem look0_call {w : World} {G β : Nat → Nat} {ω : Nat → Option Occ} (hL : S_nLook0 (ACall Try.prog 13)) (kk : Int) (hgn : ∀ b, w.heap.size ≤ b → G b = 0) (hωn : ∀ b, ω b ≠ none → b < w.heap.size) :
    Calls Try.prog 13 #[.pointer none, .int .i64 kk] w fun e w1 => e = .returned (.tuple #[.agg #[.int .i64 0, .int .i64 0, .string ⟨⟨[]⟩⟩], .bool false]) ∧ ∃ G1 ω1, Look0K w G ω w1 G1 ω1 := by
  have hc := (hL kk).2 w G β ω [.pointer none, .int .i64 kk] hgn hωn ⟨.nilp, .int _ _, trivial⟩
  refine hc.mono ?_
  rintro e w1 ⟨v, G1, ω1, rfl, hev, hgn1, hωn1, hdom, _, hrv⟩
  have hv := pair_rep hrv
  subst hv
  exact ⟨rfl, G1, ω1, hev, hgn1, hωn1, hdom⟩
theorem acall_Spoil0 (hL : S_nLook0 (ACall Try.prog 13)) : S_nSpoil0 (ACall Try.prog 9) := by
  intro kk xx
  refine ⟨fun va w => enters_of Try.func9 (by kernel_rfl) rfl va w, fun w G β ω va hgn hωn hargs => ?_⟩
  rcases va with _ | ⟨v1, _ | ⟨v2, _ | ⟨v3, _ | ⟨v4, va⟩⟩⟩⟩
  · exact hargs.elim
  · exact hargs.2.elim
  · exact hargs.2.2.elim
  · obtain ⟨hv1, hv2, hv3, _⟩ := hargs
    have e1 := Rep.nilp_inv hv1
    have e2 := Rep.int_inv hv2
    have e3 := Rep.int_inv hv3
    subst e1 e2 e3
    refine (spoil_nil kk xx w 0 0 ⟨⟨[]⟩⟩ (fun w1 => ∃ G1 ω1, Look0K w G ω w1 G1 ω1) (look0_call (β := β) hL kk hgn hωn)).mono ?_
    rintro e w' ⟨rfl, w1, ⟨G1, ω1, hev, hgn1, hωn1, hdom⟩, rfl⟩
    have ev := hev.trans (alloc0_evo (T := fun b' => ω b' ≠ none) (.cells #[.int .i64 0, .int .i64 0, .string ⟨⟨[]⟩⟩] 27) hgn1) (fun _ _ h => h)
    have hsz : (w1.alloc (.cells #[.int .i64 0, .int .i64 0, .string ⟨⟨[]⟩⟩] 27)).heap.size = w1.heap.size + 1 := by simp
    exact ⟨_, G1, ω1, rfl, ev, fun b hb => hgn1 b (by omega), fun b hb => by have := hωn1 b hb; omega, hdom, trivial, .int _ _⟩
  · exact hargs.2.2.2.elim
def S_nTake0' (R : ARel) : Prop := ∀ k, R [.v .nilp, .v (.int .i64 k)] (.val (.tup [fP zf, .bool false])) []
theorem acall_Take0 (hL : S_nLook0 (ACall Try.prog 13)) : S_nTake0' (ACall Try.prog 10) := by
  intro kk
  refine ⟨fun va w => enters_of Try.func10 (by kernel_rfl) rfl va w, fun w G β ω va hgn hωn hargs => ?_⟩
  rcases va with _ | ⟨v1, _ | ⟨v2, _ | ⟨v3, va⟩⟩⟩
  · exact hargs.elim
  · exact hargs.2.elim
  · obtain ⟨hv1, hv2, _⟩ := hargs
    have e1 := Rep.nilp_inv hv1
    have e2 := Rep.int_inv hv2
    subst e1 e2
    have hsz0 : (w.alloc zObj).heap.size = w.heap.size + 1 := by simp
    have hω0 : ω w.heap.size = none := by
      cases h : ω w.heap.size with
      | none => rfl
      | some _ => have := hωn w.heap.size (by rw [h]; simp); omega
    have ev0 : Evo (fun b' => w.heap.size ≤ b' ∨ ω b' ≠ none) w G (w.alloc zObj) G := alloc0_evo zObj hgn
    have hlook := (look0_call (w := w.alloc zObj) (G := G) (β := β) (ω := ω) hL kk (fun b hb => hgn b (by omega)) (fun b hb => by have := hωn b hb; omega)).mono (R' := fun e w1 => e = .returned (.tuple #[.agg #[.int .i64 0, .int .i64 0, .string ⟨⟨[]⟩⟩], .bool false]) ∧ (w1.heap[w.heap.size]? = some (.cells #[.int .i64 0, .int .i64 0, .string ⟨#[]⟩] 27 (0, 0)) ∧ w.heap.size < w1.heap.size) ∧ ∃ G1 ω1, Look0K (w.alloc zObj) G ω w1 G1 ω1 ∧ G1 w.heap.size = 0) (by
      rintro e w1 ⟨rfl, G1, ω1, hev, hgn1, hωn1, hdom⟩
      obtain ⟨hk1, hk2⟩ := hev.block w.heap.size (by omega) (fun h => h hω0)
      have hnew : (w.alloc zObj).heap[w.heap.size]? = some zObj := heap_alloc_new w zObj
      exact ⟨rfl, ⟨by rw [hk1, hnew]; rfl, by have := hev.size; omega⟩, G1, ω1, ⟨hev, hgn1, hωn1, hdom⟩, by rw [hk2]; exact hgn _ (Nat.le_refl _)⟩)
    refine (take_no none kk w 0 0 ⟨⟨[]⟩⟩ (fun w1 => ∃ G1 ω1, Look0K (w.alloc zObj) G ω w1 G1 ω1 ∧ G1 w.heap.size = 0) hlook).mono ?_
    rintro e w' ⟨rfl, w1, ⟨hh, hlt⟩, ⟨G1, ω1, ⟨hev, hgn1, hωn1, hdom⟩, hG0⟩, rfl⟩
    have s1 := set_new (w0 := w) (w := w1) (G := G1) (ω := ω) (h := w.heap.size) (i := 0) (v := .int .i64 0) (Nat.le_refl _) hG0
    have s2 := set_new (w0 := w) (w := w1.setCell ⟨w.heap.size, 0, none⟩ (.int .i64 0)) (G := G1) (ω := ω) (h := w.heap.size) (i := 1) (v := .int .i64 0) (Nat.le_refl _) hG0
    have s3 := set_new (w0 := w) (w := (w1.setCell ⟨w.heap.size, 0, none⟩ (.int .i64 0)).setCell ⟨w.heap.size, 1, none⟩ (.int .i64 0)) (G := G1) (ω := ω) (h := w.heap.size) (i := 2) (v := .string ⟨⟨[]⟩⟩) (Nat.le_refl _) hG0
    have hsz3 : (((w1.setCell ⟨w.heap.size, 0, none⟩ (.int .i64 0)).setCell ⟨w.heap.size, 1, none⟩ (.int .i64 0)).setCell ⟨w.heap.size, 2, none⟩ (.string ⟨⟨[]⟩⟩)).heap.size = w1.heap.size := by rw [setCell_size, setCell_size, setCell_size]
    have s4 := alloc0_evo (T := fun b' => w.heap.size ≤ b' ∨ ω b' ≠ none) (w := ((w1.setCell ⟨w.heap.size, 0, none⟩ (.int .i64 0)).setCell ⟨w.heap.size, 1, none⟩ (.int .i64 0)).setCell ⟨w.heap.size, 2, none⟩ (.string ⟨⟨[]⟩⟩)) (G := G1) (.cells #[.int .i64 0, .int .i64 0, .string ⟨⟨[]⟩⟩] 27) (fun b hb => hgn1 b (by rw [hsz3] at hb; exact hb))
    have ev := (ev0.trans (T := fun b' => w.heap.size ≤ b' ∨ ω b' ≠ none) (T' := fun b' => ω b' ≠ none) hev (fun b _ h => .inr h)).trans (((s1.trans s2 (fun _ _ h => h)).trans s3 (fun _ _ h => h)).trans s4 (fun _ _ h => h)) (fun _ _ h => h)
    have hfsz : ((((w1.setCell ⟨w.heap.size, 0, none⟩ (.int .i64 0)).setCell ⟨w.heap.size, 1, none⟩ (.int .i64 0)).setCell ⟨w.heap.size, 2, none⟩ (.string ⟨⟨[]⟩⟩)).alloc (.cells #[.int .i64 0, .int .i64 0, .string ⟨⟨[]⟩⟩] 27)).heap.size = w1.heap.size + 1 := by
      rw [show ∀ (W : World) (o : Obj), (W.alloc o).heap.size = W.heap.size + 1 from fun W o => by simp, hsz3]
    exact ⟨_, G1, ω1, rfl, ev.wide, fun b hb => hgn1 b (by rw [hfsz] at hb; omega), fun b hb => by have := hωn1 b hb; rw [hfsz]; omega, fun b hb => by
      rcases hdom b hb with h | h
      · exact .inl h
      · exact .inr (by omega), trivial, rep_pair zf false⟩
  · exact hargs.2.2.elim
end Go.AR

/-! Nets: Spoil, walked in the model. -/
namespace Go.AR
open Go Go.Proofs Go.RowKit Go.Lib
set_option maxHeartbeats 1000000 in
set_option maxRecDepth 100000 in
theorem spoil_12 (b : Nat) (kk xx : Int) (w : World) (x y : Int) (s : ByteArray) (Q : World → Prop)
   (hl : Calls Try.prog 13 #[.pointer (some ⟨b, 0, none⟩), .int .i64 kk] w fun e w1 => e = .returned (.tuple #[.agg #[.int .i64 x, .int .i64 y, .string s], .bool false]) ∧ Q w1) :
    Calls Try.prog 9 #[.pointer (some ⟨b, 0, none⟩), .int .i64 kk, .int .i64 xx] w fun e w' => e = .returned (.int .i64 12) ∧ ∃ w1, Q w1 ∧ w' = w1.alloc (.cells #[.int .i64 x, .int .i64 y, .string s] 27) := by
  go_enter Try.func9, Try.ntmps9
  go_wp2_with fail
  refine hl.mono ?_
  clear hl
  rintro e w1 ⟨rfl, hQ⟩
  go_wp2_with fail
  go_ret
  exact ⟨rfl, w1, hQ, rfl⟩
set_option maxHeartbeats 1000000 in
set_option maxRecDepth 100000 in
theorem spoil_2 (b : Nat) (kk xx : Int) (w : World) (x y : Int) (s : ByteArray) (Q : World → Prop) (h : (xx < 1 ∨ xx > 255) ∨ s = ⟨#[]⟩)
   (hl : Calls Try.prog 13 #[.pointer (some ⟨b, 0, none⟩), .int .i64 kk] w fun e w1 => e = .returned (.tuple #[.agg #[.int .i64 x, .int .i64 y, .string s], .bool true]) ∧ Q w1) :
    Calls Try.prog 9 #[.pointer (some ⟨b, 0, none⟩), .int .i64 kk, .int .i64 xx] w fun e w' => e = .returned (.int .i64 2) ∧ ∃ w1, Q w1 ∧ w' = w1.alloc (.cells #[.int .i64 x, .int .i64 y, .string s] 27) := by
  go_enter Try.func9, Try.ntmps9
  go_wp2_with fail
  refine hl.mono ?_
  clear hl
  rintro e w1 ⟨rfl, hQ⟩
  by_cases h1 : xx < 1
  · clear h
    go_wp2_with fail
    go_ret
    exact ⟨rfl, w1, hQ, rfl⟩
  by_cases h2 : 255 < xx
  · clear h
    go_wp2_with fail
    go_ret
    exact ⟨rfl, w1, hQ, rfl⟩
  have h3 : s = ⟨#[]⟩ := by
    rcases h with (h | h) | h
    · exact absurd h h1
    · exact absurd h h2
    · exact h
  clear h
  subst h3
  go_wp2_with fail
  go_ret
  exact ⟨rfl, w1, hQ, rfl⟩
/-- What is known of the world behind Look, at Spoil. -/
structure YesG (b n : Nat) (w1 : World) (g cap : Nat) : Prop where
  cb : w1.cell? ⟨b, 0, none⟩ = some (.slice (some ⟨g, 0, none⟩) n cap)
  fb : w1.frozen? ⟨b, 0, none⟩ = false
  hb : b < w1.heap.size
  hg : g < w1.heap.size
  hgb : g ≠ b
/-- Some blocks are new. -/
structure PreW (w1 W3 : World) : Prop where
  os : W3.os = w1.os
  tape : W3.tape = w1.tape
  output : W3.output = w1.output
  size : w1.heap.size ≤ W3.heap.size
  old : ∀ j, j < w1.heap.size → W3.heap[j]? = w1.heap[j]?
/-- A row is copied: what is old stays. -/
structure ClonedW (W : World) (n : Nat) (V : List Value) (W5 : World) (g2 cap2 : Nat) : Prop where
  os : W5.os = W.os
  tape : W5.tape = W.tape
  output : W5.output = W.output
  lo : W.heap.size ≤ g2
  hi : g2 < W5.heap.size
  old : ∀ j, j < W.heap.size → W5.heap[j]? = W.heap[j]?
  cap : n ≤ cap2 ∧ cap2 ≤ maxLen
  row : ∃ cur e, W5.heap[g2]? = some (.cells cur e (0, 0)) ∧ cur.toList.take (n * 3) = V ∧ cur.size = cap2 * 3
set_option maxHeartbeats 1000000 in
set_option maxRecDepth 100000 in
theorem spoil_yes (b k n : Nat) (xx : Int) (w : World) (x y : Int) (s : ByteArray) (Q : World → Nat → Nat → Prop) (hx1 : decide (xx < 1) = false) (hx2 : decide (255 < xx) = false) (hs : s.toList.isEmpty = false) (m : Nat) (hm : s.size = m) (hm0 : 0 < m) (hm3 : m ≤ 300)
   (hl : Calls Try.prog 13 #[.pointer (some ⟨b, 0, none⟩), .int .i64 (k : Nat)] w fun e w1 => e = .returned (.tuple #[.agg #[.int .i64 x, .int .i64 y, .string s], .bool true]) ∧ ∃ g cap, YesG b n w1 g cap ∧ Q w1 g cap)
   (L : List UInt8) (hL : L.length = m) (hLj : ∀ j, j < m - 1 → L.getD j 0 = s.data.toList.getD j 0) (hLm : ((L.getD (m - 1) 0).toNat : Int) = bits BinOp.xor IntKind.u8 ((s.data[m - 1]?.getD 0).toNat) xx) (hk : k < n) (hn : n ≤ 200) (V : List Value) (hVl : V.length = n * 3)
   (hcl : ∀ w1 g cap, Q w1 g cap → ∀ W : World, w1.heap.size ≤ W.heap.size → (∀ j, j < w1.heap.size → W.heap[j]? = w1.heap[j]?) → Calls Try.prog 16 #[.slice (some ⟨g, 0, none⟩) n cap] W fun e W5 => ∃ g2 cap2, e = .returned (.slice (some ⟨g2, 0, none⟩) n cap2) ∧ ClonedW W n V W5 g2 cap2) :
    Calls Try.prog 9 #[.pointer (some ⟨b, 0, none⟩), .int .i64 (k : Nat), .int .i64 xx] w fun e w' => e = .returned (.int .i64 0) ∧ ∃ w1 g cap W3 W5 g2 cap2, Q w1 g cap ∧ YesG b n w1 g cap ∧ PreW w1 W3 ∧ ClonedW W3 n V W5 g2 cap2 ∧ w' = ((W5.setCell ⟨b, 0, none⟩ (.slice (some ⟨g2, 0, none⟩) n cap2)).setCell ⟨g2, k * 3 + 2, none⟩ (.string ⟨L.toArray⟩)).drew := by
  go_enter Try.func9, Try.ntmps9
  go_wp2_with fail
  refine hl.mono ?_
  clear hl
  rintro e w1 ⟨rfl, g, cap, ⟨cb, fb, hb, hg, hgb⟩, hQ⟩
  have hbm : b < w1.heap.size + 1 := by omega
  obtain ⟨W2, hW2⟩ : ∃ W2, W2 = bytesWorld (w1.alloc (.cells #[.int .i64 x, .int .i64 y, .string s] 27)) 5 s := ⟨_, rfl⟩
  obtain ⟨C2, hC2⟩ : ∃ C2, C2 = grownCap (w1.alloc (.cells #[.int .i64 x, .int .i64 y, .string s] 27)) s.size 0 5 := ⟨_, rfl⟩
  obtain ⟨g1, hg1⟩ : ∃ g1, g1 = w1.heap.size + 1 := ⟨_, rfl⟩
  have hconv : (convert 9 50 (.string s)).run Try.prog (w1.alloc (.cells #[.int .i64 x, .int .i64 y, .string s] 27)) = .ok (.slice (some ⟨g1, 0, none⟩) m C2) W2 := by
    rw [hW2, hC2, hg1, ← hm]
    have h := Go.Lib.run_convert_string_bytes (w1.alloc (.cells #[.int .i64 x, .int .i64 y, .string s] 27)) 9 50 5 s Try.underlying9 Try.underlying50 Try.underlying5
    rw [show (w1.alloc (.cells #[.int .i64 x, .int .i64 y, .string s] 27)).heap.size = w1.heap.size + 1 by simp] at h
    exact h
  have new2 := bytesWorld_at_new (w1.alloc (.cells #[.int .i64 x, .int .i64 y, .string s] 27)) 5 s
  rw [show (w1.alloc (.cells #[.int .i64 x, .int .i64 y, .string s] 27)).heap.size = w1.heap.size + 1 by simp, ← hg1, ← hW2] at new2
  have hbc : s.size ≤ (bytesCells (w1.alloc (.cells #[.int .i64 x, .int .i64 y, .string s] 27)) 5 s).size := by
    simp only [bytesCells, Array.size_append, Array.size_map]; show s.data.size ≤ _; omega
  have cv : W2.cell? ⟨g1, m - 1, none⟩ = some (.int .u8 (s.data.toList.getD (m - 1) 0).toNat) := by
    have h := bytesWorld_cell (w1.alloc (.cells #[.int .i64 x, .int .i64 y, .string s] 27)) 5 s (m - 1) (by omega)
    rw [show (w1.alloc (.cells #[.int .i64 x, .int .i64 y, .string s] 27)).heap.size = w1.heap.size + 1 by simp, ← hg1, ← hW2] at h
    exact h
  have fv : W2.frozen? ⟨g1, m - 1, none⟩ = false := by
    simp only [World.frozen?, new2]
    simp; omega
  have hxw : IntKind.u8.wrap xx = xx := by
    unfold IntKind.wrap; simp [IntKind.bits, IntKind.signed]; simp at hx1 hx2; omega
  have hwr : RowKit.wrap64 ((m : Int) - 1) = (m : Int) - 1 := by unfold RowKit.wrap64; omega
  have hi0 : (0 : Int) ≤ (m : Int) - 1 := by omega
  have hi1 : (m : Int) - 1 < m := by omega
  have hit : ((m : Int) - 1).toNat = m - 1 := by omega
  have hh : Hid (W2 = bytesWorld (w1.alloc (.cells #[.int .i64 x, .int .i64 y, .string s] 27)) 5 s ∧ g1 = w1.heap.size + 1) := ⟨hW2, hg1⟩
  have hnew2 : Hid (W2.heap[g1]? = some (.cells (bytesCells (w1.alloc (.cells #[.int .i64 x, .int .i64 y, .string s] 27)) 5 s) 5 ((bytesCells (w1.alloc (.cells #[.int .i64 x, .int .i64 y, .string s] 27)) 5 s).size, (bytesCells (w1.alloc (.cells #[.int .i64 x, .int .i64 y, .string s] 27)) 5 s).size + 1))) := new2
  have old2 : ∀ j, j < w1.heap.size → W2.heap[j]? = w1.heap[j]? := fun j hj => by
    rw [hW2, bytesWorld_at_old _ _ _ j (by simp; omega), Go.Lib.alloc_old _ _ _ hj]
  have bg1 : b ≠ g1 := by omega
  have g1b : g1 ≠ b := by omega
  have cb2 : W2.cell? ⟨b, 0, none⟩ = some (.slice (some ⟨g, 0, none⟩) n cap) := by
    rw [World.cell?_of_block (a := ⟨b, 0, none⟩) (old2 b hb)]; exact cb
  have fb2 : W2.frozen? ⟨b, 0, none⟩ = false := by rw [frozen_of_block (old2 b hb)]; exact fb
  clear hW2 hC2 hg1 new2 hbc
  go_wp2_with fail
  obtain ⟨nb, hnb⟩ : ∃ nb : Int, nb = bits BinOp.xor IntKind.u8 (↑(s.data[m - 1]?.getD 0).toNat) xx := ⟨_, rfl⟩
  rw [← hnb]
  obtain ⟨W3, hW3⟩ : ∃ W3, W3 = W2.setCell ⟨g1, m - 1, none⟩ (.int .u8 nb) := ⟨_, rfl⟩
  rw [← hW3]
  have size2 : W2.heap.size = w1.heap.size + 2 := by
    obtain ⟨h1, _⟩ := hh
    rw [h1, bytesWorld_size]; simp
  have old3 : ∀ j, j < w1.heap.size → W3.heap[j]? = w1.heap[j]? := fun j hj => by
    rw [hW3, setCell_other _ (fun e => by have := hh.2; omega : j ≠ g1)]; exact old2 j hj
  have size3 : W3.heap.size = w1.heap.size + 2 := by rw [hW3, setCell_size, size2]
  refine (hcl w1 g cap hQ W3 (by omega) old3).mono ?_
  have hQ' : Hid (Q w1 g cap) := hQ
  have hcl' : Hid (∀ w1 g cap, Q w1 g cap → ∀ W : World, w1.heap.size ≤ W.heap.size → (∀ j, j < w1.heap.size → W.heap[j]? = w1.heap[j]?) → Calls Try.prog 16 #[.slice (some ⟨g, 0, none⟩) n cap] W fun e W5 => ∃ g2 cap2, e = .returned (.slice (some ⟨g2, 0, none⟩) n cap2) ∧ ClonedW W n V W5 g2 cap2) := hcl
  clear hQ hcl
  have hnb' : Hid (nb = bits BinOp.xor IntKind.u8 (↑(s.data[m - 1]?.getD 0).toNat) xx) := hnb
  clear hnb
  have hW3' : Hid (W3 = W2.setCell ⟨g1, m - 1, none⟩ (.int .u8 nb)) := hW3
  have hcb : Hid (w1.cell? ⟨b, 0, none⟩ = some (.slice (some ⟨g, 0, none⟩) n cap)) := cb
  have hfb : Hid (w1.frozen? ⟨b, 0, none⟩ = false) := fb
  clear hW3 hconv cv fv cb2 fb2 cb fb
  rintro e W5 ⟨g2, cap2, rfl, hC⟩
  have hg1' : g1 = w1.heap.size + 1 := hh.2
  have sizeC := hC.lo
  have g12 : g1 ≠ g2 := by omega
  have bg2 : b ≠ g2 := by omega
  have g2b : g2 ≠ b := by omega
  have g12 : g1 ≠ g2 := by omega
  have g1b : g1 ≠ b := by omega
  have hb5e : W5.heap[b]? = w1.heap[b]? := (hC.old b (by omega)).trans (old3 b hb)
  have hk1 : (k : Int) < n := by omega
  have hk0 : (0 : Int) ≤ k := by omega
  have htn : ((k : Int)).toNat = k := rfl
  obtain ⟨cur, e2, hcur, hcurt, hcurs⟩ := hC.row
  have hcap := hC.cap
  have hrow : Hid (∃ cur, W5.heap[g2]? = some (.cells cur e2 (0, 0))) := ⟨_, hcur⟩
  have c5 : W5.cell? ⟨g2, k * 3 + 2, none⟩ = some (cur[k * 3 + 2]'(by omega)) := by
    rw [Lib.cell_of_heap hcur, Array.getElem?_eq_getElem]
  have f5 : W5.frozen? ⟨g2, k * 3 + 2, none⟩ = false := Lib.frozen_of_heap hcur _
  generalize cur[k * 3 + 2]'(by omega) = old at c5
  have cb5 : W5.cell? ⟨b, 0, none⟩ = some (.slice (some ⟨g, 0, none⟩) n cap) := by
    rw [World.cell?_of_block (a := ⟨b, 0, none⟩) hb5e]; exact hcb
  have fb5 : W5.frozen? ⟨b, 0, none⟩ = false := by rw [frozen_of_block hb5e]; exact hfb
  have hC' : Hid (ClonedW W3 n V W5 g2 cap2) := hC
  clear hC hcur hcurt hcurs hcap
  have hconv2 : (convert 50 9 (.slice (some ⟨g1, 0, none⟩) m C2)).run Try.prog (W5.setCell ⟨b, 0, none⟩ (.slice (some ⟨g2, 0, none⟩) n cap2)).drew = .ok (.string ⟨L.toArray⟩) (W5.setCell ⟨b, 0, none⟩ (.slice (some ⟨g2, 0, none⟩) n cap2)).drew := by
    have hg15 : W5.heap[g1]? = W3.heap[g1]? := hC'.old g1 (by omega)
    have h := run_convert_bytes_back (P := Try.prog) (W5.setCell ⟨b, 0, none⟩ (.slice (some ⟨g2, 0, none⟩) n cap2)).drew 50 9 5 ⟨g1, 0, none⟩ C2 L Try.underlying50 Try.underlying5 Try.underlying9 (fun j hj => by
      have e1 : (W5.setCell ⟨b, 0, none⟩ (.slice (some ⟨g2, 0, none⟩) n cap2)).drew.heap[g1]? = W3.heap[g1]? := (setCell_other (w := W5) g1 (by omega)).trans hg15
      rw [Addr.add_lit, Nat.zero_add, World.cell?_of_block (a := ⟨g1, j, none⟩) e1]
      have hne : ∀ i, i < s.size → W2.cell? ⟨g1, i, none⟩ = some (.int .u8 (s.data.toList.getD i 0).toNat) := fun i hi => by
        have h := bytesWorld_cell (w1.alloc (.cells #[.int .i64 x, .int .i64 y, .string s] 27)) 5 s i hi
        rw [show (w1.alloc (.cells #[.int .i64 x, .int .i64 y, .string s] 27)).heap.size = w1.heap.size + 1 by simp, ← hg1', ← hh.1] at h
        exact h
      have hgL : L[j] = L.getD j 0 := by simp [List.getD_eq_getElem?_getD, hj]
      rw [hgL, hW3']
      by_cases e : j = m - 1
      · rw [e, hLm, ← hnb']
        exact World.cell?_setCell_same _ _ _ (hne (m - 1) (by omega))
      · rw [hLj j (by omega), ← hne j (by omega)]
        refine World.cell?_setCell_other _ _ _ _ (fun h => e ?_)
        have := congrArg Addr.off h
        simpa using this.symm)
    rw [hL] at h
    exact h
  have mixed : Try.prog.follows .mixedOrders = true := by kernel_rfl
  have hg1h : Hid (g1 = w1.heap.size + 1) := hg1'
  clear hg1' hLm hLj
  go_wp2_with fail
  go_region_o
  go_wp2_with fail
  refine bodyPost_ret (v := .int .i64 0) (by simp [results, Try.results9, go_sem]) rfl ?_
  refine ⟨rfl, w1, g, cap, W3, W5, g2, cap2, hQ', ⟨hcb, hfb, hb, hg, hgb⟩, ⟨?_, ?_, ?_, by omega, old3⟩, hC', rfl⟩
  · rw [hW3', hh.1]; rfl
  · rw [hW3', hh.1]; rfl
  · rw [hW3', hh.1]; rfl
end Go.AR

/-! Nets: Spoil, for the abstract machine. -/
namespace Go.AR
open Go Go.Proofs Go.Shelf Go.RowKit Go.Lib
/-- What Look leaves, called at once. -/
def LookG (w : World) (G : Nat → Nat) (ω : Nat → Option Occ) (b : Nat) (l : List Fl) (w1 : World) (G1 : Nat → Nat) (ω1 : Nat → Option Occ) : Prop :=
  Look0K w G ω w1 G1 ω1 ∧ ω1 b = some (.blk 0) ∧ BRep w1 G1 ω1 b 0 (netB l)
theorem lookG_call {w : World} {G β : Nat → Nat} {ω : Nat → Option Occ} (hL : S_nLook (ACall Try.prog 13)) (l : List Fl) (kk : Int) (hgn : ∀ b, w.heap.size ≤ b → G b = 0) (hωn : ∀ b, ω b ≠ none → b < w.heap.size) (hωb : ω (β 0) = some (.blk 0)) (hB : BRep w G ω (β 0) 0 (netB l)) :
    Calls Try.prog 13 #[.pointer (some ⟨β 0, 0, none⟩), .int .i64 kk] w fun e w1 => e = .returned (.tuple #[.agg #[.int .i64 (getF l kk).1, .int .i64 (getF l kk).2.1, .string ⟨⟨(getF l kk).2.2⟩⟩], .bool (isL l kk)]) ∧ ∃ G1 ω1, LookG w G ω (β 0) l w1 G1 ω1 := by
  have hc := (hL l kk).2 w G β ω [.pointer (some ⟨β 0, 0, none⟩), .int .i64 kk] hgn hωn ⟨⟨rfl, hωb, hB⟩, .int _ _, trivial⟩
  refine hc.mono ?_
  rintro e w1 ⟨v, G1, ω1, rfl, hev, hgn1, hωn1, hdom, hout, hrv⟩
  have hv := pair_rep hrv
  subst hv
  obtain ⟨⟨ho1, ho2⟩, _⟩ := hout
  exact ⟨rfl, G1, ω1, ⟨hev, hgn1, hωn1, hdom⟩, ho1, ho2⟩
/-- A net's row, that is not empty, in the world. -/
theorem yesG_of {w1 : World} {G1 : Nat → Nat} {ω1 : Nat → Option Occ} {b : Nat} {l : List Fl} (hob : ω1 b = some (.blk 0)) (hb : b < w1.heap.size) (hB1 : BRep w1 G1 ω1 b 0 (netB l)) (hne : l ≠ []) :
    ∃ g cap, YesG b l.length w1 g cap ∧ Rep w1 G1 (.sl 3 (fRows l)) (.slice (some ⟨g, 0, none⟩) l.length cap) := by
  obtain ⟨arr1, e1, hb1, ⟨hsz, _⟩, hGb, hcell⟩ := hB1
  simp only [Option.getD_none] at hb1
  have h0 : 0 < arr1.size := hsz
  have hO := hcell 0 (.own 3 (fRows l)) arr1[0] rfl (by simp [h0])
  have hR := ORepE.rep hO
  obtain ⟨e', xs, ho, hc, hxl, hxr, h1, hgow⟩ := hO
  rcases ho.2 with ⟨_, hz⟩ | ⟨g, cap, cur, hv, _, hhg, hcap, hcm, hcsz, htk⟩
  · rw [fRows_len] at hz; exact absurd (List.eq_nil_of_length_eq_zero hz) hne
  · obtain ⟨hωg, hGg⟩ := hgow g (by rw [hv]; rfl)
    have hgl : g < w1.heap.size := by
      rcases Nat.lt_or_ge g w1.heap.size with h | h
      · exact h
      · rw [Array.getElem?_eq_none h] at hhg; cases hhg
    rw [hv, fRows_len] at hR
    exact ⟨g, cap, ⟨by rw [Lib.cell_of_heap hb1 0, Array.getElem?_eq_getElem h0, hv, fRows_len], Lib.frozen_of_heap hb1 0, hb, hgl, fun e => (by rw [e, hob] at hωg; cases hωg)⟩, hR⟩
/-- Old blocks stay: that is an evolution. -/
theorem old_evo {T : Nat → Prop} {w w' : World} {G : Nat → Nat} (os : w'.os = w.os) (tape : w'.tape = w.tape) (output : w'.output = w.output) (size : w.heap.size ≤ w'.heap.size) (old : ∀ j, j < w.heap.size → w'.heap[j]? = w.heap[j]?) (hgn : ∀ b, w.heap.size ≤ b → G b = 0) : Evo T w G w' G :=
  ⟨os, tape, output, size, ⟨fun b => Nat.le_refl _, fun b off ho => World.cell?_of_block (a := ⟨b, off, none⟩) (old b (by
      rcases Nat.lt_or_ge b w.heap.size with h | h
      · exact h
      · rw [hgn b h] at ho; omega)), fun b sh hs => by rw [shape_of_block (old b (shape_lt hs))]; exact hs⟩, fun b hb _ => ⟨old b hb, rfl⟩⟩
/-- A block is said to be somebody's. -/
theorem raise_evo {T : Nat → Prop} {w : World} {G : Nat → Nat} {g n : Nat} (hG : G g = 0) (hT : T g) : Evo T w G w.drew (upd G g n) :=
  ⟨rfl, rfl, rfl, Nat.le_refl _, ⟨fun b => by
      by_cases e : b = g
      · subst e; rw [hG]; exact Nat.zero_le _
      · rw [upd_ne _ _ _ _ e]; exact Nat.le_refl _, fun b off _ => rfl, fun b sh hs => hs⟩, fun b _ ht => ⟨rfl, upd_ne _ _ _ _ (fun e => ht (e ▸ hT))⟩⟩
theorem clone_call (hC : S_fClone (ACall Try.prog 16)) {l : List Fl} (hl : l.length ≤ 200) (hne : l ≠ []) {w1 : World} {G1 : Nat → Nat} {g cap : Nat} (hgn : ∀ b, w1.heap.size ≤ b → G1 b = 0) (hR : Rep w1 G1 (.sl 3 (fRows l)) (.slice (some ⟨g, 0, none⟩) l.length cap))
    (W : World) (hs : w1.heap.size ≤ W.heap.size) (old : ∀ j, j < w1.heap.size → W.heap[j]? = w1.heap[j]?) :
    Calls Try.prog 16 #[.slice (some ⟨g, 0, none⟩) l.length cap] W fun e W5 => ∃ g2 cap2, e = .returned (.slice (some ⟨g2, 0, none⟩) l.length cap2) ∧ ClonedW W l.length (fVals l) W5 g2 cap2 := by
  have hx : GExt w1 G1 W G1 := ⟨fun b => Nat.le_refl _, fun b off ho => World.cell?_of_block (a := ⟨b, off, none⟩) (old b (by
      rcases Nat.lt_or_ge b w1.heap.size with h | h
      · exact h
      · rw [hgn b h] at ho; omega)), fun b sh hs => by rw [shape_of_block (old b (shape_lt hs))]; exact hs⟩
  have hc := (hC l (by omega)).2 W G1 (fun _ => 0) (fun _ => none) [.slice (some ⟨g, 0, none⟩) l.length cap] (fun b hb => hgn b (by omega)) (fun b hb => absurd rfl hb) ⟨hR.mono hx, trivial⟩
  refine hc.mono ?_
  rintro e W5 ⟨v, G5, ω5, rfl, hev, hgn5, hωn5, hdom, _, hrv⟩
  obtain ⟨e', xs, ho, hcc, hxl, hxr, h1, hgow⟩ := hrv
  rcases ho.2 with ⟨_, hz⟩ | ⟨g2, cap2, cur, hv, _, hhg, hcap, hcm, hcsz, htk⟩
  · rw [fRows_len] at hz; exact absurd (List.eq_nil_of_length_eq_zero hz) hne
  · have hxs : xs = fVals l := fVals_of l xs hxl hxr
    subst hxs
    obtain ⟨hωg, _⟩ := hgow g2 (by rw [hv]; rfl)
    rw [fRows_len] at hv hcap htk
    subst hv
    refine ⟨g2, cap2, rfl, hev.os, hev.tape, hev.output, ?_, hωn5 g2 (by rw [hωg]; simp), fun j hj => (hev.block j hj (fun h => h rfl)).1, ⟨hcap, hcm⟩, cur, e', hhg, htk, hcsz⟩
    rcases hdom g2 (by rw [hωg]; simp) with h | h
    · exact absurd rfl h
    · exact h
/-- A net whose row is a new one, of any capacity. -/
theorem net_new2 {w' : World} {G1 : Nat → Nat} {ω1 : Nat → Option Occ} {b g1 n cap2 : Nat} {l' : List Fl} {arr cur : Array Value} {e1 e2 : TypeId} (hb : w'.heap[b]? = some (.cells arr e1 (0, 0))) (h0 : arr[0]? = some (.slice (some ⟨g1, 0, none⟩) n cap2)) (hn : l'.length = n) (hcap : n ≤ cap2 ∧ cap2 ≤ maxLen) (hGb : G1 b = 0) (hne : b ≠ g1) (hg : w'.heap[g1]? = some (.cells cur e2 (0, 0))) (hcs : cur.size = cap2 * 3) (hcur : cur.toList.take (n * 3) = fVals l') :
    BRep w' (upd G1 g1 (n * 3)) (upd ω1 g1 (some (.cell 0 0))) b 0 (netB l') := by
  refine ⟨arr, e1, hb, ⟨?_, fun h => absurd rfl h⟩, by rw [upd_ne _ _ _ _ hne]; exact hGb, fun i t x ht hx => ?_⟩
  · have := (Array.getElem?_eq_some_iff.1 h0).1
    simp only [List.length_singleton]; omega
  · cases i with
    | succ i => simp at ht
    | zero =>
      simp at ht; subst ht
      rw [h0] at hx; cases hx
      refine ⟨e2, fVals l', ⟨by rw [fVals_len, fRows_len], .inr ⟨g1, cap2, cur, by rw [fRows_len, hn], Nat.zero_le _, hg, by rw [fRows_len, hn]; exact hcap.1, hcap.2, hcs, by rw [fRows_len, hn]; exact hcur⟩⟩, fRows_c l', by rw [fRows_flat', fVals_len], fun j p x hp hx => fVals_rep l' j p x hp hx, fRows_one l', fun g hg' => ?_⟩
      simp [Value.ownBlock] at hg'
      subst hg'
      exact ⟨upd_eq _ _ _, by rw [upd_eq, fRows_flat', hn]⟩
theorem fVals_set : ∀ (l : List Fl) (k : Nat) (t : List UInt8), (h : k < l.length) → (fVals l).set (k * 3 + 2) (.string ⟨⟨t⟩⟩) = fVals (l.set k (l[k].1, l[k].2.1, t))
  | f :: l, 0, t, _ => by simp [fVals, fVal]
  | f :: l, k + 1, t, h => by
    have h' : k < l.length := by simpa using h
    rw [fVals_cons, List.set_cons_succ, fVals_cons, show (k + 1) * 3 + 2 = (fVal f).length + (k * 3 + 2) by simp [fVal]; omega, List.set_append_right _ _ (by omega)]
    simp only [List.getElem_cons_succ, Nat.add_sub_cancel_left]
    rw [fVals_set l k t h']
end Go.AR
