import Derived.Test.YtlhahjlnhkokcaaG32
import Derived.Test.YtlhahjlnhkokcaaG08
set_option linter.all false
/-! Nets: Spoil, for the abstract machine. -/
namespace Go.AR
open Go Go.Proofs Go.Shelf Go.RowKit Go.Lib
theorem ba_loop (bs : ByteArray) : ∀ (n i : Nat) (r : List UInt8), bs.size - i = n → (ByteArray.toList.loop bs i r).length = n + r.length
  | 0, i, r, h => by
    unfold ByteArray.toList.loop
    rw [if_neg (by omega)]; simp
  | n + 1, i, r, h => by
    unfold ByteArray.toList.loop
    rw [if_pos (by omega), ba_loop bs n (i + 1) _ (by omega)]
    simp; omega
theorem ba_ne {t : List UInt8} (h : t ≠ []) : (⟨⟨t⟩⟩ : ByteArray).toList.isEmpty = false := by
  have e : (⟨⟨t⟩⟩ : ByteArray).toList.length = t.length := by
    unfold ByteArray.toList
    rw [ba_loop _ t.length 0 [] rfl]; simp
  cases hq : (⟨⟨t⟩⟩ : ByteArray).toList with
  | nil => rw [hq] at e; exact absurd (List.length_eq_zero_iff.1 e.symm) h
  | cons _ _ => rfl
theorem bits_xor_u8 (v w : UInt8) : bits BinOp.xor IntKind.u8 (v.toNat : Int) (w.toNat : Int) = (v ^^^ w).toNat := u8_xor
theorem acall_Spoil (hL : S_nLook (ACall Try.prog 13)) (hC : S_fClone (ACall Try.prog 16)) : S_nSpoil (ACall Try.prog 9) := by
  intro l kk xx hf
  obtain ⟨hl, hf⟩ := hf
  refine ⟨fun va w => enters_of Try.func9 (by kernel_rfl) rfl va w, fun w G β ω va hgn hωn hargs => ?_⟩
  rcases va with _ | ⟨v1, _ | ⟨v2, _ | ⟨v3, _ | ⟨v4, va⟩⟩⟩⟩
  · exact hargs.elim
  · exact hargs.2.elim
  · exact hargs.2.2.elim
  · obtain ⟨⟨rfl, hωb, hB⟩, hv2, hv3, _⟩ := hargs
    have hv2' := Rep.int_inv hv2
    have hv3' := Rep.int_inv hv3
    subst hv2' hv3'
    have hlook := lookG_call hL l kk hgn hωn hωb hB
    have hbl : β 0 < w.heap.size := hωn _ (by rw [hωb]; simp)
    -- what is left when nothing was changed
    have same : ∀ (c : Int) (f : Fl), spoilE l kk xx = c → c ≠ 0 → ∀ (e : Ending) (w' : World), (e = .returned (.int .i64 c) ∧ ∃ w1, (∃ G1 ω1, LookG w G ω (β 0) l w1 G1 ω1) ∧ w' = w1.alloc (.cells #[.int .i64 f.1, .int .i64 f.2.1, .string ⟨⟨f.2.2⟩⟩] 27)) →
          ∃ v G' ω', e = .returned v ∧ Evo (fun b => ω b ≠ none) w G w' G' ∧ (∀ b, w'.heap.size ≤ b → G' b = 0) ∧ (∀ b, ω' b ≠ none → b < w'.heap.size) ∧ (∀ b, ω' b ≠ none → ω b ≠ none ∨ w.heap.size ≤ b) ∧
            OutsRep w' G' β ω' 0 [.r (netB l), .v (.int .i64 kk), .v (.int .i64 xx)] [netB (spoilL l kk xx)] ∧ RVRep w' G' ω' 3 (.val (.int .i64 (spoilE l kk xx))) v := by
      rintro c f hc hc0 e w' ⟨rfl, w1, ⟨G1, ω1, ⟨hev, hgn1, hωn1, hdom⟩, hob, hB1⟩, rfl⟩
      have hsz : (w1.alloc (.cells #[.int .i64 f.1, .int .i64 f.2.1, .string ⟨⟨f.2.2⟩⟩] 27)).heap.size = w1.heap.size + 1 := by simp
      have s4 := alloc0_evo (T := fun b' => ω b' ≠ none) (w := w1) (G := G1) (.cells #[.int .i64 f.1, .int .i64 f.2.1, .string ⟨⟨f.2.2⟩⟩] 27) hgn1
      have ev := hev.trans s4 (fun _ _ h => h)
      have hsl : spoilL l kk xx = l := by unfold spoilL; rw [hc, if_neg hc0]
      rw [hsl, hc]
      refine ⟨_, G1, ω1, rfl, ev, fun b hb => hgn1 b (by omega), fun b hb => by have := hωn1 b hb; omega, hdom, ⟨⟨hob, ?_⟩, trivial⟩, .int _ _⟩
      exact hB1.mono s4.ext (Go.Lib.alloc_old _ _ _ (hωn1 _ (by rw [hob]; simp))) rfl (fun g i hg => ⟨Go.Lib.alloc_old _ _ _ (hωn1 g (by rw [hg]; simp)), rfl, hg⟩)
    cases hi : isL l kk with
    | false =>
      rw [hi] at hlook
      exact (spoil_12 (β 0) kk xx w _ _ _ (fun w1 => ∃ G1 ω1, LookG w G ω (β 0) l w1 G1 ω1) hlook).mono (same 12 (getF l kk) (by unfold spoilE; rw [if_pos hi]) (by decide))
    | true =>
      obtain ⟨k, rfl, hk⟩ := isL_nat hi
      rw [hi] at hlook
      by_cases h2 : (xx < 1 ∨ xx > 255) ∨ (getF l k).2.2 = []
      · exact (spoil_2 (β 0) k xx w _ _ _ (fun w1 => ∃ G1 ω1, LookG w G ω (β 0) l w1 G1 ω1) (by
          rcases h2 with h | h
          · exact .inl h
          · right; rw [h]) hlook).mono (same 2 (getF l k) (by unfold spoilE; rw [if_neg (by rw [hi]; simp), if_pos h2]) (by decide))
      · have he : spoilE l k xx = 0 := by unfold spoilE; rw [if_neg (by rw [hi]; simp), if_neg h2]
        have hne : l ≠ [] := fun e => by rw [e] at hk; simp at hk
        have hgf : getF l (k : Int) = l[k] := getF_at hk
        rw [hgf] at hlook h2
        have hx : 1 ≤ xx ∧ xx ≤ 255 := ⟨by
          rcases Int.lt_or_le xx 1 with h | h
          · exact absurd (.inl (.inl h)) h2
          · exact h, by
          rcases Int.lt_or_le 255 xx with h | h
          · exact absurd (.inl (.inr h)) h2
          · exact h⟩
        have ht : (l[k]).2.2 ≠ [] := fun h => h2 (.inr h)
        have ht3 : (l[k]).2.2.length ≤ 300 := hf _ (List.getElem_mem hk)
        generalize htx : (l[k]).2.2 = t at *
        have hm0 : 0 < t.length := List.length_pos_iff.2 ht
        have hxu : xx = ((UInt8.ofNat xx.toNat).toNat : Int) := by
          have : (UInt8.ofNat xx.toNat).toNat = xx.toNat := by simp [UInt8.toNat_ofNat']; omega
          rw [this]; omega
        have hsl : spoilL l k xx = l.set k ((l[k]).1, (l[k]).2.1, lastX t xx) := by
          unfold spoilL spoilF; rw [he, if_pos rfl, hgf, htx]; rfl
        have hl2 := hlook.mono (R' := fun e w1 => e = .returned (.tuple #[.agg #[.int .i64 (l[k]).1, .int .i64 (l[k]).2.1, .string ⟨⟨t⟩⟩], .bool true]) ∧ ∃ g cap, YesG (β 0) l.length w1 g cap ∧ ∃ G1 ω1, LookG w G ω (β 0) l w1 G1 ω1 ∧ Rep w1 G1 (.sl 3 (fRows l)) (.slice (some ⟨g, 0, none⟩) l.length cap)) (by
          rintro e w1 ⟨rfl, G1, ω1, hK⟩
          obtain ⟨g, cap, hY, hR⟩ := yesG_of hK.2.1 (hK.1.2.2.1 _ (by rw [hK.2.1]; simp)) hK.2.2 hne
          exact ⟨rfl, g, cap, hY, G1, ω1, hK, hR⟩)
        have hwalk := spoil_yes (β 0) k l.length xx w _ _ ⟨⟨t⟩⟩ (fun w1 g cap => ∃ G1 ω1, LookG w G ω (β 0) l w1 G1 ω1 ∧ Rep w1 G1 (.sl 3 (fRows l)) (.slice (some ⟨g, 0, none⟩) l.length cap)) (by simp; omega) (by simp; omega) (by
            exact ba_ne ht) t.length rfl hm0 ht3 hl2 (lastX t xx) (changed_len _ _ _) (fun j hj => by
              unfold lastX changed
              simp only [List.getD_eq_getElem?_getD, List.getElem?_mapIdx]
              have e : ¬ ((j : Int) = (t.length : Int) - 1) := by omega
              simp [e]) (by
              have e : (((t.length - 1 : Nat)) : Int) = (t.length : Int) - 1 := by omega
              have q : t.length - 1 < t.length := by omega
              unfold lastX changed
              simp only [List.getD_eq_getElem?_getD, List.getElem?_mapIdx, e, if_true]
              rw [List.getElem?_eq_getElem q]
              conv => rhs; rw [hxu]
              have e3 : (⟨t⟩ : Array UInt8)[t.length - 1]? = some t[t.length - 1] := by simp
              rw [e3]
              exact (bits_xor_u8 _ _).symm) hk hl (fVals l) (fVals_len l) (fun w1 g cap hQ W hs ho => by
                obtain ⟨G1, ω1, hK, hR⟩ := hQ
                exact clone_call hC hl hne hK.1.2.1 hR W hs ho)
        refine hwalk.mono ?_
        rintro e w' ⟨rfl, w1, g, cap, W3, W5, g2, cap2, ⟨G1, ω1, ⟨⟨hev, hgn1, hωn1, hdom⟩, hob, hB1⟩, hR⟩, hY, hP, hCl, rfl⟩
        have hb1 : β 0 < w1.heap.size := hY.hb
        have hg2 : w1.heap.size ≤ g2 := Nat.le_trans hP.size hCl.lo
        have hw1 := hev.size
        have hbg : β 0 ≠ g2 := by omega
        have old5 : ∀ j, j < w1.heap.size → W5.heap[j]? = w1.heap[j]? := fun j hj => (hCl.old j (by have := hP.size; omega)).trans (hP.old j hj)
        have size5 : w1.heap.size ≤ W5.heap.size := by have := hCl.hi; omega
        have ev5 : Evo (fun b' => w.heap.size ≤ b' ∨ ω b' ≠ none) w1 G1 W5 G1 := old_evo (hCl.os.trans hP.os) (hCl.tape.trans hP.tape) (hCl.output.trans hP.output) size5 old5 hgn1
        obtain ⟨arr1, e1, hba, ⟨hsz1, _⟩, hG10, _⟩ := hB1
        simp only [Option.getD_none] at hba
        have h10 : 0 < arr1.size := hsz1
        have hGg : G1 g2 = 0 := hgn1 _ hg2
        have ev6 : Evo (fun b' => w.heap.size ≤ b' ∨ ω b' ≠ none) W5 G1 (W5.setCell ⟨β 0, 0, none⟩ (.slice (some ⟨g2, 0, none⟩) l.length cap2)) G1 := setCell_evo (.inr (by rw [hωb]; simp)) hG10
        have ev7 := set_new (w0 := w) (w := W5.setCell ⟨β 0, 0, none⟩ (.slice (some ⟨g2, 0, none⟩) l.length cap2)) (ω := ω) (h := g2) (i := k * 3 + 2) (v := .string ⟨(lastX t xx).toArray⟩) (by omega) hGg
        have ev8 := raise_evo (T := fun b' => w.heap.size ≤ b' ∨ ω b' ≠ none) (w := (W5.setCell ⟨β 0, 0, none⟩ (.slice (some ⟨g2, 0, none⟩) l.length cap2)).setCell ⟨g2, k * 3 + 2, none⟩ (.string ⟨(lastX t xx).toArray⟩)) (n := l.length * 3) hGg (.inl (by omega))
        have hevw : Evo (fun b' => w.heap.size ≤ b' ∨ ω b' ≠ none) w G w1 G1 := ⟨hev.os, hev.tape, hev.output, hev.size, hev.ext, fun b hb ht => hev.block b hb (fun h => ht (.inr h))⟩
        have ev := ((((hevw.trans ev5 (fun _ _ h => h)).trans ev6 (fun _ _ h => h)).trans ev7 (fun _ _ h => h)).trans ev8 (fun _ _ h => h))
        obtain ⟨cur, e2, hcur, hcl2, hcs⟩ := hCl.row
        have hsz : (((W5.setCell ⟨β 0, 0, none⟩ (.slice (some ⟨g2, 0, none⟩) l.length cap2)).setCell ⟨g2, k * 3 + 2, none⟩ (.string ⟨(lastX t xx).toArray⟩)).drew).heap.size = W5.heap.size := by
          show (((W5.setCell ⟨β 0, 0, none⟩ (.slice (some ⟨g2, 0, none⟩) l.length cap2)).setCell ⟨g2, k * 3 + 2, none⟩ (.string ⟨(lastX t xx).toArray⟩))).heap.size = _
          rw [setCell_size, setCell_size]
        have hb5 : W5.heap[β 0]? = some (.cells arr1 e1 (0, 0)) := (old5 _ hb1).trans hba
        have hb6 := heap_setCell_same W5 (β 0) 0 _ _ (.slice (some ⟨g2, 0, none⟩) l.length cap2) hb5
        have hg6 : (W5.setCell ⟨β 0, 0, none⟩ (.slice (some ⟨g2, 0, none⟩) l.length cap2)).heap[g2]? = some (.cells cur e2 (0, 0)) := by rw [setCell_other _ (Ne.symm hbg)]; exact hcur
        have hg7 := heap_setCell_same _ g2 (k * 3 + 2) _ _ (.string ⟨(lastX t xx).toArray⟩) hg6
        rw [hsl, he]
        refine ⟨_, upd G1 g2 (l.length * 3), upd ω1 g2 (some (.cell 0 0)), rfl, ev.wide, fun b hb => ?_, fun b hb => ?_, fun b hb => ?_, ⟨⟨?_, ?_⟩, trivial⟩, .int _ _⟩
        · rw [hsz] at hb
          have := hCl.hi
          rw [upd_ne _ _ _ _ (by omega : b ≠ g2)]; exact hgn1 b (by omega)
        · rw [hsz]
          by_cases e : b = g2
          · subst e; exact hCl.hi
          · rw [upd_ne _ _ _ _ e] at hb; have := hωn1 b hb; omega
        · by_cases e : b = g2
          · subst e; right; omega
          · rw [upd_ne _ _ _ _ e] at hb; exact hdom b hb
        · rw [upd_ne _ _ _ _ hbg]; exact hob
        · refine net_new2 (arr := arr1.setIfInBounds 0 (.slice (some ⟨g2, 0, none⟩) l.length cap2)) (cur := cur.setIfInBounds (k * 3 + 2) (.string ⟨(lastX t xx).toArray⟩)) (e1 := e1) (e2 := e2) ?_ (by simp [h10]) (List.length_set ..) hCl.cap hG10 hbg ?_ (by simp [hcs]) ?_
          · show ((W5.setCell ⟨β 0, 0, none⟩ (.slice (some ⟨g2, 0, none⟩) l.length cap2)).setCell ⟨g2, k * 3 + 2, none⟩ (.string ⟨(lastX t xx).toArray⟩)).heap[β 0]? = _
            rw [setCell_other _ hbg]; exact hb6
          · exact hg7
          · rw [Array.toList_setIfInBounds, List.take_set, hcl2]
            exact fVals_set l k _ hk
  · exact hargs.2.2.2.elim
end Go.AR
