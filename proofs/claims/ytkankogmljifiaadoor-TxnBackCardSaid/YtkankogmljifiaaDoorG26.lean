import Derived.Test.YtkankogmljifiaaDoorG25
import Derived.Test.YtkankogmljifiaaDoorG10
import Derived.Test.YtkankogmljifiaaDoorG08
import Derived.Test.YtkankogmljifiaaDoorG05
import Derived.Test.YtkankogmljifiaaDoorG09
import Derived.Lib.LaidU8
import Derived.Shelf.Unicode.DecodeSlow
set_option linter.all false
/-! What is known of Go's tables of characters; the first character of a text. -/
namespace Go.AR
open Go Go.Shelf Go.Proofs
/-- Go's two tables lie where they lie, and nobody's frame owns them. -/
def utfInv (g3 g4 : Nat) : Inv where
  on w ω := Lib.Utf8Tabs g3 g4 w ∧ (ω g3 = none ∧ g3 < w.heap.size) ∧ ω g4 = none ∧ g4 < w.heap.size
  keep := by
    rintro w G ω w' G' ω' ⟨⟨h1, h2⟩, ⟨h3, h4⟩, h5, h6⟩ he hd
    have nn : ∀ b, ω b = none → b < w.heap.size → ω' b = none := fun b hb hlt => by
      cases hq : ω' b with
      | none => rfl
      | some x =>
        rcases hd b (by rw [hq]; simp) with h | h
        · exact absurd hb h
        · omega
    have c3 := (he.block g3 h4 (fun h => h h3)).1
    have c4 := (he.block g4 h6 (fun h => h h5)).1
    refine ⟨⟨fun c hc => ?_, fun i hi => ?_⟩, ⟨nn g3 h3 h4, Nat.lt_of_lt_of_le h4 he.size⟩, nn g4 h5 h6, Nat.lt_of_lt_of_le h6 he.size⟩
    · rw [World.cell?_of_block (a := ⟨g3, c, none⟩) c3]; exact h1 c hc
    · rw [World.cell?_of_block (a := ⟨g4, 2 * i, none⟩) c4, World.cell?_of_block (a := ⟨g4, 2 * i + 1, none⟩) c4]; exact h2 i hi
  heap := by
    rintro w ω w' ⟨⟨h1, h2⟩, ⟨h3, h4⟩, h5, h6⟩ he
    refine ⟨⟨fun c hc => ?_, fun i hi => ?_⟩, ⟨h3, by rw [he]; exact h4⟩, h5, by rw [he]; exact h6⟩
    · rw [World.cell?_of_block (a := ⟨g3, c, none⟩) (w := w) (by rw [he])]; exact h1 c hc
    · rw [World.cell?_of_block (a := ⟨g4, 2 * i, none⟩) (w := w) (by rw [he]), World.cell?_of_block (a := ⟨g4, 2 * i + 1, none⟩) (w := w) (by rw [he])]; exact h2 i hi
/-- A text's first character, as Go tells it. -/
def decG (l : List UInt8) : Nat × Nat := if l = [] then (65533, 0) else if (chr l).2 = 0 then (65533, 1) else chr l
def decP (l : List UInt8) : PV := .tup [.int .i32 (decG l).1, .int .i64 (decG l).2]
def S_dec (R : Rel) : Prop := ∀ l : List UInt8, R [.v (.str l)] (.val (decP l)) []
theorem decodeGo_G (l : List UInt8) : Lib.decodeGo ⟨⟨l⟩⟩ = decG l := by
  unfold Lib.decodeGo decG
  have hs : (⟨⟨l⟩⟩ : ByteArray).size = l.length := rfl
  rw [hs]
  by_cases h : l = []
  · subst h; rfl
  · have hl : l.length ≠ 0 := fun e => h (List.eq_nil_of_length_eq_zero e)
    rw [if_neg hl, if_neg h, decode_chr l 0 (by omega), List.drop_zero]
variable {P : Program} {ρ : Ren}
theorem acall_Slow (L : Lays.n260 P ρ) : S_dec (ACallI (utfInv (ρ.g 3) (ρ.g 4)) P (ρ.f 260)) := by
  intro l
  refine ⟨fun va w => enters_of L.f260 (by kernel_rfl) rfl va w, fun w G β ω va hgn hωn hargs hI => ?_⟩
  rcases va with _ | ⟨v, va⟩
  · exact hargs.elim
  · obtain ⟨hv, hrest⟩ := hargs
    rcases va with _ | ⟨u, va⟩
    · have e := Rep.str_inv hv
      subst e
      refine (Any.utf8_decodeRuneInStringSlow L ⟨⟨l⟩⟩ w hI.1).mono ?_
      rintro e w' ⟨rfl, hb⟩
      rw [decodeGo_G]
      have hsize : w.heap.size ≤ w'.heap.size := hb.size
      have hext : GExt w G w' G := ⟨fun _ => Nat.le_refl _, fun b off hlt => World.cell?_of_block (a := ⟨b, off, none⟩) (hb.block b (by
          rcases Nat.lt_or_ge b w.heap.size with h | h
          · exact h
          · rw [hgn b h] at hlt; omega)), fun b sh hs => by
        rw [shape_of_block (hb.block b (by
          rcases Nat.lt_or_ge b w.heap.size with h | h
          · exact h
          · simp [World.shape?, Array.getElem?_eq_none h] at hs))]; exact hs⟩
      refine ⟨_, G, ω, rfl, ⟨hb.os, hb.tape, hb.output, hsize, hext, fun b hlt _ => ⟨hb.block b hlt, rfl⟩⟩, fun b h => hgn b (by omega), fun b h => Nat.lt_of_lt_of_le (hωn b h) hsize, fun b h => .inl h, trivial, ?_⟩
      refine .tup _ _ rfl (fun i p x hp hx => ?_)
      rcases i with _ | _ | i
      · simp at hp hx; subst hp; subst hx; exact .int _ _
      · simp at hp hx; subst hp; subst hx; exact .int _ _
      · simp at hp
    · exact hrest.elim
end Go.AR

/-! Names: characters. -/
namespace Go.AR
open Go
section
variable {C : CallRel} {F : Nat → FuncId}
def iRows (k : IntKind) (l : List Int) : List (List PV) := l.map fun c => [.int k c]
theorem iRows_len (k : IntKind) (l : List Int) : (iRows k l).length = l.length := by simp [iRows]
theorem iRows_app (k : IntKind) (l : List Int) (c : Int) : iRows k l ++ [[.int k c]] = iRows k (l ++ [c]) := by simp [iRows]
theorem iRows_get (k : IntKind) (l : List Int) (i : Nat) (h : i < l.length) : (iRows k l)[i]? = some [.int k l[i]] := by simp [iRows, h]
def runesP (k : IntKind) : Option (List Int) → PV
  | some l => .tup [.sl 1 (iRows k l), .bool true]
  | none => .tup [.sl 1 [], .bool false]
def S_may (k : IntKind) (R : Rel) : Prop := ∀ c : Int, R [.v (.int k c)] (.val (.bool (mayB c))) []
def S_runes (k : IntKind) (R : Rel) : Prop := ∀ s : List UInt8, s.length ≤ 20000000 → R [.v (.str s)] (.val (runesP k (runes s []))) []
def S_right (R : Rel) : Prop := ∀ s : List UInt8, s.length ≤ 20000000 → R [.v (.str s)] (.val (.bool (rightB s))) []
def S_chr (R : Rel) : Prop := ∀ s : List UInt8, s.length ≤ 20000000 → R [.v (.str s)] (.val (.tup [.int .i64 (chr s).1, .int .i64 (chr s).2])) []
theorem runes_len : ∀ (k : Nat) (l : List UInt8) (out cs : List Int), l.length ≤ k → runes l out = some cs → cs.length ≤ out.length + l.length
  | k, [], out, cs, _, h => by
    rw [runes_nil] at h
    cases h; simp
  | 0, b :: l, out, cs, hk, h => by simp at hk
  | k + 1, b :: l, out, cs, hk, h => by
    by_cases h2 : (chr (b :: l)).2 = 0
    · rw [runes_none _ (by simp) h2] at h; cases h
    · rw [runes_some _ (by simp) h2] at h
      have hle := (chr_le (b :: l)).1
      have := runes_len k _ _ _ (by rw [List.length_drop]; simp at hk ⊢; omega) h
      rw [List.length_append, List.length_drop] at this
      simp at this ⊢
      omega
theorem drop_lt_ne (s : List UInt8) (k : Nat) (h : k < s.length) : s.drop k ≠ [] := fun e => by
  have := congrArg List.length e
  rw [List.length_drop] at this; simp at this; omega
theorem g_name_may : S_may .i32 ((c_name_may F).gives C) := by
  intro c
  refine gives_of rfl ?_
  unfold c_name_may
  simp only [walk, Nat.reduceLT, Nat.reduceBEq, Nat.reduceAdd, Nat.reduceLeDiff, reduceIte, Int.reduceLT, Int.reduceLE, Int.reduceEq, Int.reduceToNat, Int.reduceBEq]
  by_cases h1 : c < 32
  · simp only [walk, Nat.reduceLT, Nat.reduceBEq, Nat.reduceAdd, Nat.reduceLeDiff, reduceIte, Int.reduceLT, Int.reduceLE, Int.reduceEq, Int.reduceToNat, Int.reduceBEq, h1, mayB]
  · simp only [walk, Nat.reduceLT, Nat.reduceBEq, Nat.reduceAdd, Nat.reduceLeDiff, reduceIte, Int.reduceLT, Int.reduceLE, Int.reduceEq, Int.reduceToNat, Int.reduceBEq, h1, mayB, ge_iff_le]
    by_cases h2 : 127 ≤ c
    · simp only [walk, Nat.reduceLT, Nat.reduceBEq, Nat.reduceAdd, Nat.reduceLeDiff, reduceIte, Int.reduceLT, Int.reduceLE, Int.reduceEq, Int.reduceToNat, Int.reduceBEq, h2]
      by_cases h3 : c < 160
      · simp only [walk, Nat.reduceLT, Nat.reduceBEq, Nat.reduceAdd, Nat.reduceLeDiff, reduceIte, Int.reduceLT, Int.reduceLE, Int.reduceEq, Int.reduceToNat, Int.reduceBEq, h3]
      · simp only [walk, Nat.reduceLT, Nat.reduceBEq, Nat.reduceAdd, Nat.reduceLeDiff, reduceIte, Int.reduceLT, Int.reduceLE, Int.reduceEq, Int.reduceToNat, Int.reduceBEq, h3]
    · simp only [walk, Nat.reduceLT, Nat.reduceBEq, Nat.reduceAdd, Nat.reduceLeDiff, reduceIte, Int.reduceLT, Int.reduceLE, Int.reduceEq, Int.reduceToNat, Int.reduceBEq, h2]
theorem g_name_Runes (hD : S_dec (C (F n_unicode_utf8_DecodeRuneInString))) : S_runes .i32 ((c_name_Runes F).gives C) := by
  intro s hs
  refine gives_of rfl ?_
  unfold c_name_Runes
  simp only [walk, Nat.reduceLT, Nat.reduceBEq, Nat.reduceAdd, Nat.reduceLeDiff, reduceIte, Int.reduceLT, Int.reduceLE, Int.reduceEq, Int.reduceToNat, Int.reduceBEq]
  refine awp_loop_ind (X := Nat × List Int) (fun x => ⟨[(0, .val (.str s)), (2, .own 1 []), (3, .val (.bool false)), (4, .own 1 (iRows .i32 x.2)), (10, .lp 10 0)], [(10, .iter s x.1)]⟩)
    (fun x => x.1 ≤ s.length ∧ x.2.length ≤ x.1 ∧ runes (s.drop x.1) x.2 = runes s []) (fun x => s.length - x.1) (0, []) ⟨by omega, by simp, rfl⟩ (by simp [iRows]) ?_
  rintro R ⟨k, out⟩ ⟨hk, ho, hJ⟩ ih
  simp only at hk ho hJ
  have hb2 : (out.length + 1) * 4 ≤ 140737488355328 := by omega
  simp only [walk, Nat.reduceLT, Nat.reduceBEq, Nat.reduceAdd, Nat.reduceLeDiff, reduceIte, Int.reduceLT, Int.reduceLE, Int.reduceEq, Int.reduceToNat, Int.reduceBEq]
  by_cases c : k < s.length
  · have hne := drop_lt_ne s k c
    have hdec := decB_chr s k c
    have hle := (chr_le (s.drop k)).1
    rw [List.length_drop] at hle
    have c0 : (0 : Int) ≤ k := by omega
    have c1 : (k : Int) ≤ s.length := by omega
    have hcut : (s.drop k).take (s.length - k) = s.drop k := List.take_of_length_le (by rw [List.length_drop]; omega)
    by_cases h0 : (chr (s.drop k)).2 = 0
    · rw [if_pos h0] at hdec
      rw [runes_none _ hne h0] at hJ
      simp only [walk, Nat.reduceLT, Nat.reduceBEq, Nat.reduceAdd, Nat.reduceLeDiff, reduceIte, Int.reduceLT, Int.reduceLE, Int.reduceEq, Int.reduceToNat, Int.reduceBEq, c, hdec]
      simp only [walk, Nat.reduceLT, Nat.reduceBEq, Nat.reduceAdd, Nat.reduceLeDiff, reduceIte, Int.reduceLT, Int.reduceLE, Int.reduceEq, Int.reduceToNat, Int.reduceBEq, c0, c1, hcut]
      refine callWp_of (hD (s.drop k)) ?_
      have e : decG (s.drop k) = (65533, 1) := by unfold decG; rw [if_neg hne, if_pos h0]
      simp only [walk, Nat.reduceLT, Nat.reduceBEq, Nat.reduceAdd, Nat.reduceLeDiff, reduceIte, Int.reduceLT, Int.reduceLE, Int.reduceEq, Int.reduceToNat, Int.reduceBEq, decP, e, ← hJ, runesP]
    · rw [if_neg h0] at hdec
      rw [runes_some _ hne h0, List.drop_drop] at hJ
      have e : decG (s.drop k) = chr (s.drop k) := by unfold decG; rw [if_neg hne, if_neg h0]
      have h1 : (chr (s.drop k)).1 = 65533 → ¬ (((chr (s.drop k)).2 : Nat) : Int) ≤ 1 := fun hc hle1 => by
        have h11 : (chr (s.drop k)).2 = 1 := by omega
        have := chr_N (s.drop k) hne
        rw [this] at hc h11
        unfold chrN at hc h11
        repeat' split at h11
        all_goals simp at h11
        rename_i hlt
        rw [if_pos hlt] at hc
        simp only at hc; omega
      have step := ih (k + (chr (s.drop k)).2, out ++ [((chr (s.drop k)).1 : Int)]) ⟨by simp only; omega, by simp; omega, hJ⟩ (by simp only; omega)
      rw [← iRows_app] at step
      generalize chr (s.drop k) = x at hdec e h1 step
      obtain ⟨x, n⟩ := x
      simp only at hdec h1 step
      simp only [walk, Nat.reduceLT, Nat.reduceBEq, Nat.reduceAdd, Nat.reduceLeDiff, reduceIte, Int.reduceLT, Int.reduceLE, Int.reduceEq, Int.reduceToNat, Int.reduceBEq, c, hdec]
      by_cases hx : x = 65533
      · have hx' : ((x : Int) == 65533) = true := by rw [beq_iff_eq]; omega
        simp only [walk, Nat.reduceLT, Nat.reduceBEq, Nat.reduceAdd, Nat.reduceLeDiff, reduceIte, Int.reduceLT, Int.reduceLE, Int.reduceEq, Int.reduceToNat, Int.reduceBEq, hx', c0, c1, hcut]
        refine callWp_of (hD (s.drop k)) ?_
        have h2 := h1 hx
        simp only [walk, Nat.reduceLT, Nat.reduceBEq, Nat.reduceAdd, Nat.reduceLeDiff, reduceIte, Int.reduceLT, Int.reduceLE, Int.reduceEq, Int.reduceToNat, Int.reduceBEq, decP, e, h2, iRows_len, hb2]
        exact step
      · have hx' : ((x : Int) == 65533) = false := by rw [beq_eq_false_iff_ne]; omega
        simp only [walk, Nat.reduceLT, Nat.reduceBEq, Nat.reduceAdd, Nat.reduceLeDiff, reduceIte, Int.reduceLT, Int.reduceLE, Int.reduceEq, Int.reduceToNat, Int.reduceBEq, hx', iRows_len, hb2]
        exact step
  · rw [List.drop_eq_nil_of_le (by omega), runes_nil] at hJ
    simp only [walk, Nat.reduceLT, Nat.reduceBEq, Nat.reduceAdd, Nat.reduceLeDiff, reduceIte, Int.reduceLT, Int.reduceLE, Int.reduceEq, Int.reduceToNat, Int.reduceBEq, c, ← hJ, runesP]
theorem g_name_Right (hR : S_runes .i32 (C (F n_name_Runes))) (hM : S_may .i32 (C (F n_name_may))) : S_right ((c_name_Right F).gives C) := by
  intro s hs
  refine gives_of rfl ?_
  unfold c_name_Right
  simp only [walk, Nat.reduceLT, Nat.reduceBEq, Nat.reduceAdd, Nat.reduceLeDiff, reduceIte, Int.reduceLT, Int.reduceLE, Int.reduceEq, Int.reduceToNat, Int.reduceBEq]
  refine callWp_of (hR s hs) ?_
  unfold rightB
  cases hr : runes s [] with
  | none => simp only [walk, Nat.reduceLT, Nat.reduceBEq, Nat.reduceAdd, Nat.reduceLeDiff, reduceIte, Int.reduceLT, Int.reduceLE, Int.reduceEq, Int.reduceToNat, Int.reduceBEq, runesP]
  | some l =>
    have hl := runes_len s.length s [] l (Nat.le_refl _) hr
    simp only [List.length_nil, Nat.zero_add] at hl
    simp only [walk, Nat.reduceLT, Nat.reduceBEq, Nat.reduceAdd, Nat.reduceLeDiff, reduceIte, Int.reduceLT, Int.reduceLE, Int.reduceEq, Int.reduceToNat, Int.reduceBEq, runesP, iRows_len]
    by_cases h1 : l.length = 0
    · have h1' : ((l.length : Int) == 0) = true := by rw [beq_iff_eq]; omega
      have h2 : ¬ 1 ≤ l.length := by omega
      simp only [walk, Nat.reduceLT, Nat.reduceBEq, Nat.reduceAdd, Nat.reduceLeDiff, reduceIte, Int.reduceLT, Int.reduceLE, Int.reduceEq, Int.reduceToNat, Int.reduceBEq, h1', h2]
    · have h1' : ((l.length : Int) == 0) = false := by rw [beq_eq_false_iff_ne]; omega
      have h2 : 1 ≤ l.length := by omega
      by_cases h3 : 24 < l.length
      · have h3' : (24 : Int) < l.length := by omega
        have h4 : ¬ l.length ≤ 24 := by omega
        simp only [walk, Nat.reduceLT, Nat.reduceBEq, Nat.reduceAdd, Nat.reduceLeDiff, reduceIte, Int.reduceLT, Int.reduceLE, Int.reduceEq, Int.reduceToNat, Int.reduceBEq, h1', h2, gt_iff_lt, iRows_len, h3', h4]
      · have h3' : ¬ (24 : Int) < l.length := by omega
        have h4 : l.length ≤ 24 := by omega
        simp only [walk, Nat.reduceLT, Nat.reduceBEq, Nat.reduceAdd, Nat.reduceLeDiff, reduceIte, Int.reduceLT, Int.reduceLE, Int.reduceEq, Int.reduceToNat, Int.reduceBEq, h1', h2, gt_iff_lt, iRows_len, h3', h4]
        refine awp_loop_ind (X := Nat) (fun k => ⟨[(0, .val (.str s)), (2, .val (.bool false)), (3, .val (.sl 1 (iRows .i32 l))), (4, .val (.bool true)), (23, .val (.bool false)), (24, .val (.sl 1 (iRows .i32 l))), (25, .val (.int .i64 l.length)), (26, .val (.int .i64 k))], []⟩)
          (fun k => k ≤ l.length ∧ (l.take k).all mayB = true) (fun k => l.length - k) 0 ⟨by omega, by simp⟩ rfl ?_
        rintro R k ⟨hk, hJ⟩ ih
        simp only [walk, Nat.reduceLT, Nat.reduceBEq, Nat.reduceAdd, Nat.reduceLeDiff, reduceIte, Int.reduceLT, Int.reduceLE, Int.reduceEq, Int.reduceToNat, Int.reduceBEq]
        by_cases c : k < l.length
        · have c1 : (k : Int) < l.length := by omega
          have c0 : (0 : Int) ≤ k := by omega
          have e1 : IntKind.i64.wrap ((k : Int) + 1) = ((k + 1 : Nat) : Int) := wrap64 (by omega) (by omega)
          have hg := iRows_get .i32 l k c
          simp only [walk, Nat.reduceLT, Nat.reduceBEq, Nat.reduceAdd, Nat.reduceLeDiff, reduceIte, Int.reduceLT, Int.reduceLE, Int.reduceEq, Int.reduceToNat, Int.reduceBEq, c1, hg]
          refine callWp_of (hM l[k]) ?_
          by_cases hm : mayB l[k] = true
          · simp only [walk, Nat.reduceLT, Nat.reduceBEq, Nat.reduceAdd, Nat.reduceLeDiff, reduceIte, Int.reduceLT, Int.reduceLE, Int.reduceEq, Int.reduceToNat, Int.reduceBEq, hm, e1]
            refine ih (k + 1) ⟨by omega, ?_⟩ (by omega)
            rw [List.take_add_one, List.getElem?_eq_getElem c, List.all_append, hJ]
            simp [hm]
          · have hf : l.all mayB = false := by
              rw [Bool.eq_false_iff]
              intro h
              exact hm (List.all_eq_true.1 h _ (List.getElem_mem c))
            simp only [walk, Nat.reduceLT, Nat.reduceBEq, Nat.reduceAdd, Nat.reduceLeDiff, reduceIte, Int.reduceLT, Int.reduceLE, Int.reduceEq, Int.reduceToNat, Int.reduceBEq, hm, hf]
        · have c1 : ¬ (k : Int) < l.length := by omega
          rw [List.take_of_length_le (by omega)] at hJ
          simp only [walk, Nat.reduceLT, Nat.reduceBEq, Nat.reduceAdd, Nat.reduceLeDiff, reduceIte, Int.reduceLT, Int.reduceLE, Int.reduceEq, Int.reduceToNat, Int.reduceBEq, c1, hJ]
end
end Go.AR

/-! Names: the document's characters. -/
namespace Go.AR
open Go
section
variable {C : CallRel} {F : Nat → FuncId}
theorem g_pref03_may : S_may .i64 ((c_pref03_may F).gives C) := by
  intro c
  refine gives_of rfl ?_
  unfold c_pref03_may
  simp only [walk, Nat.reduceLT, Nat.reduceBEq, Nat.reduceAdd, Nat.reduceLeDiff, reduceIte, Int.reduceLT, Int.reduceLE, Int.reduceEq, Int.reduceToNat, Int.reduceBEq]
  by_cases h1 : c < 32
  · have h1' : ¬ (32 ≤ c) := by omega
    simp only [walk, Nat.reduceLT, Nat.reduceBEq, Nat.reduceAdd, Nat.reduceLeDiff, reduceIte, Int.reduceLT, Int.reduceLE, Int.reduceEq, Int.reduceToNat, Int.reduceBEq, ge_iff_le, h1, h1', mayB]
  · have h1' : 32 ≤ c := by omega
    by_cases h2 : c < 127
    · have h2' : ¬ 127 ≤ c := by omega
      simp only [walk, Nat.reduceLT, Nat.reduceBEq, Nat.reduceAdd, Nat.reduceLeDiff, reduceIte, Int.reduceLT, Int.reduceLE, Int.reduceEq, Int.reduceToNat, Int.reduceBEq, ge_iff_le, h1, h1', h2, h2', mayB]
    · have h2' : 127 ≤ c := by omega
      by_cases h3 : c < 160
      · have h3' : ¬ (159 < c) := by omega
        simp only [walk, Nat.reduceLT, Nat.reduceBEq, Nat.reduceAdd, Nat.reduceLeDiff, reduceIte, Int.reduceLT, Int.reduceLE, Int.reduceEq, Int.reduceToNat, Int.reduceBEq, ge_iff_le, gt_iff_lt, h1, h1', h2, h2', h3, h3', mayB]
      · have h3' : 159 < c := by omega
        simp only [walk, Nat.reduceLT, Nat.reduceBEq, Nat.reduceAdd, Nat.reduceLeDiff, reduceIte, Int.reduceLT, Int.reduceLE, Int.reduceEq, Int.reduceToNat, Int.reduceBEq, ge_iff_le, gt_iff_lt, h1, h1', h2, h2', h3, h3', mayB]
theorem wrap32 {n : Int} (h1 : -2147483648 ≤ n) (h2 : n ≤ 2147483647) : IntKind.i32.wrap n = n := by
  unfold IntKind.wrap; simp [IntKind.signed, IntKind.bits, IntKind.max]; omega
set_option maxRecDepth 10000 in
theorem g_utf8_Decode (hS : S_dec (C (F n_unicode_utf8_decodeRuneInStringSlow))) : S_dec ((c_unicode_utf8_DecodeRuneInString F).gives C) := by
  intro s
  refine gives_of rfl ?_
  unfold c_unicode_utf8_DecodeRuneInString
  rcases s with _ | ⟨b, r⟩
  · have e : ((([] : List UInt8)) == []) = true := rfl
    simp only [walk, Nat.reduceLT, Nat.reduceBEq, Nat.reduceAdd, Nat.reduceLeDiff, reduceIte, Int.reduceLT, Int.reduceLE, Int.reduceEq, Int.reduceToNat, Int.reduceBEq, e]
    refine callWp_of (hS []) ?_
    simp only [walk, Nat.reduceLT, Nat.reduceBEq, Nat.reduceAdd, Nat.reduceLeDiff, reduceIte, Int.reduceLT, Int.reduceLE, Int.reduceEq, Int.reduceToNat, Int.reduceBEq, decP]
  · have e : ((b :: r) == ([] : List UInt8)) = false := rfl
    simp only [walk, Nat.reduceLT, Nat.reduceBEq, Nat.reduceAdd, Nat.reduceLeDiff, reduceIte, Int.reduceLT, Int.reduceLE, Int.reduceEq, Int.reduceToNat, Int.reduceBEq, e]
    have hb := b.toNat_lt
    by_cases h : b.toNat < 128
    · have h' : (b.toNat : Int) < 128 := by omega
      have e1 : IntKind.i32.wrap (b.toNat : Int) = b.toNat := by rw [wrap32 (by omega) (by omega)]
      have e2 : decG (b :: r) = (b.toNat, 1) := by
        have : chr (b :: r) = (b.toNat, 1) := by rw [chr, if_pos h]
        unfold decG
        rw [if_neg (by simp), this]
        all_goals simp
      simp only [walk, Nat.reduceLT, Nat.reduceBEq, Nat.reduceAdd, Nat.reduceLeDiff, reduceIte, Int.reduceLT, Int.reduceLE, Int.reduceEq, Int.reduceToNat, Int.reduceBEq, h', e1, decP, e2]
      all_goals simp
    · have h' : ¬ (b.toNat : Int) < 128 := by omega
      simp only [walk, Nat.reduceLT, Nat.reduceBEq, Nat.reduceAdd, Nat.reduceLeDiff, reduceIte, Int.reduceLT, Int.reduceLE, Int.reduceEq, Int.reduceToNat, Int.reduceBEq, h']
      refine callWp_of (hS (b :: r)) ?_
      simp only [walk, Nat.reduceLT, Nat.reduceBEq, Nat.reduceAdd, Nat.reduceLeDiff, reduceIte, Int.reduceLT, Int.reduceLE, Int.reduceEq, Int.reduceToNat, Int.reduceBEq, decP]
set_option maxHeartbeats 20000000 in
set_option maxRecDepth 10000 in
theorem g_pref03_Char : S_chr ((c_pref03_Char F).gives C) := by
  intro s hs
  refine gives_of rfl ?_
  unfold c_pref03_Char
  rcases s with _ | ⟨b, r⟩
  · have e : ((([] : List UInt8).length : Int) == 0) = true := rfl
    simp only [walk, Nat.reduceLT, Nat.reduceBEq, Nat.reduceAdd, Nat.reduceLeDiff, reduceIte, Int.reduceLT, Int.reduceLE, Int.reduceEq, Int.reduceToNat, Int.reduceBEq, chr]
  have hb := b.toNat_lt
  have l0 : (((b :: r).length : Int) == 0) = false := by rw [beq_eq_false_iff_ne]; simp; omega
  have e0 : IntKind.i64.wrap (b.toNat : Int) = b.toNat := wrap64 (by omega) (by omega)
  have hget : ∀ i : Nat, i < r.length → (b :: r)[i + 1]? = r[i]? := fun i _ => by simp
  simp only [List.length_cons] at hs
  rw [chr]
  simp only [walk, Nat.reduceLT, Nat.reduceBEq, Nat.reduceAdd, Nat.reduceLeDiff, reduceIte, Int.reduceLT, Int.reduceLE, Int.reduceEq, Int.reduceToNat, Int.reduceBEq] at l0
  simp only [walk, Nat.reduceLT, Nat.reduceBEq, Nat.reduceAdd, Nat.reduceLeDiff, reduceIte, Int.reduceLT, Int.reduceLE, Int.reduceEq, Int.reduceToNat, Int.reduceBEq, l0, e0, ge_iff_le]
  generalize hx : b.toNat = x at *
  by_cases h0 : x < 128
  · have h0' : (x : Int) < 128 := by omega
    simp only [walk, Nat.reduceLT, Nat.reduceBEq, Nat.reduceAdd, Nat.reduceLeDiff, reduceIte, Int.reduceLT, Int.reduceLE, Int.reduceEq, Int.reduceToNat, Int.reduceBEq, h0', h0]
    all_goals simp
  have h0' : ¬ (x : Int) < 128 := by omega
  rw [if_neg h0]
  unfold lead
  simp only [walk, Nat.reduceLT, Nat.reduceBEq, Nat.reduceAdd, Nat.reduceLeDiff, reduceIte, Int.reduceLT, Int.reduceLE, Int.reduceEq, Int.reduceToNat, Int.reduceBEq, h0']
  by_cases h1 : 194 ≤ x ∧ x < 224
  · have g1 : (194 : Int) ≤ x := by omega
    have g2 : (x : Int) < 224 := by omega
    have e1 : IntKind.i64.wrap ((x : Int) - 192) = ((x - 192 : Nat) : Int) := by rw [wrap64 (by omega) (by omega)]; omega
    rw [if_pos h1]
    simp only [walk, Nat.reduceLT, Nat.reduceBEq, Nat.reduceAdd, Nat.reduceLeDiff, reduceIte, Int.reduceLT, Int.reduceLE, Int.reduceEq, Int.reduceToNat, Int.reduceBEq, g1, g2, e1]
    by_cases hl : r.length < 1
    · have hl' : (((r.length + 1 : Nat) : Int) < 2) := by omega
      rw [if_pos hl]
      simp only [walk, Nat.reduceLT, Nat.reduceBEq, Nat.reduceAdd, Nat.reduceLeDiff, reduceIte, Int.reduceLT, Int.reduceLE, Int.reduceEq, Int.reduceToNat, Int.reduceBEq, hl']
      all_goals simp
    · have hl' : ¬ (((r.length + 1 : Nat) : Int) < 2) := by omega
      rw [if_neg hl]
      simp only [walk, Nat.reduceLT, Nat.reduceBEq, Nat.reduceAdd, Nat.reduceLeDiff, reduceIte, Int.reduceLT, Int.reduceLE, Int.reduceEq, Int.reduceToNat, Int.reduceBEq, hl']
      refine awp_loop_ind (X := Nat × Nat) (fun y => ⟨[(0, .val (.str (b :: r))), (2, .val (.int .i64 0)), (3, .val (.int .i64 0)), (4, .val (.int .i64 y.2)), (5, .val (.int .i64 2)), (6, .val (.int .i64 128)), (7, .val (.int .i64 y.1)), (10, .val (.bool false)), (14, .val (.bool false)), (18, .val (.bool true)), (48, .val (.bool false))], []⟩)
        (fun y => 1 ≤ y.1 ∧ y.1 ≤ 2 ∧ y.2 < 64 ^ y.1 ∧ contB (2 - y.1) y.2 (r.drop (y.1 - 1)) = contB 1 (x - 192) r) (fun y => 2 - y.1) (1, x - 192) ⟨by omega, by omega, by simp only; omega, by simp⟩ rfl ?_
      rintro R ⟨i, c⟩ ⟨hi1, hi2, hc, hJ⟩ ih
      simp only at hi1 hi2 hc hJ
      have hc4 : c < 16777216 := Nat.lt_of_lt_of_le hc (Nat.pow_le_pow_right (by omega) (show i ≤ 4 by omega))
      simp only [walk, Nat.reduceLT, Nat.reduceBEq, Nat.reduceAdd, Nat.reduceLeDiff, reduceIte, Int.reduceLT, Int.reduceLE, Int.reduceEq, Int.reduceToNat, Int.reduceBEq]
      by_cases ci : i < 2
      · have ci' : (i : Int) < 2 := by omega
        have ci0 : (0 : Int) ≤ i := by omega
        have hil : i - 1 < r.length := by omega
        have hg : (b :: r)[i]? = some r[i - 1] := by have := hget (i - 1) hil; rwa [show i - 1 + 1 = i by omega, List.getElem?_eq_getElem hil] at this
        have e2 : IntKind.i64.wrap ((i : Int) + 1) = ((i + 1 : Nat) : Int) := wrap64 (by omega) (by omega)
        rw [show 2 - i = (2 - (i + 1)) + 1 by omega, List.drop_eq_getElem_cons hil, contB, show i - 1 + 1 = i + 1 - 1 by omega] at hJ
        have hu := (r[i - 1]).toNat_lt
        simp only [walk, Nat.reduceLT, Nat.reduceBEq, Nat.reduceAdd, Nat.reduceLeDiff, reduceIte, Int.reduceLT, Int.reduceLE, Int.reduceEq, Int.reduceToNat, Int.reduceBEq, ci', hg, gt_iff_lt]
        generalize hv : (r[i - 1]).toNat = v at *
        by_cases j1 : v < 128
        · have j1' : (v : Int) < 128 := by omega
          rw [if_pos (.inl j1)] at hJ
          simp only [walk, Nat.reduceLT, Nat.reduceBEq, Nat.reduceAdd, Nat.reduceLeDiff, reduceIte, Int.reduceLT, Int.reduceLE, Int.reduceEq, Int.reduceToNat, Int.reduceBEq, j1', ← hJ]
          all_goals simp
        · have j1' : ¬ (v : Int) < 128 := by omega
          by_cases j2 : 191 < v
          · have j2' : (191 : Int) < v := by omega
            rw [if_pos (.inr j2)] at hJ
            simp only [walk, Nat.reduceLT, Nat.reduceBEq, Nat.reduceAdd, Nat.reduceLeDiff, reduceIte, Int.reduceLT, Int.reduceLE, Int.reduceEq, Int.reduceToNat, Int.reduceBEq, j1', hg, hv, j2', ← hJ]
            all_goals simp
          · have j2' : ¬ (191 : Int) < v := by omega
            rw [if_neg (by omega)] at hJ
            have f1 : IntKind.i64.wrap (64 * (c : Int)) = ((64 * c : Nat) : Int) := by rw [wrap64 (by omega) (by omega)]; omega
            have f2 : IntKind.i64.wrap (v : Int) = v := wrap64 (by omega) (by omega)
            have f3 : IntKind.i64.wrap (((64 * c : Nat) : Int) + v) = ((64 * c + v : Nat) : Int) := by rw [wrap64 (by omega) (by omega)]; omega
            have f4 : IntKind.i64.wrap (((64 * c + v : Nat) : Int) - 128) = ((64 * c + v - 128 : Nat) : Int) := by rw [wrap64 (by omega) (by omega)]; omega
            simp only [walk, Nat.reduceLT, Nat.reduceBEq, Nat.reduceAdd, Nat.reduceLeDiff, reduceIte, Int.reduceLT, Int.reduceLE, Int.reduceEq, Int.reduceToNat, Int.reduceBEq, j1', hg, hv, j2', f1, f2, f3, f4, e2]
            exact ih (i + 1, 64 * c + v - 128) ⟨by simp only; omega, by simp only; omega, by simp only; rw [Nat.pow_succ]; omega, hJ⟩ (by simp only; omega)
      · have ci' : ¬ (i : Int) < 2 := by omega
        rw [show 2 - i = 0 by omega, contB] at hJ
        rw [← hJ]
        dsimp only
        by_cases k1 : c < 128
        · have k1' : (c : Int) < 128 := by omega
          rw [if_pos (.inl k1)]
          simp only [walk, Nat.reduceLT, Nat.reduceBEq, Nat.reduceAdd, Nat.reduceLeDiff, reduceIte, Int.reduceLT, Int.reduceLE, Int.reduceEq, Int.reduceToNat, Int.reduceBEq, ci', gt_iff_lt, k1']
          all_goals simp
        · have k1' : ¬ (c : Int) < 128 := by omega
          by_cases k2 : 1114111 < c
          · have k2' : (1114111 : Int) < c := by omega
            rw [if_pos (.inr (.inl k2))]
            simp only [walk, Nat.reduceLT, Nat.reduceBEq, Nat.reduceAdd, Nat.reduceLeDiff, reduceIte, Int.reduceLT, Int.reduceLE, Int.reduceEq, Int.reduceToNat, Int.reduceBEq, ci', gt_iff_lt, k1', k2']
            all_goals simp
          · have k2' : ¬ (1114111 : Int) < c := by omega
            by_cases k3 : 55296 ≤ c
            · have k3' : (55296 : Int) ≤ c := by omega
              by_cases k4 : c ≤ 57343
              · have k4' : (c : Int) ≤ 57343 := by omega
                rw [if_pos (.inr (.inr ⟨k3, k4⟩))]
                simp only [walk, Nat.reduceLT, Nat.reduceBEq, Nat.reduceAdd, Nat.reduceLeDiff, reduceIte, Int.reduceLT, Int.reduceLE, Int.reduceEq, Int.reduceToNat, Int.reduceBEq, ci', gt_iff_lt, k1', k2', k3', k4']
                all_goals simp
              · have k4' : ¬ (c : Int) ≤ 57343 := by omega
                rw [if_neg (by omega)]
                simp only [walk, Nat.reduceLT, Nat.reduceBEq, Nat.reduceAdd, Nat.reduceLeDiff, reduceIte, Int.reduceLT, Int.reduceLE, Int.reduceEq, Int.reduceToNat, Int.reduceBEq, ci', gt_iff_lt, k1', k2', k3', k4']
                all_goals simp
            · have k3' : ¬ (55296 : Int) ≤ c := by omega
              rw [if_neg (by omega)]
              simp only [walk, Nat.reduceLT, Nat.reduceBEq, Nat.reduceAdd, Nat.reduceLeDiff, reduceIte, Int.reduceLT, Int.reduceLE, Int.reduceEq, Int.reduceToNat, Int.reduceBEq, ci', gt_iff_lt, k1', k2', k3']
              all_goals simp
  rw [if_neg h1]
  by_cases n1 : x < 194
  · have n1' : ¬ (194 : Int) ≤ x := by omega
    have n2' : ¬ (224 : Int) ≤ x := by omega
    have n3' : ¬ (240 : Int) ≤ x := by omega
    rw [if_neg (by omega), if_neg (by omega)]
    simp only [walk, Nat.reduceLT, Nat.reduceBEq, Nat.reduceAdd, Nat.reduceLeDiff, reduceIte, Int.reduceLT, Int.reduceLE, Int.reduceEq, Int.reduceToNat, Int.reduceBEq, n1', n2', n3']
    all_goals simp
  have n1' : (194 : Int) ≤ x := by omega
  have n1'' : ¬ (x : Int) < 224 := by omega
  by_cases h2 : 224 ≤ x ∧ x < 240
  · have g1 : (224 : Int) ≤ x := by omega
    have g2 : (x : Int) < 240 := by omega
    have e1 : IntKind.i64.wrap ((x : Int) - 224) = ((x - 224 : Nat) : Int) := by rw [wrap64 (by omega) (by omega)]; omega
    rw [if_pos h2]
    simp only [walk, Nat.reduceLT, Nat.reduceBEq, Nat.reduceAdd, Nat.reduceLeDiff, reduceIte, Int.reduceLT, Int.reduceLE, Int.reduceEq, Int.reduceToNat, Int.reduceBEq, n1', n1'', g1, g2, e1]
    by_cases hl : r.length < 2
    · have hl' : (((r.length + 1 : Nat) : Int) < 3) := by omega
      rw [if_pos hl]
      simp only [walk, Nat.reduceLT, Nat.reduceBEq, Nat.reduceAdd, Nat.reduceLeDiff, reduceIte, Int.reduceLT, Int.reduceLE, Int.reduceEq, Int.reduceToNat, Int.reduceBEq, hl']
      all_goals simp
    · have hl' : ¬ (((r.length + 1 : Nat) : Int) < 3) := by omega
      rw [if_neg hl]
      simp only [walk, Nat.reduceLT, Nat.reduceBEq, Nat.reduceAdd, Nat.reduceLeDiff, reduceIte, Int.reduceLT, Int.reduceLE, Int.reduceEq, Int.reduceToNat, Int.reduceBEq, hl']
      refine awp_loop_ind (X := Nat × Nat) (fun y => ⟨[(0, .val (.str (b :: r))), (2, .val (.int .i64 0)), (3, .val (.int .i64 0)), (4, .val (.int .i64 y.2)), (5, .val (.int .i64 3)), (6, .val (.int .i64 2048)), (7, .val (.int .i64 y.1)), (10, .val (.bool false)), (14, .val (.bool false)), (18, .val (.bool false)), (27, .val (.bool true)), (48, .val (.bool false))], []⟩)
        (fun y => 1 ≤ y.1 ∧ y.1 ≤ 3 ∧ y.2 < 64 ^ y.1 ∧ contB (3 - y.1) y.2 (r.drop (y.1 - 1)) = contB 2 (x - 224) r) (fun y => 3 - y.1) (1, x - 224) ⟨by omega, by omega, by simp only; omega, by simp⟩ rfl ?_
      rintro R ⟨i, c⟩ ⟨hi1, hi2, hc, hJ⟩ ih
      simp only at hi1 hi2 hc hJ
      have hc4 : c < 16777216 := Nat.lt_of_lt_of_le hc (Nat.pow_le_pow_right (by omega) (show i ≤ 4 by omega))
      simp only [walk, Nat.reduceLT, Nat.reduceBEq, Nat.reduceAdd, Nat.reduceLeDiff, reduceIte, Int.reduceLT, Int.reduceLE, Int.reduceEq, Int.reduceToNat, Int.reduceBEq]
      by_cases ci : i < 3
      · have ci' : (i : Int) < 3 := by omega
        have ci0 : (0 : Int) ≤ i := by omega
        have hil : i - 1 < r.length := by omega
        have hg : (b :: r)[i]? = some r[i - 1] := by have := hget (i - 1) hil; rwa [show i - 1 + 1 = i by omega, List.getElem?_eq_getElem hil] at this
        have e2 : IntKind.i64.wrap ((i : Int) + 1) = ((i + 1 : Nat) : Int) := wrap64 (by omega) (by omega)
        rw [show 3 - i = (3 - (i + 1)) + 1 by omega, List.drop_eq_getElem_cons hil, contB, show i - 1 + 1 = i + 1 - 1 by omega] at hJ
        have hu := (r[i - 1]).toNat_lt
        simp only [walk, Nat.reduceLT, Nat.reduceBEq, Nat.reduceAdd, Nat.reduceLeDiff, reduceIte, Int.reduceLT, Int.reduceLE, Int.reduceEq, Int.reduceToNat, Int.reduceBEq, ci', hg, gt_iff_lt]
        generalize hv : (r[i - 1]).toNat = v at *
        by_cases j1 : v < 128
        · have j1' : (v : Int) < 128 := by omega
          rw [if_pos (.inl j1)] at hJ
          simp only [walk, Nat.reduceLT, Nat.reduceBEq, Nat.reduceAdd, Nat.reduceLeDiff, reduceIte, Int.reduceLT, Int.reduceLE, Int.reduceEq, Int.reduceToNat, Int.reduceBEq, j1', ← hJ]
          all_goals simp
        · have j1' : ¬ (v : Int) < 128 := by omega
          by_cases j2 : 191 < v
          · have j2' : (191 : Int) < v := by omega
            rw [if_pos (.inr j2)] at hJ
            simp only [walk, Nat.reduceLT, Nat.reduceBEq, Nat.reduceAdd, Nat.reduceLeDiff, reduceIte, Int.reduceLT, Int.reduceLE, Int.reduceEq, Int.reduceToNat, Int.reduceBEq, j1', hg, hv, j2', ← hJ]
            all_goals simp
          · have j2' : ¬ (191 : Int) < v := by omega
            rw [if_neg (by omega)] at hJ
            have f1 : IntKind.i64.wrap (64 * (c : Int)) = ((64 * c : Nat) : Int) := by rw [wrap64 (by omega) (by omega)]; omega
            have f2 : IntKind.i64.wrap (v : Int) = v := wrap64 (by omega) (by omega)
            have f3 : IntKind.i64.wrap (((64 * c : Nat) : Int) + v) = ((64 * c + v : Nat) : Int) := by rw [wrap64 (by omega) (by omega)]; omega
            have f4 : IntKind.i64.wrap (((64 * c + v : Nat) : Int) - 128) = ((64 * c + v - 128 : Nat) : Int) := by rw [wrap64 (by omega) (by omega)]; omega
            simp only [walk, Nat.reduceLT, Nat.reduceBEq, Nat.reduceAdd, Nat.reduceLeDiff, reduceIte, Int.reduceLT, Int.reduceLE, Int.reduceEq, Int.reduceToNat, Int.reduceBEq, j1', hg, hv, j2', f1, f2, f3, f4, e2]
            exact ih (i + 1, 64 * c + v - 128) ⟨by simp only; omega, by simp only; omega, by simp only; rw [Nat.pow_succ]; omega, hJ⟩ (by simp only; omega)
      · have ci' : ¬ (i : Int) < 3 := by omega
        rw [show 3 - i = 0 by omega, contB] at hJ
        rw [← hJ]
        dsimp only
        by_cases k1 : c < 2048
        · have k1' : (c : Int) < 2048 := by omega
          rw [if_pos (.inl k1)]
          simp only [walk, Nat.reduceLT, Nat.reduceBEq, Nat.reduceAdd, Nat.reduceLeDiff, reduceIte, Int.reduceLT, Int.reduceLE, Int.reduceEq, Int.reduceToNat, Int.reduceBEq, ci', gt_iff_lt, k1']
          all_goals simp
        · have k1' : ¬ (c : Int) < 2048 := by omega
          by_cases k2 : 1114111 < c
          · have k2' : (1114111 : Int) < c := by omega
            rw [if_pos (.inr (.inl k2))]
            simp only [walk, Nat.reduceLT, Nat.reduceBEq, Nat.reduceAdd, Nat.reduceLeDiff, reduceIte, Int.reduceLT, Int.reduceLE, Int.reduceEq, Int.reduceToNat, Int.reduceBEq, ci', gt_iff_lt, k1', k2']
            all_goals simp
          · have k2' : ¬ (1114111 : Int) < c := by omega
            by_cases k3 : 55296 ≤ c
            · have k3' : (55296 : Int) ≤ c := by omega
              by_cases k4 : c ≤ 57343
              · have k4' : (c : Int) ≤ 57343 := by omega
                rw [if_pos (.inr (.inr ⟨k3, k4⟩))]
                simp only [walk, Nat.reduceLT, Nat.reduceBEq, Nat.reduceAdd, Nat.reduceLeDiff, reduceIte, Int.reduceLT, Int.reduceLE, Int.reduceEq, Int.reduceToNat, Int.reduceBEq, ci', gt_iff_lt, k1', k2', k3', k4']
                all_goals simp
              · have k4' : ¬ (c : Int) ≤ 57343 := by omega
                rw [if_neg (by omega)]
                simp only [walk, Nat.reduceLT, Nat.reduceBEq, Nat.reduceAdd, Nat.reduceLeDiff, reduceIte, Int.reduceLT, Int.reduceLE, Int.reduceEq, Int.reduceToNat, Int.reduceBEq, ci', gt_iff_lt, k1', k2', k3', k4']
                all_goals simp
            · have k3' : ¬ (55296 : Int) ≤ c := by omega
              rw [if_neg (by omega)]
              simp only [walk, Nat.reduceLT, Nat.reduceBEq, Nat.reduceAdd, Nat.reduceLeDiff, reduceIte, Int.reduceLT, Int.reduceLE, Int.reduceEq, Int.reduceToNat, Int.reduceBEq, ci', gt_iff_lt, k1', k2', k3']
              all_goals simp
  rw [if_neg h2]
  have n2' : (224 : Int) ≤ x := by omega
  have n2'' : ¬ (x : Int) < 240 := by omega
  by_cases h3 : 240 ≤ x ∧ x < 245
  · have g1 : (240 : Int) ≤ x := by omega
    have g2 : (x : Int) < 245 := by omega
    have e1 : IntKind.i64.wrap ((x : Int) - 240) = ((x - 240 : Nat) : Int) := by rw [wrap64 (by omega) (by omega)]; omega
    rw [if_pos h3]
    simp only [walk, Nat.reduceLT, Nat.reduceBEq, Nat.reduceAdd, Nat.reduceLeDiff, reduceIte, Int.reduceLT, Int.reduceLE, Int.reduceEq, Int.reduceToNat, Int.reduceBEq, n1', n1'', n2', n2'', g1, g2, e1]
    by_cases hl : r.length < 3
    · have hl' : (((r.length + 1 : Nat) : Int) < 4) := by omega
      rw [if_pos hl]
      simp only [walk, Nat.reduceLT, Nat.reduceBEq, Nat.reduceAdd, Nat.reduceLeDiff, reduceIte, Int.reduceLT, Int.reduceLE, Int.reduceEq, Int.reduceToNat, Int.reduceBEq, hl']
      all_goals simp
    · have hl' : ¬ (((r.length + 1 : Nat) : Int) < 4) := by omega
      rw [if_neg hl]
      simp only [walk, Nat.reduceLT, Nat.reduceBEq, Nat.reduceAdd, Nat.reduceLeDiff, reduceIte, Int.reduceLT, Int.reduceLE, Int.reduceEq, Int.reduceToNat, Int.reduceBEq, hl']
      refine awp_loop_ind (X := Nat × Nat) (fun y => ⟨[(0, .val (.str (b :: r))), (2, .val (.int .i64 0)), (3, .val (.int .i64 0)), (4, .val (.int .i64 y.2)), (5, .val (.int .i64 4)), (6, .val (.int .i64 65536)), (7, .val (.int .i64 y.1)), (10, .val (.bool false)), (14, .val (.bool false)), (18, .val (.bool false)), (27, .val (.bool false)), (36, .val (.bool true)), (48, .val (.bool false))], []⟩)
        (fun y => 1 ≤ y.1 ∧ y.1 ≤ 4 ∧ y.2 < 64 ^ y.1 ∧ contB (4 - y.1) y.2 (r.drop (y.1 - 1)) = contB 3 (x - 240) r) (fun y => 4 - y.1) (1, x - 240) ⟨by omega, by omega, by simp only; omega, by simp⟩ rfl ?_
      rintro R ⟨i, c⟩ ⟨hi1, hi2, hc, hJ⟩ ih
      simp only at hi1 hi2 hc hJ
      have hc4 : c < 16777216 := Nat.lt_of_lt_of_le hc (Nat.pow_le_pow_right (by omega) (show i ≤ 4 by omega))
      simp only [walk, Nat.reduceLT, Nat.reduceBEq, Nat.reduceAdd, Nat.reduceLeDiff, reduceIte, Int.reduceLT, Int.reduceLE, Int.reduceEq, Int.reduceToNat, Int.reduceBEq]
      by_cases ci : i < 4
      · have ci' : (i : Int) < 4 := by omega
        have ci0 : (0 : Int) ≤ i := by omega
        have hil : i - 1 < r.length := by omega
        have hg : (b :: r)[i]? = some r[i - 1] := by have := hget (i - 1) hil; rwa [show i - 1 + 1 = i by omega, List.getElem?_eq_getElem hil] at this
        have e2 : IntKind.i64.wrap ((i : Int) + 1) = ((i + 1 : Nat) : Int) := wrap64 (by omega) (by omega)
        rw [show 4 - i = (4 - (i + 1)) + 1 by omega, List.drop_eq_getElem_cons hil, contB, show i - 1 + 1 = i + 1 - 1 by omega] at hJ
        have hu := (r[i - 1]).toNat_lt
        simp only [walk, Nat.reduceLT, Nat.reduceBEq, Nat.reduceAdd, Nat.reduceLeDiff, reduceIte, Int.reduceLT, Int.reduceLE, Int.reduceEq, Int.reduceToNat, Int.reduceBEq, ci', hg, gt_iff_lt]
        generalize hv : (r[i - 1]).toNat = v at *
        by_cases j1 : v < 128
        · have j1' : (v : Int) < 128 := by omega
          rw [if_pos (.inl j1)] at hJ
          simp only [walk, Nat.reduceLT, Nat.reduceBEq, Nat.reduceAdd, Nat.reduceLeDiff, reduceIte, Int.reduceLT, Int.reduceLE, Int.reduceEq, Int.reduceToNat, Int.reduceBEq, j1', ← hJ]
          all_goals simp
        · have j1' : ¬ (v : Int) < 128 := by omega
          by_cases j2 : 191 < v
          · have j2' : (191 : Int) < v := by omega
            rw [if_pos (.inr j2)] at hJ
            simp only [walk, Nat.reduceLT, Nat.reduceBEq, Nat.reduceAdd, Nat.reduceLeDiff, reduceIte, Int.reduceLT, Int.reduceLE, Int.reduceEq, Int.reduceToNat, Int.reduceBEq, j1', hg, hv, j2', ← hJ]
            all_goals simp
          · have j2' : ¬ (191 : Int) < v := by omega
            rw [if_neg (by omega)] at hJ
            have f1 : IntKind.i64.wrap (64 * (c : Int)) = ((64 * c : Nat) : Int) := by rw [wrap64 (by omega) (by omega)]; omega
            have f2 : IntKind.i64.wrap (v : Int) = v := wrap64 (by omega) (by omega)
            have f3 : IntKind.i64.wrap (((64 * c : Nat) : Int) + v) = ((64 * c + v : Nat) : Int) := by rw [wrap64 (by omega) (by omega)]; omega
            have f4 : IntKind.i64.wrap (((64 * c + v : Nat) : Int) - 128) = ((64 * c + v - 128 : Nat) : Int) := by rw [wrap64 (by omega) (by omega)]; omega
            simp only [walk, Nat.reduceLT, Nat.reduceBEq, Nat.reduceAdd, Nat.reduceLeDiff, reduceIte, Int.reduceLT, Int.reduceLE, Int.reduceEq, Int.reduceToNat, Int.reduceBEq, j1', hg, hv, j2', f1, f2, f3, f4, e2]
            exact ih (i + 1, 64 * c + v - 128) ⟨by simp only; omega, by simp only; omega, by simp only; rw [Nat.pow_succ]; omega, hJ⟩ (by simp only; omega)
      · have ci' : ¬ (i : Int) < 4 := by omega
        rw [show 4 - i = 0 by omega, contB] at hJ
        rw [← hJ]
        dsimp only
        by_cases k1 : c < 65536
        · have k1' : (c : Int) < 65536 := by omega
          rw [if_pos (.inl k1)]
          simp only [walk, Nat.reduceLT, Nat.reduceBEq, Nat.reduceAdd, Nat.reduceLeDiff, reduceIte, Int.reduceLT, Int.reduceLE, Int.reduceEq, Int.reduceToNat, Int.reduceBEq, ci', gt_iff_lt, k1']
          all_goals simp
        · have k1' : ¬ (c : Int) < 65536 := by omega
          by_cases k2 : 1114111 < c
          · have k2' : (1114111 : Int) < c := by omega
            rw [if_pos (.inr (.inl k2))]
            simp only [walk, Nat.reduceLT, Nat.reduceBEq, Nat.reduceAdd, Nat.reduceLeDiff, reduceIte, Int.reduceLT, Int.reduceLE, Int.reduceEq, Int.reduceToNat, Int.reduceBEq, ci', gt_iff_lt, k1', k2']
            all_goals simp
          · have k2' : ¬ (1114111 : Int) < c := by omega
            by_cases k3 : 55296 ≤ c
            · have k3' : (55296 : Int) ≤ c := by omega
              by_cases k4 : c ≤ 57343
              · have k4' : (c : Int) ≤ 57343 := by omega
                rw [if_pos (.inr (.inr ⟨k3, k4⟩))]
                simp only [walk, Nat.reduceLT, Nat.reduceBEq, Nat.reduceAdd, Nat.reduceLeDiff, reduceIte, Int.reduceLT, Int.reduceLE, Int.reduceEq, Int.reduceToNat, Int.reduceBEq, ci', gt_iff_lt, k1', k2', k3', k4']
                all_goals simp
              · have k4' : ¬ (c : Int) ≤ 57343 := by omega
                rw [if_neg (by omega)]
                simp only [walk, Nat.reduceLT, Nat.reduceBEq, Nat.reduceAdd, Nat.reduceLeDiff, reduceIte, Int.reduceLT, Int.reduceLE, Int.reduceEq, Int.reduceToNat, Int.reduceBEq, ci', gt_iff_lt, k1', k2', k3', k4']
                all_goals simp
            · have k3' : ¬ (55296 : Int) ≤ c := by omega
              rw [if_neg (by omega)]
              simp only [walk, Nat.reduceLT, Nat.reduceBEq, Nat.reduceAdd, Nat.reduceLeDiff, reduceIte, Int.reduceLT, Int.reduceLE, Int.reduceEq, Int.reduceToNat, Int.reduceBEq, ci', gt_iff_lt, k1', k2', k3']
              all_goals simp
  · rw [if_neg h3]
    have n3' : (240 : Int) ≤ x := by omega
    have n3'' : ¬ (x : Int) < 245 := by omega
    simp only [walk, Nat.reduceLT, Nat.reduceBEq, Nat.reduceAdd, Nat.reduceLeDiff, reduceIte, Int.reduceLT, Int.reduceLE, Int.reduceEq, Int.reduceToNat, Int.reduceBEq, n1', n1'', n2', n2'', n3', n3'']
    all_goals simp
end
end Go.AR
