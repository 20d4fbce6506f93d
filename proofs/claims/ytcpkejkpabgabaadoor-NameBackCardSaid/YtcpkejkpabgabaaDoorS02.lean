import Derived.Test.YtcpkejkpabgabaaDoorK02
import Derived.Test.YtcpkejkpabgabaaDoorI64
import Derived.Test.YtcpkejkpabgabaaDoorBld
import Derived.Test.YtcpkejkpabgabaaDoorWalk3
set_option linter.all false
/-! Numbers and texts as bytes: what the functions give. -/
namespace Go.AR
open Go
section
variable {C : CallRel} {F : Nat → FuncId}
/-- A number's bytes. -/
def vint (n : Nat) : List UInt8 := if n < 128 then [UInt8.ofNat n] else UInt8.ofNat (n % 128 + 128) :: vint (n / 128)
termination_by n
decreasing_by omega
def pInt (n : Int) : List UInt8 := vint n.toNat
def pText (s : List UInt8) : List UInt8 := vint s.length ++ s
theorem vint_lt {n : Nat} (h : n < 128) : vint n = [UInt8.ofNat n] := by rw [vint, if_pos h]
theorem vint_ge {n : Nat} (h : ¬ n < 128) : vint n = UInt8.ofNat (n % 128 + 128) :: vint (n / 128) := by rw [vint, if_neg h]
def i64ok (n : Int) : Prop := -9223372036854775808 ≤ n ∧ n ≤ 9223372036854775807
def S_i2s (R : Rel) : Prop := ∀ n : Int, i64ok n → R [.v (.int .i64 n)] (.val (.str (pInt n))) []
def S_ptext (R : Rel) : Prop := ∀ s : List UInt8, s.length ≤ 4611686018427387904 → R [.v (.str s)] (.val (.str (pText s))) []
def S_WriteByte (e er : TypeId) (R : Rel) : Prop := ∀ (x : TV) (l : List UInt8) (c : UInt8), bldOk x → l.length + 1 ≤ 140737488355328 → R [.r (.cellsE (some e) [x, .ownE (some er) 1 (bRows l)]), .v (.int .u8 c.toNat)] (.val .nilif) [.cellsE (some e) [.self, .ownE (some er) 1 (bRows (l ++ [c]))]]
theorem g_WriteByte (hC : S_copyCheck (F n_T_strings_Builder) (C (F n_strings_Builder_copyCheck))) : S_WriteByte (F n_T_strings_Builder) (F n_T_uint8) ((c_strings_Builder_WriteByte F).gives C) := by
  intro x l c hx hl
  refine gives_of rfl ?_
  unfold c_strings_Builder_WriteByte
  simp only [walk, Nat.reduceLT, Nat.reduceBEq, Nat.reduceAdd, Nat.reduceLeDiff, reduceIte, Int.reduceLT, Int.reduceLE, Int.reduceEq, Int.reduceToNat, Int.reduceBEq]
  refine callWp_of (hC x _ hx) ?_
  have h1 : (bRows l).length + 1 ≤ 140737488355328 := by rw [bRows_len]; exact hl
  simp only [walk, Nat.reduceLT, Nat.reduceBEq, Nat.reduceAdd, Nat.reduceLeDiff, reduceIte, Int.reduceLT, Int.reduceLE, Int.reduceEq, Int.reduceToNat, Int.reduceBEq, h1, bRows_app]
theorem S_self : bldOk .self := .inr rfl
theorem S_nilp : bldOk (.val .nilp) := .inl rfl
theorem g_pack_Int (hW : S_WriteByte (F n_T_strings_Builder) (F n_T_uint8) (C (F n_strings_Builder_WriteByte))) (hS : S_BString (F n_T_strings_Builder) (F n_T_uint8) (C (F n_strings_Builder_String))) : S_i2s ((c_pack_Int F).gives C) := by
  intro n hn
  refine gives_of rfl ?_
  unfold c_pack_Int
  simp only [walk, Nat.reduceLT, Nat.reduceBEq, Nat.reduceAdd, Nat.reduceLeDiff, reduceIte, Int.reduceLT, Int.reduceLE, Int.reduceEq, Int.reduceToNat, Int.reduceBEq]
  refine awp_loop_ind (X := Int × TV × List UInt8) (fun x => ⟨[(0, .val (.int .i64 x.1)), (2, .val (.str [])), (3, .lp 3 0)], [(3, .cellsE (some (F n_T_strings_Builder)) [x.2.1, .ownE (some (F n_T_uint8)) 1 (bRows x.2.2)])]⟩)
    (fun x => bldOk x.2.1 ∧ x.2.2 ++ pInt x.1 = pInt n ∧ (x.2.2 = [] ∨ 1 ≤ x.1) ∧ x.1 ≤ 9223372036854775807 ∧ x.1.toNat * 128 ^ x.2.2.length ≤ n.toNat) (fun x => x.1.toNat) (n, .val .nilp, []) ⟨S_nilp, rfl, .inl rfl, hn.2, by simp⟩ rfl ?_
  rintro R ⟨k, x, l⟩ ⟨hx, he, h0, h1, h2⟩ ih
  simp only at hx he h0 h1 h2 ih ⊢
  simp only [walk, Nat.reduceLT, Nat.reduceBEq, Nat.reduceAdd, Nat.reduceLeDiff, reduceIte, Int.reduceLT, Int.reduceLE, Int.reduceEq, Int.reduceToNat, Int.reduceBEq]
  have hlen : l.length ≤ 70 := by
    rcases h0 with rfl | h0
    · simp
    · have h9 : n.toNat < 128 ^ 10 := by have := hn.2; omega
      have : 128 ^ l.length < 128 ^ 10 := Nat.lt_of_le_of_lt (Nat.le_trans (Nat.le_mul_of_pos_left _ (by omega)) h2) h9
      have := (Nat.pow_lt_pow_iff_right (by decide)).1 this
      omega
  by_cases h3 : k ≥ 128
  · obtain ⟨q, rfl⟩ : ∃ q : Nat, k = q := ⟨k.toNat, by omega⟩
    have e1 : (128 : Int) ≤ q := h3
    simp only [walk, Nat.reduceLT, Nat.reduceBEq, Nat.reduceAdd, Nat.reduceLeDiff, reduceIte, Int.reduceLT, Int.reduceLE, Int.reduceEq, Int.reduceToNat, Int.reduceBEq, h3, i64_and127]
    rw [i64_or128 (by omega), u8_of]
    refine callWp_of (hW x l _ hx (by omega)) ?_
    simp only [walk, Nat.reduceLT, Nat.reduceBEq, Nat.reduceAdd, Nat.reduceLeDiff, reduceIte, Int.reduceLT, Int.reduceLE, Int.reduceEq, Int.reduceToNat, Int.reduceBEq, i64_shr7]
    refine ih (((q / 128 : Nat) : Int), .self, l ++ [UInt8.ofNat (q % 128 + 128)]) ⟨S_self, ?_, .inr (by simp only; omega), by simp only; omega, ?_⟩ (by simp only; omega)
    · rw [← he]
      simp only [pInt, Int.toNat_natCast]
      rw [vint_ge (n := q) (by omega)]
      simp
    · simp only [List.length_append, List.length_cons, List.length_nil, Int.toNat_natCast] at h2 ⊢
      rw [Nat.zero_add, Nat.pow_succ]
      refine Nat.le_trans ?_ h2
      rw [Nat.mul_comm (128 ^ l.length), ← Nat.mul_assoc]
      exact Nat.mul_le_mul_right _ (by omega)
  · have e1 : ¬ (128 : Int) ≤ k := h3
    have e2 : max 0 k = ((k.toNat : Nat) : Int) := by omega
    have e3 : max k 0 = ((k.toNat : Nat) : Int) := by omega
    simp only [walk, Nat.reduceLT, Nat.reduceBEq, Nat.reduceAdd, Nat.reduceLeDiff, reduceIte, Int.reduceLT, Int.reduceLE, Int.reduceEq, Int.reduceToNat, Int.reduceBEq, h3, e2, e3, u8_of]
    refine callWp_of (hW x l _ hx (by omega)) ?_
    simp only [walk, Nat.reduceLT, Nat.reduceBEq, Nat.reduceAdd, Nat.reduceLeDiff, reduceIte, Int.reduceLT, Int.reduceLE, Int.reduceEq, Int.reduceToNat, Int.reduceBEq]
    refine callWp_of (hS .self _) ?_
    simp only [walk, Nat.reduceLT, Nat.reduceBEq, Nat.reduceAdd, Nat.reduceLeDiff, reduceIte, Int.reduceLT, Int.reduceLE, Int.reduceEq, Int.reduceToNat, Int.reduceBEq]
    rw [← he, pInt, vint_lt (by omega)]
theorem vint_pos (n : Nat) : 1 ≤ (vint n).length := by
  rw [vint]; split <;> simp
theorem vint_len : ∀ (k n : Nat), n < 128 ^ k → (vint n).length ≤ k + 1
  | 0, n, h => by rw [vint_lt (by simp at h; omega)]; simp
  | k + 1, n, h => by
    rw [vint]
    split
    · simp
    · have := vint_len k (n / 128) (by rw [Nat.pow_succ] at h; omega)
      simp only [List.length_cons]; omega
theorem pInt_len {n : Int} (h : i64ok n) : (pInt n).length ≤ 11 := vint_len 10 _ (by have := h.2; omega)
theorem rec_pref02_Int (ha : ∀ xs rv outs, (c_pref02_Int F).gives C xs rv outs → C (F n_pref02_Int) xs rv outs) : S_i2s (C (F n_pref02_Int)) := by
  have key : ∀ (k : Nat) (n : Int), i64ok n → n.toNat ≤ k → C (F n_pref02_Int) [.v (.int .i64 n)] (.val (.str (pInt n))) [] := by
    intro k
    induction k using Nat.strongRecOn with
    | _ k ih =>
      intro n hn hk
      refine ha _ _ _ (gives_of rfl ?_)
      unfold c_pref02_Int
      simp only [walk, Nat.reduceLT, Nat.reduceBEq, Nat.reduceAdd, Nat.reduceLeDiff, reduceIte, Int.reduceLT, Int.reduceLE, Int.reduceEq, Int.reduceToNat, Int.reduceBEq]
      by_cases h1 : n < 128
      · simp only [walk, Nat.reduceLT, Nat.reduceBEq, Nat.reduceAdd, Nat.reduceLeDiff, reduceIte, Int.reduceLT, Int.reduceLE, Int.reduceEq, Int.reduceToNat, Int.reduceBEq, h1]
        by_cases h2 : n < 0
        · have e0 : IntKind.u8.wrap 0 = ((UInt8.ofNat 0).toNat : Int) := by decide
          simp only [walk, Nat.reduceLT, Nat.reduceBEq, Nat.reduceAdd, Nat.reduceLeDiff, reduceIte, Int.reduceLT, Int.reduceLE, Int.reduceEq, Int.reduceToNat, Int.reduceBEq, h2, e0, bytes_cons, bytes_nil]
          rw [pInt, vint_lt (by omega), show n.toNat = 0 by omega]
        · obtain ⟨q, rfl⟩ : ∃ q : Nat, n = q := ⟨n.toNat, by omega⟩
          simp only [walk, Nat.reduceLT, Nat.reduceBEq, Nat.reduceAdd, Nat.reduceLeDiff, reduceIte, Int.reduceLT, Int.reduceLE, Int.reduceEq, Int.reduceToNat, Int.reduceBEq, h2, u8_of, bytes_cons, bytes_nil]
          rw [pInt, vint_lt (by omega)]
          rfl
      · obtain ⟨q, rfl⟩ : ∃ q : Nat, n = q := ⟨n.toNat, by omega⟩
        have e1 : (q : Int).tmod 128 = ((q % 128 : Nat) : Int) := by rw [Int.tmod_eq_emod_of_nonneg (by omega)]; rfl
        have e2 : (q : Int).tdiv 128 = ((q / 128 : Nat) : Int) := by rw [Int.tdiv_eq_ediv_of_nonneg (by omega)]; rfl
        have e3 : IntKind.i64.wrap (((q % 128 : Nat) : Int) + 128) = ((q % 128 + 128 : Nat) : Int) := wrap64 (by omega) (by omega)
        have h3 : i64ok ((q / 128 : Nat) : Int) := by have := hn.2; unfold i64ok; omega
        simp only [walk, Nat.reduceLT, Nat.reduceBEq, Nat.reduceAdd, Nat.reduceLeDiff, reduceIte, Int.reduceLT, Int.reduceLE, Int.reduceEq, Int.reduceToNat, Int.reduceBEq, h1, Int.reduceNeg, e1, e2, e3, u8_of, bytes_cons, bytes_nil]
        rw [i64_wrap (by have := hn.2; omega)]
        refine callWp_of (ih (q / 128) (by simp at hk; omega) _ h3 (by simp)) ?_
        have hl := pInt_len h3
        simp only [walk, Nat.reduceLT, Nat.reduceBEq, Nat.reduceAdd, Nat.reduceLeDiff, reduceIte, Int.reduceLT, Int.reduceLE, Int.reduceEq, Int.reduceToNat, Int.reduceBEq]
        rw [bins_add (by simp only [List.length_cons, List.length_nil]; omega)]
        simp only [walk, Nat.reduceLT, Nat.reduceBEq, Nat.reduceAdd, Nat.reduceLeDiff, reduceIte, Int.reduceLT, Int.reduceLE, Int.reduceEq, Int.reduceToNat, Int.reduceBEq]
        rw [pInt, pInt, Int.toNat_natCast, Int.toNat_natCast, vint_ge (n := q) (by omega)]
        rfl
  exact fun n hn => key n.toNat n hn (Nat.le_refl _)
theorem g_pack_Text (hI : S_i2s (C (F n_pack_Int))) : S_ptext ((c_pack_Text F).gives C) := by
  intro s hs
  refine gives_of rfl ?_
  unfold c_pack_Text
  have h1 : i64ok (s.length : Int) := by unfold i64ok; omega
  simp only [walk, Nat.reduceLT, Nat.reduceBEq, Nat.reduceAdd, Nat.reduceLeDiff, reduceIte, Int.reduceLT, Int.reduceLE, Int.reduceEq, Int.reduceToNat, Int.reduceBEq]
  refine callWp_of (hI _ h1) ?_
  have := pInt_len h1
  simp only [walk, Nat.reduceLT, Nat.reduceBEq, Nat.reduceAdd, Nat.reduceLeDiff, reduceIte, Int.reduceLT, Int.reduceLE, Int.reduceEq, Int.reduceToNat, Int.reduceBEq]
  rw [bins_add (by omega)]
  simp only [walk, Nat.reduceLT, Nat.reduceBEq, Nat.reduceAdd, Nat.reduceLeDiff, reduceIte, Int.reduceLT, Int.reduceLE, Int.reduceEq, Int.reduceToNat, Int.reduceBEq, pText, pInt]
theorem g_pref02_Text (hI : S_i2s (C (F n_pref02_Int))) : S_ptext ((c_pref02_Text F).gives C) := by
  intro s hs
  refine gives_of rfl ?_
  unfold c_pref02_Text
  have h1 : i64ok (s.length : Int) := by unfold i64ok; omega
  simp only [walk, Nat.reduceLT, Nat.reduceBEq, Nat.reduceAdd, Nat.reduceLeDiff, reduceIte, Int.reduceLT, Int.reduceLE, Int.reduceEq, Int.reduceToNat, Int.reduceBEq]
  refine callWp_of (hI _ h1) ?_
  have := pInt_len h1
  simp only [walk, Nat.reduceLT, Nat.reduceBEq, Nat.reduceAdd, Nat.reduceLeDiff, reduceIte, Int.reduceLT, Int.reduceLE, Int.reduceEq, Int.reduceToNat, Int.reduceBEq]
  rw [bins_add (by omega)]
  simp only [walk, Nat.reduceLT, Nat.reduceBEq, Nat.reduceAdd, Nat.reduceLeDiff, reduceIte, Int.reduceLT, Int.reduceLE, Int.reduceEq, Int.reduceToNat, Int.reduceBEq, pText, pInt]
end
end Go.AR
