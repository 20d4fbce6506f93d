import Derived.Test.YtcpkejkpabgabaaDoorOps1
set_option linter.all false
namespace Go.AR
open Go
section ops
variable {P : Program} {w : World} {G β : Nat → Nat} {ω : Nat → Option Occ} {σ σ' : Fr} {a : Act} {o : Oper}

theorem ok_binb {n : Bool} {op : BinOp} {t t' : TypeId} {x y : Operand} {x' y' : Opnd} {b c : Bool} (hF : FRel w G β ω σ a.tmps) (hd : ∀ d, o.dst = some d → d < a.tmps.size)
    (ho : o.op = .binOp op t x y t') (hu : P.underlying t = some .bool) (hop : op = if n then .neq else .eql) (hx : OOk x x') (hy : OOk y y') (ex : x'.ev σ.tmps = .val (.bool b)) (ey : y'.ev σ.tmps = .val (.bool c)) :
    StepOk P w G ω β a o σ (σ.put o.dst (.val (.bool (if n then !(b == c) else b == c)))) := by
  have e1 := Rep.bool_inv (hx.val hF ex)
  have e2 := Rep.bool_inv (hy.val hF ey)
  cases n <;> simp at hop <;> subst hop <;> refine ok_val hF hd ?_ (Rep.bool _) <;> simp [execOp, ho, e1, e2, eqGuard, binOp, run_equal_bool w t b c hu]
theorem ok_not {t : TypeId} {x : Operand} {x' : Opnd} {b : Bool} (hF : FRel w G β ω σ a.tmps) (hd : ∀ d, o.dst = some d → d < a.tmps.size)
    (ho : o.op = .unOp .not t x) (hx : OOk x x') (ex : x'.ev σ.tmps = .val (.bool b)) :
    StepOk P w G ω β a o σ (σ.put o.dst (.val (.bool (!b)))) := by
  have e1 := Rep.bool_inv (hx.val hF ex)
  refine ok_val hF hd ?_ (Rep.bool _)
  simp [execOp, ho, e1, Op.unary]
theorem ok_neg {t : TypeId} {x : Operand} {x' : Opnd} {k : IntKind} {n : Int} (hF : FRel w G β ω σ a.tmps) (hd : ∀ d, o.dst = some d → d < a.tmps.size)
    (ho : o.op = .unOp .neg t x) (hx : OOk x x') (ex : x'.ev σ.tmps = .val (.int k n)) :
    StepOk P w G ω β a o σ (σ.put o.dst (.val (.int k (k.wrap (0 - n))))) := by
  have e1 := Rep.int_inv (hx.val hF ex)
  refine ok_val hF hd ?_ (Rep.int _ _)
  simp [execOp, ho, e1, Op.unary, Op.intArith]
theorem ok_xor {t : TypeId} {x : Operand} {x' : Opnd} {k : IntKind} {n : Int} (hF : FRel w G β ω σ a.tmps) (hd : ∀ d, o.dst = some d → d < a.tmps.size)
    (ho : o.op = .unOp .xor t x) (hx : OOk x x') (ex : x'.ev σ.tmps = .val (.int k n)) :
    StepOk P w G ω β a o σ (σ.put o.dst (.val (.int k (k.wrap (BitVec.ofInt k.bits (if k.signed then -1 else k.max) ^^^ BitVec.ofInt k.bits n).toNat)))) := by
  have e1 := Rep.int_inv (hx.val hF ex)
  refine ok_val hF hd ?_ (Rep.int _ _)
  simp [execOp, ho, e1, Op.unary, Op.intBits]
theorem ok_conv {t d : TypeId} {x : Operand} {x' : Opnd} {k k' q : IntKind} {n : Int} (hF : FRel w G β ω σ a.tmps) (hd : ∀ d, o.dst = some d → d < a.tmps.size)
    (ho : o.op = .convert t d x) (hs : P.underlying t = some (.int q)) (hu : P.underlying d = some (.int k)) (hx : OOk x x') (ex : x'.ev σ.tmps = .val (.int k' n)) :
    StepOk P w G ω β a o σ (σ.put o.dst (.val (.int k (k.wrap n)))) := by
  have e1 := Rep.int_inv (hx.val hF ex)
  refine ok_val hF hd ?_ (Rep.int _ _)
  simp [execOp, ho, e1, convert, run_underlying hs, run_underlying hu, Conv.intToInt]
theorem ok_same {t d : TypeId} {x : Operand} {x' : Opnd} {l : List UInt8} (hF : FRel w G β ω σ a.tmps) (hd : ∀ d, o.dst = some d → d < a.tmps.size)
    (ho : o.op = .convert t d x) (hs : P.underlying t = some .string) (hu : P.underlying d = some .string) (hx : OOk x x') (ex : (x'.ev σ.tmps).ro = .val (.str l)) :
    StepOk P w G ω β a o σ (σ.put o.dst (.val (.str l))) := by
  have e1 := Rep.str_inv (hx.valro hF ex)
  refine ok_val hF hd ?_ (Rep.str _)
  simp [execOp, ho, e1, convert, run_underlying hs, run_underlying hu]
theorem ok_lenstr {c : Call} {t : TypeId} {x : Operand} {x' : Opnd} {l : List UInt8} (hF : FRel w G β ω σ a.tmps) (hd : ∀ d, o.dst = some d → d < a.tmps.size)
    (ho : o.op = .call c) (hc : c.callee = .builtin .len) (ha : c.argTypes = #[t]) (hxs : c.args = #[x]) (hu : P.underlying t = some .string) (hx : OOk x x') (ex : (x'.ev σ.tmps).ro = .val (.str l)) :
    StepOk P w G ω β a o σ (σ.put o.dst (.val (.int .i64 l.length))) := by
  have e1 := Rep.str_inv (hx.valro hF ex)
  have hs : ByteArray.size ⟨⟨l⟩⟩ = l.length := rfl
  refine ok_val hF hd ?_ (Rep.int _ _)
  simp [execOp, ho, resolve, hc, hxs, ha, invoke, builtin, Builtin.len_, run_underlying hu, e1, goInt, hs]
theorem ok_lensl {c : Call} {t e : TypeId} {x : Operand} {x' : Opnd} {n : Nat} {rows : List (List PV)} (hF : FRel w G β ω σ a.tmps) (hd : ∀ d, o.dst = some d → d < a.tmps.size)
    (ho : o.op = .call c) (hc : c.callee = .builtin .len) (ha : c.argTypes = #[t]) (hxs : c.args = #[x]) (hu : P.underlying t = some (.slice e)) (hx : OOk x x') (ex : (x'.ev σ.tmps).ro = .val (.sl n rows)) :
    StepOk P w G ω β a o σ (σ.put o.dst (.val (.int .i64 rows.length))) := by
  obtain ⟨A, cap, e1, _⟩ := Rep.sl_inv (hx.valro hF ex)
  refine ok_val hF hd ?_ (Rep.int _ _)
  simp [execOp, ho, resolve, hc, hxs, ha, invoke, builtin, Builtin.len_, run_underlying hu, e1, goInt]
theorem ok_lenarr {c : Call} {t e : TypeId} {x : Operand} {n : Nat} (hF : FRel w G β ω σ a.tmps) (hd : ∀ d, o.dst = some d → d < a.tmps.size)
    (ho : o.op = .call c) (hc : c.callee = .builtin .len) (ha : c.argTypes = #[t]) (hxs : c.args = #[x]) (hu : P.underlying t = some (.array n e)) :
    StepOk P w G ω β a o σ (σ.put o.dst (.val (.int .i64 n))) := by
  refine ok_val hF hd ?_ (Rep.int _ _)
  simp [execOp, ho, resolve, hc, hxs, ha, invoke, builtin, Builtin.len_, run_underlying hu, goInt]
theorem ok_max {c : Call} {x y : Operand} {x' y' : Opnd} {k k' : IntKind} {m n : Int} (hF : FRel w G β ω σ a.tmps) (hd : ∀ d, o.dst = some d → d < a.tmps.size)
    (ho : o.op = .call c) (hc : c.callee = .builtin .max) (hxs : c.args = #[x, y]) (hx : OOk x x') (hy : OOk y y') (ex : x'.ev σ.tmps = .val (.int k m)) (ey : y'.ev σ.tmps = .val (.int k' n)) :
    StepOk P w G ω β a o σ (σ.put o.dst (.val (.int k (if n > m then n else m)))) := by
  have e1 := Rep.int_inv (hx.val hF ex)
  have e2 := Rep.int_inv (hy.val hF ey)
  refine ok_val hF hd ?_ (Rep.int _ _)
  simp [execOp, ho, resolve, hc, hxs, invoke, builtin, Builtin.max_, Builtin.max2, e1, e2]
theorem ok_min {c : Call} {x y : Operand} {x' y' : Opnd} {k k' : IntKind} {m n : Int} (hF : FRel w G β ω σ a.tmps) (hd : ∀ d, o.dst = some d → d < a.tmps.size)
    (ho : o.op = .call c) (hc : c.callee = .builtin .min) (hxs : c.args = #[x, y]) (hx : OOk x x') (hy : OOk y y') (ex : x'.ev σ.tmps = .val (.int k m)) (ey : y'.ev σ.tmps = .val (.int k' n)) :
    StepOk P w G ω β a o σ (σ.put o.dst (.val (.int k (if n < m then n else m)))) := by
  have e1 := Rep.int_inv (hx.val hF ex)
  have e2 := Rep.int_inv (hy.val hF ey)
  refine ok_val hF hd ?_ (Rep.int _ _)
  simp [execOp, ho, resolve, hc, hxs, invoke, builtin, Builtin.min_, Builtin.min2, e1, e2]
theorem ok_extract {x : Operand} {x' : Opnd} {i : Nat} {vs : List PV} {p : PV} (hF : FRel w G β ω σ a.tmps) (hd : ∀ d, o.dst = some d → d < a.tmps.size)
    (ho : o.op = .extract x i) (hx : OOk x x') (ex : x'.ev σ.tmps = .val (.tup vs)) (hp : vs[i]? = some p) :
    StepOk P w G ω β a o σ (σ.put o.dst (.val p)) := by
  obtain ⟨us, e1, hl, h⟩ := Rep.tup_inv (hx.val hF ex)
  have hi : i < us.size := by rw [hl]; exact (List.getElem?_eq_some_iff.1 hp).1
  refine ok_val hF hd ?_ (h i p _ hp (Array.getElem?_eq_getElem hi))
  simp [execOp, ho, e1, Instr.extract, Array.getElem?_eq_getElem hi]
theorem ok_nilck {x : Operand} {x' : Opnd} {v : TV} (hF : FRel w G β ω σ a.tmps) (hd : ∀ d, o.dst = some d → d < a.tmps.size)
    (ho : o.op = .nilCheck x) (hx : OOk x x') (ex : x'.ev σ.tmps = v) (hv : (∃ s off, v = .lp s off) ∨ (∃ cs off, v = .rp cs off) ∨ (∃ f, v = .val (.fn f))) :
    StepOk P w G ω β a o σ (σ.put o.dst v) := by
  have h := hx.trep hF
  rw [ex] at h
  rcases hv with ⟨s, off, rfl⟩ | ⟨cs, off, rfl⟩ | ⟨f, rfl⟩
  · have e1 : a.eval x = .pointer (some ⟨β s, off, none⟩) := h
    refine .pure (v := a.eval x) hF hd ?_ (fun _ => h) (fun s' e => by cases e; exact OOk.live hF ex)
    simp [execOp, ho, e1]
  · obtain ⟨b, o', e1, _⟩ := (id h : PRep w G cs off (a.eval x))
    refine .pure (v := a.eval x) hF hd ?_ (fun _ => h) (fun s' e => by cases e)
    simp [execOp, ho, e1]
  · have e1 := Rep.fn_inv (id h : Rep w G (.fn f) (a.eval x))
    refine .pure (v := a.eval x) hF hd ?_ (fun _ => h) (fun s' e => by cases e)
    simp [execOp, ho, e1]
theorem run_equalIn_nil {t e : TypeId} (hu : P.underlying t = some (.pointer e)) (p : Option Addr) (d : Nat) : (Op.equalIn (d + 1) t (.pointer p) (.pointer none)).run P w = .ok p.isNone w := by
  cases p <;> simp [Op.equalIn, run_underlying hu]
theorem run_equal_nil {t e : TypeId} (hu : P.underlying t = some (.pointer e)) (p : Option Addr) : (Op.equal t (.pointer p) (.pointer none)).run P w = .ok p.isNone w := run_equalIn_nil hu p 9999
theorem ok_eqn {n : Bool} {op : BinOp} {t t' e : TypeId} {x y : Operand} {x' y' : Opnd} {r : Bool} (hF : FRel w G β ω σ a.tmps) (hd : ∀ d, o.dst = some d → d < a.tmps.size)
    (ho : o.op = .binOp op t x y t') (hu : P.underlying t = some (.pointer e)) (hop : op = if n then .neq else .eql) (hx : OOk x x') (hy : OOk y y') (ey : y'.ev σ.tmps = .val .nilp)
    (h : (x'.ev σ.tmps = .val .nilp ∧ r = true) ∨ ((∃ s off, x'.ev σ.tmps = .lp s off) ∧ r = false) ∨ ((∃ s off, x'.ev σ.tmps = .rp s off) ∧ r = false)) :
    StepOk P w G ω β a o σ (σ.put o.dst (.val (.bool (if n then !r else r)))) := by
  have e2 := Rep.nilp_inv (hy.val hF ey)
  have h' : (a.eval x = .pointer none ∧ r = true) ∨ (∃ ad, a.eval x = .pointer (some ad)) ∧ r = false := by
    rcases h with ⟨h, hr⟩ | ⟨⟨s, off, h⟩, hr⟩ | ⟨⟨s, off, h⟩, hr⟩
    · exact .inl ⟨Rep.nilp_inv (hx.val hF h), hr⟩
    · have := hx.trep hF
      rw [h] at this
      exact .inr ⟨⟨_, this⟩, hr⟩
    · have := hx.trep hF
      rw [h] at this
      obtain ⟨b, o', e1, _⟩ := (id this : PRep w G s off (a.eval x))
      exact .inr ⟨⟨_, e1⟩, hr⟩
  rcases h' with ⟨e1, rfl⟩ | ⟨⟨ad, e1⟩, rfl⟩ <;> cases n <;> simp at hop <;> subst hop <;> refine ok_val hF hd ?_ (Rep.bool _) <;>
    simp [execOp, ho, e1, e2, eqGuard, binOp, run_equal_nil hu]
theorem ok_faddr {t : TypeId} {x : Operand} {x' : Opnd} {f : Nat} {fs : Array Field} {fd : Field} {i : TypeInfo} {v : TV} (hF : FRel w G β ω σ a.tmps) (hd : ∀ d, o.dst = some d → d < a.tmps.size)
    (ho : o.op = .fieldAddr t x f) (hu : P.underlying t = some (.struct fs)) (hf : fs[f]? = some fd) (hi : P.info? fd.type = some i) (hs : i.size ≠ 0) (hx : OOk x x')
    (hv : (∃ s off, x'.ev σ.tmps = .lp s off ∧ v = .lp s (off + fd.offset)) ∨ (∃ cs off, x'.ev σ.tmps = .rp cs off ∧ v = .rp cs (off + fd.offset))) :
    StepOk P w G ω β a o σ (σ.put o.dst v) := by
  have h := hx.trep hF
  have hadd : ∀ b o, (⟨b, o, none⟩ : Addr).add fd.offset = ⟨b, o + fd.offset, none⟩ := fun b o => by unfold Addr.add; split <;> simp_all
  rcases hv with ⟨s, off, ex, rfl⟩ | ⟨cs, off, ex, rfl⟩
  · rw [ex] at h
    have e1 : a.eval x = .pointer (some ⟨β s, off, none⟩) := h
    refine .pure (v := .pointer (some ⟨β s, off + fd.offset, none⟩)) hF hd ?_ (fun _ => rfl) (fun s' e => by cases e; exact OOk.live hF ex)
    simp [execOp, ho, e1, Instr.fieldAt, run_underlying hu, hf, Instr.sureAddr, fieldPlace, sizeOf, typeInfo, hi, hs, hadd]
  · rw [ex] at h
    obtain ⟨b, o', e1, hr⟩ := (id h : PRep w G cs off (a.eval x))
    refine .pure (v := .pointer (some ⟨b, o' + (off + fd.offset), none⟩)) hF hd ?_ (fun _ => ⟨b, o', rfl, hr⟩) (fun s' e => by cases e)
    simp [execOp, ho, e1, Instr.fieldAt, run_underlying hu, hf, Instr.sureAddr, fieldPlace, sizeOf, typeInfo, hi, hs, hadd, Nat.add_assoc]

theorem flat_at {c : Nat} : ∀ {rows : List (List PV)}, (∀ r ∈ rows, r.length = c) → ∀ {i j : Nat} {r : List PV}, rows[i]? = some r → j < c → rows.flatten[i * c + j]? = r[j]? := by
  intro rows
  induction rows with
  | nil => intro _ i j r h; simp at h
  | cons q rows ih =>
    intro hc i j r h hj
    have hq : q.length = c := hc q (by simp)
    cases i with
    | zero =>
      simp at h; subst h
      simp [List.getElem?_append_left (show j < q.length by omega)]
    | succ i =>
      have := ih (fun r hr => hc r (by simp [hr])) (i := i) (j := j) (r := r) (by simpa using h) hj
      rw [← this, List.flatten_cons, List.getElem?_append_right (by rw [hq, Nat.add_mul]; omega)]
      congr 1
      rw [hq, Nat.add_mul]; omega
theorem flat_len {c : Nat} : ∀ {rows : List (List PV)}, (∀ r ∈ rows, r.length = c) → rows.flatten.length = rows.length * c := by
  intro rows
  induction rows with
  | nil => intro _; simp
  | cons q rows ih => intro hc; simp [ih (fun r hr => hc r (by simp [hr])), hc q (by simp), Nat.add_mul, Nat.add_comm]

theorem ok_iaddra {t e : TypeId} {x y : Operand} {x' y' : Opnd} {n : Nat} {k : IntKind} {i : Int} {ti : TypeInfo} {v : TV} (hF : FRel w G β ω σ a.tmps) (hd : ∀ d, o.dst = some d → d < a.tmps.size)
    (ho : o.op = .indexAddr t x y) (hu : P.underlying t = some (.array n e)) (hi : P.info? e = some ti) (hx : OOk x x') (hy : OOk y y') (ey : y'.ev σ.tmps = .val (.int k i)) (hb : 0 ≤ i ∧ i < n)
    (hv : (∃ s off, x'.ev σ.tmps = .lp s off ∧ v = .lp s (off + i.toNat * ti.size)) ∨ (∃ cs off, x'.ev σ.tmps = .rp cs off ∧ v = .rp cs (off + i.toNat * ti.size))) :
    StepOk P w G ω β a o σ (σ.put o.dst v) := by
  have h := hx.trep hF
  have e2 := Rep.int_inv (hy.val hF ey)
  have hadd : ∀ b o, (⟨b, o, none⟩ : Addr).add (i.toNat * ti.size) = ⟨b, o + i.toNat * ti.size, none⟩ := fun b o => by unfold Addr.add; split <;> simp_all
  rcases hv with ⟨s, off, ex, rfl⟩ | ⟨cs, off, ex, rfl⟩
  · rw [ex] at h
    have e1 : a.eval x = .pointer (some ⟨β s, off, none⟩) := h
    refine .pure (v := .pointer (some ⟨β s, off + i.toNat * ti.size, none⟩)) hF hd ?_ (fun _ => rfl) (fun s' e => by cases e; exact OOk.live hF ex)
    simp [execOp, ho, e1, e2, Instr.indexAt, asIntOf, run_underlying hu, Instr.sureAddr, sizeOf, typeInfo, hi, hb, hadd]
  · rw [ex] at h
    obtain ⟨b, o', e1, hr⟩ := (id h : PRep w G cs off (a.eval x))
    refine .pure (v := .pointer (some ⟨b, o' + (off + i.toNat * ti.size), none⟩)) hF hd ?_ (fun _ => ⟨b, o', rfl, hr⟩) (fun s' e => by cases e)
    simp [execOp, ho, e1, e2, Instr.indexAt, asIntOf, run_underlying hu, Instr.sureAddr, sizeOf, typeInfo, hi, hb, hadd, Nat.add_assoc]
theorem ok_iaddrs {t e : TypeId} {x y : Operand} {x' y' : Opnd} {k : IntKind} {i : Int} {ti : TypeInfo} {rows : List (List PV)} {r : List PV} (hF : FRel w G β ω σ a.tmps) (hd : ∀ d, o.dst = some d → d < a.tmps.size)
    (ho : o.op = .indexAddr t x y) (hu : P.underlying t = some (.slice e)) (hi : P.info? e = some ti) (hx : OOk x x') (hy : OOk y y') (ey : y'.ev σ.tmps = .val (.int k i)) (hb : 0 ≤ i)
    (ex : (x'.ev σ.tmps).ro = .val (.sl ti.size rows)) (hr : rows[i.toNat]? = some r) :
    StepOk P w G ω β a o σ (σ.put o.dst (.rp r 0)) := by
  have e2 := Rep.int_inv (hy.val hF ey)
  obtain ⟨A, cap, e1, hc, h1, hcap, h⟩ := Rep.sl_inv (hx.valro hF ex)
  have hlt : i.toNat < rows.length := (List.getElem?_eq_some_iff.1 hr).1
  have hne : rows ≠ [] := by intro e; subst e; simp at hlt
  obtain ⟨b, off, rfl, hG, hcell⟩ := h hne
  have hadd : (⟨b, off, none⟩ : Addr).add (i.toNat * ti.size) = ⟨b, off + i.toNat * ti.size, none⟩ := by unfold Addr.add; split <;> simp_all
  have hil : i < rows.length := by omega
  have hrl : r.length = ti.size := hc r (List.mem_of_getElem? hr)
  have hfl := flat_len hc
  have hle : i.toNat * ti.size + ti.size ≤ rows.length * ti.size := by rw [← Nat.succ_mul]; exact Nat.mul_le_mul_right _ hlt
  refine .pure (v := .pointer (some ⟨b, off + i.toNat * ti.size, none⟩)) hF hd ?_ (fun _ => ⟨b, off + i.toNat * ti.size, rfl, by omega, fun p hp => ?_, fun j p hp => ?_⟩) (fun s' e => by cases e)
  · simp [execOp, ho, e1, e2, Instr.indexAt, asIntOf, run_underlying hu, sizeOf, typeInfo, hi, hb, hadd, hil]
  · obtain ⟨j, hj⟩ := List.getElem?_of_mem hp
    have hjl : j < r.length := (List.getElem?_eq_some_iff.1 hj).1
    exact h1 p (List.mem_of_getElem? ((flat_at hc hr (show j < ti.size by omega)).trans hj))
  · have hjl : j < r.length := (List.getElem?_eq_some_iff.1 hp).1
    have := hcell (i.toNat * ti.size + j) p ((flat_at hc hr (show j < ti.size by omega)).trans hp)
    simpa [Nat.add_assoc] using this
theorem ok_indexs {t : TypeId} {x y : Operand} {x' y' : Opnd} {k : IntKind} {i : Int} {l : List UInt8} {b : UInt8} (hF : FRel w G β ω σ a.tmps) (hd : ∀ d, o.dst = some d → d < a.tmps.size)
    (ho : o.op = .index t x y) (hu : P.underlying t = some .string) (hx : OOk x x') (hy : OOk y y') (ex : x'.ev σ.tmps = .val (.str l)) (ey : y'.ev σ.tmps = .val (.int k i)) (hb : 0 ≤ i) (hl : l[i.toNat]? = some b) :
    StepOk P w G ω β a o σ (σ.put o.dst (.val (.int .u8 b.toNat))) := by
  have e1 := Rep.str_inv (hx.val hF ex)
  have e2 := Rep.int_inv (hy.val hF ey)
  have hg : (⟨⟨l⟩⟩ : ByteArray)[i.toNat]? = some b := by
    have hlt : i.toNat < l.length := (List.getElem?_eq_some_iff.1 hl).1
    have h2 : i.toNat < (⟨⟨l⟩⟩ : ByteArray).size := hlt
    rw [getElem?_pos (⟨⟨l⟩⟩ : ByteArray) i.toNat h2]
    obtain ⟨_, h⟩ := List.getElem_of_getElem? hl
    exact congrArg some h
  refine ok_val hF hd ?_ (Rep.int _ _)
  simp [execOp, ho, e1, e2, Instr.index, asIntOf, run_underlying hu, hb, hg]
end ops
end Go.AR
