import Derived.Test.YtlhahjlnhkokcaaG06
set_option linter.all false
/-! What each operation makes, one equation each; and all together, for 'simp only'. -/
namespace Go.AR
open Go

section
variable {d : Option Nat} {mr mw : List Nat} {rb wbk : List (Option Blk)} {v : TV} {k k' : IntKind} {x y i : Int} {p : PV} {cs ps : List PV} {ts : List TV} {n o s c len : Nat} {rows : List (List PV)} {l : List UInt8} {f : FuncId} {op : BinOp} {b b' : Bool}

theorem x_cp : sem .cp d mr mw [v] rb wbk = some (v.ro, [], []) := rfl
theorem x_nils : sem (.nils c) d mr mw [] rb wbk = some (.own c [], [], []) := rfl
theorem x_mv : sem .mv d mr mw [v] rb wbk = some (v, [v.ro], []) := rfl
theorem x_pub : sem .pub d mr mw [.exc c rows] rb wbk = some (.own c rows, [.val (.sl c rows)], []) := rfl
theorem x_pubv : sem .pubv d mr mw [.exc c rows] rb wbk = some (.val (.sl c rows), [.val (.sl c rows)], []) := rfl
theorem x_nilsx : sem (.nilsx c) d mr mw [] rb wbk = some (.exc c [], [], []) := rfl
theorem x_openx (h : rows ≠ []) : sem .openx (some n) mr [n] [.exc c rows] rb [none] = some (.xs n c rows.length, [.xs n c rows.length], [.cells (rows.flatten.map .val)]) := by simp [sem, h]
theorem x_openx0 : sem .openx (some n) mr [n] [.exc c []] rb [none] = some (.val (.sl c []), [.exc c []], []) := by simp [sem]
theorem x_eqsl_nil : sem (.eqsl b) d mr mw [.val (.sl c [])] rb wbk = some (.anyb, [], []) := rfl
theorem x_eqsl_cons {r : List PV} : sem (.eqsl b) d mr mw [.val (.sl c (r :: rows))] rb wbk = some (.val (.bool b), [], []) := rfl
theorem x_eqsl_own {e1 : Option TypeId} : sem (.eqsl b) d mr mw [.ownE e1 c rows] rb wbk = sem (.eqsl b) d mr mw [.val (.sl c rows)] rb wbk := rfl
theorem x_bslicex {zs : List PV} {pl : List (Nat × Nat)} {vs : List TV} : sem (.bslicex c zs pl) d mr mw vs rb wbk = (fillA zs vs pl).bind fun cs => some (.exc c (chunks c (zs.length / c) cs), [], []) := by
  have : sem (.bslicex c zs pl) d mr mw vs rb wbk = match fillA zs vs pl with | some cs => some (.exc c (chunks c (zs.length / c) cs), [], []) | none => none := by cases vs <;> rfl
  rw [this]; cases fillA zs vs pl <;> rfl
theorem x_appendx {bytes : Nat} {r' : List (List PV)} (h : (rows.length + r'.length) * bytes ≤ 140737488355328) : sem (.appendx c bytes) d mr mw [.exc c rows, .val (.sl c r')] rb wbk = some (.exc c (rows ++ r'), [.undef], []) := by simp [sem, TV.ro, h]
theorem x_appendx_own {e2 : Option TypeId} {bytes : Nat} {r' : List (List PV)} (h : (rows.length + r'.length) * bytes ≤ 140737488355328) : sem (.appendx c bytes) d mr mw [.exc c rows, .ownE e2 c r'] rb wbk = some (.exc c (rows ++ r'), [.undef], []) := by simp [sem, TV.ro, h]
theorem x_iaddr_xs (h0 : 0 ≤ i) (h : i < n) : sem (.iaddr none c) d mr mw [.xs s c n, .val (.int k i)] rb wbk = some (.lp s (i.toNat * c), [], []) := by simp [sem, TV.ro, h0, h]
theorem x_len_exc : sem (.len false) d mr mw [.exc c rows] rb wbk = some (.val (.int .i64 rows.length), [], []) := rfl
theorem x_len_xs : sem (.len false) d mr mw [.xs s c n] rb wbk = some (.val (.int .i64 n), [], []) := rfl
theorem x_range : sem .range (some n) mr [n] [.val (.str l)] rb [none] = some (.lp n 0, [], [.iter l 0]) := by simp [sem]
theorem x_next {pos : Nat} : sem .next d mr [s] [.lp s 0] rb [some (.iter l pos)] = if pos < l.length then some (.val (.tup [.bool true, .int .i64 pos, .int .i32 (decB l pos).1]), [], [.iter l (pos + (decB l pos).2)]) else some (.val (.tup [.bool false]), [], [.iter l pos]) := by simp [sem]
theorem x_pick {u : TV} : sem .pick d mr mw [.val (.bool b), v, u] rb wbk = some ((if b = true then v.ro else u.ro), [], []) := rfl
theorem x_alloct {e : TypeId} : sem (.alloct e ts) (some n) mr [n] [] rb [none] = some (.lp n 0, [], [.cellsE (some e) ts]) := by simp [sem]
theorem x_alloc : sem (.alloc ts) (some n) mr [n] [] rb [none] = some (.lp n 0, [], [.cells ts]) := by simp [sem]
theorem x_boxt {ps : List PV} {ns : List Nat} : sem .boxt (some n) mr [n] [.tag ps ns] rb [none] = some (.lp n 0, [], [.cells (tagT ps ns 0)]) := by simp [sem]
theorem x_box : sem .box (some n) mr [n] [v] rb [none] = (v.pv.bind PV.cs).bind fun cs => some (.lp n 0, [], [.cells (cs.map .val)]) := by
  simp only [sem, if_true]
  cases v.pv with
  | none => rfl
  | some p => cases h : p.cs <;> simp [h]
theorem cs_agg : PV.cs (.agg cs) = some cs := rfl
theorem cs_int : PV.cs (.int k x) = some [.int k x] := rfl
theorem cs_bool : PV.cs (.bool b) = some [.bool b] := rfl
theorem cs_str : PV.cs (.str l) = some [.str l] := rfl
theorem cs_sl : PV.cs (.sl c rows) = some [.sl c rows] := rfl
theorem cs_fn : PV.cs (.fn f) = some [.fn f] := rfl
theorem cs_nilp : PV.cs .nilp = some [.nilp] := rfl
theorem cs_nilif : PV.cs .nilif = some [.nilif] := rfl
theorem x_buildt {zs : List PV} {pl : List (Nat × Nat)} {vs : List TV} : sem (.buildt zs pl) d mr mw vs rb wbk = (fillA zs vs pl).bind fun cs => some (.tag cs (nilsOf zs pl), [], []) := by
  simp only [sem]; cases fillA zs vs pl <;> rfl
theorem x_junk : sem .junk d mr mw [] rb wbk = some (.undef, [], []) := rfl
theorem x_build {zs : List PV} {pl : List (Nat × Nat)} {vs : List TV} : sem (.build zs pl) d mr mw vs rb wbk = (fillA zs vs pl).bind fun cs => some (.val (.agg cs), [], []) := by
  have : sem (.build zs pl) d mr mw vs rb wbk = match fillA zs vs pl with | some cs => some (.val (.agg cs), [], []) | none => none := by cases vs <;> rfl
  rw [this]; cases fillA zs vs pl <;> rfl
theorem x_bslice {zs : List PV} {pl : List (Nat × Nat)} {vs : List TV} : sem (.bslice c zs pl) d mr mw vs rb wbk = (fillA zs vs pl).bind fun cs => some (.own c (chunks c (zs.length / c) cs), [], []) := by
  have : sem (.bslice c zs pl) d mr mw vs rb wbk = match fillA zs vs pl with | some cs => some (.own c (chunks c (zs.length / c) cs), [], []) | none => none := by cases vs <;> rfl
  rw [this]; cases fillA zs vs pl <;> rfl
theorem fill_nil : fillA cs [] [] = some cs := rfl
theorem fill_cons {vs : List TV} {off size : Nat} {pl : List (Nat × Nat)} : fillA cs (v :: vs) ((off, size) :: pl) = (v.pv.bind PV.cs).bind fun ps => if ps.length = size ∧ off + size ≤ cs.length then fillA (lay cs off ps) vs pl else none := by
  simp only [fillA]
  cases v.pv with
  | none => rfl
  | some p => cases h : p.cs <;> simp [h]
theorem lay_nil : lay cs o [] = cs := rfl
theorem lay_cons : lay cs o (p :: ps) = lay (cs.set o p) (o + 1) ps := rfl
theorem chunks_0 : chunks c 0 cs = [] := rfl
theorem chunks_s : chunks c (n + 1) cs = cs.take c :: chunks c n (cs.drop c) := rfl
theorem x_load_c {e0 : Option TypeId} : sem (.load false n) d [s] mw [.lp s o] [some (.cellsE e0 ts)] wbk = (ts[o]?).bind fun v => some (v.ro, [], []) := by
  simp only [sem, if_true]; cases ts[o]? <;> rfl
theorem x_load_f : sem (.load false n) d [s] mw [.lp s o] [some (.frozen cs)] wbk = (cs[o]?).bind fun p => some (.val p, [], []) := by
  simp only [sem, if_true]; cases cs[o]? <;> rfl
theorem x_load_r : sem (.load false n) d [] mw [.rp cs o] [] wbk = (cs[o]?).bind fun p => some (.val p, [], []) := by
  simp only [sem]; cases cs[o]? <;> rfl
theorem x_loada_c {e0 : Option TypeId} : sem (.load true n) d [s] mw [.lp s o] [some (.cellsE e0 ts)] wbk = (pvs ((ts.drop o).take n)).bind fun ps => if ps.length = n then some (.val (.agg ps), [], []) else none := by
  simp only [sem, if_true]; cases pvs ((ts.drop o).take n) <;> rfl
theorem x_loada_f : sem (.load true n) d [s] mw [.lp s o] [some (.frozen cs)] wbk = if o + n ≤ cs.length then some (.val (.agg ((cs.drop o).take n)), [], []) else none := by simp only [sem, if_true]
theorem x_loada_r : sem (.load true n) d [] mw [.rp cs o] [] wbk = if o + n ≤ cs.length then some (.val (.agg ((cs.drop o).take n)), [], []) else none := by simp only [sem, if_true]
/-- What a cell that is taken gives. -/
def takeTV (e0 : Option TypeId) (ts : List TV) (o : Nat) : Option TV → Option (TV × List TV × List Blk)
  | some (.ownE e1 c r) => some (.ownE e1 c r, [], [.cellsE e0 (ts.set o (.val (.sl c r)))])
  | _ => none
theorem x_ltake {e0 : Option TypeId} : sem .ltake d mr [s] [.lp s o] rb [some (.cellsE e0 ts)] = takeTV e0 ts o ts[o]? := by
  simp only [sem, if_true]; cases ts[o]? with
  | none => rfl
  | some t => cases t <;> rfl
theorem takeTV_own {e0 e1 : Option TypeId} : takeTV e0 ts o (some (.ownE e1 c rows)) = some (.ownE e1 c rows, [], [.cellsE e0 (ts.set o (.val (.sl c rows)))]) := rfl
theorem x_store {e0 : Option TypeId} (h : o < ts.length) (h1 : p.one = true) : sem (.store false n) d mr [s] [.lp s o, .val p] rb [some (.cellsE e0 ts)] = some (.undef, [.val p], [.cellsE e0 (ts.set o (.val p))]) := by simp [sem, h, h1, TV.ro]
theorem x_store_own {e0 e1 : Option TypeId} (h : o < ts.length) : sem (.store false n) d mr [s] [.lp s o, .ownE e1 c rows] rb [some (.cellsE e0 ts)] = some (.undef, [.val (.sl c rows)], [.cellsE e0 (ts.set o (.ownE e1 c rows))]) := by simp [sem, h, TV.ro]
theorem x_storea {e0 : Option TypeId} (hl : ps.length = n) (h : o + n ≤ ts.length) : sem (.store true n) d mr [s] [.lp s o, .val (.agg ps)] rb [some (.cellsE e0 ts)] = some (.undef, [.val (.agg ps)], [.cellsE e0 (layT ts o ps)]) := by simp [sem, h, hl, TV.ro]
theorem x_store_tag {e0 : Option TypeId} {ps : List PV} {ns : List Nat} (hl : ps.length = n) (h : ts.length = n) : sem (.store true n) d mr [s] [.lp s 0, .tag ps ns] rb [some (.cellsE e0 ts)] = some (.undef, [.val (.agg ps)], [.cellsE e0 (tagT ps ns 0)]) := by simp [sem, h, hl, TV.ro]
theorem x_add : sem (.bini .add) d mr mw [.val (.int k x), .val (.int k y)] rb wbk = some (.val (.int k (k.wrap (x + y))), [], []) := by simp [sem, bini]
theorem x_sub : sem (.bini .sub) d mr mw [.val (.int k x), .val (.int k y)] rb wbk = some (.val (.int k (k.wrap (x - y))), [], []) := by simp [sem, bini]
theorem x_mul : sem (.bini .mul) d mr mw [.val (.int k x), .val (.int k y)] rb wbk = some (.val (.int k (k.wrap (x * y))), [], []) := by simp [sem, bini]
theorem x_quo (h : ¬ y = 0) : sem (.bini .quo) d mr mw [.val (.int k x), .val (.int k y)] rb wbk = some (.val (.int k (k.wrap (x.tdiv y))), [], []) := by simp [sem, bini, h]
theorem x_rem (h : ¬ y = 0) : sem (.bini .rem) d mr mw [.val (.int k x), .val (.int k y)] rb wbk = some (.val (.int k (x.tmod y)), [], []) := by simp [sem, bini, h]
theorem x_and : sem (.bini .and) d mr mw [.val (.int k x), .val (.int k y)] rb wbk = some (.val (.int k (k.wrap (BitVec.ofInt k.bits x &&& BitVec.ofInt k.bits y).toNat)), [], []) := by simp [sem, bini]
theorem x_or : sem (.bini .or) d mr mw [.val (.int k x), .val (.int k y)] rb wbk = some (.val (.int k (k.wrap (BitVec.ofInt k.bits x ||| BitVec.ofInt k.bits y).toNat)), [], []) := by simp [sem, bini]
theorem x_xor : sem (.bini .xor) d mr mw [.val (.int k x), .val (.int k y)] rb wbk = some (.val (.int k (k.wrap (BitVec.ofInt k.bits x ^^^ BitVec.ofInt k.bits y).toNat)), [], []) := by simp [sem, bini]
theorem x_shl (h : ¬ y < 0) : sem (.bini .shl) d mr mw [.val (.int k x), .val (.int k' y)] rb wbk = some (.val (.int k (k.wrap (x * 2 ^ (min y.toNat k.bits)))), [], []) := by simp only [sem, shiftA, h, if_false]
theorem x_shr (h : ¬ y < 0) : sem (.bini .shr) d mr mw [.val (.int k x), .val (.int k' y)] rb wbk = some (.val (.int k (x.fdiv (2 ^ (min y.toNat k.bits)))), [], []) := by simp only [sem, shiftA, h, if_false]
theorem x_eql : sem (.bini .eql) d mr mw [.val (.int k x), .val (.int k y)] rb wbk = some (.val (.bool (x == y)), [], []) := by simp [sem, bini]
theorem x_neq : sem (.bini .neq) d mr mw [.val (.int k x), .val (.int k y)] rb wbk = some (.val (.bool (x != y)), [], []) := by simp [sem, bini]
theorem x_lss : sem (.bini .lss) d mr mw [.val (.int k x), .val (.int k y)] rb wbk = some (.val (.bool (decide (x < y))), [], []) := by simp [sem, bini]
theorem x_leq : sem (.bini .leq) d mr mw [.val (.int k x), .val (.int k y)] rb wbk = some (.val (.bool (decide (x ≤ y))), [], []) := by simp [sem, bini]
theorem x_gtr : sem (.bini .gtr) d mr mw [.val (.int k x), .val (.int k y)] rb wbk = some (.val (.bool (decide (x > y))), [], []) := by simp [sem, bini]
theorem x_geq : sem (.bini .geq) d mr mw [.val (.int k x), .val (.int k y)] rb wbk = some (.val (.bool (decide (x ≥ y))), [], []) := by simp [sem, bini]
theorem x_bins {l' : List UInt8} : sem (.bins op) d mr mw [.val (.str l), .val (.str l')] rb wbk = (bins op l l').bind fun p => some (.val p, [], []) := by
  simp only [sem]; cases bins op l l' <;> rfl
theorem bins_eql {l' : List UInt8} : bins .eql l l' = some (.bool (l == l')) := rfl
theorem bins_neq {l' : List UInt8} : bins .neq l l' = some (.bool (!(l == l'))) := rfl
theorem bins_lss {l' : List UInt8} : bins .lss l l' = some (.bool (Op.bytesLess l l')) := rfl
theorem bins_leq {l' : List UInt8} : bins .leq l l' = some (.bool (Op.bytesLess l l' || l == l')) := rfl
theorem bins_gtr {l' : List UInt8} : bins .gtr l l' = some (.bool (!(Op.bytesLess l l' || l == l'))) := rfl
theorem bins_geq {l' : List UInt8} : bins .geq l l' = some (.bool (!(Op.bytesLess l l'))) := rfl
theorem x_binb : sem (.binb false) d mr mw [.val (.bool b), .val (.bool b')] rb wbk = some (.val (.bool (b == b')), [], []) := rfl
theorem x_binbn : sem (.binb true) d mr mw [.val (.bool b), .val (.bool b')] rb wbk = some (.val (.bool (!(b == b'))), [], []) := rfl
theorem x_eqa {sh : List CK} : sem (.eqa sh false) d mr mw [.val (.agg cs), .val (.agg ps)] rb wbk = (eqCells sh cs ps).bind fun b => some (.val (.bool b), [], []) := by
  simp only [sem]; cases eqCells sh cs ps <;> rfl
theorem x_eqan {sh : List CK} : sem (.eqa sh true) d mr mw [.val (.agg cs), .val (.agg ps)] rb wbk = (eqCells sh cs ps).bind fun b => some (.val (.bool (!b)), [], []) := by
  simp only [sem]; cases eqCells sh cs ps <;> rfl
theorem x_eqn_nil : sem (.eqn b) d mr mw [.val .nilp, .val .nilp] rb wbk = some (.val (.bool (!b)), [], []) := rfl
theorem x_eqn_lp : sem (.eqn b) d mr mw [.lp s o, .val .nilp] rb wbk = some (.val (.bool b), [], []) := rfl
theorem x_eqn_rp : sem (.eqn b) d mr mw [.rp cs o, .val .nilp] rb wbk = some (.val (.bool b), [], []) := rfl
theorem x_not : sem .not d mr mw [.val (.bool b)] rb wbk = some (.val (.bool (!b)), [], []) := rfl
theorem x_neg : sem (.unint .neg) d mr mw [.val (.int k x)] rb wbk = some (.val (.int k (k.wrap (0 - x))), [], []) := rfl
theorem x_conv : sem (.conv k') d mr mw [.val (.int k x)] rb wbk = some (.val (.int k' (k'.wrap x)), [], []) := rfl
theorem x_same : sem .same d mr mw [.val (.str l)] rb wbk = some (.val (.str l), [], []) := rfl
theorem x_b2s : sem .b2s d mr mw [.val (.sl c rows)] rb wbk = (bytesOf rows).bind fun l => some (.val (.str l), [], []) := by
  simp only [sem, TV.ro]; cases bytesOf rows <;> rfl
theorem x_r2s : sem .r2s d mr mw [.val (.sl c rows)] rb wbk = (runesOf rows).bind fun l => some (.val (.str (encs l)), [], []) := by
  simp only [sem, TV.ro]; cases runesOf rows <;> rfl
theorem x_r2s_own {e1 : Option TypeId} : sem .r2s d mr mw [.ownE e1 c rows] rb wbk = (runesOf rows).bind fun l => some (.val (.str (encs l)), [], []) := by
  simp only [sem, TV.ro]; cases runesOf rows <;> rfl
theorem x_mkmap : sem .mkmap (some n) mr [n] [] rb [none] = some (.mp n, [], [.map []]) := by simp [sem]
theorem x_mapup {sh : List CK} {ka : List PV} {v : PV} {kvs : List (PV × PV)} (h : ka.length = sh.length) : sem (.mapup sh) d mr [s] [.mp s, .val (.agg ka), .val v] rb [some (.map kvs)] = (setP sh (.agg ka) v kvs).bind fun k => some (.undef, [], [.map k]) := by
  simp only [sem, h, and_self, if_true]; cases setP sh (.agg ka) v kvs <;> rfl
theorem x_lookup {sh : List CK} {ka : List PV} {z : PV} {kvs : List (PV × PV)} (h : ka.length = sh.length) : sem (.lookup sh z false) d [s] mw [.mp s, .val (.agg ka)] [some (.map kvs)] wbk = (findP sh (.agg ka) kvs).bind fun r => some (.val (r.getD z), [], []) := by
  simp only [sem, h, and_self, if_true]; cases findP sh (.agg ka) kvs with
  | none => rfl
  | some r => cases r <;> rfl
theorem x_lookupok {sh : List CK} {ka : List PV} {z : PV} {kvs : List (PV × PV)} (h : ka.length = sh.length) : sem (.lookup sh z true) d [s] mw [.mp s, .val (.agg ka)] [some (.map kvs)] wbk = (findP sh (.agg ka) kvs).bind fun r => some (.val (.tup [r.getD z, .bool r.isSome]), [], []) := by
  simp only [sem, h, and_self, if_true]; cases findP sh (.agg ka) kvs with
  | none => rfl
  | some r => cases r <;> rfl
theorem x_b2s_own {e1 : Option TypeId} : sem .b2s d mr mw [.ownE e1 c rows] rb wbk = (bytesOf rows).bind fun l => some (.val (.str l), [], []) := by
  simp only [sem, TV.ro]; cases bytesOf rows <;> rfl
theorem x_faddr_lp {q : Nat} : sem (.faddr q) d mr mw [.lp s o] rb wbk = some (.lp s (o + q), [], []) := rfl
theorem x_faddr_rp {q : Nat} : sem (.faddr q) d mr mw [.rp cs o] rb wbk = some (.rp cs (o + q), [], []) := rfl
theorem x_field : sem (.field o false n) d mr mw [.val (.agg cs)] rb wbk = (cs[o]?).bind fun p => some (.val p, [], []) := by
  simp only [sem]; cases cs[o]? <;> rfl
theorem x_fielda : sem (.field o true n) d mr mw [.val (.agg cs)] rb wbk = if o + n ≤ cs.length then some (.val (.agg ((cs.drop o).take n)), [], []) else none := by simp only [sem, if_true]
theorem x_iaddr_lp (h0 : 0 ≤ i) (h : i < len) : sem (.iaddr (some len) c) d mr mw [.lp s o, .val (.int k i)] rb wbk = some (.lp s (o + i.toNat * c), [], []) := by simp [sem, h0, h]
theorem x_iaddr_rp (h0 : 0 ≤ i) (h : i < len) : sem (.iaddr (some len) c) d mr mw [.rp cs o, .val (.int k i)] rb wbk = some (.rp cs (o + i.toNat * c), [], []) := by simp [sem, h0, h]
theorem x_iaddr_sl (h0 : 0 ≤ i) : sem (.iaddr none c) d mr mw [.val (.sl c rows), .val (.int k i)] rb wbk = (rows[i.toNat]?).bind fun r => some (.rp r 0, [], []) := by
  simp only [sem, TV.ro, h0, true_and, if_true]; cases rows[i.toNat]? <;> rfl
theorem x_iaddr_own {e1 : Option TypeId} (h0 : 0 ≤ i) : sem (.iaddr none c) d mr mw [.ownE e1 c rows, .val (.int k i)] rb wbk = (rows[i.toNat]?).bind fun r => some (.rp r 0, [], []) := by
  simp only [sem, TV.ro, h0, true_and, if_true]; cases rows[i.toNat]? <;> rfl
theorem x_indexa (h0 : 0 ≤ i) (h1 : i < len) : sem (.indexa len false c) d mr mw [.val (.agg cs), .val (.int k i)] rb wbk = (cs[i.toNat * c]?).bind fun p => some (.val p, [], []) := by
  simp only [sem, h0, h1, and_self, if_true]; cases cs[i.toNat * c]? <;> rfl
theorem x_indexaa (h0 : 0 ≤ i) (h1 : i < len) : sem (.indexa len true c) d mr mw [.val (.agg cs), .val (.int k i)] rb wbk = if i.toNat * c + c ≤ cs.length then some (.val (.agg ((cs.drop (i.toNat * c)).take c)), [], []) else none := by simp only [sem, h0, h1, and_self, if_true]
theorem x_indexs (h0 : 0 ≤ i) : sem .indexs d mr mw [.val (.str l), .val (.int k i)] rb wbk = (l[i.toNat]?).bind fun w => some (.val (.int .u8 w.toNat), [], []) := by
  simp only [sem, h0, if_true]; cases l[i.toNat]? <;> rfl
theorem x_slices_h (h0 : 0 ≤ i) (h : i ≤ l.length) : sem (.slices false true) d mr mw [.val (.str l), .val (.int k i)] rb wbk = some (.val (.str (l.take i.toNat)), [], []) := by simp [sem, bnds, h0, h]
theorem x_slices_l (h0 : 0 ≤ i) (h : i ≤ l.length) : sem (.slices true false) d mr mw [.val (.str l), .val (.int k i)] rb wbk = some (.val (.str (l.drop i.toNat)), [], []) := by
  simp only [sem, bnds, Option.getD_some, Option.getD_none, Int.toNat_natCast]
  rw [if_pos ⟨h0, h, by omega⟩]
  simp
  rw [List.take_of_length_le (by simp)]
theorem x_slices_lh {j : Int} (h0 : 0 ≤ i) (h : i ≤ j) (h2 : j ≤ l.length) : sem (.slices true true) d mr mw [.val (.str l), .val (.int k i), .val (.int k' j)] rb wbk = some (.val (.str ((l.drop i.toNat).take (j.toNat - i.toNat))), [], []) := by simp [sem, bnds, h0, h, h2]
theorem x_slice_h (h0 : 0 ≤ i) (h : i ≤ rows.length) : sem (.slice c false true false) d mr mw [.val (.sl c rows), .val (.int k i)] rb wbk = some (.val (.sl c (rows.take i.toNat)), [], []) := by simp [sem, bnds, h0, h, TV.ro]
theorem x_slice_l (h0 : 0 ≤ i) (h : i ≤ rows.length) : sem (.slice c true false false) d mr mw [.val (.sl c rows), .val (.int k i)] rb wbk = some (.val (.sl c (rows.drop i.toNat)), [], []) := by
  simp only [sem, bnds, Option.getD_some, Option.getD_none, Int.toNat_natCast, TV.ro, if_true]
  rw [if_pos ⟨h0, h, by omega⟩]
  simp
  rw [List.take_of_length_le (by simp)]
theorem x_slice_lh {j : Int} (h0 : 0 ≤ i) (h : i ≤ j) (h2 : j ≤ rows.length) : sem (.slice c true true false) d mr mw [.val (.sl c rows), .val (.int k i), .val (.int k' j)] rb wbk = some (.val (.sl c ((rows.drop i.toNat).take (j.toNat - i.toNat))), [], []) := by simp [sem, bnds, h0, h, h2, TV.ro]
theorem x_slice_own {e1 : Option TypeId} {lo hi : Bool} {vs : List TV} : sem (.slice c lo hi false) d mr mw (.ownE e1 c rows :: vs) rb wbk = sem (.slice c lo hi false) d mr mw (.val (.sl c rows) :: vs) rb wbk := rfl
/-- Rows of an array. -/
def cutA (c len : Nat) (ps : List PV) (a b : Nat) : List (List PV) := ((chunks c len ps).drop a).take (b - a)
/-- What a slice of an array variable is: its rows, and the block that stays. -/
def sliceaR (len c : Nat) (lo hi : Bool) (vs : List TV) (r : Option (List PV)) : Option (TV × List TV × List Blk) := r.bind fun ps => if ps.length = len * c then (bnds len lo hi vs).bind fun ab => some (.val (.sl c (cutA c len ps ab.1 ab.2)), [], [.frozen ps]) else none
theorem x_slicea_c {e0 : Option TypeId} {lo hi : Bool} {vs : List TV} : sem (.slicea len c lo hi) d mr [s] (.lp s 0 :: vs) rb [some (.cellsE e0 ts)] = sliceaR len c lo hi vs (pvs ts) := by
  simp only [sem, if_true, sliceaR]
  cases pvs ts with
  | none => rfl
  | some ps => simp only [Option.bind_some]; split <;> first | rfl | (cases bnds len lo hi vs <;> rfl)
theorem x_slicea_f {lo hi : Bool} {vs : List TV} : sem (.slicea len c lo hi) d mr [s] (.lp s 0 :: vs) rb [some (.frozen ps)] = sliceaR len c lo hi vs (some ps) := by
  simp only [sem, if_true, sliceaR, Option.bind_some]
  split <;> first | rfl | (cases bnds len lo hi vs <;> rfl)
theorem x_nilck_lp : sem .nilck d mr mw [.lp s o] rb wbk = some (.lp s o, [], []) := rfl
theorem x_nilck_rp : sem .nilck d mr mw [.rp cs o] rb wbk = some (.rp cs o, [], []) := rfl
theorem x_nilck_fn : sem .nilck d mr mw [.val (.fn f)] rb wbk = some (.val (.fn f), [], []) := rfl
theorem x_extract : sem (.extract n) d mr mw [.val (.tup cs)] rb wbk = (cs[n]?).bind fun p => some (.val p, [], []) := by
  simp only [sem]; cases cs[n]? <;> rfl
theorem x_lens : sem (.len true) d mr mw [.val (.str l)] rb wbk = some (.val (.int .i64 l.length), [], []) := rfl
theorem x_len : sem (.len false) d mr mw [.val (.sl c rows)] rb wbk = some (.val (.int .i64 rows.length), [], []) := rfl
theorem x_len_own {e1 : Option TypeId} : sem (.len false) d mr mw [.ownE e1 c rows] rb wbk = some (.val (.int .i64 rows.length), [], []) := rfl
theorem x_lenc : sem (.lenc n) d mr mw [v] rb wbk = some (.val (.int .i64 n), [], []) := rfl
theorem x_max : sem .maxi d mr mw [.val (.int k x), .val (.int k' y)] rb wbk = some (.val (.int k (max x y)), [], []) := by
  simp only [sem]
  congr 4
  rw [Int.max_def]; split <;> split <;> omega
theorem x_min : sem .mini d mr mw [.val (.int k x), .val (.int k' y)] rb wbk = some (.val (.int k (min x y)), [], []) := by
  simp only [sem]
  congr 4
  rw [Int.min_def]; split <;> split <;> omega
theorem x_append {e1 : Option TypeId} {bytes : Nat} {r' : List (List PV)} (h : (rows.length + r'.length) * bytes ≤ 140737488355328) : sem (.append c bytes) d mr mw [.ownE e1 c rows, .val (.sl c r')] rb wbk = some (.own c (rows ++ r'), [.val (.sl c rows)], []) := by simp [sem, TV.ro, h]
theorem x_appendT {e bytes : Nat} {r' : List (List PV)} (h : (rows.length + r'.length) * bytes ≤ 140737488355328) : sem (.appendT e c bytes) d mr mw [.ownE (some e) c rows, .val (.sl c r')] rb wbk = some (.ownE (some e) c (rows ++ r'), [.val (.sl c rows)], []) := by simp [sem, TV.ro, h]
theorem x_appendT_own {e2 : Option TypeId} {e bytes : Nat} {r' : List (List PV)} (h : (rows.length + r'.length) * bytes ≤ 140737488355328) : sem (.appendT e c bytes) d mr mw [.ownE (some e) c rows, .ownE e2 c r'] rb wbk = some (.ownE (some e) c (rows ++ r'), [.val (.sl c rows)], []) := by simp [sem, TV.ro, h]
theorem x_append_own {e1 e2 : Option TypeId} {bytes : Nat} {r' : List (List PV)} (h : (rows.length + r'.length) * bytes ≤ 140737488355328) : sem (.append c bytes) d mr mw [.ownE e1 c rows, .ownE e2 c r'] rb wbk = some (.own c (rows ++ r'), [.val (.sl c rows)], []) := by simp [sem, TV.ro, h]

theorem pvs_nil : pvs [] = some [] := rfl
theorem pvs_vals : ∀ ps : List PV, pvs (ps.map .val) = some ps
  | [] => rfl
  | p :: ps => by simp [pvs, TV.pv, pvs_vals ps]
theorem pvs_cons : pvs (v :: ts) = v.pv.bind fun p => (pvs ts).bind fun ps => some (p :: ps) := by
  simp only [pvs]; cases v.pv <;> cases pvs ts <;> rfl
theorem initA_nil {n : Nat} : initA [] n = ⟨[], []⟩ := rfl
theorem one_int : PV.one (.int k x) = true := rfl
theorem one_bool : PV.one (.bool b) = true := rfl
theorem one_str : PV.one (.str l) = true := rfl
theorem one_sl : PV.one (.sl c rows) = true := rfl
theorem one_nilp : PV.one .nilp = true := rfl
theorem layT_all : ∀ (ts : List TV) (ps : List PV), ts.length = ps.length → layT ts 0 ps = ps.map .val := by
  have gen : ∀ (ps : List PV) (pre suf : List TV), suf.length = ps.length → layT (pre ++ suf) pre.length ps = pre ++ ps.map .val := by
    intro ps
    induction ps with
    | nil => intro pre suf h; simp at h; subst h; rfl
    | cons p ps ih =>
      intro pre suf h
      cases suf with
      | nil => simp at h
      | cons t suf =>
        simp only [layT]
        have := ih (pre ++ [.val p]) suf (by simpa using h)
        simp only [List.length_append, List.length_cons, List.length_nil] at this
        rw [show (pre ++ t :: suf).set pre.length (.val p) = (pre ++ [.val p]) ++ suf by simp]
        rw [this]; simp
  intro ts ps h
  simpa using gen ps [] ts h
theorem set_ints {xs : List Int} {q : Nat} : ((xs.map (.int k)).map TV.val).set q (.val (.int k x)) = ((xs.set q x).map (.int k)).map .val := by
  rw [List.map_set, List.map_set]
def isInts : List CK → Bool
  | [] => true
  | .i :: l => isInts l
  | _ :: _ => false
theorem isInts_nil : isInts [] = true := rfl
theorem isInts_i {l : List CK} : isInts (.i :: l) = isInts l := rfl
theorem isInts_rep {n : Nat} : isInts (List.replicate n .i) = true := by
  induction n with
  | zero => rfl
  | succ n ih => rw [List.replicate_succ]; exact ih
theorem eqCells_ints {k : IntKind} : ∀ {sh : List CK} {xs ys : List Int}, isInts sh = true → sh.length = xs.length → sh.length = ys.length → eqCells sh (xs.map (.int k)) (ys.map (.int k)) = some (xs == ys)
  | [], [], [], _, _, _ => rfl
  | .i :: sh, x :: xs, y :: ys, h, h1, h2 => by
    have := eqCells_ints (k := k) (sh := sh) (xs := xs) (ys := ys) h (by simpa using h1) (by simpa using h2)
    simp [eqCells, eqB, this]
  | .b :: _, _, _, h, _, _ => by cases h
  | .s :: _, _, _, h, _, _ => by cases h
  | [], _ :: _, _, _, h, _ => by simp at h
  | [], [], _ :: _, _, _, h => by simp at h
  | _ :: _, [], _, _, h, _ => by simp at h
  | _ :: _, _ :: _, [], _, _, h => by simp at h
/-- A row of a block of rows, written. -/
theorem layT_rows {c : Nat} : ∀ (rows : List (List PV)) (j : Nat) (u : List PV), (∀ r ∈ rows, r.length = c) → u.length = c → j < rows.length → layT (rows.flatten.map .val) (j * c) u = (rows.set j u).flatten.map .val := by
  intro rows j u hr hu hj
  have happ : ∀ (u : List PV) (pre suf : List TV) (o : Nat), o = pre.length → u.length ≤ suf.length → layT (pre ++ suf) o u = pre ++ u.map .val ++ suf.drop u.length := by
    intro u
    induction u with
    | nil => intro pre suf o _ _; simp [layT]
    | cons p u ih =>
      intro pre suf o ho hl
      cases suf with
      | nil => simp at hl
      | cons t suf =>
        subst ho
        simp only [layT]
        have := ih (pre ++ [.val p]) suf (pre.length + 1) (by simp) (by simpa using hl)
        rw [show (pre ++ t :: suf).set pre.length (.val p) = (pre ++ [.val p]) ++ suf by simp]
        rw [this]; simp
  obtain ⟨pre, r0, suf, rfl, hpl⟩ : ∃ pre r0 suf, rows = pre ++ r0 :: suf ∧ pre.length = j := ⟨rows.take j, rows[j], rows.drop (j + 1), by simp, by simp; omega⟩
  subst hpl
  have hfl : ∀ (l : List (List PV)), (∀ r ∈ l, r.length = c) → l.flatten.length = l.length * c := by
    intro l
    induction l with
    | nil => intro _; simp
    | cons x l ih => intro h; rw [List.flatten_cons, List.length_append, ih (fun r hr => h r (by simp [hr])), h x (by simp), List.length_cons, Nat.add_mul]; omega
  have e1 : (pre ++ r0 :: suf).flatten.map TV.val = pre.flatten.map TV.val ++ (r0 ++ suf.flatten).map TV.val := by simp
  rw [e1, happ u _ _ _ (by rw [List.length_map, hfl pre (fun r hr' => hr r (by simp [hr']))]) (by simp [hu, hr r0 (by simp)])]
  have hr0 : r0.length = c := hr r0 (by simp)
  simp [hu, ← hr0]
theorem closeW_of {C : CallRel} {t d c n : Nat} {cs : List TV} {rows : List (List PV)} {Q : AExit → Fr → Prop} {m : List (Nat × TV)} {b : List (Nat × Blk)} (hcs : cs = rows.flatten.map .val) (hr : ∀ r ∈ rows, r.length = c) (hn : rows.length = n) (h1 : ∀ p ∈ rows.flatten, p.one = true)
    (hrf : (del m [t]).all (fun e => e.2.rf != some d) = true) (k : Q .normal ⟨set m t (.exc c rows), del b [d]⟩) : closeW (.xs d c n) (some (.cells cs)) t d c Q m b := by
  have hfl : ∀ (l : List (List PV)), (∀ r ∈ l, r.length = c) → l.flatten.length = l.length * c ∧ chunks c l.length l.flatten = l := by
    intro l
    induction l with
    | nil => intro _; simp [chunks]
    | cons x l ih =>
      intro h
      obtain ⟨i1, i2⟩ := ih (fun r hr => h r (by simp [hr]))
      have hx : x.length = c := h x (by simp)
      refine ⟨by rw [List.flatten_cons, List.length_append, i1, hx, List.length_cons, Nat.add_mul]; omega, ?_⟩
      simp only [List.length_cons, List.flatten_cons, chunks]
      subst hx
      rw [List.take_left, List.drop_left, i2]
  obtain ⟨f1, f2⟩ := hfl rows hr
  subst hcs; subst hn
  have e : closeW (.xs d c rows.length) (some (.cells (rows.flatten.map .val))) t d c Q m b ↔ (match pvs (rows.flatten.map .val) with
    | some ps => (d = d ∧ c = c ∧ ps.length = rows.length * c ∧ (∀ p ∈ ps, p.one = true) ∧ (del m [t]).all (fun e => e.2.rf != some d) = true) ∧ Q .normal ⟨set m t (.exc c (chunks c rows.length ps)), del b [d]⟩
    | none => False) := Iff.rfl
  rw [e, pvs_vals]
  exact ⟨⟨rfl, rfl, f1, h1, hrf⟩, by rw [f2]; exact k⟩
end
end Go.AR
