import GoSem.Core.Code
import GoSem.Core.View
import GoSem.Core.Utf8
import GoSem.Op.String
set_option linter.all false
/-! The abstract machine: values without memory. -/
namespace Go.AR

/-- A value that stays what it is. -/
inductive PV where
  | int (k : IntKind) (n : Int)
  | bool (b : Bool)
  | str (l : List UInt8)
  | nilif
  | nilp
  | agg (cs : List PV)
  | tup (vs : List PV)
  | sl (c : Nat) (rows : List (List PV))
  | fn (f : FuncId)
  deriving Inhabited

/-- What a temporary, or a variable's cell, holds. -/
inductive TV where
  | val (p : PV)
  | ownE (e : Option TypeId) (c : Nat) (rows : List (List PV))
  | lp (s off : Nat)
  | rp (cs : List PV) (off : Nat)
  | self
  | undef
  | exc (c : Nat) (rows : List (List PV))
  | xs (s c n : Nat)
  | anyb
  | mp (s : Nat)
  | tag (cs : List PV) (ns : List Nat)
  deriving Inhabited
/-- A row that may be appended to, of which the type isn't told. -/
@[match_pattern] abbrev TV.own (c : Nat) (rows : List (List PV)) : TV := .ownE none c rows

/-- A block of memory that a frame may write. -/
inductive Blk where
  | cellsE (e : Option TypeId) (cs : List TV)
  | frozen (cs : List PV)
  | iter (s : List UInt8) (pos : Nat)
  | map (kvs : List (PV × PV))
  deriving Inhabited
/-- A block of which the type isn't told. -/
@[match_pattern] abbrev Blk.cells (cs : List TV) : Blk := .cellsE none cs

/-! ### Sorted maps from numbers -/
def get {α : Type} : List (Nat × α) → Nat → Option α
  | [], _ => none
  | (j, b) :: m, i => if i = j then some b else get m i
def set {α : Type} : List (Nat × α) → Nat → α → List (Nat × α)
  | [], i, a => [(i, a)]
  | (j, b) :: m, i, a => if i < j then (i, a) :: (j, b) :: m else if i = j then (i, a) :: m else (j, b) :: set m i a
def del {α : Type} (m : List (Nat × α)) (xs : List Nat) : List (Nat × α) := m.filter fun e => !xs.contains e.1

structure Fr where
  tmps : List (Nat × TV)
  mem : List (Nat × Blk)
  deriving Inhabited

def tget (m : List (Nat × TV)) (i : Nat) : TV := (get m i).getD .undef

inductive Opnd where
  | t (n : Nat)
  | c (p : PV)
  deriving Inhabited

def Opnd.ev (m : List (Nat × TV)) : Opnd → TV
  | .t n => tget m n
  | .c p => .val p

/-- What is read of a temporary: the right to append stays there. -/
def TV.ro : TV → TV
  | .ownE _ c r => .val (.sl c r)
  | .self => .undef
  | .exc _ _ => .undef
  | .tag cs _ => .val (.agg cs)
  | x => x
/-- The block that a temporary speaks of. -/
def TV.rf : TV → Option Nat
  | .lp s _ => some s
  | .xs s _ _ => some s
  | .mp s => some s
  | _ => none
def TV.pv : TV → Option PV
  | .val p => some p
  | .ownE _ c r => some (.sl c r)
  | .tag cs _ => some (.agg cs)
  | _ => none
def PV.one : PV → Bool
  | .agg _ => false
  | .tup _ => false
  | _ => true
def PV.cs : PV → Option (List PV)
  | .agg cs => some cs
  | .tup _ => none
  | p => some [p]
def pvs : List TV → Option (List PV)
  | [] => some []
  | x :: xs => match x.pv, pvs xs with
    | some p, some ps => some (p :: ps)
    | _, _ => none

/-- What a part of a struct or an array is, that is held against another one. -/
inductive CK where
  | i | b | s
  deriving Inhabited, DecidableEq
inductive Kind where
  | cp
  | nils (c : Nat)
  | mv
  | pick
  | alloc (zs : List TV)
  | alloct (e : TypeId) (zs : List TV)
  | box
  | build (zs : List PV) (pl : List (Nat × Nat))
  | buildt (zs : List PV) (pl : List (Nat × Nat))
  | junk
  | bslice (c : Nat) (zs : List PV) (pl : List (Nat × Nat))
  | load (agg : Bool) (n : Nat)
  | ltake
  | store (agg : Bool) (n : Nat)
  | bini (op : BinOp)
  | bins (op : BinOp)
  | binb (neq : Bool)
  | eqa (sh : List CK) (neq : Bool)
  | eqn (neq : Bool)
  | not
  | unint (op : UnOp)
  | conv (k : IntKind)
  | same
  | b2s
  | faddr (off : Nat)
  | field (off : Nat) (agg : Bool) (n : Nat)
  | iaddr (arr : Option Nat) (c : Nat)
  | indexa (len : Nat) (agg : Bool) (c : Nat)
  | indexs
  | slices (lo hi : Bool)
  | slice (c : Nat) (lo hi mx : Bool)
  | slicea (len c : Nat) (lo hi : Bool)
  | nilck
  | extract (i : Nat)
  | len (str : Bool)
  | lenc (n : Nat)
  | maxi
  | mini
  | append (c bytes : Nat)
  | appendT (e : TypeId) (c bytes : Nat)
  | pub
  | pubv
  | nilsx (c : Nat)
  | bslicex (c : Nat) (zs : List PV) (pl : List (Nat × Nat))
  | appendx (c bytes : Nat)
  | openx
  | eqsl (neq : Bool)
  | callx (nref : Nat) (new : Bool)
  | callb
  | boxt
  | appendn
  | mkslice (bytes : Nat) (zs : List PV)
  | range
  | next
  | r2s
  | mkmap
  | mapup (sh : List CK)
  | lookup (sh : List CK) (z : PV) (ok : Bool)
  | call (nref : Nat) (new : Bool)
  deriving Inhabited

structure AOp where
  dst : Option Nat
  wb : List Nat
  rd : List Opnd
  mr : List Nat
  mw : List Nat
  k : Kind
  guard : Option (Nat × Bool)
  deriving Inhabited

/-- Parts laid over cells. -/
def lay (cs : List PV) (off : Nat) : List PV → List PV
  | [] => cs
  | p :: ps => lay (cs.set off p) (off + 1) ps
def fillA (cs : List PV) : List TV → List (Nat × Nat) → Option (List PV)
  | [], [] => some cs
  | v :: vs, (off, size) :: pl =>
    match v.pv with
    | some p => match p.cs with
      | some ps => if ps.length = size ∧ off + size ≤ cs.length then fillA (lay cs off ps) vs pl else none
      | none => none
    | none => none
  | _, _ => none
/-- Which cells of a fresh struct are nil rows: those of the zero value that no part covers. -/
def nilsOf (zs : List PV) (pl : List (Nat × Nat)) : List Nat :=
  (List.range zs.length).filter fun i => (match zs[i]? with | some (.sl _ []) => true | _ => false) && pl.all fun q => decide (i < q.1) || decide (q.1 + q.2 ≤ i)
def nilTV : PV → TV
  | .sl c [] => .own c []
  | p => .val p
/-- A fresh struct's cells: its nil rows may be appended to. -/
def tagT : List PV → List Nat → Nat → List TV
  | [], _, _ => []
  | p :: ps, ns, i => (if ns.contains i then nilTV p else .val p) :: tagT ps ns (i + 1)
def layT (cs : List TV) (off : Nat) : List PV → List TV
  | [] => cs
  | p :: ps => layT (cs.set off (.val p)) (off + 1) ps

def chunks (c : Nat) : Nat → List PV → List (List PV)
  | 0, _ => []
  | n + 1, cs => cs.take c :: chunks c n (cs.drop c)

def bytesOf : List (List PV) → Option (List UInt8)
  | [] => some []
  | [.int .u8 n] :: r => match bytesOf r with
    | some l => some (UInt8.ofNat n.toNat :: l)
    | none => none
  | _ :: _ => none

def runesOf : List (List PV) → Option (List Int)
  | [] => some []
  | [.int .i32 n] :: r => match runesOf r with
    | some l => some (n :: l)
    | none => none
  | _ :: _ => none
/-- The bytes of characters. -/
def encs (l : List Int) : List UInt8 := l.flatMap fun n => (Utf8.encode n).data.toList

/-- == of two values of one type, of which parts are numbers, truths and texts. -/
def eqB : CK → PV → PV → Option Bool
  | .i, .int k a, .int k' b => if k = k' then some (a == b) else none
  | .b, .bool a, .bool b => some (a == b)
  | .s, .str a, .str b => some (a == b)
  | _, _, _ => none
def eqCells : List CK → List PV → List PV → Option Bool
  | [], [], [] => some true
  | k :: ks, a :: as, b :: bs => match eqB k a b, eqCells ks as bs with
    | some x, some y => some (x && y)
    | _, _ => none
  | _, _, _ => none

/-- What stands in a map behind a key that is a struct, or an array; none at all: what is held against each other is of unlike kinds. -/
def findP (sh : List CK) (k : PV) : List (PV × PV) → Option (Option PV)
  | [] => some none
  | (k', v) :: r => match k, k' with
    | .agg a, .agg b => match eqCells sh a b with
      | some true => some (some v)
      | some false => findP sh k r
      | none => none
    | _, _ => none
/-- A map, with a key's value. -/
def setP (sh : List CK) (k v : PV) : List (PV × PV) → Option (List (PV × PV))
  | [] => some [(k, v)]
  | (k', v') :: r => match k, k' with
    | .agg a, .agg b => match eqCells sh a b with
      | some true => some ((k, v) :: r)
      | some false => match setP sh k v r with
        | some r' => some ((k', v') :: r')
        | none => none
      | none => none
    | _, _ => none

def bini (op : BinOp) (k : IntKind) (x y : Int) : Option PV :=
  match op with
  | .add => some (.int k (k.wrap (x + y)))
  | .sub => some (.int k (k.wrap (x - y)))
  | .mul => some (.int k (k.wrap (x * y)))
  | .quo => if y = 0 then none else some (.int k (k.wrap (x.tdiv y)))
  | .rem => if y = 0 then none else some (.int k (x.tmod y))
  | .and => some (.int k (k.wrap (BitVec.ofInt k.bits x &&& BitVec.ofInt k.bits y).toNat))
  | .or => some (.int k (k.wrap (BitVec.ofInt k.bits x ||| BitVec.ofInt k.bits y).toNat))
  | .xor => some (.int k (k.wrap (BitVec.ofInt k.bits x ^^^ BitVec.ofInt k.bits y).toNat))
  | .andNot => some (.int k (k.wrap (BitVec.ofInt k.bits x &&& ~~~ BitVec.ofInt k.bits y).toNat))
  | .shl | .shr => none
  | .eql => some (.bool (x == y))
  | .neq => some (.bool (x != y))
  | .lss => some (.bool (decide (x < y)))
  | .leq => some (.bool (decide (x ≤ y)))
  | .gtr => some (.bool (decide (x > y)))
  | .geq => some (.bool (decide (x ≥ y)))
def shiftA (op : BinOp) (k : IntKind) (x y : Int) : Option PV :=
  if y < 0 then none else
  match op with
  | .shl => some (.int k (k.wrap (x * 2 ^ (min y.toNat k.bits))))
  | .shr => some (.int k (x.fdiv (2 ^ (min y.toNat k.bits))))
  | _ => none
def bins (op : BinOp) (x y : List UInt8) : Option PV :=
  match op with
  | .add => if ((x.length + y.length : Nat) : Int) > 9223372036854775807 then none else some (.str (x ++ y))
  | .eql => some (.bool (x == y))
  | .neq => some (.bool (!(x == y)))
  | .lss => some (.bool (Op.bytesLess x y))
  | .leq => some (.bool (Op.bytesLess x y || x == y))
  | .gtr => some (.bool (!(Op.bytesLess x y || x == y)))
  | .geq => some (.bool (!(Op.bytesLess x y)))
  | _ => none

/-- The bounds of s[lo:hi]; what isn't there comes out of the operands. -/
def bnds (len : Nat) (lo hi : Bool) : List TV → Option (Nat × Nat)
  | vs =>
    let r : Option (Option Int × Option Int) := match lo, hi, vs with
      | false, false, [] => some (none, none)
      | true, false, [.val (.int _ l)] => some (some l, none)
      | false, true, [.val (.int _ h)] => some (none, some h)
      | true, true, [.val (.int _ l), .val (.int _ h)] => some (some l, some h)
      | _, _, _ => none
    match r with
    | none => none
    | some (l, h) =>
      let hh := h.getD len
      let ll := l.getD 0
      if 0 ≤ ll ∧ ll ≤ hh ∧ hh ≤ len then some (ll.toNat, hh.toNat) else none

/-- The character at a place, and how many bytes it has. -/
def decB (l : List UInt8) (pos : Nat) : Int × Nat := (((Utf8.decode ⟨⟨l⟩⟩ pos).1 : Int), (Utf8.decode ⟨⟨l⟩⟩ pos).2)
/-- What an operation that is no call makes: its value, what is written back to the temporaries 'wb', and the blocks 'mw'. -/
def sem (k : Kind) (dst : Option Nat) (mr mw : List Nat) (vs : List TV) (rb : List (Option Blk)) (wbk : List (Option Blk)) : Option (TV × List TV × List Blk) :=
  match k, vs with
  | .cp, [v] => some (v.ro, [], [])
  | .nils c, [] => some (.own c [], [], [])
  | .mv, [v] => some (v, [v.ro], [])
  | .pick, [.val (.bool c), a, b] => some ((if c then a.ro else b.ro), [], [])
  | .alloc zs, [] => match dst, mw, wbk with
    | some d, [d'], [none] => if d = d' then some (.lp d 0, [], [.cells zs]) else none
    | _, _, _ => none
  | .alloct e zs, [] => match dst, mw, wbk with
    | some d, [d'], [none] => if d = d' then some (.lp d 0, [], [.cellsE (some e) zs]) else none
    | _, _, _ => none
  | .box, [v] => match dst, mw, wbk, v.pv with
    | some d, [d'], [none], some p => match p.cs with
      | some cs => if d = d' then some (.lp d 0, [], [.cells (cs.map .val)]) else none
      | none => none
    | _, _, _, _ => none
  | .boxt, [.tag cs ns] => match dst, mw, wbk with
    | some d, [d'], [none] => if d = d' then some (.lp d 0, [], [.cells (tagT cs ns 0)]) else none
    | _, _, _ => none
  | .build zs pl, vs => match fillA zs vs pl with
    | some cs => some (.val (.agg cs), [], [])
    | none => none
  | .buildt zs pl, vs => match fillA zs vs pl with
    | some cs => some (.tag cs (nilsOf zs pl), [], [])
    | none => none
  | .junk, [] => some (.undef, [], [])
  | .bslice c zs pl, vs => match fillA zs vs pl with
    | some cs => some (.own c (chunks c (zs.length / c) cs), [], [])
    | none => none
  | .load agg n, [p] => match p, mr, rb with
    | .lp s off, [s'], [some (.cellsE _ cs)] =>
      if s = s' then
        if agg then match pvs ((cs.drop off).take n) with
          | some ps => if ps.length = n then some (.val (.agg ps), [], []) else none
          | none => none
        else match cs[off]? with
          | some v => some (v.ro, [], [])
          | none => none
      else none
    | .lp s off, [s'], [some (.frozen cs)] =>
      if s = s' then
        if agg then if off + n ≤ cs.length then some (.val (.agg ((cs.drop off).take n)), [], []) else none
        else match cs[off]? with
          | some v => some (.val v, [], [])
          | none => none
      else none
    | .rp cs off, [], [] =>
      if agg then if off + n ≤ cs.length then some (.val (.agg ((cs.drop off).take n)), [], []) else none
      else match cs[off]? with
        | some v => some (.val v, [], [])
        | none => none
    | _, _, _ => none
  | .ltake, [p] => match p, mw, wbk with
    | .lp s off, [s'], [some (.cellsE e cs)] =>
      if s = s' then match cs[off]? with
        | some (.ownE e1 c r) => some (.ownE e1 c r, [], [.cellsE e (cs.set off (.val (.sl c r)))])
        | _ => none
      else none
    | _, _, _ => none
  | .store agg n, [p, v] => match p, mw, wbk with
    | .lp s off, [s'], [some (.cellsE e cs)] =>
      if s = s' then
        if agg then match v with
          | .val (.agg ps) => if ps.length = n ∧ off + n ≤ cs.length then some (.undef, [v.ro], [.cellsE e (layT cs off ps)]) else none
          | .tag ps ns => if ps.length = n ∧ off = 0 ∧ cs.length = n then some (.undef, [v.ro], [.cellsE e (tagT ps ns 0)]) else none
          | _ => none
        else match v with
          | .val p => if p.one = true ∧ off < cs.length then some (.undef, [v.ro], [.cellsE e (cs.set off v)]) else none
          | .ownE _ _ _ => if off < cs.length then some (.undef, [v.ro], [.cellsE e (cs.set off v)]) else none
          | _ => none
      else none
    | _, _, _ => none
  | .bini op, [.val (.int k a), .val (.int k' b)] =>
    match op with
    | .shl | .shr => match shiftA op k a b with | some p => some (.val p, [], []) | none => none
    | _ => if k = k' then match bini op k a b with | some p => some (.val p, [], []) | none => none else none
  | .bins op, [.val (.str a), .val (.str b)] => match bins op a b with | some p => some (.val p, [], []) | none => none
  | .binb n, [.val (.bool a), .val (.bool b)] => some (.val (.bool (if n then !(a == b) else a == b)), [], [])
  | .eqa sh n, [.val (.agg a), .val (.agg b)] => match eqCells sh a b with
    | some r => some (.val (.bool (if n then !r else r)), [], [])
    | none => none
  | .eqn n, [a, b] => match a, b with
    | .val .nilp, .val .nilp => some (.val (.bool (!n)), [], [])
    | .lp _ _, .val .nilp => some (.val (.bool n), [], [])
    | .rp _ _, .val .nilp => some (.val (.bool n), [], [])
    | _, _ => none
  | .not, [.val (.bool a)] => some (.val (.bool (!a)), [], [])
  | .unint op, [.val (.int k a)] => match op with
    | .neg => some (.val (.int k (k.wrap (0 - a))), [], [])
    | .xor => some (.val (.int k (k.wrap (BitVec.ofInt k.bits (if k.signed then -1 else k.max) ^^^ BitVec.ofInt k.bits a).toNat)), [], [])
    | _ => none
  | .conv k, [.val (.int _ a)] => some (.val (.int k (k.wrap a)), [], [])
  | .same, [v] => match v.ro with
    | .val (.str a) => some (.val (.str a), [], [])
    | _ => none
  | .b2s, [v] => match v.ro with
    | .val (.sl _ rows) => match bytesOf rows with
      | some l => some (.val (.str l), [], [])
      | none => none
    | _ => none
  | .faddr off, [p] => match p with
    | .lp s o => some (.lp s (o + off), [], [])
    | .rp cs o => some (.rp cs (o + off), [], [])
    | _ => none
  | .field off agg n, [.val (.agg cs)] =>
    if agg then if off + n ≤ cs.length then some (.val (.agg ((cs.drop off).take n)), [], []) else none
    else match cs[off]? with
      | some p => some (.val p, [], [])
      | none => none
  | .iaddr arr c, [x, .val (.int _ i)] => match arr with
    | some len => match x with
      | .lp s o => if 0 ≤ i ∧ i < len then some (.lp s (o + i.toNat * c), [], []) else none
      | .rp cs o => if 0 ≤ i ∧ i < len then some (.rp cs (o + i.toNat * c), [], []) else none
      | _ => none
    | none => match x.ro with
      | .val (.sl c' rows) => if 0 ≤ i ∧ c = c' then match rows[i.toNat]? with
          | some r => some (.rp r 0, [], [])
          | none => none
        else none
      | .xs s c' n => if 0 ≤ i ∧ i < n ∧ c = c' then some (.lp s (i.toNat * c), [], []) else none
      | _ => none
  | .indexa len agg c, [.val (.agg cs), .val (.int _ i)] =>
    if 0 ≤ i ∧ i < len then
      if agg then if i.toNat * c + c ≤ cs.length then some (.val (.agg ((cs.drop (i.toNat * c)).take c)), [], []) else none
      else match cs[i.toNat * c]? with
        | some p => some (.val p, [], [])
        | none => none
    else none
  | .indexs, [.val (.str l), .val (.int _ i)] =>
    if 0 ≤ i then match l[i.toNat]? with
      | some b => some (.val (.int .u8 b.toNat), [], [])
      | none => none
    else none
  | .slices lo hi, .val (.str l) :: vs => match bnds l.length lo hi vs with
    | some (a, b) => some (.val (.str ((l.drop a).take (b - a))), [], [])
    | none => none
  | .slice c lo hi false, x :: vs => match x.ro with
    | .val (.sl c' rows) => if c = c' then match bnds rows.length lo hi vs with
        | some (a, b) => some (.val (.sl c ((rows.drop a).take (b - a))), [], [])
        | none => none
      else none
    | _ => none
  | .slicea len c lo hi, x :: vs => match x, mw, wbk with
    | .lp s 0, [s'], [some b] =>
      if s = s' then match (match b with | .cellsE _ ts => pvs ts | .frozen ps => some ps | _ => none) with
        | some ps => if ps.length = len * c then match bnds len lo hi vs with
            | some (a, b) => some (.val (.sl c (((chunks c len ps).drop a).take (b - a))), [], [.frozen ps])
            | none => none
          else none
        | none => none
      else none
    | _, _, _ => none
  | .nilck, [v] => match v with
    | .lp s o => some (.lp s o, [], [])
    | .rp cs o => some (.rp cs o, [], [])
    | .val (.fn f) => some (.val (.fn f), [], [])
    | _ => none
  | .extract i, [.val (.tup vs)] => match vs[i]? with
    | some p => some (.val p, [], [])
    | none => none
  | .len true, [v] => match v.ro with
    | .val (.str l) => some (.val (.int .i64 l.length), [], [])
    | _ => none
  | .len false, [v] => match v with
    | .exc _ rows => some (.val (.int .i64 rows.length), [], [])
    | .xs _ _ n => some (.val (.int .i64 n), [], [])
    | v => match v.ro with
      | .val (.sl _ rows) => some (.val (.int .i64 rows.length), [], [])
      | _ => none
  | .lenc n, [_] => some (.val (.int .i64 n), [], [])
  | .maxi, [.val (.int k a), .val (.int _ b)] => some (.val (.int k (if b > a then b else a)), [], [])
  | .mini, [.val (.int k a), .val (.int _ b)] => some (.val (.int k (if b < a then b else a)), [], [])
  | .append c0 bytes, [.ownE _ c r, y] => match y.ro with
    | .val (.sl c' r') => if c = c' ∧ c = c0 ∧ (r.length + r'.length) * bytes ≤ 140737488355328 then some (.own c (r ++ r'), [.val (.sl c r)], []) else none
    | _ => none
  | .appendT e c0 bytes, [.ownE e1 c r, y] => match y.ro with
    | .val (.sl c' r') => if c = c' ∧ c = c0 ∧ (r.length + r'.length) * bytes ≤ 140737488355328 ∧ e1 = some e then some (.ownE (some e) c (r ++ r'), [.val (.sl c r)], []) else none
    | _ => none
  | .pub, [.exc c r] => some (.own c r, [.val (.sl c r)], [])
  | .pubv, [.exc c r] => some (.val (.sl c r), [.val (.sl c r)], [])
  | .nilsx c, [] => some (.exc c [], [], [])
  | .bslicex c zs pl, vs => match fillA zs vs pl with
    | some cs => some (.exc c (chunks c (zs.length / c) cs), [], [])
    | none => none
  | .appendx c0 bytes, [.exc c r, y] => match y.ro with
    | .val (.sl c' r') => if c = c' ∧ c = c0 ∧ (r.length + r'.length) * bytes ≤ 140737488355328 then some (.exc c (r ++ r'), [.undef], []) else none
    | _ => none
  | .openx, [.exc c r] => match dst, mw, wbk with
    | some d, [d'], [none] => if d = d' then (if r = [] then some (.val (.sl c []), [.exc c []], []) else some (.xs d c r.length, [.xs d c r.length], [.cells (r.flatten.map .val)])) else none
    | _, _, _ => none
  | .range, [.val (.str l)] => match dst, mw, wbk with
    | some d, [d'], [none] => if d = d' then some (.lp d 0, [], [.iter l 0]) else none
    | _, _, _ => none
  | .next, [.lp s 0] => match mw, wbk with
    | [s'], [some (.iter l pos)] => if s = s' then
        if pos < l.length then some (.val (.tup [.bool true, .int .i64 pos, .int .i32 (decB l pos).1]), [], [.iter l (pos + (decB l pos).2)])
        else some (.val (.tup [.bool false]), [], [.iter l pos])
      else none
    | _, _ => none
  | .r2s, [v] => match v.ro with
    | .val (.sl _ rows) => match runesOf rows with
      | some l => some (.val (.str (encs l)), [], [])
      | none => none
    | _ => none
  | .mkmap, [] => match dst, mw, wbk with
    | some d, [d'], [none] => if d = d' then some (.mp d, [], [.map []]) else none
    | _, _, _ => none
  | .mapup sh, [.mp s, .val (.agg ka), .val v] => match mw, wbk with
    | [s'], [some (.map kvs)] => if s = s' ∧ ka.length = sh.length then match setP sh (.agg ka) v kvs with
        | some kvs' => some (.undef, [], [.map kvs'])
        | none => none
      else none
    | _, _ => none
  | .lookup sh z ok, [.mp s, .val (.agg ka)] => match mr, rb with
    | [s'], [some (.map kvs)] => if s = s' ∧ ka.length = sh.length then match findP sh (.agg ka) kvs with
        | some (some v) => some (.val (if ok then .tup [v, .bool true] else v), [], [])
        | some none => some (.val (if ok then .tup [z, .bool false] else z), [], [])
        | none => none
      else none
    | _, _ => none
  | .eqsl n, [v] => match v.ro with
    | .val (.sl _ []) => some (.anyb, [], [])
    | .val (.sl _ (_ :: _)) => some (.val (.bool n), [], [])
    | _ => none
  | _, _ => none

/-! ### A call -/
inductive Arg where
  | v (p : PV)
  | r (b : Blk)
  | x (c : Nat) (rows : List (List PV))
  deriving Inhabited
inductive RV where
  | val (p : PV)
  | own (c : Nat) (rows : List (List PV))
  | exc (c : Nat) (rows : List (List PV))
  | new (b : Blk)
  | newm (b : Blk)
  deriving Inhabited
abbrev CallRel := FuncId → List Arg → RV → List Blk → Prop

/-- The arguments: a pointer to a block at its begin hands over the block. -/
def mkArgs (mem : List (Nat × Blk)) : List TV → List Nat → Option (List Arg)
  | [], [] => some []
  | .lp s 0 :: vs, s' :: ss => if s = s' then match get mem s, mkArgs mem vs ss with
      | some b, some as => some (.r b :: as)
      | _, _ => none
    else none
  | .val p :: vs, ss => match mkArgs mem vs ss with
    | some as => some (.v p :: as)
    | none => none
  | .ownE _ c r :: vs, ss => match mkArgs mem vs ss with
    | some as => some (.v (.sl c r) :: as)
    | none => none
  | _, _ => none
/-- The same, of which some are given away. -/
def mkArgsX (mem : List (Nat × Blk)) : List TV → List Nat → Option (List Arg)
  | [], [] => some []
  | .lp s 0 :: vs, s' :: ss => if s = s' then match get mem s, mkArgsX mem vs ss with
      | some b, some as => some (.r b :: as)
      | _, _ => none
    else none
  | .val p :: vs, ss => match mkArgsX mem vs ss with
    | some as => some (.v p :: as)
    | none => none
  | .ownE _ c r :: vs, ss => match mkArgsX mem vs ss with
    | some as => some (.v (.sl c r) :: as)
    | none => none
  | .exc c r :: vs, ss => match mkArgsX mem vs ss with
    | some as => some (.x c r :: as)
    | none => none
  | _, _ => none
def setAll {α : Type} (m : List (Nat × α)) : List Nat → List α → List (Nat × α)
  | i :: is, b :: bs => setAll (set m i b) is bs
  | _, _ => m

def Fr.put (σ : Fr) (d : Option Nat) (v : TV) : Fr := match d with
  | some d => { σ with tmps := set σ.tmps d v }
  | none => σ

def wantedA (o : AOp) (σ : Fr) : Option Bool := match o.guard with
  | none => some true
  | some (g, want) => match tget σ.tmps g with
    | .val (.bool b) => some (b == want)
    | .val (.tup _) => some false
    | _ => none

def semOp (o : AOp) (σ : Fr) : Option Fr :=
  match sem o.k o.dst o.mr o.mw (o.rd.map (·.ev σ.tmps)) (o.mr.map (get σ.mem)) (o.mw.map (get σ.mem)) with
  | some (v, ws, bs) => some { tmps := setAll (σ.put o.dst v).tmps o.wb ws, mem := setAll σ.mem o.mw bs }
  | none => none

def putRV (σ : Fr) (d : Option Nat) : RV → Fr
  | .val p => σ.put d (.val p)
  | .own c r => σ.put d (.own c r)
  | .exc c r => σ.put d (.exc c r)
  | .new b => match d with
    | some d => { tmps := set σ.tmps d (.lp d 0), mem := set σ.mem d b }
    | none => σ
  | .newm b => match d with
    | some d => { tmps := set σ.tmps d (.mp d), mem := set σ.mem d b }
    | none => σ
/-- What a call does to the frame. -/
def CallStep (C : CallRel) (o : AOp) (nref : Nat) (new : Bool) (σ σ' : Fr) : Prop :=
  ∃ f vs as rv outs, o.rd.map (·.ev σ.tmps) = .val (.fn f) :: vs ∧ mkArgs σ.mem vs (o.mw.take nref) = some as ∧ C f as rv outs ∧ outs.length = nref ∧
    (match rv with
      | .new _ => new = true ∧ (∃ d, o.dst = some d ∧ o.mw.drop nref = [d] ∧ get σ.mem d = none)
      | .newm _ => new = true ∧ (∃ d, o.dst = some d ∧ o.mw.drop nref = [d] ∧ get σ.mem d = none)
      | _ => True) ∧
    σ' = putRV { σ with mem := setAll σ.mem (o.mw.take nref) outs } o.dst rv

/-- Each operand that is given away is written back to. -/
def givenOk (o : AOp) (σ : Fr) : Prop := ∀ n, .t n ∈ o.rd → (∃ c r, tget σ.tmps n = .exc c r) → n ∈ o.wb
def CallStepX (C : CallRel) (o : AOp) (nref : Nat) (new : Bool) (σ σ' : Fr) : Prop :=
  ∃ f vs as rv outs, o.rd.map (·.ev σ.tmps) = .val (.fn f) :: vs ∧ mkArgsX σ.mem vs (o.mw.take nref) = some as ∧ C f as rv outs ∧ outs.length = nref ∧ givenOk o σ ∧
    (match rv with
      | .new _ => new = true ∧ (∃ d, o.dst = some d ∧ o.mw.drop nref = [d] ∧ get σ.mem d = none)
      | .newm _ => new = true ∧ (∃ d, o.dst = some d ∧ o.mw.drop nref = [d] ∧ get σ.mem d = none)
      | _ => True) ∧
    σ' = putRV { tmps := setAll σ.tmps o.wb (o.wb.map fun _ => .undef), mem := setAll σ.mem (o.mw.take nref) outs } o.dst rv
/-- The arguments, of which rows that nobody else speaks of are only lent. -/
def mkArgsB (mem : List (Nat × Blk)) (mr : List Nat) : List TV → Option (List Arg)
  | [] => some []
  | .xs s c n :: vs => match get mem s with
    | some (.cellsE none cs) => match pvs cs with
      | some ps => if mr.contains s ∧ ps.length = n * c ∧ (∀ p ∈ ps, p.one = true) then match mkArgsB mem mr vs with
          | some as => some (.v (.sl c (chunks c n ps)) :: as)
          | none => none
        else none
      | none => none
    | _ => none
  | .val p :: vs => match mkArgsB mem mr vs with
    | some as => some (.v p :: as)
    | none => none
  | .ownE _ c r :: vs => match mkArgsB mem mr vs with
    | some as => some (.v (.sl c r) :: as)
    | none => none
  | .exc c r :: vs => match mkArgsB mem mr vs with
    | some as => some (.v (.sl c r) :: as)
    | none => none
  | _ => none
/-- Values that speak of no memory. -/
def PV.bare : PV → Bool
  | .int _ _ => true
  | .bool _ => true
  | .tup ps => ps.all fun | .int _ _ => true | .bool _ => true | _ => false
  | _ => false
def CallStepB (C : CallRel) (o : AOp) (σ σ' : Fr) : Prop :=
  ∃ f vs as p, o.rd.map (·.ev σ.tmps) = .val (.fn f) :: vs ∧ mkArgsB σ.mem o.mr vs = some as ∧ C f as (.val p) [] ∧ p.bare = true ∧ σ' = σ.put o.dst (.val p)
def AStep (C : CallRel) (o : AOp) (σ σ' : Fr) : Prop :=
  match wantedA o σ with
  | none => False
  | some false => σ' = σ.put o.dst (.val (.tup []))
  | some true => match o.k with
    | .call nref new => CallStep C o nref new σ σ'
    | .callx nref new => CallStepX C o nref new σ σ'
    | .callb => CallStepB C o σ σ'
    | _ => semOp o σ = some σ'

def ASteps (C : CallRel) : List AOp → Fr → Fr → Prop
  | [], σ, σ' => σ = σ'
  | o :: os, σ, σ'' => ∃ σ', AStep C o σ σ' ∧ ASteps C os σ' σ''

/-! ### Code -/
inductive ACode where
  | skip
  | reg (ops : List AOp) (kt kb : List Nat)
  | seq (a b : ACode)
  | cond (c : Opnd) (a b : ACode)
  | block (id : Nat) (a : ACode)
  | loop (a : ACode)
  | exit (id : Nat)
  | ret
  | close (t d c : Nat)
  | opn (t d c : Nat)
  deriving Inhabited
inductive AExit where
  | normal
  | exit (id : Nat)
  | ret

/-- Temporaries and blocks that are not wanted any more are forgotten. -/
def kill (σ : Fr) (kt kb : List Nat) : Option Fr :=
  let m := del σ.tmps kt
  if m.all (fun e => match e.2 with | .lp s _ => !kb.contains s | .xs s _ _ => !kb.contains s | .mp s => !kb.contains s | _ => true) then some { tmps := m, mem := del σ.mem kb } else none

/-- A row that was opened is its owner's again. -/
def closeFr0 (σ : Fr) (t d c : Nat) : Option Fr := match tget σ.tmps t, get σ.mem d with
  | .xs s c' n, some (.cellsE none cs) => match pvs cs with
    | some ps => if s = d ∧ c' = c ∧ ps.length = n * c ∧ (∀ p ∈ ps, p.one = true) ∧ (del σ.tmps [t]).all (fun e => e.2.rf != some d) = true then some { tmps := set σ.tmps t (.exc c (chunks c n ps)), mem := del σ.mem [d] } else none
    | none => none
  | _, _ => none
def closeFr (σ : Fr) (t d c : Nat) : Option Fr := match tget σ.tmps t, get σ.mem d with
  | .exc c' [], none => if c' = c then some σ else none
  | _, _ => closeFr0 σ t d c
/-- A row is opened: its elements are a block of the frame's. -/
def openFr (σ : Fr) (t d c : Nat) : Option Fr := match tget σ.tmps t, get σ.mem d with
  | .exc c' r, none => if c' = c ∧ r ≠ [] then some { tmps := set σ.tmps t (.xs d c r.length), mem := set σ.mem d (.cells (r.flatten.map .val)) } else none
  | _, _ => none
def iterA (W : (AExit → Fr → Prop) → Fr → Prop) (Q : AExit → Fr → Prop) : Nat → Fr → Prop
  | 0, _ => False
  | n + 1, σ => W (fun e σ' => match e with | .normal => iterA W Q n σ' | e => Q e σ') σ

def awp (C : CallRel) : ACode → (AExit → Fr → Prop) → Fr → Prop
  | .skip, Q, σ => Q .normal σ
  | .reg ops kt kb, Q, σ => ∃ σ' σ'', ASteps C ops σ σ' ∧ kill σ' kt kb = some σ'' ∧ Q .normal σ''
  | .seq a b, Q, σ => awp C a (fun e σ' => match e with | .normal => awp C b Q σ' | e => Q e σ') σ
  | .cond c a b, Q, σ => match c.ev σ.tmps with
    | .val (.bool true) => awp C a Q σ
    | .val (.bool false) => awp C b Q σ
    | .anyb => awp C a Q σ ∧ awp C b Q σ
    | _ => False
  | .block id a, Q, σ => awp C a (fun e σ' => match e with | .exit i => if i = id then Q .normal σ' else Q (.exit i) σ' | e => Q e σ') σ
  | .loop a, Q, σ => ∃ n, iterA (awp C a) Q n σ
  | .exit id, Q, σ => Q (.exit id) σ
  | .ret, Q, σ => Q .ret σ
  | .close t d c, Q, σ => ∃ σ', closeFr σ t d c = some σ' ∧ Q .normal σ'
  | .opn t d c, Q, σ => ∃ σ', openFr σ t d c = some σ' ∧ Q .normal σ'

/-! ### A function -/
inductive ARes where
  | tmp (t : Nat)
  | cell (t : Nat) (agg : Bool) (n : Nat)
  deriving Inhabited
structure AFun where
  nparams : Nat
  ntmps : Nat
  results : List ARes
  body : ACode
  deriving Inhabited

def initA : List Arg → Nat → Fr
  | [], _ => { tmps := [], mem := [] }
  | .v p :: as, i => let σ := initA as (i + 1); { σ with tmps := (i, .val p) :: σ.tmps }
  | .r b :: as, i => let σ := initA as (i + 1); { tmps := (i, .lp i 0) :: σ.tmps, mem := (i, b) :: σ.mem }
  | .x c r :: as, i => let σ := initA as (i + 1); { σ with tmps := (i, .exc c r) :: σ.tmps }

def resA (σ : Fr) : ARes → Option TV
  | .tmp t => some (tget σ.tmps t)
  | .cell t agg n => match tget σ.tmps t with
    | .lp s off => match get σ.mem s with
      | some (.cellsE _ cs) => if agg then match pvs ((cs.drop off).take n) with
          | some ps => if ps.length = n then some (.val (.agg ps)) else none
          | none => none
        else match cs[off]? with
          | some v => some v.ro
          | none => none
      | _ => none
    | _ => none
def ressA (σ : Fr) : List ARes → Option (List PV)
  | [] => some []
  | r :: rs => match resA σ r, ressA σ rs with
    | some v, some ps => match v.pv with
      | some p => some (p :: ps)
      | none => none
    | _, _ => none
/-- The blocks that were handed over, as they are now. -/
def outsA (σ : Fr) : List Arg → Nat → Option (List Blk)
  | [], _ => some []
  | .v _ :: as, i => outsA σ as (i + 1)
  | .x _ _ :: as, i => outsA σ as (i + 1)
  | .r _ :: as, i => match get σ.mem i, outsA σ as (i + 1) with
    | some b, some bs => some (b :: bs)
    | _, _ => none
def retA (fn : AFun) (n : Nat) (σ : Fr) : Option RV :=
  match fn.results with
  | [r] => match resA σ r with
    | some (.val p) => some (.val p)
    | some (.ownE _ c rows) => some (.own c rows)
    | some (.exc c rows) => some (.exc c rows)
    | some (.lp s 0) => if n ≤ s then match get σ.mem s with
        | some b => some (.new b)
        | none => none
      else none
    | some (.mp s) => if n ≤ s then match get σ.mem s with
        | some b => some (.newm b)
        | none => none
      else none
    | _ => none
  | rs => match ressA σ rs with
    | some ps => some (.val (.tup ps))
    | none => none

/-- Called with these, a function gives this. -/
def AFun.gives (C : CallRel) (fn : AFun) (as : List Arg) (rv : RV) (outs : List Blk) : Prop :=
  as.length = fn.nparams ∧
  awp C fn.body (fun e σ => (match e with | .exit _ => False | _ => True) ∧ retA fn fn.nparams σ = some rv ∧ outsA σ as 0 = some outs) (initA as 0)

end Go.AR
