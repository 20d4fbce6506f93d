import Derived.Test.YtlhahjlnhkokcaaG01
import GoSem.Core.Program
import GoSem.Core.Region
import GoSem.Op.Equal
set_option linter.all false
/-! From the model's code to the abstract machine's. -/
namespace Go.AR

structure Hint where
  take : Bool := false
  mr : List Nat := []
  mw : List Nat := []
  nref : Nat := 0
  new : Bool := false
  x : Nat := 0
  wb : List Nat := []
  deriving Inhabited

def uT (P : Program) (t : TypeId) : Option TypeDesc := P.underlying t
def szT (P : Program) (t : TypeId) : Option Nat := (P.info? t).map (·.size)
def isAggT (P : Program) (t : TypeId) : Option Bool := (uT P t).map fun
  | .struct _ => true
  | .array _ _ => true
  | _ => false
/-- How many cells an element of a slice type has. -/
def elT (P : Program) (t : TypeId) : Nat := match uT P t with
  | some (.slice e) => (szT P e).getD 0
  | _ => 0

def cVal (c : Nat) : Value → Option PV
  | .int k n => some (.int k n)
  | .bool b => some (.bool b)
  | .string s => some (.str s.data.toList)
  | .pointer none => some .nilp
  | .nilIface => some .nilif
  | .slice none 0 0 => some (.sl c [])
  | _ => none
def cCells : List Nat → List Value → Option (List PV)
  | [], [] => some []
  | c :: cs, v :: vs => match cVal c v, cCells cs vs with
    | some p, some ps => some (p :: ps)
    | _, _ => none
  | _, _ => none
/-- Of each cell of a type how many cells an element has, if it is a slice. -/
def leafs (P : Program) : Nat → TypeId → List Nat
  | 0, _ => []
  | n + 1, t => match uT P t with
    | some (.struct fs) => (fs.toList.map fun f => leafs P n f.type).flatten
    | some (.array k e) => (List.replicate k (leafs P n e)).flatten
    | _ => [elT P t]
def zeroC (P : Program) (t : TypeId) : Option (List PV) :=
  match (P.info? t).bind (·.zero) with
  | some z => cCells (leafs P 8 t) z.cells.toList
  | none => none
def PV.zE (e : Option TypeId) : PV → TV
  | .sl c [] => .ownE e c []
  | p => .val p
abbrev PV.z : PV → TV := PV.zE none
/-- The type of the elements of a struct's slices, if there is one such type. -/
def elemT (P : Program) (t : TypeId) : Option TypeId := match uT P t with
  | some (.struct fs) => fs.toList.findSome? fun f => match uT P f.type with | some (.slice e) => some e | _ => none
  | _ => none
def cConst (P : Program) (t : TypeId) : Value → Option PV
  | .agg cs => (cCells (leafs P 8 t) cs.toList).map .agg
  | v => cVal (elT P t) v
def cOpnd (P : Program) (t : TypeId) : Operand → Option Opnd
  | .tmp n => some (.t n)
  | .const v => (cConst P t v).map .c
  | .func f => some (.c (.fn f))
  | .global _ => none
def cOpnds (P : Program) : List TypeId → List Operand → Option (List Opnd)
  | [], [] => some []
  | t :: ts, x :: xs => match cOpnd P t x, cOpnds P ts xs with
    | some y, some ys => some (y :: ys)
    | _, _ => none
  | _, _ => none
def places (P : Program) (t : TypeId) : Nat → Option (Nat × Nat × TypeId) := fun i => match uT P t with
  | some (.struct fs) => match fs[i]? with
    | some f => match szT P f.type with
      | some n => some (f.offset, n, f.type)
      | none => none
    | none => none
  | some (.array _ e) => match szT P e with
    | some n => some (i * n, n, e)
    | none => none
  | _ => none
def placesOk (P : Program) (t : TypeId) : Bool := match uT P t with
  | some (.struct fs) => (fs.toList.mapM (fun f => (P.info? f.type).map fun i => (f.offset, i.size))).isSome
  | some (.array _ e) => (P.info? e).isSome
  | _ => false
def cParts (P : Program) (pl : Nat → Option (Nat × Nat × TypeId)) : List (Nat × Operand) → Option (List Opnd × List (Nat × Nat))
  | [] => some ([], [])
  | (i, x) :: r => match pl i with
    | some (off, n, ty) => match cOpnd P ty x, cParts P pl r with
      | some y, some (ys, ps) => some (y :: ys, (off, n) :: ps)
      | _, _ => none
    | none => none

def shpF (P : Program) (f : TypeId → Option (List CK)) : Nat → List Field → Option (List CK)
  | _, [] => some []
  | off, fd :: fs => if fd.offset = off ∧ fd.name ≠ "_" then match f fd.type with
      | some s => if szT P fd.type = some s.length then match shpF P f (off + s.length) fs with
          | some r => some (s ++ r)
          | none => none
        else none
      | none => none
    else none
/-- The parts of a type whose values are held against each other. -/
def shp (P : Program) : Nat → TypeId → Option (List CK)
  | 0, _ => none
  | n + 1, t => match uT P t with
    | some (.int _) => some [.i]
    | some .bool => some [.b]
    | some .string => some [.s]
    | some (.array k e) => match shp P n e with
      | some s => if szT P e = some s.length then some (List.replicate k s).flatten else none
      | none => none
    | some (.struct fs) => if P.stoodInHeld t then none else shpF P (shp P n) 0 fs.toList
    | _ => none

/-- The same, of a type without arrays: a map's key. -/
def shpK (P : Program) : Nat → TypeId → Option (List CK)
  | 0, _ => none
  | n + 1, t => match uT P t with
    | some (.int _) => some [.i]
    | some .bool => some [.b]
    | some .string => some [.s]
    | some (.struct fs) => if P.stoodInHeld t then none else shpF P (shpK P n) 0 fs.toList
    | _ => none

def Opnd.wb : Opnd → List Nat
  | .t s => [s]
  | .c _ => []
/-- The operands that are given away. -/
def given (wb : List Nat) (xs : List Opnd) : List Nat := xs.filterMap fun
  | .t n => if wb.contains n then some n else none
  | .c _ => none
def mkA (h : Hint) (o : Oper) (rd : List Opnd) (k : Kind) (gs : Option (Nat × Bool)) : AOp :=
  { dst := o.dst, wb := [], rd, mr := [], mw := [], k, guard := gs }

/-- One operation. 'gs': the guard's temporary. -/
def cOp (P : Program) (h : Hint) (o : Oper) (gs : Option (Nat × Bool)) : Option AOp :=
  match o.op with
  | .move x => match cOpnd P o.type x with
    | some (.t s) => if h.x = 1 then (match o.dst with | some d => if d = s then none else some { mkA h o [.t s] .pub gs with wb := [s] } | none => none)
      else if h.x = 3 then (match o.dst with | some d => if d = s then none else some { mkA h o [.t s] .pubv gs with wb := [s] } | none => none)
      else if h.x = 2 then (match o.dst with | some d => if d = s then none else some { mkA h o [.t s] .openx gs with wb := [s], mw := [d] } | none => none)
      else if h.take = true then (if o.dst = some s then none else some { mkA h o [.t s] .mv gs with wb := [s] }) else some (mkA h o [.t s] .cp gs)
    | some (.c (.sl c [])) => if h.x = 1 then some (mkA h o [] (.nilsx c) gs) else if h.x = 4 then some (mkA h o [.c (.sl c [])] .cp gs) else some (mkA h o [] (.nils c) gs)
    | some y => some (mkA h o [y] .cp gs)
    | none => if h.x = 6 then some (mkA h o [] .junk gs) else none
  | .assign x => match cOpnd P o.type x with
    | some (.t s) => if h.x = 1 then (match o.dst with | some d => if d = s then none else some { mkA h o [.t s] .pub gs with wb := [s] } | none => none)
      else if h.x = 3 then (match o.dst with | some d => if d = s then none else some { mkA h o [.t s] .pubv gs with wb := [s] } | none => none)
      else if h.x = 2 then (match o.dst with | some d => if d = s then none else some { mkA h o [.t s] .openx gs with wb := [s], mw := [d] } | none => none)
      else if o.dst = some s then none else some { mkA h o [.t s] .mv gs with wb := [s] }
    | some (.c (.sl c [])) => if h.x = 1 then some (mkA h o [] (.nilsx c) gs) else if h.x = 4 then some (mkA h o [.c (.sl c [])] .cp gs) else some (mkA h o [] (.nils c) gs)
    | some y => some (mkA h o [y] .cp gs)
    | none => if h.x = 6 then some (mkA h o [] .junk gs) else none
  | .pick c a b => match cOpnd P 0 c, cOpnd P o.type a, cOpnd P o.type b with
    | some c, some a, some b => some (mkA h o [c, a, b] .pick gs)
    | _, _, _ => none
  | .alloc e => match zeroC P e, o.dst with
    | some zs, some d => if h.take = true then some { mkA h o [] (.alloct e (zs.map (PV.zE (elemT P e)))) gs with mw := [d] } else some { mkA h o [] (.alloc (zs.map PV.z)) gs with mw := [d] }
    | _, _ => none
  | .box e x => match cOpnd P e x, o.dst with
    | some x, some d => if h.x = 5 then some { mkA h o [x] .boxt gs with mw := [d] } else some { mkA h o [x] .box gs with mw := [d] }
    | _, _ => none
  | .build t parts => match zeroC P t, cParts P (places P t) parts.toList, isAggT P t with
    | some zs, some (xs, pl), some true => if placesOk P t = true then (if h.x = 5 then some (mkA h o xs (.buildt zs pl) gs) else some (mkA h o xs (.build zs pl) gs)) else none
    | _, _, _ => none
  | .buildSlice t len parts => match uT P t with
    | some (.slice e) => if h.x = 2 then (match szT P e with
        | some c => if len = 0 ∧ parts.size = 0 ∧ o.dst ≠ none then some (mkA h o [] (.nilsx c) gs) else none
        | none => none) else match szT P e, zeroC P e with
      | some c, some zs => match cParts P (fun i => some (i * c, c, e)) parts.toList with
        | some (xs, pl) => if (0 < len ∧ 0 < c ∧ zs.length = c ∧ len * c ≤ 2 ^ 20) ∧ o.dst ≠ none then (if h.x = 1 then some (mkA h o xs (.bslicex c ((List.replicate len zs).flatten) pl) gs) else some (mkA h o xs (.bslice c ((List.replicate len zs).flatten) pl) gs)) else none
        | none => none
      | _, _ => none
    | _ => none
  | .load t a => match cOpnd P 0 a, isAggT P t, szT P t with
    | some a, some g, some n =>
      if h.take = true then (if g = false ∧ o.dst ≠ none then some { mkA h o [a] .ltake gs with mw := h.mw } else none)
      else some { mkA h o [a] (.load g n) gs with mr := h.mr }
    | _, _, _ => none
  | .store t a x => match cOpnd P 0 a, cOpnd P t x, isAggT P t, szT P t with
    | some a, some x, some g, some n => if (g = true ∨ n = 1) ∧ o.dst = none then some { mkA h o [a, x] (.store g n) gs with mw := h.mw, wb := x.wb } else none
    | _, _, _, _ => none
  | .nilCheck x => match cOpnd P o.type x with
    | some x => some (mkA h o [x] .nilck gs)
    | none => none
  | .binOp op t x y ty => match cOpnd P t x, cOpnd P ty y with
    | some x, some y => match uT P t with
      | some (.int _) => some (mkA h o [x, y] (.bini op) gs)
      | some .string => some (mkA h o [x, y] (.bins op) gs)
      | some .bool => match op with
        | .eql => some (mkA h o [x, y] (.binb false) gs)
        | .neq => some (mkA h o [x, y] (.binb true) gs)
        | _ => none
      | some (.struct _) | some (.array _ _) => if P.eqGuardType P.depth t then none else match shp P 8 t, op with
        | some sh, .eql => some (mkA h o [x, y] (.eqa sh false) gs)
        | some sh, .neq => some (mkA h o [x, y] (.eqa sh true) gs)
        | _, _ => none
      | some (.pointer e) => if (szT P e).getD 0 = 0 then none else match op with
        | .eql => some (mkA h o [x, y] (.eqn false) gs)
        | .neq => some (mkA h o [x, y] (.eqn true) gs)
        | _ => none
      | some (.slice _) => match y, op with
        | .c (.sl _ []), .eql => some (mkA h o [x] (.eqsl false) gs)
        | .c (.sl _ []), .neq => some (mkA h o [x] (.eqsl true) gs)
        | _, _ => none
      | _ => none
    | _, _ => none
  | .unOp op t x => match cOpnd P t x with
    | some x => match op with
      | .not => some (mkA h o [x] .not gs)
      | .neg => some (mkA h o [x] (.unint .neg) gs)
      | .xor => some (mkA h o [x] (.unint .xor) gs)
      | _ => none
    | none => none
  | .convert s d x => match cOpnd P s x with
    | some x => match uT P s, uT P d with
      | some (.int _), some (.int k) => some (mkA h o [x] (.conv k) gs)
      | some .string, some .string => some (mkA h o [x] .same gs)
      | some (.slice e), some .string => match uT P e with
        | some (.int .u8) => some (mkA h o [x] .b2s gs)
        | some (.int .i32) => some (mkA h o [x] .r2s gs)
        | _ => none
      | _, _ => none
    | none => none
  | .slice t x lo hi mx => match cOpnd P t x, cOpnds P ((lo.toList ++ hi.toList ++ mx.toList).map fun _ => t) (lo.toList ++ hi.toList ++ mx.toList) with
    | some x, some ys => match uT P t with
      | some .string => if mx.isNone then some (mkA h o (x :: ys) (.slices lo.isSome hi.isSome) gs) else none
      | some (.slice e) => match szT P e with
        | some c => if mx.isNone then some (mkA h o (x :: ys) (.slice c lo.isSome hi.isSome false) gs) else none
        | none => none
      | some (.array n e) => match szT P e with
        | some c => if mx.isNone = true ∧ 0 < c then some { mkA h o (x :: ys) (.slicea n c lo.isSome hi.isSome) gs with mw := h.mw } else none
        | none => none
      | _ => none
    | _, _ => none
  | .fieldAddr t x f => match cOpnd P 0 x, uT P t with
    | some x, some (.struct fs) => match fs[f]? with
      | some fd => match szT P fd.type with
        | some 0 => none
        | some _ => some (mkA h o [x] (.faddr fd.offset) gs)
        | none => none
      | none => none
    | _, _ => none
  | .field t x f => match cOpnd P t x, uT P t with
    | some x, some (.struct fs) => match fs[f]? with
      | some fd => match szT P fd.type, isAggT P fd.type with
        | some n, some g => some (mkA h o [x] (.field fd.offset g n) gs)
        | _, _ => none
      | none => none
    | _, _ => none
  | .indexAddr t x i => match cOpnd P t x, cOpnd P 0 i with
    | some x, some i => match uT P t with
      | some (.array n e) => match szT P e with
        | some c => if 0 < c then some (mkA h o [x, i] (.iaddr (some n) c) gs) else none
        | none => none
      | some (.slice e) => match szT P e with
        | some c => if 0 < c then some (mkA h o [x, i] (.iaddr none c) gs) else none
        | none => none
      | _ => none
    | _, _ => none
  | .index t x i => match cOpnd P t x, cOpnd P 0 i with
    | some x, some i => match uT P t with
      | some (.array n e) => match szT P e, isAggT P e with
        | some c, some g => some (mkA h o [x, i] (.indexa n g c) gs)
        | _, _ => none
      | some .string => some (mkA h o [x, i] .indexs gs)
      | _ => none
    | _, _ => none
  | .range t x => match cOpnd P t x, uT P t, o.dst with
    | some x, some .string, some d => some { mkA h o [x] .range gs with mw := [d] }
    | _, _, _ => none
  | .next x true => match cOpnd P 0 x with
    | some x => some { mkA h o [x] .next gs with mw := h.mw }
    | none => none
  | .makeMap t r => match uT P t, o.dst, r with
    | some (.map _ _), some d, none => some { mkA h o [] .mkmap gs with mw := [d] }
    | _, _, _ => none
  | .mapUpdate t m k v => match uT P t with
    | some (.map kt et) => match cOpnd P 0 m, cOpnd P kt k, cOpnd P et v, shpK P 8 kt with
      | some m, some k, some v, some sh => if isAggT P kt = some true ∧ o.dst = none then some { mkA h o [m, k, v] (.mapup sh) gs with mw := h.mw } else none
      | _, _, _, _ => none
    | _ => none
  | .lookup t m k ok => match uT P t with
    | some (.map kt et) => match cOpnd P 0 m, cOpnd P kt k, shpK P 8 kt, ((P.info? et).bind (·.zero)).bind (cVal 0) with
      | some m, some k, some sh, some z => if isAggT P kt = some true then some { mkA h o [m, k] (.lookup sh z ok) gs with mr := h.mr } else none
      | _, _, _, _ => none
    | _ => none
  | .extract x i => match cOpnd P 0 x with
    | some x => some (mkA h o [x] (.extract i) gs)
    | none => none
  | .call c => match c.callee with
    | .builtin .len => match c.argTypes.toList, c.args.toList with
      | [t], [x] => match cOpnd P t x, uT P t with
        | some x, some .string => some (mkA h o [x] (.len true) gs)
        | some x, some (.slice _) => some (mkA h o [x] (.len false) gs)
        | some x, some (.array n _) => some (mkA h o [x] (.lenc n) gs)
        | _, _ => none
      | _, _ => none
    | .builtin .max => match cOpnds P (c.args.toList.map fun _ => 0) c.args.toList with
      | some [x, y] => some (mkA h o [x, y] .maxi gs)
      | _ => none
    | .builtin .min => match cOpnds P (c.args.toList.map fun _ => 0) c.args.toList with
      | some [x, y] => some (mkA h o [x, y] .mini gs)
      | _ => none
    | .builtin .append => match c.argTypes.toList, c.args.toList with
      | [t, t'], [.tmp s, x] => match uT P t, cOpnd P t x, szT P (match uT P t with | some (.slice e) => e | _ => 0) with
        | some (.slice e), some x, some n => match P.info? e with
          | some i => match i.zero with
            | some z => if t = t' ∧ z.cells.size = n ∧ 0 < n ∧ 0 < i.bytes ∧ o.dst ≠ some s ∧ o.dst ≠ none then (if h.x = 1 then some { mkA h o [.t s, x] (.appendx n i.bytes) gs with wb := [s] } else if h.new = true then some { mkA h o [.t s, x] (.appendT e n i.bytes) gs with wb := [s] } else some { mkA h o [.t s, x] (.append n i.bytes) gs with wb := [s] }) else none
            | none => none
          | none => none
        | _, _, _ => none
      | _, _ => none
    | .value f => match cOpnd P 0 f, cOpnds P c.argTypes.toList c.args.toList with
      | some f, some xs => if (h.mw.take h.nref).Nodup then (if h.x = 1 then (if (given h.wb xs).Nodup then some { mkA h o (f :: xs) (.callx h.nref h.new) gs with mw := h.mw, wb := h.wb } else none) else if h.x = 2 then some { mkA h o (f :: xs) .callb gs with mr := h.mr } else some { mkA h o (f :: xs) (.call h.nref h.new) gs with mw := h.mw }) else none
      | _, _ => none
    | _ => none
  | _ => none

/-! ### Regions: which operations may come in any order -/
def AOp.rds (o : AOp) : List Nat := (o.rd.filterMap fun | .t n => some n | _ => none) ++ (match o.guard with | some (g, _) => [g] | none => [])
def AOp.wrs (o : AOp) : List Nat := o.dst.toList ++ o.wb
def disj (a b : List Nat) : Bool := a.all fun x => !b.contains x
def indep (a b : AOp) : Bool :=
  disj a.wrs (b.rds ++ b.wrs) && disj b.wrs a.rds && disj a.mw (b.mr ++ b.mw) && disj b.mw a.mr
/-- What must have come ahead of each operation, through others: a number's bits. -/
def reachB (ops : Array Oper) : Nat → List Nat
  | 0 => []
  | n + 1 => let r := reachB ops n
    match ops[n]? with
    | some o => r ++ [o.after.toList.foldr (fun e acc => if Region.binds .any e then 2 ^ e.on ||| (r[e.on]?).getD 0 ||| acc else acc) 0]
    | none => r ++ [0]
/-- Of each two operations the later one comes behind, or they have nothing to do with each other. -/
def drawOk (ops : Array Oper) (as : List AOp) : Bool :=
  let r := reachB ops ops.size
  ((List.range ops.size).all fun i => match ops[i]? with | some o => o.after.all (fun e => !Region.binds .any e || e.on < i) | none => true) && (List.range as.length).all fun i => (List.range i).all fun j =>
    ((r[i]?).getD 0).testBit j || (match as[i]?, as[j]? with | some a, some b => indep a b | _, _ => false)
def opsOk (n : Nat) (as : List AOp) : Bool := as.all fun o => o.wrs.all (· < n)

def gslot (ops : Array Oper) (g : Option (Nat × Bool)) : Option (Option (Nat × Bool)) := match g with
  | none => some none
  | some (j, b) => match ops[j]? with
    | some o => match o.dst with
      | some d => some (some (d, b))
      | none => none
    | none => none
def cOps (P : Program) (ops : Array Oper) (h : Nat → Hint) : Nat → List Oper → Option (List AOp)
  | _, [] => some []
  | i, o :: os => match gslot ops o.guard with
    | some gs => match cOp P (h i) o gs, cOps P ops h (i + 1) os with
      | some a, some as => some (a :: as)
      | _, _ => none
    | none => none

structure RHint where
  ops : List (Nat × Hint) := []
  kt : List Nat := []
  kb : List Nat := []
  cl : List (Nat × Nat × Nat) := []
  op : List (Nat × Nat × Nat) := []
  deriving Inhabited
/-- The rows that are closed behind a region. -/
def closes : List (Nat × Nat × Nat) → ACode → ACode
  | [], a => a
  | (t, d, c) :: r, a => closes r (.seq a (.close t d c))
/-- The rows that are opened ahead of a region. -/
def opens : List (Nat × Nat × Nat) → ACode → ACode
  | [], a => a
  | (t, d, c) :: r, a => .seq (.opn t d c) (opens r a)
abbrev Hints := List (Nat × RHint)
def hintOf (H : Hints) (id : Nat) : RHint := (get H id).getD {}

def cCode (P : Program) (n np : Nat) (H : Hints) : Code → Option ACode
  | .skip => some .skip
  | .region id ops draw =>
    let h := hintOf H id
    match cOps P ops (fun i => (get h.ops i).getD {}) 0 ops.toList with
    | some as => if (opsOk n as = true ∧ h.kb.all (np ≤ ·) = true ∧ h.cl.all (fun e => decide (np ≤ e.2.1)) = true) ∧ (draw = false ∨ drawOk ops as = true) then some (opens h.op (closes h.cl (.reg as h.kt h.kb))) else none
    | none => none
  | .seq a b => match cCode P n np H a, cCode P n np H b with
    | some a, some b => some (.seq a b)
    | _, _ => none
  | .cond c a b => match cOpnd P 0 c, cCode P n np H a, cCode P n np H b with
    | some c, some a, some b => some (.cond c a b)
    | _, _, _ => none
  | .block id a => match cCode P n np H a with
    | some a =>
      if ((hintOf H (1000000 + id)).kt.isEmpty && (hintOf H (1000000 + id)).kb.isEmpty) = true then some (.block id a)
      else if (hintOf H (1000000 + id)).kb.all (np ≤ ·) = true then some (.seq (.block id a) (.reg [] (hintOf H (1000000 + id)).kt (hintOf H (1000000 + id)).kb)) else none
    | none => none
  | .loop a => match cCode P n np H a with
    | some a => some (.loop a)
    | none => none
  | .exit id => some (.exit id)
  | .ret => some .ret
  | _ => none

def cRes (P : Program) : ResultVar → Option ARes
  | .tmp t => some (.tmp t)
  | .cell t ty => match isAggT P ty, szT P ty with
    | some g, some n => some (.cell t g n)
    | _, _ => none
def cRess (P : Program) : List ResultVar → Option (List ARes)
  | [] => some []
  | r :: rs => match cRes P r, cRess P rs with
    | some r, some rs => some (r :: rs)
    | _, _ => none
def cFun (P : Program) (H : Hints) (fn : Func) : Option AFun :=
  match fn.body with
  | some c => match cCode P fn.ntmps fn.params.size H c, cRess P fn.results.toList with
    | some b, some rs => if fn.params.size ≤ fn.ntmps ∧ fn.nfree = 0 ∧ fn.name ≠ "runtime.NumGoroutine" then some { nparams := fn.params.size, ntmps := fn.ntmps, results := rs, body := b } else none
    | _, _ => none
  | none => none
end Go.AR
