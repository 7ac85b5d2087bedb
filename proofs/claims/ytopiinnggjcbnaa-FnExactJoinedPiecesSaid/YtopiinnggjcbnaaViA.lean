/- Vi, part A: our own text, the same for every seat: a verified evaluator of the code over typed data. -/
import Derived.Calls
import Derived.Orders
import Derived.Laws.Sem
import Derived.Laws.World
import Derived.Laws.AppendOwn
import Derived.Laws.OwnMore
import Derived.Laws.NewFold
import Derived.Laws.CopyRow
import Derived.Laws.MakeOwn
import Derived.Laws.Cells
import Derived.Laws.Tables
import Derived.Laws.IdiomCopy
import Derived.Laws.Entries
import Derived.Laws.Build
import Derived.Laws.StructEq
import Derived.Laws.Strings
/-
  Vi, part 1: abstract values, and an evaluator of the model's code over them. Our own text; no program in it.
  A datum 'd t x' is a value that is only read; 'ref', 'own', 'eo' lead to blocks of the run's own ('Mem').
  The evaluator is in continuation style: what it comes to on symbolic data is checked by the kernel against a plain Lean function.
-/
namespace Go.Vi
open Go
/-- kinds of plain data -/
inductive Ty where
  | int (k : IntKind) | bool | str | sl (e : Ty) | unit | pair (a b : Ty)
  deriving DecidableEq
abbrev Str := List UInt8
@[reducible] def Ty.D : Ty → Type
  | .int _ => Int
  | .bool => Bool
  | .str => List UInt8
  | .sl e => List e.D
  | .unit => Unit
  | .pair a b => a.D × b.D
def Ty.zero : (t : Ty) → t.D
  | .int _ => (0 : Int)
  | .bool => false
  | .str => ([] : List UInt8)
  | .sl _ => []
  | .unit => ()
  | .pair a b => (a.zero, b.zero)
/-- how many cells -/
def Ty.sz : Ty → Nat
  | .unit => 0
  | .pair a b => a.sz + b.sz
  | _ => 1
def Ty.isAgg : Ty → Bool
  | .unit => true
  | .pair _ _ => true
  | _ => false
inductive V where
  | d (t : Ty) (x : t.D)
  | agg (cs : List V)
  | nil
  | ref (b off : Nat)
  | own (b : Nat) (len : Option Int)      -- 'none': the whole row
  | ea (e : Ty) (xs : List e.D) (i : Int) (off : Nat)
  | eo (b : Nat) (i : Int) (off : Nat)
  | fn (f : Fn) (first captured : List V)
  | tup (vs : List V)
  | junk
/-- a block: a variable's cells; a row that may be written (and, 'a', appended to: the element's type); a row that is written no more; one that no name leads to -/
inductive Blk where
  | cells (cs : List V)
  | row (e : Ty) (xs : List e.D) (a : Option TypeId)
  | frz (e : Ty) (xs : List e.D)
  | dead
abbrev Mem := List Blk
/-- the cells of a datum -/
def cellsOf : (t : Ty) → t.D → List V
  | .unit, _ => []
  | .pair a b, x => cellsOf a x.1 ++ cellsOf b x.2
  | .int k, x => [.d (.int k) x]
  | .bool, x => [.d .bool x]
  | .str, x => [.d .str x]
  | .sl e, x => [.d (.sl e) x]
/-- reads cells as a datum; what is left -/
def readCells : (t : Ty) → List V → Option (t.D × List V)
  | .unit, cs => some ((), cs)
  | .pair a b, cs => match readCells a cs with
    | none => none
    | some x => match readCells b x.2 with
      | none => none
      | some y => some ((x.1, y.1), y.2)
  | .int k, .d (.int k') n :: cs => if k' = k then some (n, cs) else none
  | .bool, .d .bool n :: cs => some (n, cs)
  | .str, .d .str n :: cs => some (n, cs)
  | .sl e, .d (.sl e') n :: cs => if h : e' = e then some (h ▸ n, cs) else none
  | .sl _, .nil :: cs => some (([] : List _), cs)
  | _, _ => none
def V.cells : V → List V
  | .agg cs => cs
  | .d t x => cellsOf t x
  | v => [v]
/-- it stands for cells -/
def V.plain : V → Bool
  | .tup _ => false
  | .junk => false
  | _ => true
/-- a value read as a datum of kind t -/
def rd (t : Ty) (v : V) : Option t.D := match v.plain, readCells t v.cells with
  | true, some (x, []) => some x
  | _, _ => none
/-- what the evaluator knows of a type -/
inductive K where
  | int (k : IntKind) | bool | str
  | sl (te : TypeId)                          -- the element's type
  | struct (fs : List (Nat × TypeId))         -- each field's place and type
  | ptr (te : TypeId) | func | other
structure TI where
  sz : Nat
  by_ : Nat
  kind : K
  ty : Option Ty
abbrev Tau := TypeId → TI
def TI.agg (t : TI) : Bool := match t.kind with
  | .struct _ => true
  | _ => false
def TI.known (t : TI) : Bool := match t.kind with
  | .other => false
  | _ => true
/-- the zero cells of a type -/
def zeroC (τ : Tau) : Nat → TypeId → Option (List V)
  | 0, _ => none
  | n + 1, t => match (τ t).kind with
    | .int k => some [.d (.int k) (0 : Int)]
    | .bool => some [.d .bool false]
    | .str => some [.d .str ([] : List UInt8)]
    | .sl _ => some [.nil]
    | .struct fs => fs.foldl (fun acc f => match acc, zeroC τ n f.2 with | some a, some b => some (a ++ b) | _, _ => none) (some [])
    | .func => some [.junk]
    | .ptr _ => some [.junk]
    | .other => none
def mk (t : TI) (cs : List V) : V := match t.agg with
  | true => .agg cs
  | false => cs.headD .junk
def ofConst1 : Value → V
  | .int k n => .d (.int k) n
  | .bool b => .d .bool b
  | .string s => .d .str s.data.toList
  | .slice none 0 0 => .nil
  | _ => .junk
def ofConst : Value → V
  | .agg cs => match (cs.toList.map ofConst1).all V.plain with
    | true => .agg (cs.toList.map ofConst1)
    | false => .junk
  | v => ofConst1 v
def ev (s : List V) : Operand → V
  | .tmp t => s.getD t .junk
  | .const v => ofConst v
  | .func f => .fn (.func f) [] []
  | .global _ => .junk
section
variable {R : Type}
def chk (b : Bool) (x : Option R) : Option R := bif b then x else none
def cmpI (op : BinOp) (a b : Int) : Option Bool := match op with
  | .eql => some (a == b) | .neq => some (a != b) | .lss => some (decide (a < b)) | .leq => some (decide (a ≤ b)) | .gtr => some (decide (a > b)) | .geq => some (decide (a ≥ b))
  | _ => none
def bitI (op : BinOp) (k : IntKind) (x y : Int) : Int := match op with
  | .and => k.wrap (BitVec.ofInt k.bits x &&& BitVec.ofInt k.bits y).toNat
  | .or => k.wrap (BitVec.ofInt k.bits x ||| BitVec.ofInt k.bits y).toNat
  | .xor => k.wrap (BitVec.ofInt k.bits x ^^^ BitVec.ofInt k.bits y).toNat
  | _ => k.wrap (BitVec.ofInt k.bits x &&& ~~~(BitVec.ofInt k.bits y)).toNat
def shl (k : IntKind) (x y : Int) : Int := k.wrap (x * 2 ^ (min y.toNat k.bits))
def shr (k : IntKind) (x y : Int) : Int := x.fdiv (2 ^ (min y.toNat k.bits))
def strCmp (op : BinOp) (a b : Str) : Option Bool := match op with
  | .eql => some (a == b)
  | .neq => some (!(a == b))
  | _ => none
/-- where new blocks go: behind all others, or at names that were kept for them -/
abbrev At := Option (List Nat)
def lay (L : At) (m : Mem) (x : Blk) : Nat × Mem := match L with
  | some (i :: _) => (i, m.set i x)
  | _ => (m.length, m ++ [x])
def aggV : V → Bool
  | .agg _ => true
  | .d t _ => t.isAgg
  | _ => false
/-- a value read as a datum of kind t, an aggregate just when t is one -/
def rdV (t : Ty) (v : V) : Option t.D := if aggV v = t.isAgg then rd t v else none
/-- no slices in it -/
def Ty.flat : Ty → Bool
  | .sl _ => false
  | .pair a b => a.flat && b.flat
  | _ => true
/-- '==' of data without slices -/
def eqD : (t : Ty) → t.D → t.D → Bool
  | .int _, x, y => (show Int from x) == (show Int from y)
  | .bool, x, y => (show Bool from x) == (show Bool from y)
  | .str, x, y => (show List UInt8 from x) == (show List UInt8 from y)
  | .sl _, _, _ => false
  | .unit, _, _ => true
  | .pair a b, x, y => eqD a x.1 y.1 && eqD b x.2 y.2
/-- how '==' asks: bools, and structs -/
def eqK (τ : Tau) (t : TypeId) : Option Ty := match (τ t).kind, (τ t).ty with
  | .bool, _ => some .bool
  | .struct _, some ty => bif ty.flat && ty.isAgg then some ty else none
  | _, _ => none
def binV (g : Option Ty) (op : BinOp) (x y : V) (K : V → Option R) : Option R := match x, y with
  | .d (.int k) a, .d (.int k') b => match op with
    | .shl => chk (decide (0 ≤ b)) (K (.d (.int k) (shl k a b)))
    | .shr => chk (decide (0 ≤ b)) (K (.d (.int k) (shr k a b)))
    | .add => if k = k' then K (.d (.int k) (k.wrap (a + b))) else none
    | .sub => if k = k' then K (.d (.int k) (k.wrap (a - b))) else none
    | .mul => if k = k' then K (.d (.int k) (k.wrap (a * b))) else none
    | .quo => if k = k' then chk (b != 0) (K (.d (.int k) (k.wrap (a.tdiv b)))) else none
    | .rem => if k = k' then chk (b != 0) (K (.d (.int k) (a.tmod b))) else none
    | .and => if k = k' then K (.d (.int k) (bitI .and k a b)) else none
    | .or => if k = k' then K (.d (.int k) (bitI .or k a b)) else none
    | .xor => if k = k' then K (.d (.int k) (bitI .xor k a b)) else none
    | .andNot => if k = k' then K (.d (.int k) (bitI .andNot k a b)) else none
    | op => if k = k' then match cmpI op a b with
      | some r => K (.d .bool r)
      | none => none
      else none
  | .d .str a, .d .str b => match op with
    | .add => chk (decide (a.length + b.length ≤ 9223372036854775807)) (K (.d .str (a ++ b)))
    | op => match strCmp op a b with
      | some r => K (.d .bool r)
      | none => none
  | .d .bool a, .d .bool b => match g, op with
    | some .bool, .eql => K (.d .bool (a == b))
    | some .bool, .neq => K (.d .bool (!(a == b)))
    | _, _ => none
  | x, y => match g with
    | some t => match t.isAgg, rdV t x, rdV t y, op with
      | true, some a, some b, .eql => K (.d .bool (eqD t a b))
      | true, some a, some b, .neq => K (.d .bool (!(eqD t a b)))
      | _, _, _, _ => none
    | none => none
def unV (op : UnOp) (x : V) (K : V → Option R) : Option R := match op, x with
  | .not, .d .bool b => K (.d .bool (!b))
  | .neg, .d (.int k) n => K (.d (.int k) (k.wrap (0 - n)))
  | .xor, .d (.int k) n => K (.d (.int k) (bitI .xor k (if k.signed then -1 else k.max) n))
  | _, _ => none
def inb (i : Int) (n : Nat) : Bool := decide (0 ≤ i) && decide (i < (n : Int))
def rowLen (m : Mem) (b : Nat) : Option Int := match m[b]? with
  | some (.row _ xs _) => some (xs.length : Int)
  | some (.frz _ xs) => some (xs.length : Int)
  | _ => none
def lenV (m : Mem) : V → Option Int
  | .d .str s => some (s.length : Int)
  | .d (.sl _) xs => some (xs.length : Int)
  | .nil => some 0
  | .own _ (some n) => some n
  | .own b none => rowLen m b
  | _ => none
def lenT (τ : Tau) (m : Mem) (t : TypeId) (x : V) : Option Int := match (τ t).kind, x with
  | .str, .d .str s => some (s.length : Int)
  | .str, _ => none
  | .sl _, .d .str _ => none
  | .sl _, x => lenV m x
  | _, _ => none
/-- the cells of a slice type's element; 0 where there is none -/
def elSz (τ : Tau) (t : TypeId) : Nat := match (τ t).kind with
  | .sl te => match (τ te).known with
    | true => (τ te).sz
    | false => 0
  | _ => 0
def rowSz (m : Mem) (b : Nat) : Nat := match m[b]? with
  | some (.row e _ _) => e.sz
  | some (.frz e _) => e.sz
  | _ => 0
def indexAddrV (z : Nat) (m : Mem) (x i : V) (K : V → Option R) : Option R := match x, i with
  | .d (.sl e) xs, .d (.int _) i => if z = e.sz ∧ 0 < z then chk (inb i xs.length) (K (.ea e xs i 0)) else none
  | .own b n, .d (.int _) i => if z = rowSz m b ∧ 0 < z then match lenV m (.own b n) with
      | some n => chk (decide (0 ≤ i) && decide (i < n)) (K (.eo b i 0))
      | none => none
      else none
  | _, _ => none
/-- a string's byte -/
def byteAt (s : Str) (i : Int) : Int := ((s.getD i.toNat 0).toNat : Int)
def indexV (t : TI) (x i : V) (K : V → Option R) : Option R := match t.kind, x, i with
  | .str, .d .str s, .d (.int _) i => chk (inb i s.length) (K (.d (.int .u8) (byteAt s i)))
  | _, _, _ => none
def loadC (t : TI) (cs : List V) (off : Nat) (K : V → Option R) : Option R :=
  if t.known = true ∧ off + t.sz ≤ cs.length then K (mk t ((cs.drop off).take t.sz)) else none
def loadV (m : Mem) (t : TI) (p : V) (K : V → Option R) : Option R := match p with
  | .ea e xs i off => loadC t (cellsOf e (xs.getD i.toNat e.zero)) off K
  | .eo b i off => match m[b]? with
    | some (.row e xs _) => loadC t (cellsOf e (xs.getD i.toNat e.zero)) off K
    | some (.frz e xs) => loadC t (cellsOf e (xs.getD i.toNat e.zero)) off K
    | _ => none
  | .ref b off => match m[b]? with
    | some (.cells cs) => loadC t cs off K
    | _ => none
  | _ => none
/-- a datum with some of its cells written -/
def splice (cs new : List V) (off : Nat) : List V := cs.take off ++ new ++ cs.drop (off + new.length)
def storeV (m : Mem) (t : TI) (p x : V) (K : Mem → Option R) : Option R := if t.known = true ∧ x.plain = true ∧ x.cells.length = t.sz then match p with
  | .eo b i off => match m[b]? with
    | some (.row e xs a) => if off + x.cells.length ≤ e.sz then match readCells e (splice (cellsOf e (xs.getD i.toNat e.zero)) x.cells off) with
      | some (y, []) => K (m.set b (.row e (xs.set i.toNat y) a))
      | _ => none
      else none
    | _ => none
  | .ref b off => match m[b]? with
    | some (.cells cs) => if off + x.cells.length ≤ cs.length then K (m.set b (.cells (splice cs x.cells off))) else none
    | _ => none
  | _ => none
  else none
def fieldAddrV (t : TI) (p : V) (f : Nat) (K : V → Option R) : Option R := match t.kind with
  | .struct fs => match fs[f]? with
    | some (o, _) => match p with
      | .ref b off => K (.ref b (off + o))
      | .ea e xs i off => K (.ea e xs i (off + o))
      | .eo b i off => K (.eo b i (off + o))
      | _ => none
    | none => none
  | _ => none
def aggCells : V → Option (List V)
  | .agg cs => some cs
  | .d t x => match t.isAgg with
    | true => some (cellsOf t x)
    | false => none
  | _ => none
def fieldV (τ : Tau) (t : TI) (x : V) (f : Nat) (K : V → Option R) : Option R := match t.kind, aggCells x with
  | .struct fs, some cs => match fs[f]? with
    | some (o, u) => loadC (τ u) cs o K
    | none => none
  | _, _ => none
def asI : V → Option Int | .d (.int _) n => some n | _ => none
def bound (x : Option V) (z : Int) (K : Int → Option R) : Option R := match x with
  | none => K z
  | some v => match asI v with
    | some n => K n
    | none => none
def isTrue : V → Option Bool | .d .bool b => some b | _ => none
/-- one cell as a datum: a row of one's own is written no more from here on -/
def pre {α : Type} (xs : List α) : Option Int → List α
  | none => xs
  | some n => xs.take n.toNat
def takeC (m : Mem) (v : V) : V × Mem := match v with
  | .own b n => match m[b]? with
    | some (.row e xs _) => (.d (.sl e) (pre xs n), m.set b (.frz e xs))
    | some (.frz e xs) => (.d (.sl e) (pre xs n), m)
    | _ => (v, m)
  | _ => (v, m)
def takeCs (m : Mem) : List V → List V × Mem
  | [] => ([], m)
  | v :: vs => ((takeC m v).1 :: (takeCs (takeC m v).2 vs).1, (takeCs (takeC m v).2 vs).2)
def takeV (m : Mem) (v : V) : V × Mem := match v with
  | .agg cs => (.agg (takeCs m cs).1, (takeCs m cs).2)
  | v => takeC m v
/-- x[lo:hi] -/
def sliceV (τ : Tau) (L : At) (m : Mem) (t : TypeId) (x : V) (lo hi : Option V) (K : V → Mem → Option R) : Option R := match (τ t).kind with
  | .str => match x with
    | .d .str s => bound lo 0 fun l => bound hi (s.length : Int) fun h =>
      chk (decide (0 ≤ l) && decide (l ≤ h) && decide (h ≤ (s.length : Int))) (K (.d .str ((s.take h.toNat).drop l.toNat)) m)
    | _ => none
  | .sl te => if (τ te).known = true then match x with
    | .d (.sl e) xs => if (τ te).sz = e.sz then bound lo 0 fun l => bound hi (xs.length : Int) fun h =>
        chk (decide (0 ≤ l) && decide (l ≤ h) && decide (h ≤ (xs.length : Int))) (K (.d (.sl e) ((xs.take h.toNat).drop l.toNat)) m)
      else none
    | .own b n => match lo with
      | none => match rowLen m b, lenV m (.own b n) with
        | some _, some n => bound hi n fun h => chk (decide (0 ≤ h) && decide (h ≤ n)) (K (.own b (some h)) m)
        | _, _ => none
      | some l => match m[b]? with
        | some (.row e xs _) => if (τ te).sz = e.sz then bound (some l) 0 fun l => bound hi ((pre xs n).length : Int) fun h =>
            chk (decide (0 ≤ l) && decide (l ≤ h) && decide (h ≤ ((pre xs n).length : Int))) (K (.own (lay L (m.set b .dead) (.row e (((pre xs n).take h.toNat).drop l.toNat) none)).1 none) (lay L (m.set b .dead) (.row e (((pre xs n).take h.toNat).drop l.toNat) none)).2)
          else none
        | some (.frz e xs) => if (τ te).sz = e.sz then bound (some l) 0 fun l => bound hi ((pre xs n).length : Int) fun h =>
            chk (decide (0 ≤ l) && decide (l ≤ h) && decide (h ≤ ((pre xs n).length : Int))) (K (.d (.sl e) (((pre xs n).take h.toNat).drop l.toNat)) m)
          else none
        | _ => none
    | .nil => bound lo 0 fun l => bound hi 0 fun h => chk ((l == 0) && (h == 0)) (K .nil m)
    | _ => none
    else none
  | _ => none
/-- the elements of a slice that is only read here -/
def elems (m : Mem) (v : V) : Option (Σ e : Ty, List e.D) := match v with
  | .d (.sl e) xs => some ⟨e, xs⟩
  | .own b n => match m[b]? with
    | some (.row e xs _) => some ⟨e, pre xs n⟩
    | some (.frz e xs) => some ⟨e, pre xs n⟩
    | _ => none
  | _ => none
def bytesI (s : Str) : List Int := s.map fun b => (b.toNat : Int)
def toStr (xs : List Int) : Str := xs.map fun n => UInt8.ofNat n.toNat
def convV (τ : Tau) (L : At) (m : Mem) (src dst : TypeId) (x : V) (K : V → Mem → Option R) : Option R := match (τ dst).kind, x with
  | .int k, .d (.int _) n => if (τ src).known = true then K (.d (.int k) (k.wrap n)) m else none
  | .sl te, .d .str s => match (τ te).kind, (τ src).kind with
    | .int .u8, .str => K (.own (lay L m (.row (.int .u8) (bytesI s) none)).1 none) (lay L m (.row (.int .u8) (bytesI s) none)).2
    | _, _ => none
  | .str, .d .str s => if (τ src).known = true then K (.d .str s) m else none
  | .str, .nil => match (τ src).kind with
    | .sl te => match (τ te).kind with
      | .int .u8 => K (.d .str []) m
      | _ => none
    | _ => none
  | .str, v => match (τ src).kind with
    | .sl te => match (τ te).kind with
      | .int .u8 => match elems m v with
        | some ⟨.int .u8, xs⟩ => K (.d .str (toStr xs)) m
        | _ => none
      | _ => none
    | _ => none
  | _, _ => none
/-- elements of a literal, one by one -/
def takeAll (e : Ty) (m : Mem) : List V → Option (List e.D × Mem)
  | [] => some ([], m)
  | v :: vs => match rd e (takeV m v).1 with
    | none => none
    | some x => match takeAll e (takeV m v).2 vs with
      | none => none
      | some (xs, m) => some (x :: xs, m)
def maxBytes : Nat := 70368744177664
/-- what is appended -/
def appendee (τ : Tau) (m : Mem) (t t' : TypeId) (e : Ty) (y : V) : Option (List e.D) := match y with
  | .nil => if t' = t then some [] else none
  | .d .str s => match (τ t').kind with
    | .str => if h : Ty.int .u8 = e then some (h ▸ bytesI s) else none
    | _ => none
  | y => match elems m y with
    | some ⟨e', ys⟩ => if h : e' = e then if t' = t then some (h ▸ ys) else none else none
    | none => none
def appendV (τ : Tau) (L : At) (m : Mem) (t t' : TypeId) (x y : V) (K : V → Mem → Option R) : Option R := match (τ t).kind with
  | .sl te => if (τ te).known = true then match (τ te).ty with
    | some e => match appendee τ m t t' e y with
      | none => none
      | some ys => match x with
        | .own b none => match m[b]? with
          | some (.row e' xs (some te')) => if h : e' = e ∧ te' = te then
              chk (decide ((xs.length + ys.length) * (τ te).by_ ≤ maxBytes))
                (K (.own (lay L (m.set b .dead) (.row e ((h.1 ▸ xs) ++ ys) (some te))).1 none) (lay L (m.set b .dead) (.row e ((h.1 ▸ xs) ++ ys) (some te))).2)
            else none
          | _ => none
        | .nil => chk (decide (ys.length * (τ te).by_ ≤ maxBytes)) (K (.own (lay L m (.row e ys (some te))).1 none) (lay L m (.row e ys (some te))).2)
        | _ => none
    | none => none
    else none
  | _ => none
def makeV (τ : Tau) (L : At) (m : Mem) (t : TypeId) (l c : V) (K : V → Mem → Option R) : Option R := match (τ t).kind, l, c with
  | .sl te, .d (.int _) l, .d (.int _) c => match (τ te).ty with
    | some e => if (τ te).known = true then chk (decide (0 ≤ l) && decide (l ≤ c) && decide (c * (τ te).by_ ≤ maxBytes)) (K (.own (lay L m (.row e (List.replicate l.toNat e.zero) (some te))).1 none) (lay L m (.row e (List.replicate l.toNat e.zero) (some te))).2) else none
    | none => none
  | _, _, _ => none
def buildC (τ : Tau) (fs : List (Nat × TypeId)) : List V → List (Nat × V) → Option (List V)
  | cs, [] => some cs
  | cs, p :: ps => match fs[p.1]? with
    | some (o, u) => if (τ u).known = true ∧ p.2.plain = true ∧ p.2.cells.length = (τ u).sz ∧ o + p.2.cells.length ≤ cs.length then buildC τ fs (splice cs p.2.cells o) ps else none
    | none => none
def buildV (τ : Tau) (t : TypeId) (parts : List (Nat × V)) (K : V → Option R) : Option R := match (τ t).kind, zeroC τ 20 t with
  | .struct fs, some z => match buildC τ fs z parts with
    | some cs => K (.agg cs)
    | none => none
  | _, _ => none
def iota (l : List (Nat × V)) (n : Nat) : Bool := l.map (·.1) == List.range n
def buildSliceV (τ : Tau) (L : At) (m : Mem) (t : TypeId) (n : Nat) (parts : List (Nat × V)) (K : V → Mem → Option R) : Option R := match (τ t).kind with
  | .sl te => match (τ te).ty with
    | some e => if (τ te).known = true ∧ iota parts n = true ∧ n * e.sz ≤ 16777216 then match takeAll e m (parts.map (·.2)) with
        | some (xs, m) => K (.own (lay L m (.row e xs (some te))).1 none) (lay L m (.row e xs (some te))).2
        | none => none
      else none
    | none => none
  | _ => none
def mxI (a b : Int) : Int := if b > a then b else a
def mnI (a b : Int) : Int := if b < a then b else a
def foldI (f : Int → Int → Int) (k : IntKind) (a : Int) : List V → Option Int
  | [] => some a
  | .d (.int k') b :: vs => if k' = k then foldI f k (f a b) vs else none
  | _ :: _ => none
/-- what is known of callees: what they answer, and what they do to the run's own blocks -/
abbrev Gam (R : Type) := FuncId → At → List V → Mem → (V → Mem → Option R) → Option R
inductive Out where | norm | exit (id : Nat) | ret
def callV (τ : Tau) (Γ : Gam R) (L : At) (s : List V) (m : Mem) (c : Call) (K : V → Mem → Option R) : Option R :=
  match c.callee with
  | .builtin .len => match c.args.toList, c.argTypes.toList with
    | [x], [t] => match lenT τ m t (ev s x) with
      | some n => K (.d (.int .i64) n) m
      | none => none
    | _, _ => none
  | .builtin .min => match c.args.toList.map (ev s) with
    | .d (.int k) a :: vs => match foldI mnI k a vs with
      | some n => K (.d (.int k) n) m
      | none => none
    | _ => none
  | .builtin .max => match c.args.toList.map (ev s) with
    | .d (.int k) a :: vs => match foldI mxI k a vs with
      | some n => K (.d (.int k) n) m
      | none => none
    | _ => none
  | .builtin .append => match c.args.toList, c.argTypes.toList with
    | [x, y], [t, t'] => appendV τ L m t t' (ev s x) (ev s y) K
    | _, _ => none
  | .value f => match ev s f with
    | .fn (.func g) first captured => Γ g L (first ++ c.args.toList.map (ev s) ++ captured) m K
    | _ => none
  | _ => none
def opV (τ : Tau) (Γ : Gam R) (L : At) (s : List V) (m : Mem) (o : Op) (K : V → Mem → Option R) : Option R :=
  match o with
  | .move x => K (ev s x) m
  | .assign x => K (ev s x) m
  | .pick c a b => match isTrue (ev s c) with
    | some c => bif c then K (ev s a) m else K (ev s b) m
    | none => none
  | .binOp op t x y _ => binV (eqK τ t) op (ev s x) (ev s y) fun v => K v m
  | .unOp op _ x => unV op (ev s x) fun v => K v m
  | .indexAddr t x i => indexAddrV (elSz τ t) m (ev s x) (ev s i) fun v => K v m
  | .index t x i => indexV (τ t) (ev s x) (ev s i) fun v => K v m
  | .fieldAddr t x f => fieldAddrV (τ t) (ev s x) f fun v => K v m
  | .field t x f => fieldV τ (τ t) (ev s x) f fun v => K v m
  | .load t p => loadV m (τ t) (ev s p) fun v => K v m
  | .store t p x => storeV m (τ t) (ev s p) (ev s x) fun m => K .junk m
  | .slice t x lo hi none => sliceV τ L m t (ev s x) (lo.map (ev s)) (hi.map (ev s)) K
  | .convert src dst x => convV τ L m src dst (ev s x) K
  | .alloc t => match zeroC τ 20 t with
    | some cs => K (.ref (lay L m (.cells cs)).1 0) (lay L m (.cells cs)).2
    | none => none
  | .box t x => if (τ t).known = true ∧ (ev s x).plain = true ∧ (ev s x).cells.length = (τ t).sz then K (.ref (lay L m (.cells (ev s x).cells)).1 0) (lay L m (.cells (ev s x).cells)).2 else none
  | .build t parts => buildV τ t (parts.toList.map fun p => (p.1, ev s p.2)) fun v => K v m
  | .buildSlice t n parts => buildSliceV τ L m t n (parts.toList.map fun p => (p.1, ev s p.2)) K
  | .makeSlice t l c => makeV τ L m t (ev s l) (ev s c) K
  | .makeFunc f first captured => K (.fn f (first.toList.map (ev s)) (captured.toList.map (ev s))) m
  | .extract x i => match ev s x with
    | .tup vs => match vs[i]? with
      | some v => K v m
      | none => none
    | _ => none
  | .nilCheck x => match ev s x with
    | .ref b o => K (.ref b o) m
    | .ea e xs i o => K (.ea e xs i o) m
    | .eo b i o => K (.eo b i o) m
    | .fn (.func f) a c => K (.fn (.func f) a c) m
    | _ => none
  | .call c => callV τ Γ L s m c K
  | _ => none
def put (s : List V) (d : Option Tmp) (v : V) : List V := match d with
  | some i => s.set i v
  | none => s
def regionE (τ : Tau) (Γ : Gam R) (ops : Array Oper) : List Oper → List V → Mem → (List V → Mem → Option R) → Option R
  | [], s, m, K => K s m
  | o :: rest, s, m, K =>
    match o.guard with
    | none => opV τ Γ none s m o.op fun v m' => regionE τ Γ ops rest (put s o.dst v) m' K
    | some (j, want) => match (ops[j]?).bind (·.dst) with
      | some d => match isTrue (s.getD d .junk) with
        | some b => bif b
            then (bif want then opV τ Γ none (s.set d (.d .bool true)) m o.op fun v m' => regionE τ Γ ops rest (put (s.set d (.d .bool true)) o.dst v) m' K
              else regionE τ Γ ops rest (put (s.set d (.d .bool true)) o.dst .junk) m K)
            else (bif want then regionE τ Γ ops rest (put (s.set d (.d .bool false)) o.dst .junk) m K
              else opV τ Γ none (s.set d (.d .bool false)) m o.op fun v m' => regionE τ Γ ops rest (put (s.set d (.d .bool false)) o.dst v) m' K)
        | none => none
      | none => none
def iter (n : Nat) (F : (List V → Mem → Option R) → List V → Mem → Option R) : List V → Mem → Option R := match n with
  | 0 => fun _ _ => none
  | n + 1 => F (iter n F)
end
/-! what no name leads to goes -/
mutual
def V.names : V → List Nat
  | .ref b _ => [b]
  | .own b _ => [b]
  | .eo b _ _ => [b]
  | .agg cs => V.namess cs
  | .tup vs => V.namess vs
  | .fn _ a c => V.namess a ++ V.namess c
  | .d _ _ => []
  | .nil => []
  | .ea _ _ _ _ => []
  | .junk => []
def V.namess : List V → List Nat
  | [] => []
  | v :: vs => v.names ++ V.namess vs
end
mutual
def V.ren (f : Nat → Option Nat) : V → V
  | .ref b o => match f b with
    | some b => .ref b o
    | none => .junk
  | .own b n => match f b with
    | some b => .own b n
    | none => .junk
  | .eo b i o => match f b with
    | some b => .eo b i o
    | none => .junk
  | .agg cs => .agg (V.rens f cs)
  | .tup vs => .tup (V.rens f vs)
  | .fn g a c => .fn g (V.rens f a) (V.rens f c)
  | .d t x => .d t x
  | .nil => .nil
  | .ea e xs i o => .ea e xs i o
  | .junk => .junk
def V.rens (f : Nat → Option Nat) : List V → List V
  | [] => []
  | v :: vs => v.ren f :: V.rens f vs
end
def Blk.names : Blk → List Nat
  | .cells cs => V.namess cs
  | _ => []
def Blk.ren (f : Nat → Option Nat) : Blk → Blk
  | .cells cs => .cells (V.rens f cs)
  | .row e xs a => .row e xs a
  | .frz e xs => .frz e xs
  | .dead => .dead
def has (b : Nat) : List Nat → Bool
  | [] => false
  | c :: l => Nat.beq b c || has b l
def addNew (l : List Nat) : List Nat → List Nat
  | [] => l
  | b :: bs => bif has b l then addNew l bs else addNew (l ++ [b]) bs
def reach (m : Mem) : Nat → List Nat → List Nat
  | 0, l => l
  | n + 1, l => reach m n (addNew l (l.flatMap fun b => (m.getD b .dead).names))
def idx (b : Nat) : List Nat → Nat
  | [] => 0
  | c :: l => bif Nat.beq b c then 0 else idx b l + 1
def keepF (keep : List Nat) (b : Nat) : Option Nat := bif has b keep then some (idx b keep) else none
def clr (J : List Nat) (s : List V) : List V := J.foldl (fun s j => s.set j .junk) s
section
variable {R : Type}
def gcK (keep : List Nat) (s : List V) (m : Mem) (K : List V → Mem → Option R) : Option R :=
  K (V.rens (keepF keep) s) (keep.map fun b => (m.getD b .dead).ren (keepF keep))
/-- the first q names stay -/
def gc (q : Nat) (s : List V) (m : Mem) (K : List V → Mem → Option R) : Option R :=
  gcK (List.range q ++ (List.range m.length).filter fun b => Nat.ble q b && has b (reach m 3 (V.namess s))) s m K
/-- nil becomes an empty row of one's own; without 'a', a part of a row, or one that may be appended to, becomes a row that may be written alone -/
def normO (m : Mem) (e : Ty) (a : Option TypeId) (v : V) : V × Mem := match v with
  | .nil => (.own m.length none, m ++ [.row e [] a])
  | .own b none => match m[b]?, a with
    | some (.row e' xs _), none => (.own b none, m.set b (.row e' xs none))
    | _, _ => (.own b none, m)
  | .own b (some n) => match m[b]?, a with
    | some (.row e' xs _), none => (.own m.length none, m.set b .dead ++ [.row e' (pre xs (some n)) none])
    | _, _ => (.own b (some n), m)
  | v => (v, m)
/-- a place that is brought to one form at loops' heads: a slot, or a cell that it leads to; the element's type; whether it is appended to -/
structure HE where
  slot : Nat
  cell : Option Nat
  te : TypeId
  app : Bool
def ownz (τ : Tau) : List HE → List V → Mem → (List V → Mem → Option R) → Option R
  | [], s, m, K => K s m
  | x :: l, s, m, K => match (τ x.te).ty with
    | none => none
    | some e => match x.cell with
      | none => ownz τ l (s.set x.slot (normO m e (bif x.app then some x.te else none) (s.getD x.slot .junk)).1) (normO m e (bif x.app then some x.te else none) (s.getD x.slot .junk)).2 K
      | some j => match s.getD x.slot .junk with
        | .ref b _ => match m[b]? with
          | some (.cells cs) => ownz τ l s ((normO m e (bif x.app then some x.te else none) (cs.getD j .junk)).2.set b (.cells (cs.set j (normO m e (bif x.app then some x.te else none) (cs.getD j .junk)).1))) K
          | _ => ownz τ l s m K
        | .agg cs => ownz τ l (s.set x.slot (.agg (cs.set j (normO m e (bif x.app then some x.te else none) (cs.getD j .junk)).1))) (normO m e (bif x.app then some x.te else none) (cs.getD j .junk)).2 K
        | _ => ownz τ l s m K
/-- what a function's loops begin with: slots that are cleared; places that are brought to one form -/
abbrev Hd := List Nat × List HE
def head (τ : Tau) (J : Hd) (q : Nat) (s : List V) (m : Mem) (K : List V → Mem → Option R) : Option R := ownz τ J.2 (clr J.1 s) m fun s m => gc q s m K
/-! regions whose order is drawn -/
/-- operations that write no block that is there -/
def reader (o : Op) : Bool := match o with
  | .move _ | .assign _ | .pick _ _ _ | .binOp _ _ _ _ _ | .unOp _ _ _ | .indexAddr _ _ _ | .index _ _ _ | .fieldAddr _ _ _ | .field _ _ _ | .load _ _ | .convert _ _ _ | .alloc _ | .box _ _ | .build _ _ | .makeSlice _ _ _ | .makeFunc _ _ _ | .extract _ _ | .nilCheck _ => true
  | .call c => match c.callee with
    | .builtin .len => true
    | .builtin .min => true
    | .builtin .max => true
    | _ => false
  | _ => false
def Blk.isHot : Blk → Bool
  | .cells _ => true
  | .row _ _ _ => true
  | _ => false
def Blk.isDead : Blk → Bool
  | .dead => true
  | _ => false
def looks (o : Oper) : List Tmp := o.op.operands.toList.filterMap fun x => match x with
  | .tmp t => some t
  | _ => none
def restrS (l : List Tmp) (i : Nat) : List V → List V
  | [] => []
  | v :: s => (bif has i l then v else .junk) :: restrS l (i + 1) s
def restrM (N : List Nat) (i : Nat) : Mem → Mem
  | [] => []
  | x :: m => (bif has i N then x else .dead) :: restrM N (i + 1) m
def nameF (N : List Nat) (b : Nat) : Option Nat := bif has b N then some b else none
def mergeM (W N : List Nat) (m' : Mem) (i : Nat) : Mem → Mem
  | [] => []
  | x :: m => (bif has i W then (m'.getD i .dead).ren (nameF N) else x) :: mergeM W N m' (i + 1) m
/-- what an operation may look at, and what it may write -/
def footN (s : List V) (m : Mem) (l : List Tmp) (u : Nat) : List Nat := (reach m 3 (addNew [] (l.flatMap fun t => (s.getD t .junk).names))).filter fun b => Nat.blt b u && !(m.getD b .dead).isDead
def footW (m : Mem) (o : Op) (N : List Nat) : List Nat := bif reader o then [] else N.filter fun b => (m.getD b .dead).isHot
def drawOp (τ : Tau) (Γ : Gam R) (L : List Nat) (s : List V) (m : Mem) (o : Oper) (N W : List Nat) (K : V → Mem → Option R) : Option R :=
  opV τ Γ (some L) (restrS (looks o) 0 s) (restrM (N ++ L) 0 m) o.op fun v m' => K (v.ren (nameF (N ++ L))) (mergeM (W ++ L) (N ++ L) m' 0 m)
def res (base i : Nat) : List Nat := [base + 2 * i, base + 2 * i + 1]
def disj (a b : List Nat) : Bool := a.all fun x => !has x b
/-- what must come before each -/
def ancs (ops : Array Oper) : Nat → List (List Nat)
  | 0 => []
  | n + 1 => ancs ops n ++ [match ops[n]? with
    | some o => o.after.toList.flatMap fun e => bif Region.binds .any e then e.on :: (ancs ops n).getD e.on [] else []
    | none => []]
def backs (ops : Array Oper) : Bool := (List.range ops.size).all fun i => match ops[i]? with
  | some o => o.after.toList.all fun e => !Region.binds .any e || Nat.blt e.on i
  | none => true
def freeOf (ops : Array Oper) (an : List (List Nat)) (acc : List (List Nat × List Nat)) : Bool :=
  (List.range ops.size).all fun i => (List.range i).all fun j => has j (an.getD i []) ||
    (match ops[j]?, ops[i]? with
      | some x, some y => x.apart ops y
      | _, _ => false) && disj (acc.getD j ([], [])).2 (acc.getD i ([], [])).1 && disj (acc.getD i ([], [])).2 (acc.getD j ([], [])).1
def drawE (τ : Tau) (Γ : Gam R) (ops : Array Oper) (q base : Nat) : List Oper → List (List Nat × List Nat) → List V → Mem → (List V → Mem → Option R) → Option R
  | [], acc, s, m, K => bif backs ops && freeOf ops (ancs ops ops.size) acc then gc q s m K else none
  | o :: rest, acc, s, m, K =>
    let i := acc.length
    let N := footN s m (looks o) (base + 2 * i)
    let W := footW m o.op N
    match o.guard with
    | none => drawOp τ Γ (res base i) s m o N W fun v m' => drawE τ Γ ops q base rest (acc ++ [(N ++ res base i, W ++ res base i)]) (put s o.dst v) m' K
    | some (j, want) => match (ops[j]?).bind (·.dst) with
      | some d => match isTrue (s.getD d .junk) with
        | some b => bif b
            then (bif want then drawOp τ Γ (res base i) (s.set d (.d .bool true)) m o N W fun v m' => drawE τ Γ ops q base rest (acc ++ [(N ++ res base i, W ++ res base i)]) (put (s.set d (.d .bool true)) o.dst v) m' K
              else drawE τ Γ ops q base rest (acc ++ [([], [])]) (put (s.set d (.d .bool true)) o.dst .junk) m K)
            else (bif want then drawE τ Γ ops q base rest (acc ++ [([], [])]) (put (s.set d (.d .bool false)) o.dst .junk) m K
              else drawOp τ Γ (res base i) (s.set d (.d .bool false)) m o N W fun v m' => drawE τ Γ ops q base rest (acc ++ [(N ++ res base i, W ++ res base i)]) (put (s.set d (.d .bool false)) o.dst v) m' K)
        | none => none
      | none => none
def regionD (τ : Tau) (Γ : Gam R) (ops : Array Oper) (q : Nat) (s : List V) (m : Mem) (K : List V → Mem → Option R) : Option R :=
  drawE τ Γ ops q m.length ops.toList [] s (m ++ List.replicate (2 * ops.size) .dead) K
abbrev Kont (R : Type) := Out → List V → Mem → Option R
def blockK (id : Nat) (K : Kont R) : Kont R := fun o s m => match o with | .exit i => bif i == id then K .norm s m else K (.exit i) s m | o => K o s m
def seqK (run : List V → Mem → Option R) (K : Kont R) : Kont R := fun o s m => match o with | .norm => run s m | o => K o s m
/-- the heads of a function's loops, each under the block that it stands in -/
abbrev Hds := List (Nat × Hd)
def hdOf : Hds → Nat → Hd
  | [], _ => ([], [])
  | x :: l, i => bif Nat.beq x.1 i then x.2 else hdOf l i
def codeE (τ : Tau) (Γ : Gam R) (J : Hds) (q k : Nat) : Nat → Code → Kont R → List V → Mem → Option R
  | _, .skip, K => fun s m => K .norm s m
  | _, .region _ ops false, K => fun s m => regionE τ Γ ops ops.toList s m (K .norm)
  | _, .region _ ops true, K => fun s m => regionD τ Γ ops q s m (K .norm)
  | i, .seq a b, K => codeE τ Γ J q k i a (seqK (codeE τ Γ J q k i b K) K)
  | i, .cond (.tmp c) a b, K => fun s m => match isTrue (s.getD c .junk) with
    | some x => bif x then codeE τ Γ J q k i a K (s.set c (.d .bool true)) m else codeE τ Γ J q k i b K (s.set c (.d .bool false)) m
    | none => none
  | _, .block id c, K => codeE τ Γ J q k id c (blockK id K)
  | i, .loop c, K => fun s m => head τ (hdOf J i) q s m (iter k (fun rec => codeE τ Γ J q k i c (seqK (fun s m => head τ (hdOf J i) q s m rec) K)))
  | _, .exit i, K => fun s m => K (.exit i) s m
  | _, .ret, K => fun s m => K .ret s m
  | _, _, _ => fun _ _ => none
def loopF (τ : Tau) (Γ : Gam R) (J : Hds) (q k i : Nat) (c : Code) (K : Kont R) (rec : List V → Mem → Option R) : List V → Mem → Option R :=
  codeE τ Γ J q k i c (seqK (fun s m => head τ (hdOf J i) q s m rec) K)
inductive Dir where | l | r | b | t | e
/-- the code at a place, and what follows it -/
def focus (τ : Tau) (Γ : Gam R) (J : Hds) (q k : Nat) : Nat → List Dir → Code → Kont R → Code × Kont R
  | i, .l :: p, .seq a b, K => focus τ Γ J q k i p a (seqK (codeE τ Γ J q k i b K) K)
  | i, .r :: p, .seq _ b, K => focus τ Γ J q k i p b K
  | _, .b :: p, .block id c, K => focus τ Γ J q k id p c (blockK id K)
  | i, .t :: p, .cond _ a _, K => focus τ Γ J q k i p a K
  | i, .e :: p, .cond _ _ b, K => focus τ Γ J q k i p b K
  | _, _, .loop c, K => (c, K)
  | _, _, c, K => (c, K)
def resL (τ : Tau) (s : List V) (m : Mem) : List ResultVar → (List V → Option R) → Option R
  | [], K => K []
  | .tmp t :: rs, K => resL τ s m rs fun vs => K (s.getD t .junk :: vs)
  | .cell a t :: rs, K => loadV m (τ t) (s.getD a .junk) fun v => resL τ s m rs fun vs => K (v :: vs)
def resE (τ : Tau) (fn : Func) (s : List V) (m : Mem) (K : V → Mem → Option R) : Option R :=
  resL τ s m fn.results.toList fun vs => match vs with
    | [v] => K v m
    | vs => K (.tup vs) m
def endK (τ : Tau) (fn : Func) (K : V → Mem → Option R) : Kont R := fun o s m => match o with
    | .exit _ => none
    | _ => resE τ fn s m K
def bodyOf (fn : Func) : Code := fn.body.getD .skip
def funE (τ : Tau) (Γ : Gam R) (J : Hds) (q k : Nat) (fn : Func) (args : List V) (m : Mem) (K : V → Mem → Option R) : Option R :=
  codeE τ Γ J q k 0 (bodyOf fn) (endK τ fn K) (args ++ List.replicate (fn.ntmps - args.length) .junk) m
end
/-- loops are linked round by round -/
theorem iter_link {R X : Type} (F : (List V → Mem → Option R) → List V → Mem → Option R) (st : X → List V × Mem) (step : (X → Option R) → X → Option R) (l : Nat → X → Option R)
    (h0 : ∀ x, l 0 x = none) (h1 : ∀ k x, l (k + 1) x = step (l k) x)
    (h : ∀ (rec : List V → Mem → Option R) x, F rec (st x).1 (st x).2 = step (fun x => rec (st x).1 (st x).2) x) :
    ∀ k, (fun x => iter k F (st x).1 (st x).2) = l k := by
  intro k
  induction k with
  | zero => funext x; rw [h0]; rfl
  | succ k ih =>
    funext x
    rw [h1]
    show F (iter k F) (st x).1 (st x).2 = _
    rw [h, ih]
end Go.Vi

/-
  Vi, part 2: what abstract values stand for in a world, and what keeps that.
-/
namespace Go.Vi
open Go
/-- data: the cells 'cs' are the datum x. S: the blocks that are written no more -/
def RepD (S : Nat → Prop) (w : World) : (t : Ty) → t.D → List Value → Prop
  | .int k, n, cs => cs = [.int k n]
  | .bool, b, cs => cs = [.bool b]
  | .str, s, cs => cs = [.string ⟨s.toArray⟩]
  | .unit, _, cs => cs = []
  | .pair a b, x, cs => ∃ c1 c2, cs = c1 ++ c2 ∧ RepD S w a x.1 c1 ∧ RepD S w b x.2 c2
  | .sl e, xs, cs => ∃ a cap, cs = [.slice a xs.length cap] ∧ xs.length ≤ cap ∧
      (xs = [] ∨ ∃ g o, a = some ⟨g, o, none⟩ ∧ S g ∧ ∀ (i : Nat) x, xs[i]? = some x → ∃ ec, RepD S w e x ec ∧ ∀ (j : Nat) v, ec[j]? = some v → w.cell? ⟨g, o + i * e.sz + j, none⟩ = some v)
def valOf (t : Ty) (cs : List Value) : Value := if t.isAgg then .agg cs.toArray else cs.headD undef
/-- where a block of the run's own lies -/
structure Pl where
  g : Nat
  o : Nat
  cap : Nat
  sz : Nat
  len : Nat
def RowS (S : Nat → Prop) (w : World) (e : Ty) (xs : List e.D) (g o : Nat) : Prop :=
  S g ∧ ∀ (i : Nat) x, xs[i]? = some x → ∃ ec, RepD S w e x ec ∧ ∀ (j : Nat) v, ec[j]? = some v → w.cell? ⟨g, o + i * e.sz + j, none⟩ = some v
inductive VRep (F : Nat → Option Pl) (S : Nat → Prop) (w : World) : V → Value → Prop
  | d {t : Ty} {x : t.D} {cs : List Value} (h : RepD S w t x cs) : VRep F S w (.d t x) (valOf t cs)
  | agg {vs : List V} {us : Array Value} (hl : vs.length = us.size) (h : ∀ (i : Nat) (v : V) (u : Value), vs[i]? = some v → us[i]? = some u → VRep F S w v u) (h1 : ∀ u, u ∈ us → u.oneCell' = true) : VRep F S w (.agg vs) (.agg us)
  | nil {a : Option Addr} : VRep F S w .nil (.slice a 0 0)
  | ref {b off : Nat} {p : Pl} (h : F b = some p) : VRep F S w (.ref b off) (.pointer (some ⟨p.g, p.o + off, none⟩))
  | own {b : Nat} {n : Option Int} {l : Nat} {p : Pl} {a : Option Addr} (h : F b = some p) (h0 : match n with | none => l = p.len | some n => 0 ≤ n ∧ n ≤ p.len ∧ l = n.toNat) (ha : 0 < p.cap → a = some ⟨p.g, p.o, none⟩) : VRep F S w (.own b n) (.slice a l p.cap)
  | ea {e : Ty} {xs : List e.D} {i : Int} {off g o : Nat} (h : RowS S w e xs g o) (h0 : 0 ≤ i) (h1 : i < xs.length) : VRep F S w (.ea e xs i off) (.pointer (some ⟨g, o + i.toNat * e.sz + off, none⟩))
  | eo {b : Nat} {i : Int} {off : Nat} {p : Pl} (h : F b = some p) (h0 : 0 ≤ i) (h1 : i < p.len) : VRep F S w (.eo b i off) (.pointer (some ⟨p.g, p.o + i.toNat * p.sz + off, none⟩))
  | fn {f : Fn} {a c : List V} {a' c' : Array Value} (ha : a.length = a'.size) (hc : c.length = c'.size) (h1 : ∀ (i : Nat) (v : V) (u : Value), a[i]? = some v → a'[i]? = some u → VRep F S w v u) (h2 : ∀ (i : Nat) (v : V) (u : Value), c[i]? = some v → c'[i]? = some u → VRep F S w v u) : VRep F S w (.fn f a c) (.func f a' c')
  | tup {vs : List V} {us : Array Value} (hl : vs.length = us.size) (h : ∀ (i : Nat) (v : V) (u : Value), vs[i]? = some v → us[i]? = some u → VRep F S w v u) : VRep F S w (.tup vs) (.tuple us)
  | junk {u : Value} : VRep F S w .junk u
/-- a list of abstract values, one for one -/
structure VReps (F : Nat → Option Pl) (S : Nat → Prop) (w : World) (vs : List V) (us : List Value) : Prop where
  len : vs.length = us.length
  at_ : ∀ (i : Nat) (v : V) (u : Value), vs[i]? = some v → us[i]? = some u → VRep F S w v u
theorem VReps.nil {F : Nat → Option Pl} {S : Nat → Prop} {w : World} : VReps F S w [] [] := ⟨rfl, fun i v u h => by simp at h⟩
theorem VReps.cons {F : Nat → Option Pl} {S : Nat → Prop} {w : World} {v : V} {u : Value} {vs : List V} {us : List Value} (h : VRep F S w v u) (hs : VReps F S w vs us) : VReps F S w (v :: vs) (u :: us) := by
  refine ⟨by simp [hs.len], fun i x y hx hy => ?_⟩
  cases i with
  | zero => simp at hx hy; subst hx hy; exact h
  | succ i => exact hs.at_ i x y (by simpa using hx) (by simpa using hy)
theorem VReps.head {F : Nat → Option Pl} {S : Nat → Prop} {w : World} {v : V} {vs : List V} {us : List Value} (h : VReps F S w (v :: vs) us) : ∃ u us', us = u :: us' ∧ VRep F S w v u ∧ VReps F S w vs us' := by
  cases us with
  | nil => have := h.len; simp at this
  | cons u us' =>
    exact ⟨u, us', rfl, h.at_ 0 v u rfl rfl, by have := h.len; simpa using this, fun i x y hx hy => h.at_ (i + 1) x y (by simpa using hx) (by simpa using hy)⟩
theorem VReps.nil_inv {F : Nat → Option Pl} {S : Nat → Prop} {w : World} {us : List Value} (h : VReps F S w [] us) : us = [] := by
  have := h.len
  cases us with
  | nil => rfl
  | cons u us => simp at this
theorem VReps.append {F : Nat → Option Pl} {S : Nat → Prop} {w : World} {vs vs' : List V} {us us' : List Value} (h : VReps F S w vs us) (h' : VReps F S w vs' us') : VReps F S w (vs ++ vs') (us ++ us') := by
  induction vs generalizing us with
  | nil => rw [h.nil_inv]; exact h'
  | cons v vs ih =>
    obtain ⟨u, us1, rfl, h0, h1⟩ := h.head
    exact .cons h0 (ih h1)
theorem VReps.take {F : Nat → Option Pl} {S : Nat → Prop} {w : World} {vs : List V} {us : List Value} (h : VReps F S w vs us) (n : Nat) : VReps F S w (vs.take n) (us.take n) := by
  refine ⟨by simp [h.len], fun i x y hx hy => ?_⟩
  rw [List.getElem?_take] at hx hy
  split at hx
  · rename_i hi
    rw [if_pos hi] at hy
    exact h.at_ i x y hx hy
  · cases hx
theorem VReps.drop {F : Nat → Option Pl} {S : Nat → Prop} {w : World} {vs : List V} {us : List Value} (h : VReps F S w vs us) (n : Nat) : VReps F S w (vs.drop n) (us.drop n) := by
  refine ⟨by simp [h.len], fun i x y hx hy => ?_⟩
  rw [List.getElem?_drop] at hx hy
  exact h.at_ _ x y hx hy
theorem VReps.get {F : Nat → Option Pl} {S : Nat → Prop} {w : World} {vs : List V} {us : List Value} (h : VReps F S w vs us) {i : Nat} {v : V} (hv : vs[i]? = some v) : ∃ u, us[i]? = some u ∧ VRep F S w v u := by
  have hi : i < us.length := by rw [← h.len]; exact (List.getElem?_eq_some_iff.1 hv).1
  exact ⟨us[i], List.getElem?_eq_getElem hi, h.at_ i v _ hv (List.getElem?_eq_getElem hi)⟩
/-! ## data -/
section
variable {S S' : Nat → Prop} {w w' : World}
theorem RepD.len : ∀ {t : Ty} {x : t.D} {cs : List Value}, RepD S w t x cs → cs.length = t.sz
  | .int _, _, _, h => by simp only [RepD] at h; subst h; rfl
  | .bool, _, _, h => by simp only [RepD] at h; subst h; rfl
  | .str, _, _, h => by simp only [RepD] at h; subst h; rfl
  | .unit, _, _, h => by simp only [RepD] at h; subst h; rfl
  | .sl _, _, _, h => by simp only [RepD] at h; obtain ⟨a, cap, rfl, _⟩ := h; rfl
  | .pair a b, x, cs, h => by
    simp only [RepD] at h
    obtain ⟨c1, c2, rfl, h1, h2⟩ := h
    simp [Ty.sz, RepD.len h1, RepD.len h2]
theorem RepD.one : ∀ {t : Ty} {x : t.D} {cs : List Value}, RepD S w t x cs → ∀ u ∈ cs, u.oneCell' = true
  | .int _, _, _, h => by simp only [RepD] at h; subst h; simp [Value.oneCell']
  | .bool, _, _, h => by simp only [RepD] at h; subst h; simp [Value.oneCell']
  | .str, _, _, h => by simp only [RepD] at h; subst h; simp [Value.oneCell']
  | .unit, _, _, h => by simp only [RepD] at h; subst h; simp
  | .sl _, _, _, h => by simp only [RepD] at h; obtain ⟨a, cap, rfl, _⟩ := h; simp [Value.oneCell']
  | .pair a b, x, cs, h => by
    simp only [RepD] at h
    obtain ⟨c1, c2, rfl, h1, h2⟩ := h
    intro u hu
    rcases List.mem_append.1 hu with hu | hu
    · exact RepD.one h1 u hu
    · exact RepD.one h2 u hu
theorem RepD.keep (hS : ∀ g, S g → S' g) (hw : ∀ g, S g → w'.heap[g]? = w.heap[g]?) : ∀ {t : Ty} {x : t.D} {cs : List Value}, RepD S w t x cs → RepD S' w' t x cs
  | .int _, _, _, h => by simpa only [RepD] using h
  | .bool, _, _, h => by simpa only [RepD] using h
  | .str, _, _, h => by simpa only [RepD] using h
  | .unit, _, _, h => by simpa only [RepD] using h
  | .sl e, _, _, h => by
    simp only [RepD] at h ⊢
    obtain ⟨a, cap, rfl, hl, h⟩ := h
    refine ⟨a, cap, rfl, hl, h.imp id ?_⟩
    rintro ⟨g, o, rfl, hs, h⟩
    refine ⟨g, o, rfl, hS g hs, fun i x hx => ?_⟩
    obtain ⟨ec, h1, h2⟩ := h i x hx
    exact ⟨ec, RepD.keep hS hw h1, fun j v hv => (World.cell?_of_block (hw g hs)).trans (h2 j v hv)⟩
  | .pair a b, x, cs, h => by
    simp only [RepD] at h ⊢
    obtain ⟨c1, c2, rfl, h1, h2⟩ := h
    exact ⟨c1, c2, rfl, RepD.keep hS hw h1, RepD.keep hS hw h2⟩
theorem RowS.keep (hS : ∀ g, S g → S' g) (hw : ∀ g, S g → w'.heap[g]? = w.heap[g]?) {e : Ty} {xs : List e.D} {g o : Nat} (h : RowS S w e xs g o) : RowS S' w' e xs g o := by
  refine ⟨hS g h.1, fun i x hx => ?_⟩
  obtain ⟨ec, h1, h2⟩ := h.2 i x hx
  exact ⟨ec, h1.keep hS hw, fun j v hv => (World.cell?_of_block (hw g h.1)).trans (h2 j v hv)⟩
end
/-- what a step keeps: the places, and what is written no more -/
structure Keep (F : Nat → Option Pl) (S : Nat → Prop) (w : World) (F' : Nat → Option Pl) (S' : Nat → Prop) (w' : World) : Prop where
  f : ∀ (b : Nat) p, F b = some p → F' b = some p
  s : ∀ g, S g → S' g
  h : ∀ g, S g → w'.heap[g]? = w.heap[g]?
theorem Keep.refl (F : Nat → Option Pl) (S : Nat → Prop) (w : World) : Keep F S w F S w := ⟨fun _ _ h => h, fun _ h => h, fun _ _ => rfl⟩
theorem Keep.trans {F F' F'' : Nat → Option Pl} {S S' S'' : Nat → Prop} {w w' w'' : World} (a : Keep F S w F' S' w') (b : Keep F' S' w' F'' S'' w'') : Keep F S w F'' S'' w'' :=
  ⟨fun x p h => b.f x p (a.f x p h), fun g h => b.s g (a.s g h), fun g h => (b.h g (a.s g h)).trans (a.h g h)⟩
theorem VRep.keep {F F' : Nat → Option Pl} {S S' : Nat → Prop} {w w' : World} (k : Keep F S w F' S' w') {v : V} {u : Value} (h : VRep F S w v u) : VRep F' S' w' v u := by
  induction h with
  | d h => exact .d (h.keep k.s k.h)
  | agg hl _ h1 ih => exact .agg hl ih h1
  | nil => exact .nil
  | ref h => exact .ref (k.f _ _ h)
  | own h h0 ha => exact .own (k.f _ _ h) h0 ha
  | ea h h0 h1 => exact .ea (h.keep k.s k.h) h0 h1
  | eo h h0 h1 => exact .eo (k.f _ _ h) h0 h1
  | fn ha hc _ _ i1 i2 => exact .fn ha hc i1 i2
  | tup hl _ ih => exact .tup hl ih
  | junk => exact .junk
theorem VReps.keep {F F' : Nat → Option Pl} {S S' : Nat → Prop} {w w' : World} (k : Keep F S w F' S' w') {vs : List V} {us : List Value} (h : VReps F S w vs us) : VReps F' S' w' vs us :=
  ⟨h.len, fun i v u hv hu => (h.at_ i v u hv hu).keep k⟩
/-! ## the run's own blocks -/
def CellsR (F : Nat → Option Pl) (S : Nat → Prop) (w : World) (cs : List V) (p : Pl) : Prop :=
  p.o = 0 ∧ ∃ arr T, w.heap[p.g]? = some (.cells arr T (0, 0)) ∧ VReps F S w cs arr.toList ∧ ∀ u ∈ arr, u.oneCell' = true
def RowR (S : Nat → Prop) (w : World) (e : Ty) (xs : List e.D) (a : Option TypeId) (p : Pl) : Prop :=
  p.sz = e.sz ∧ (p.len = xs.length ∧ xs.length ≤ p.cap) ∧ (a ≠ none → p.cap ≤ maxLen) ∧ (0 < p.cap → ∃ arr T fr, w.heap[p.g]? = some (.cells arr T fr) ∧ (fr = (0, 0) ∨ arr.size ≤ fr.1) ∧ p.o + p.cap * e.sz ≤ arr.size ∧
    (∀ (i : Nat) x, xs[i]? = some x → ∃ ec, RepD S w e x ec ∧ ∀ (j : Nat) v, ec[j]? = some v → arr[p.o + i * e.sz + j]? = some v) ∧
    ∀ te, a = some te → p.o = 0 ∧ T = te ∧ fr = (0, 0) ∧ arr.size = p.cap * e.sz)
def FrzR (S : Nat → Prop) (w : World) (e : Ty) (xs : List e.D) (p : Pl) : Prop :=
  p.sz = e.sz ∧ (p.len = xs.length ∧ xs.length ≤ p.cap) ∧ (0 < p.cap → RowS S w e xs p.g p.o)
def BRep (F : Nat → Option Pl) (S : Nat → Prop) (w : World) (p : Pl) : Blk → Prop
  | .cells cs => CellsR F S w cs p
  | .row e xs a => RowR S w e xs a p
  | .frz e xs => FrzR S w e xs p
  | .dead => True
/-- a block that may be written -/
def Blk.hot (p : Pl) : Blk → Prop
  | .cells _ => True
  | .row _ _ _ => 0 < p.cap
  | _ => False
structure WExt (w0 w : World) (O : Nat → Prop) : Prop where
  os : w.os = w0.os
  tape : w.tape = w0.tape
  output : w.output = w0.output
  size : w0.heap.size ≤ w.heap.size
  block : ∀ g, g < w0.heap.size → ¬ O g → w.heap[g]? = w0.heap[g]?
structure Inv (w0 : World) (O : Nat → Prop) (F : Nat → Option Pl) (S : Nat → Prop) (w : World) (m : Mem) : Prop where
  ext : WExt w0 w O
  dom : ∀ b, m.length ≤ b → F b = none
  blk : ∀ (b : Nat) x p, m[b]? = some x → F b = some p → BRep F S w p x
  sep : ∀ (b b' : Nat) x x' p p', m[b]? = some x → m[b']? = some x' → F b = some p → F b' = some p' → x.hot p → x'.hot p' → b ≠ b' → p.g ≠ p'.g
  out : ∀ (b : Nat) x p, m[b]? = some x → F b = some p → x.hot p → ¬ S p.g ∧ p.g < w.heap.size ∧ (O p.g ∨ w0.heap.size ≤ p.g)
  sb : ∀ g, S g → g < w.heap.size
  so : ∀ g, S g → g < w0.heap.size → O g
  is : ∀ (b : Nat) x, m[b]? = some x → x ≠ .dead → F b ≠ none
end Go.Vi

/-
  Vi, part 3: values and their cells.
-/
namespace Go.Vi
open Go
section
variable {F : Nat → Option Pl} {S : Nat → Prop} {w : World}
theorem VRep.d_inv {t : Ty} {x : t.D} {u : Value} (h : VRep F S w (.d t x) u) : ∃ cs, RepD S w t x cs ∧ u = valOf t cs := by
  cases h with
  | d h => exact ⟨_, h, rfl⟩
theorem VRep.int_inv {k : IntKind} {n : Int} {u : Value} (h : VRep F S w (.d (.int k) n) u) : u = .int k n := by
  obtain ⟨cs, h', rfl⟩ := h.d_inv
  simp only [RepD] at h'
  subst h'
  rfl
theorem VRep.bool_inv {n : Bool} {u : Value} (h : VRep F S w (.d .bool n) u) : u = .bool n := by
  obtain ⟨cs, h', rfl⟩ := h.d_inv
  simp only [RepD] at h'
  subst h'
  rfl
theorem VRep.str_inv {n : Str} {u : Value} (h : VRep F S w (.d .str n) u) : u = .string ⟨n.toArray⟩ := by
  obtain ⟨cs, h', rfl⟩ := h.d_inv
  simp only [RepD] at h'
  subst h'
  rfl
theorem VRep.sl_inv {e : Ty} {xs : List e.D} {u : Value} (h : VRep F S w (.d (.sl e) xs) u) : ∃ a cap, u = .slice a xs.length cap ∧ xs.length ≤ cap ∧ (xs = [] ∨ ∃ g o, a = some ⟨g, o, none⟩ ∧ RowS S w e xs g o) := by
  obtain ⟨cs, h', rfl⟩ := h.d_inv
  simp only [RepD] at h'
  obtain ⟨a, cap, rfl, hl, h2⟩ := h'
  exact ⟨a, cap, rfl, hl, h2⟩
theorem VRep.own_inv {b : Nat} {n : Option Int} {u : Value} (h : VRep F S w (.own b n) u) : ∃ p a l, F b = some p ∧ (match n with | none => l = p.len | some n => 0 ≤ n ∧ n ≤ p.len ∧ l = n.toNat) ∧ (0 < p.cap → a = some ⟨p.g, p.o, none⟩) ∧ u = .slice a l p.cap := by
  cases h with
  | own hf h0 ha => exact ⟨_, _, _, hf, h0, ha, rfl⟩
theorem VRep.ref_inv {b o : Nat} {u : Value} (h : VRep F S w (.ref b o) u) : ∃ p, F b = some p ∧ u = .pointer (some ⟨p.g, p.o + o, none⟩) := by
  cases h with
  | ref hf => exact ⟨_, hf, rfl⟩
theorem VRep.eo_inv {b : Nat} {i : Int} {o : Nat} {u : Value} (h : VRep F S w (.eo b i o) u) : ∃ p, F b = some p ∧ 0 ≤ i ∧ i < p.len ∧ u = .pointer (some ⟨p.g, p.o + i.toNat * p.sz + o, none⟩) := by
  cases h with
  | eo hf h0 h1 => exact ⟨_, hf, h0, h1, rfl⟩
theorem VRep.ea_inv {e : Ty} {xs : List e.D} {i : Int} {o : Nat} {u : Value} (h : VRep F S w (.ea e xs i o) u) : ∃ g p, RowS S w e xs g p ∧ 0 ≤ i ∧ i < xs.length ∧ u = .pointer (some ⟨g, p + i.toNat * e.sz + o, none⟩) := by
  cases h with
  | ea hr h0 h1 => exact ⟨_, _, hr, h0, h1, rfl⟩
theorem VRep.agg_inv {cs : List V} {u : Value} (h : VRep F S w (.agg cs) u) : ∃ us, u = .agg us ∧ VReps F S w cs us.toList ∧ ∀ c ∈ us, c.oneCell' = true := by
  cases h with
  | agg hl h h1 => exact ⟨_, rfl, ⟨by simpa using hl, fun i x y hx hy => h i x y hx (by simpa using hy)⟩, h1⟩
theorem VRep.of_agg {cs : List V} {us : List Value} (h : VReps F S w cs us) (h1 : ∀ c ∈ us, c.oneCell' = true) : VRep F S w (.agg cs) (.agg us.toArray) :=
  .agg (by simpa using h.len) (fun i x y hx hy => h.at_ i x y hx (by simpa using hy)) (fun c hc => h1 c (by simpa using hc))
theorem VRep.nil_inv {u : Value} (h : VRep F S w .nil u) : ∃ a, u = .slice a 0 0 := by
  cases h with
  | nil => exact ⟨_, rfl⟩
theorem VRep.tup_inv {cs : List V} {u : Value} (h : VRep F S w (.tup cs) u) : ∃ us, u = .tuple us ∧ VReps F S w cs us.toList := by
  cases h with
  | tup hl h => exact ⟨_, rfl, ⟨by simpa using hl, fun i x y hx hy => h i x y hx (by simpa using hy)⟩⟩
theorem VRep.fn_inv {f : Fn} {a c : List V} {u : Value} (h : VRep F S w (.fn f a c) u) : ∃ a' c', u = .func f a' c' ∧ VReps F S w a a'.toList ∧ VReps F S w c c'.toList := by
  cases h with
  | fn ha hc h1 h2 => exact ⟨_, _, rfl, ⟨by simpa using ha, fun i x y hx hy => h1 i x y hx (by simpa using hy)⟩, ⟨by simpa using hc, fun i x y hx hy => h2 i x y hx (by simpa using hy)⟩⟩
theorem VRep.int {k : IntKind} {n : Int} : VRep F S w (.d (.int k) n) (.int k n) := .d (t := .int k) (cs := [.int k n]) rfl
theorem VRep.bool {b : Bool} : VRep F S w (.d .bool b) (.bool b) := .d (t := .bool) (cs := [.bool b]) rfl
theorem VRep.str {s : Str} : VRep F S w (.d .str s) (.string ⟨s.toArray⟩) := .d (t := .str) (cs := [.string ⟨s.toArray⟩]) rfl
theorem VRep.sl {e : Ty} {xs : List e.D} {a : Option Addr} {cap : Nat} (hc : xs.length ≤ cap) (h : xs = [] ∨ ∃ g o, a = some ⟨g, o, none⟩ ∧ RowS S w e xs g o) : VRep F S w (.d (.sl e) xs) (.slice a xs.length cap) :=
  .d (t := .sl e) (cs := [.slice a xs.length cap]) (by simp only [RepD]; exact ⟨a, cap, rfl, hc, h⟩)
theorem cellsOf_rep : ∀ {t : Ty} {x : t.D} {cs : List Value}, RepD S w t x cs → VReps F S w (cellsOf t x) cs
  | .int _, _, _, h => by simp only [RepD] at h; subst h; exact .cons .int .nil
  | .bool, _, _, h => by simp only [RepD] at h; subst h; exact .cons .bool .nil
  | .str, _, _, h => by simp only [RepD] at h; subst h; exact .cons .str .nil
  | .unit, _, _, h => by simp only [RepD] at h; subst h; exact .nil
  | .sl e, xs, _, h => by
    simp only [RepD] at h
    obtain ⟨a, cap, rfl, hl, h⟩ := h
    exact .cons (.sl hl h) .nil
  | .pair a b, x, cs, h => by
    simp only [RepD] at h
    obtain ⟨c1, c2, rfl, h1, h2⟩ := h
    exact (cellsOf_rep h1).append (cellsOf_rep h2)
theorem cellsOf_len : ∀ (t : Ty) (x : t.D), (cellsOf t x).length = t.sz
  | .int _, _ => rfl
  | .bool, _ => rfl
  | .str, _ => rfl
  | .unit, _ => rfl
  | .sl _, _ => rfl
  | .pair a b, x => by simp [cellsOf, Ty.sz, cellsOf_len a, cellsOf_len b]
theorem readCells_rep : ∀ {t : Ty} {vs : List V} {us : List Value} {x : t.D} {rest : List V}, VReps F S w vs us → readCells t vs = some (x, rest) → ∃ c us', us = c ++ us' ∧ RepD S w t x c ∧ VReps F S w rest us'
  | .unit, vs, us, x, rest, h, hr => by
    simp only [readCells, Option.some.injEq, Prod.mk.injEq] at hr
    obtain ⟨_, rfl⟩ := hr
    exact ⟨[], us, rfl, rfl, h⟩
  | .pair a b, vs, us, x, rest, h, hr => by
    simp only [readCells] at hr
    split at hr
    · cases hr
    · rename_i x1 h1
      split at hr
      · cases hr
      · rename_i y h2
        simp only [Option.some.injEq, Prod.mk.injEq] at hr
        obtain ⟨rfl, rfl⟩ := hr
        obtain ⟨c1, us1, rfl, r1, k1⟩ := readCells_rep h h1
        obtain ⟨c2, us2, rfl, r2, k2⟩ := readCells_rep k1 h2
        exact ⟨c1 ++ c2, us2, by simp, by simp only [RepD]; exact ⟨c1, c2, rfl, r1, r2⟩, k2⟩
  | .int k, [], us, x, rest, h, hr => by simp [readCells] at hr
  | .int k, .d (.int k') n :: cs, us, x, rest, h, hr => by
    simp only [readCells] at hr
    split at hr
    · rename_i hk
      subst hk
      simp only [Option.some.injEq, Prod.mk.injEq] at hr
      obtain ⟨rfl, rfl⟩ := hr
      obtain ⟨u, us', rfl, h0, h1⟩ := h.head
      rw [h0.int_inv]
      exact ⟨[_], us', rfl, rfl, h1⟩
    · cases hr
  | .bool, [], us, x, rest, h, hr => by simp [readCells] at hr
  | .bool, .d .bool n :: cs, us, x, rest, h, hr => by
    simp only [readCells, Option.some.injEq, Prod.mk.injEq] at hr
    obtain ⟨rfl, rfl⟩ := hr
    obtain ⟨u, us', rfl, h0, h1⟩ := h.head
    rw [h0.bool_inv]
    exact ⟨[_], us', rfl, rfl, h1⟩
  | .str, [], us, x, rest, h, hr => by simp [readCells] at hr
  | .str, .d .str n :: cs, us, x, rest, h, hr => by
    simp only [readCells, Option.some.injEq, Prod.mk.injEq] at hr
    obtain ⟨rfl, rfl⟩ := hr
    obtain ⟨u, us', rfl, h0, h1⟩ := h.head
    rw [h0.str_inv]
    exact ⟨[_], us', rfl, rfl, h1⟩
  | .sl e, [], us, x, rest, h, hr => by simp [readCells] at hr
  | .sl e, .d (.sl e') n :: cs, us, x, rest, h, hr => by
    simp only [readCells] at hr
    split at hr
    · rename_i hk
      subst hk
      simp only [Option.some.injEq, Prod.mk.injEq] at hr
      obtain ⟨rfl, rfl⟩ := hr
      obtain ⟨u, us', rfl, h0, h1⟩ := h.head
      obtain ⟨a, cap, rfl, hl, h2⟩ := h0.sl_inv
      exact ⟨[_], us', rfl, by simp only [RepD]; exact ⟨a, cap, rfl, hl, h2⟩, h1⟩
    · cases hr
  | .sl e, .nil :: cs, us, x, rest, h, hr => by
    simp only [readCells, Option.some.injEq, Prod.mk.injEq] at hr
    obtain ⟨rfl, rfl⟩ := hr
    obtain ⟨u, us', rfl, h0, h1⟩ := h.head
    cases h0
    exact ⟨[_], us', rfl, by simp only [RepD]; exact ⟨_, 0, rfl, Nat.le_refl _, .inl trivial⟩, h1⟩
theorem valOf_cells {t : Ty} {cs : List Value} (hl : cs.length = t.sz) (h1 : ∀ u ∈ cs, u.oneCell' = true) : (valOf t cs).cells.toList = cs := by
  unfold valOf
  cases ht : t.isAgg with
  | true => simp [Value.cells]
  | false =>
    have h : t.sz = 1 := by cases t <;> simp_all [Ty.isAgg, Ty.sz]
    rw [h] at hl
    match cs, hl with
    | [c], _ =>
      have := h1 c (by simp)
      cases c <;> simp_all [Value.oneCell', Value.cells]
theorem VRep.cells_rep {v : V} {u : Value} (h : VRep F S w v u) (hp : v.plain = true) : VReps F S w v.cells u.cells.toList ∧ ∀ c ∈ u.cells, c.oneCell' = true := by
  cases h with
  | d h =>
    refine ⟨?_, fun c hc => ?_⟩
    · rw [valOf_cells h.len h.one]
      exact cellsOf_rep h
    · rw [← Array.mem_toList_iff, valOf_cells h.len h.one] at hc
      exact h.one c hc
  | agg hl h h1 => exact ⟨⟨by simpa [V.cells, Value.cells] using hl, fun i x y hx hy => h i x y (by simpa [V.cells] using hx) (by simpa [Value.cells] using hy)⟩, fun c hc => h1 c hc⟩
  | nil => exact ⟨.cons .nil .nil, by simp [Value.cells, Value.oneCell']⟩
  | ref h => exact ⟨.cons (.ref h) .nil, by simp [Value.cells, Value.oneCell']⟩
  | own h h0 ha => exact ⟨.cons (.own h h0 ha) .nil, by simp [Value.cells, Value.oneCell']⟩
  | ea h h0 h1 => exact ⟨.cons (.ea h h0 h1) .nil, by simp [Value.cells, Value.oneCell']⟩
  | eo h h0 h1 => exact ⟨.cons (.eo h h0 h1) .nil, by simp [Value.cells, Value.oneCell']⟩
  | fn ha hc h1 h2 => exact ⟨.cons (.fn ha hc h1 h2) .nil, by simp [Value.cells, Value.oneCell']⟩
  | tup => simp [V.plain] at hp
  | junk => simp [V.plain] at hp
theorem rd_rep {t : Ty} {v : V} {u : Value} {x : t.D} (h : VRep F S w v u) (hr : rd t v = some x) : RepD S w t x u.cells.toList := by
  unfold rd at hr
  split at hr
  · rename_i y hp hc
    cases hr
    obtain ⟨c, us', he, h1, h2⟩ := readCells_rep (h.cells_rep hp).1 hc
    rw [h2.nil_inv, List.append_nil] at he
    rw [he]
    exact h1
  · cases hr
theorem ite_some {R : Type} {c : Prop} [Decidable c] {x : Option R} {r : R} (h : (if c then x else none) = some r) : c ∧ x = some r := by
  by_cases hc : c
  · exact ⟨hc, by simpa [hc] using h⟩
  · simp [hc] at h
theorem rdV_rep {t : Ty} {v : V} {u : Value} {x : t.D} (h : VRep F S w v u) (hx : rdV t v = some x) : VRep F S w (.d t x) u := by
  obtain ⟨ha, hx⟩ := ite_some hx
  have hr := rd_rep h hx
  have hu : u = valOf t u.cells.toList := by
    cases h with
    | d h =>
      rename_i t' x' cs _
      have ha' : t.isAgg = t'.isAgg := ha.symm
      unfold valOf
      rw [ha']
      by_cases ht : t'.isAgg = true
      · rw [if_pos ht, if_pos ht]
        simp [Value.cells]
      · rw [if_neg ht, if_neg ht]
        have h1 := h.len
        have h2 := h.one
        have h3 : t'.sz = 1 := by cases t' <;> simp [Ty.isAgg] at ht <;> rfl
        match cs, h1 with
        | [c], _ =>
          have := h2 c (by simp)
          cases c <;> first | rfl | cases this
        | [], h1 => rw [h3] at h1; cases h1
        | _ :: _ :: _, h1 => rw [h3] at h1; cases h1
    | agg =>
      have ha' : t.isAgg = true := ha.symm
      unfold valOf
      rw [ha', if_pos rfl]
      simp [Value.cells]
    | tup => simp [rd, V.plain] at hx
    | junk => simp [rd, V.plain] at hx
    | _ =>
      have ha' : t.isAgg = false := ha.symm
      unfold valOf
      rw [ha']
      rfl
  rw [hu]
  exact .d hr
end
end Go.Vi

/-
  Vi, part 4: operands, types, and the first operations.
-/
namespace Go.Vi
open Go
section
variable {F : Nat → Option Pl} {S : Nat → Prop} {w : World} {P : Program}
abbrev SR (F : Nat → Option Pl) (S : Nat → Prop) (w : World) (s : List V) (a : Act) : Prop := VReps F S w s a.tmps.toList
theorem ofConst1_rep (v : Value) : VRep F S w (ofConst1 v) v := by
  unfold ofConst1
  split
  · exact .int
  · exact .bool
  · rename_i s
    have h := VRep.str (F := F) (S := S) (w := w) (s := s.data.toList)
    simpa using h
  · exact .nil
  · exact .junk
theorem ofConst1_one (v : Value) (h : (ofConst1 v).plain = true) : v.oneCell' = true := by
  unfold ofConst1 at h
  split at h <;> simp_all [Value.oneCell', V.plain]
theorem ofConst_rep (v : Value) : VRep F S w (ofConst v) v := by
  unfold ofConst
  split
  · rename_i cs
    split
    · rename_i ha
      refine .agg (by simp) (fun i x u hx hu => ?_) (fun u hu => ?_)
      · rw [List.getElem?_map] at hx
        have : cs.toList[i]? = some u := by simpa using hu
        rw [this] at hx
        simp at hx
        subst hx
        exact ofConst1_rep u
      · refine ofConst1_one u ?_
        rw [List.all_eq_true] at ha
        exact ha _ (List.mem_map.2 ⟨u, by simpa using hu, rfl⟩)
    · exact .junk
  · exact ofConst1_rep v
theorem SR.slot {s : List V} {a : Act} (h : SR F S w s a) (t : Nat) : VRep F S w (s.getD t .junk) (a.tmps.getD t undef) := by
  rw [List.getD_eq_getElem?_getD]
  cases hs : s[t]? with
  | none => exact .junk
  | some v =>
    obtain ⟨u, hu, hr⟩ := h.get hs
    have : a.tmps.getD t undef = u := by simp at hu; simp [hu]
    rw [this]
    exact hr
theorem ev_rep {s : List V} {a : Act} (h : SR F S w s a) (x : Operand) : VRep F S w (ev s x) (a.eval x) := by
  cases x with
  | tmp t => exact h.slot t
  | const v => exact ofConst_rep v
  | global g => exact .junk
  | func f => exact .fn (by simp) (by simp) (fun i v u hv => by simp at hv) (fun i v u hv => by simp at hv)
theorem SR.put {s : List V} {a : Act} (h : SR F S w s a) {v : V} {u : Value} (hv : VRep F S w v u) (d : Option Tmp) : SR F S w (put s d v) (a.put d u) := by
  cases d with
  | none => exact h
  | some i =>
    refine ⟨by simp [Vi.put, Act.put, h.len], fun j x y hx hy => ?_⟩
    simp only [Vi.put, Act.put, List.getElem?_set, Array.getElem?_toList, Array.getElem?_setIfInBounds] at hx hy
    by_cases hij : i = j
    · subst hij
      simp at hx hy
      obtain ⟨_, rfl⟩ := hx
      obtain ⟨_, rfl⟩ := hy
      exact hv
    · simp [hij] at hx hy
      exact h.at_ j x y hx (by simpa using hy)
theorem wp_value {o : Oper} {a : Act} {next : Act → World → Prop} {Q : Exit → Act → World → Prop} {u : Value} {w' : World} (h : (execOp a.eval o).run P w = .ok (.value u) w') (hn : next (a.put o.dst u) w') : o.wp P a w next Q := by
  unfold Oper.wp
  rw [h]
  exact hn
theorem wp_skip' {o : Oper} {a : Act} {next : Act → World → Prop} {Q : Exit → Act → World → Prop} {w' : World} (h : (execOp a.eval o).run P w = .ok .skip w') (hn : next (a.put o.dst undef) w') : o.wp P a w next Q := by
  unfold Oper.wp
  rw [h]
  exact hn
end
/-! ## what the table of types must meet -/
def zeroIs : List V → List Value → Bool
  | [], [] => true
  | .d (.int k) n :: vs, .int k' n' :: us => decide (k = k') && decide (n = n') && zeroIs vs us
  | .d .bool b :: vs, .bool b' :: us => (b == b') && zeroIs vs us
  | .d .str s :: vs, .string s' :: us => (s == s'.data.toList) && zeroIs vs us
  | .d (.sl _) xs :: vs, .slice _ 0 _ :: us => xs.isEmpty && zeroIs vs us
  | .nil :: vs, .slice _ 0 0 :: us => zeroIs vs us
  | .junk :: vs, u :: us => u.oneCell' && zeroIs vs us
  | _, _ => false
def eqFs (E : TypeId → Ty → Bool) : List Field → Nat → Ty → Bool
  | [], _, .unit => true
  | f :: fs, o, .pair a b => !(f.name == "_") && Nat.beq f.offset o && E f.type a && eqFs E fs (o + a.sz) b
  | _, _, _ => false
/-- '==' of this type is that of the data -/
def eqT (P : Program) (τ : Tau) : Nat → TypeId → Ty → Bool
  | 0, _, _ => false
  | n + 1, t, ty => (τ t).known && decide ((τ t).ty = some ty) && (match (τ t).kind, ty with
    | .int _, .int _ => true
    | .bool, .bool => true
    | .str, .str => true
    | .struct _, ty => (match P.underlying t with
      | some (.struct fields) => !P.stoodInHeld t && eqFs (eqT P τ n) fields.toList 0 ty
      | _ => false)
    | _, _ => false)
structure TIok (P : Program) (τ : Tau) (t : TypeId) : Prop where
  info : ∃ i, P.info? t = some i ∧ i.size = (τ t).sz ∧ i.bytes = (τ t).by_
  pos : 0 < (τ t).sz
  bpos : 0 < (τ t).by_
  kind : match (τ t).kind with
    | .int k => P.underlying t = some (.int k)
    | .bool => P.underlying t = some .bool
    | .str => P.underlying t = some .string
    | .sl te => P.underlying t = some (.slice te)
    | .struct fs => ∃ fields, P.underlying t = some (.struct fields) ∧ fs = fields.toList.map (fun f => (f.offset, f.type)) ∧ ∀ f ∈ fields, P.cellsOf f.type ≠ 0
    | .ptr te => P.underlying t = some (.pointer te)
    | .func => ∃ a b c, P.underlying t = some (.func a b c)
    | .other => False
  one : (τ t).agg = false → (τ t).sz = 1
  zero : ∀ cs, zeroC τ 20 t = some cs → ∃ i z, P.info? t = some i ∧ i.zero = some z ∧ zeroIs cs z.cells.toList = true ∧ z.cells.size = (τ t).sz
  u8 : (τ t).ty = some (.int .u8) → (τ t).by_ = 1 ∧ ∃ i, P.info? t = some i ∧ i.zero = some (.int .u8 0)
  ty : ∀ e, (τ t).ty = some e → e.sz = (τ t).sz ∧ e.isAgg = (τ t).agg ∧ ∃ i z, P.info? t = some i ∧ i.zero = some z ∧ zeroIs (cellsOf e e.zero) z.cells.toList = true
  eq : ∀ e, (τ t).ty = some e → e.isAgg = true → e.flat = true → P.eqGuardType P.depth t = false ∧ eqT P τ 12 t e = true
def TOK (P : Program) (τ : Tau) : Prop := ∀ t, (τ t).known = true → TIok P τ t
end Go.Vi

/-
  Vi, part 5: operations that leave memory alone.
-/
namespace Go.Vi
open Go
theorem chk_some {R : Type} {b : Bool} {x : Option R} {r : R} (h : chk b x = some r) : b = true ∧ x = some r := by
  unfold chk at h
  cases b with
  | true => exact ⟨rfl, h⟩
  | false => simp at h
section
variable {R : Type} {F : Nat → Option Pl} {S : Nat → Prop} {w : World} {P : Program}
theorem cmpI_run {op : BinOp} {a b : Int} {r : Bool} (h : cmpI op a b = some r) : (Op.intCmp op a b).run P w = .ok (.bool r) w := by
  unfold cmpI at h
  split at h <;> first | (cases h; simp [Op.intCmp]; done) | cases h
theorem binV_int {g : Option Ty} {op : BinOp} {k k' : IntKind} {a b : Int} {K : V → Option R} {r : R} (t : TypeId) (xo yo : Operand) (h : binV g op (.d (.int k) a) (.d (.int k') b) K = some r) :
    ∃ v u, (do eqGuard op t xo yo (.int k a) (.int k' b); binOp op t (.int k a) (.int k' b)).run P w = .ok u w ∧ VRep F S w v u ∧ K v = some r := by
  have hg : (eqGuard op t xo yo (.int k a) (.int k' b)).run P w = .ok () w := by
    unfold eqGuard
    cases op <;> rfl
  simp only [Sem.run_bind, hg, Result.andThen_ok]
  simp only [binV] at h
  cases op
  case shl =>
    obtain ⟨h0, h1⟩ := chk_some h
    have h0 : 0 ≤ b := of_decide_eq_true h0
    refine ⟨_, _, ?_, .int, h1⟩
    simp [binOp, Op.shift, shl, Int.not_lt.2 h0]
  case shr =>
    obtain ⟨h0, h1⟩ := chk_some h
    have h0 : 0 ≤ b := of_decide_eq_true h0
    refine ⟨_, _, ?_, .int, h1⟩
    simp [binOp, Op.shift, shr, Int.not_lt.2 h0]
  case quo =>
    obtain ⟨hk, h9⟩ := ite_some h
    subst hk
    clear h
    obtain ⟨h0, h1⟩ := chk_some h9
    have h0 : b ≠ 0 := by simpa using h0
    exact ⟨_, _, by simp [binOp, Op.intDiv, h0], .int, h1⟩
  case rem =>
    obtain ⟨hk, h9⟩ := ite_some h
    subst hk
    clear h
    obtain ⟨h0, h1⟩ := chk_some h9
    have h0 : b ≠ 0 := by simpa using h0
    exact ⟨_, _, by simp [binOp, Op.intDiv, h0], .int, h1⟩
  all_goals
    simp only at h
    obtain ⟨hk, h9⟩ := ite_some h
    subst hk
    clear h
  case add => exact ⟨_, _, by simp [binOp, Op.intArith], .int, h9⟩
  case sub => exact ⟨_, _, by simp [binOp, Op.intArith], .int, h9⟩
  case mul => exact ⟨_, _, by simp [binOp, Op.intArith], .int, h9⟩
  case and => exact ⟨_, .int k (bitI .and k a b), by simp only [binOp, ne_eq, not_true_eq_false, if_false]; rfl, .int, h9⟩
  case or => exact ⟨_, .int k (bitI .or k a b), by simp only [binOp, ne_eq, not_true_eq_false, if_false]; rfl, .int, h9⟩
  case xor => exact ⟨_, .int k (bitI .xor k a b), by simp only [binOp, ne_eq, not_true_eq_false, if_false]; rfl, .int, h9⟩
  case andNot => exact ⟨_, .int k (bitI .andNot k a b), by simp only [binOp, ne_eq, not_true_eq_false, if_false]; rfl, .int, h9⟩
  case eql => exact ⟨_, .bool (a == b), by simp [binOp, Op.intCmp], .bool, h9⟩
  case neq => exact ⟨_, .bool (a != b), by simp [binOp, Op.intCmp], .bool, h9⟩
  case lss => exact ⟨_, .bool (decide (a < b)), by simp [binOp, Op.intCmp], .bool, h9⟩
  case leq => exact ⟨_, .bool (decide (a ≤ b)), by simp [binOp, Op.intCmp], .bool, h9⟩
  case gtr => exact ⟨_, .bool (decide (a > b)), by simp [binOp, Op.intCmp], .bool, h9⟩
  case geq => exact ⟨_, .bool (decide (a ≥ b)), by simp [binOp, Op.intCmp], .bool, h9⟩
theorem binV_str {g : Option Ty} {op : BinOp} {a b : Str} {K : V → Option R} {r : R} (t : TypeId) (xo yo : Operand) (h : binV g op (.d .str a) (.d .str b) K = some r) :
    ∃ v u, (do eqGuard op t xo yo (.string ⟨a.toArray⟩) (.string ⟨b.toArray⟩); binOp op t (.string ⟨a.toArray⟩) (.string ⟨b.toArray⟩)).run P w = .ok u w ∧ VRep F S w v u ∧ K v = some r := by
  have hg : (eqGuard op t xo yo (.string ⟨a.toArray⟩) (.string ⟨b.toArray⟩)).run P w = .ok () w := by
    unfold eqGuard
    cases op <;> rfl
  simp only [Sem.run_bind, hg, Result.andThen_ok]
  simp only [binV] at h
  cases op
  case add =>
    obtain ⟨h0, h1⟩ := chk_some h
    have h0 := of_decide_eq_true h0
    refine ⟨_, _, ?_, .str, h1⟩
    have h2 : ¬ ((9223372036854775807 : Int) < (a.length : Int) + (b.length : Int)) := by omega
    have h3 : (IntKind.i64.max : Int) = 9223372036854775807 := by decide
    have h4 : ((⟨a.toArray⟩ : ByteArray) ++ ⟨b.toArray⟩) = ⟨(a ++ b).toArray⟩ := by
      apply ByteArray.ext
      simp
    simp [binOp, Op.stringOp, ByteArray.size, h2, h3, h4]
  case eql => exact ⟨_, .bool (a == b), by simp [binOp, Op.stringOp], .bool, h⟩
  case neq => exact ⟨_, .bool (!(a == b)), by simp [binOp, Op.stringOp], .bool, h⟩
  all_goals simp [strCmp] at h
theorem isAgg_run {τ : Tau} (hτ : TOK P τ) {t : TypeId} (hn : (τ t).known = true) (w : World) : (isAgg t).run P w = .ok (τ t).agg w := by
  have hk := (hτ t hn).kind
  unfold TI.agg
  unfold TI.known at hn
  split at hk <;> rename_i hK <;> simp only [hK] at hn ⊢
  case h_5 => obtain ⟨fields, hu, _⟩ := hk; simp [isAgg, run_underlying hu]
  case h_7 => obtain ⟨a, b, c, hu⟩ := hk; simp [isAgg, run_underlying hu]
  case h_8 => exact hk.elim
  all_goals simp [isAgg, run_underlying hk]
theorem sizeOf_run {τ : Tau} (hτ : TOK P τ) {t : TypeId} (hn : (τ t).known = true) (w : World) : (sizeOf t).run P w = .ok (τ t).sz w := by
  obtain ⟨i, hi, hs, _⟩ := (hτ t hn).info
  simp [sizeOf, typeInfo, hi, hs]
theorem eqK_bool {τ : Tau} {t : TypeId} (h : eqK τ t = some .bool) : (τ t).kind = .bool := by
  unfold eqK at h
  split at h
  · assumption
  · rename_i ty _ _
    cases hf : ty.flat && ty.isAgg with
    | false => rw [hf] at h; cases h
    | true =>
      rw [hf] at h
      cases h
      cases hf
  · cases h
theorem eqK_agg {τ : Tau} {t : TypeId} {e : Ty} (h : eqK τ t = some e) (he : e.isAgg = true) : (τ t).known = true ∧ (τ t).ty = some e ∧ e.flat = true := by
  unfold eqK at h
  split at h
  · cases h; cases he
  · rename_i fs ty hk hty
    cases hf : ty.flat && ty.isAgg with
    | false => rw [hf] at h; cases h
    | true =>
      rw [hf] at h
      cases h
      rw [Bool.and_eq_true] at hf
      exact ⟨by simp [TI.known, hk], hty, hf.1⟩
  · cases h
theorem part_run {τ : Tau} (hτ : TOK P τ) {t : TypeId} {e : Ty} {x : e.D} {c pr rest : List Value} (hn : (τ t).known = true) (ht : (τ t).ty = some e) (hr : RepD S w e x c) :
    (part t (pr ++ (c ++ rest)).toArray pr.length).run P w = .ok (valOf e c) w := by
  obtain ⟨h1, h2, _⟩ := (hτ t hn).ty e ht
  have hl := hr.len
  unfold part
  rw [Sem.run_bind, isAgg_run hτ hn]
  simp only [Result.andThen_ok]
  rw [← h2]
  unfold valOf
  cases ha : e.isAgg with
  | true =>
    simp only [if_true, Sem.run_bind, sizeOf_run hτ hn, Result.andThen_ok, Sem.run_pure]
    congr 2
    rw [← h1, ← hl]
    apply Array.ext'
    simp [List.extract_toArray]
  | false =>
    simp only [Bool.false_eq_true, if_false]
    have h3 : c.length = 1 := by rw [hl]; cases e <;> simp [Ty.isAgg] at ha <;> rfl
    match c, h3 with
    | [v], _ => simp
theorem eqFs_sound {τ : Tau} {d n : Nat} (hE : ∀ {t : TypeId} {ty : Ty} {x y : ty.D} {cx cy : List Value}, eqT P τ n t ty = true → RepD S w ty x cx → RepD S w ty y cy → (Op.equalIn d t (valOf ty cx) (valOf ty cy)).run P w = .ok (eqD ty x y) w) (hτ : TOK P τ) :
    ∀ (fs : List Field) (ty : Ty) (x y : ty.D) (cx cy p1 p2 : List Value), eqFs (eqT P τ n) fs p1.length ty = true → p2.length = p1.length → RepD S w ty x cx → RepD S w ty y cy → (Op.eqFields d (p1 ++ cx).toArray (p2 ++ cy).toArray fs).run P w = .ok (eqD ty x y) w
  | [], .unit, x, y, cx, cy, p1, p2, h, hp, hx, hy => by simp [Op.eqFields, eqD]
  | f :: fs, .pair a b, x, y, cx, cy, p1, p2, h, hp, hx, hy => by
    simp only [eqFs, Bool.and_eq_true, Bool.not_eq_true', beq_eq_false_iff_ne] at h
    obtain ⟨⟨⟨h1, h2⟩, h3⟩, h4⟩ := h
    have ho : f.offset = p1.length := Nat.eq_of_beq_eq_true h2
    simp only [RepD] at hx hy
    obtain ⟨c1, c2, rfl, hx1, hx2⟩ := hx
    obtain ⟨e1, e2, rfl, hy1, hy2⟩ := hy
    have hkt : (τ f.type).known = true ∧ (τ f.type).ty = some a := by
      cases n with
      | zero => cases h3
      | succ n =>
        simp only [eqT, Bool.and_eq_true, decide_eq_true_eq] at h3
        exact h3.1
    have hp1 := part_run (pr := p1) (rest := c2) hτ hkt.1 hkt.2 hx1
    have hp2 := part_run (pr := p2) (rest := e2) hτ hkt.1 hkt.2 hy1
    rw [hp] at hp2
    rw [Op.eqFields, if_pos h1]
    simp only [Sem.run_bind, ho, hp1, hp2, Result.andThen_ok, hE h3 hx1 hy1]
    have ih := eqFs_sound hE hτ fs b x.2 y.2 c2 e2 (p1 ++ c1) (p2 ++ e1) (by rw [List.length_append, hx1.len]; exact h4) (by rw [List.length_append, List.length_append, hx1.len, hy1.len, hp]) hx2 hy2
    simp only [List.append_assoc] at ih
    simp only [eqD]
    cases eqD a x.1 y.1 with
    | true => simpa using ih
    | false => simp
  | [], .int _, _, _, _, _, _, _, h, _, _, _ => by cases h
  | [], .bool, _, _, _, _, _, _, h, _, _, _ => by cases h
  | [], .str, _, _, _, _, _, _, h, _, _, _ => by cases h
  | [], .sl _, _, _, _, _, _, _, h, _, _, _ => by cases h
  | [], .pair _ _, _, _, _, _, _, _, h, _, _, _ => by cases h
  | _ :: _, .int _, _, _, _, _, _, _, h, _, _, _ => by cases h
  | _ :: _, .bool, _, _, _, _, _, _, h, _, _, _ => by cases h
  | _ :: _, .str, _, _, _, _, _, _, h, _, _, _ => by cases h
  | _ :: _, .sl _, _, _, _, _, _, _, h, _, _, _ => by cases h
  | _ :: _, .unit, _, _, _, _, _, _, h, _, _, _ => by cases h
theorem eqT_sound {τ : Tau} (hτ : TOK P τ) : ∀ (n : Nat) {t : TypeId} {ty : Ty} {x y : ty.D} {cx cy : List Value} {d : Nat}, n ≤ d → eqT P τ n t ty = true → RepD S w ty x cx → RepD S w ty y cy → (Op.equalIn d t (valOf ty cx) (valOf ty cy)).run P w = .ok (eqD ty x y) w
  | 0, t, ty, x, y, cx, cy, d, hd, h, hx, hy => by cases h
  | n + 1, t, ty, x, y, cx, cy, 0, hd, h, hx, hy => by omega
  | n + 1, t, ty, x, y, cx, cy, d + 1, hd, h, hx, hy => by
    simp only [eqT, Bool.and_eq_true, decide_eq_true_eq] at h
    obtain ⟨⟨hn, ht⟩, h⟩ := h
    have hk := (hτ t hn).kind
    obtain ⟨hsz, hag, _⟩ := (hτ t hn).ty ty ht
    revert h hx hy
    revert x y
    generalize hK : (τ t).kind = K at hk
    intro x y hx hy h
    cases K with
    | int k =>
      cases ty <;> first | (cases h; done) | skip
      simp only [RepD] at hx hy
      subst hx hy
      simp [Op.equalIn, run_underlying hk, valOf, Ty.isAgg, eqD]
    | bool =>
      cases ty <;> first | (cases h; done) | skip
      simp only [RepD] at hx hy
      subst hx hy
      simp [Op.equalIn, run_underlying hk, valOf, Ty.isAgg, eqD]
    | str =>
      cases ty <;> first | (cases h; done) | skip
      simp only [RepD] at hx hy
      subst hx hy
      simp [Op.equalIn, run_underlying hk, valOf, Ty.isAgg, eqD]
      rw [beq_toListBytes, ByteArray.toList_eq, ByteArray.toList_eq]
    | struct fs =>
      have h : (match P.underlying t with
        | some (.struct fields) => !P.stoodInHeld t && eqFs (eqT P τ n) fields.toList 0 ty
        | _ => false) = true := by cases ty <;> exact h
      split at h
      · rename_i fields hu
        rw [Bool.and_eq_true, Bool.not_eq_true'] at h
        have ha : ty.isAgg = true := by rw [hag]; simp [TI.agg, hK]
        unfold valOf
        rw [if_pos ha, if_pos ha]
        have hf : P.fieldsOf t = fields := by simp [Program.fieldsOf, hu]
        rw [run_equalIn_struct (P := P) w d t _ _ (by rw [hf]; exact hu) h.1, hf]
        exact eqFs_sound (fun h1 h2 h3 => eqT_sound hτ n (by omega) h1 h2 h3) hτ fields.toList ty x y cx cy [] [] h.2 rfl hx hy
      · cases h
    | sl te => cases ty <;> cases h
    | ptr te => cases ty <;> cases h
    | func => cases ty <;> cases h
    | other => cases ty <;> cases h
theorem known_of {τ : Tau} {t : TypeId} (h : ∀ (_ : (τ t).kind = .other), False) : (τ t).known = true := by
  unfold TI.known
  split
  · rename_i hk; exact (h hk).elim
  · rfl
theorem equalIn_bool {t : TypeId} (ht : P.underlying t = some .bool) (d : Nat) (a b : Bool) : (Op.equalIn (d + 1) t (.bool a) (.bool b)).run P w = .ok (a == b) w := by
  simp [Op.equalIn, run_underlying ht]
theorem equal_bool {t : TypeId} (ht : P.underlying t = some .bool) (a b : Bool) : (Op.equal t (.bool a) (.bool b)).run P w = .ok (a == b) w := equalIn_bool ht 9999 a b
theorem binOp_bool {t : TypeId} (ht : P.underlying t = some .bool) (xo yo : Operand) (a b : Bool) : (do eqGuard .eql t xo yo (.bool a) (.bool b); binOp .eql t (.bool a) (.bool b)).run P w = .ok (.bool (a == b)) w := by
  have h1 : (eqGuard .eql t xo yo (.bool a) (.bool b)).run P w = .ok () w := rfl
  have h2 : binOp .eql t (.bool a) (.bool b) = (do pure (.bool (← Op.equal t (.bool a) (.bool b)))) := rfl
  rw [Sem.run_bind, h1, Result.andThen_ok, h2, Sem.run_bind, equal_bool ht]
  rfl
theorem binOp_bool' {t : TypeId} (ht : P.underlying t = some .bool) (xo yo : Operand) (a b : Bool) : (do eqGuard .neq t xo yo (.bool a) (.bool b); binOp .neq t (.bool a) (.bool b)).run P w = .ok (.bool (!(a == b))) w := by
  have h1 : (eqGuard .neq t xo yo (.bool a) (.bool b)).run P w = .ok () w := rfl
  have h2 : binOp .neq t (.bool a) (.bool b) = (do pure (.bool (!(← Op.equal t (.bool a) (.bool b))))) := rfl
  rw [Sem.run_bind, h1, Result.andThen_ok, h2, Sem.run_bind, equal_bool ht]
  rfl
theorem binV_sound {τ : Tau} (hτ : TOK P τ) {op : BinOp} {x y : V} {ux uy : Value} {K : V → Option R} {r : R} (t : TypeId) (xo yo : Operand) (hx : VRep F S w x ux) (hy : VRep F S w y uy) (h : binV (eqK τ t) op x y K = some r) :
    ∃ v u, (do eqGuard op t xo yo ux uy; binOp op t ux uy).run P w = .ok u w ∧ VRep F S w v u ∧ K v = some r := by
  unfold binV at h
  split at h
  · rw [hx.int_inv, hy.int_inv]
    exact binV_int t xo yo (g := eqK τ t) (by unfold binV; exact h)
  · rw [hx.str_inv, hy.str_inv]
    exact binV_str t xo yo (g := eqK τ t) (by unfold binV; exact h)
  · rename_i a b
    rw [hx.bool_inv, hy.bool_inv]
    split at h
    · rename_i hg
      have hk := eqK_bool hg
      have := (hτ t (known_of (by simp [hk]))).kind
      rw [hk] at this
      exact ⟨_, .bool (a == b), binOp_bool this xo yo a b, .bool, h⟩
    · rename_i hg
      have hk := eqK_bool hg
      have := (hτ t (known_of (by simp [hk]))).kind
      rw [hk] at this
      exact ⟨_, .bool (!(a == b)), binOp_bool' this xo yo a b, .bool, h⟩
    · cases h
  · split at h
    · rename_i e he
      split at h
      · rename_i a b hagg ha hb
        obtain ⟨hn, hty, hf⟩ := eqK_agg he hagg
        obtain ⟨g1, g2⟩ := (hτ t hn).eq e hty hagg hf
        obtain ⟨cx, hcx, rfl⟩ := (rdV_rep hx ha).d_inv
        obtain ⟨cy, hcy, rfl⟩ := (rdV_rep hy hb).d_inv
        have hr := eqT_sound hτ 12 (d := Op.maxDepth) (by decide) g2 hcx hcy
        have hv : ∀ c : List Value, valOf e c = .agg c.toArray := fun c => if_pos hagg
        rw [hv, hv] at hr ⊢
        have hgd : (eqGuard .eql t xo yo (.agg cx.toArray) (.agg cy.toArray)).run P w = .ok () w := by
          simp [eqGuard, g1]
        have hb : binOp .eql t (.agg cx.toArray) (.agg cy.toArray) = (do pure (.bool (← Op.equal t (.agg cx.toArray) (.agg cy.toArray)))) := rfl
        have he : (Op.equal t (.agg cx.toArray) (.agg cy.toArray)).run P w = .ok (eqD e a b) w := hr
        refine ⟨_, .bool (eqD e a b), ?_, .bool, h⟩
        rw [Sem.run_bind, hgd, Result.andThen_ok, hb, Sem.run_bind, he]
        rfl
      · rename_i a b hagg ha hb
        obtain ⟨hn, hty, hf⟩ := eqK_agg he hagg
        obtain ⟨g1, g2⟩ := (hτ t hn).eq e hty hagg hf
        obtain ⟨cx, hcx, rfl⟩ := (rdV_rep hx ha).d_inv
        obtain ⟨cy, hcy, rfl⟩ := (rdV_rep hy hb).d_inv
        have hr := eqT_sound hτ 12 (d := Op.maxDepth) (by decide) g2 hcx hcy
        have hv : ∀ c : List Value, valOf e c = .agg c.toArray := fun c => if_pos hagg
        rw [hv, hv] at hr ⊢
        have hgd : (eqGuard .neq t xo yo (.agg cx.toArray) (.agg cy.toArray)).run P w = .ok () w := by
          simp [eqGuard, g1]
        have hb : binOp .neq t (.agg cx.toArray) (.agg cy.toArray) = (do pure (.bool (!(← Op.equal t (.agg cx.toArray) (.agg cy.toArray))))) := rfl
        have he : (Op.equal t (.agg cx.toArray) (.agg cy.toArray)).run P w = .ok (eqD e a b) w := hr
        refine ⟨_, .bool (!(eqD e a b)), ?_, .bool, h⟩
        rw [Sem.run_bind, hgd, Result.andThen_ok, hb, Sem.run_bind, he]
        rfl
      · cases h
    · cases h
theorem unV_sound {op : UnOp} {x : V} {ux : Value} {K : V → Option R} {r : R} (hx : VRep F S w x ux) (h : unV op x K = some r) :
    ∃ v u, (Op.unary op ux).run P w = .ok u w ∧ VRep F S w v u ∧ K v = some r := by
  unfold unV at h
  split at h
  · rw [hx.bool_inv]; exact ⟨_, _, by simp [Op.unary], .bool, h⟩
  · rename_i k n
    rw [hx.int_inv]; exact ⟨_, .int k (k.wrap (0 - n)), by simp only [Op.unary, Op.intArith]; rfl, .int, h⟩
  · rename_i k n
    rw [hx.int_inv]; exact ⟨_, .int k (bitI .xor k (if k.signed then -1 else k.max) n), by simp only [Op.unary]; rfl, .int, h⟩
  · cases h
theorem addr_add (g o n : Nat) : (⟨g, o, none⟩ : Addr).add n = ⟨g, o + n, none⟩ := by
  unfold Addr.add
  split <;> simp_all
theorem inb_iff {i : Int} {n : Nat} (h : inb i n = true) : 0 ≤ i ∧ i < n := by simpa [inb] using h
theorem and_iff {i n : Int} (h : (decide (0 ≤ i) && decide (i < n)) = true) : 0 ≤ i ∧ i < n := by simpa using h
theorem elSz_ok {τ : Tau} (hτ : TOK P τ) {t : TypeId} {z : Nat} (h : elSz τ t = z) (hz : 0 < z) : ∃ te, (τ t).kind = .sl te ∧ P.underlying t = some (.slice te) ∧ (∀ w, (sizeOf te).run P w = .ok z w) := by
  unfold elSz at h
  split at h
  · rename_i te hk
    split at h
    · rename_i hn
      have h1 := (hτ t (known_of (by simp [hk]))).kind
      rw [hk] at h1
      obtain ⟨i, hi, hs, _⟩ := (hτ te hn).info
      exact ⟨te, hk, h1, fun w => by simp [sizeOf, typeInfo, hi, hs, h]⟩
    · omega
  · omega
theorem own_len {w0 : World} {O : Nat → Prop} {m : Mem} (hI : Inv w0 O F S w m) {b : Nat} {n : Option Int} {u : Value} {z : Int} (hx : VRep F S w (.own b n) u) (h : lenV m (.own b n) = some z) :
    ∃ p a l, F b = some p ∧ z = (l : Nat) ∧ l ≤ p.len ∧ (0 < rowSz m b → l ≤ p.cap) ∧ (0 < p.cap → a = some ⟨p.g, p.o, none⟩) ∧ u = .slice a l p.cap ∧ (0 < rowSz m b → p.sz = rowSz m b) := by
  obtain ⟨p, a, l, hf, hn, ha, rfl⟩ := hx.own_inv
  have hz : 0 < rowSz m b → p.sz = rowSz m b ∧ p.len ≤ p.cap := by
    unfold rowSz
    split
    · rename_i hm
      intro _
      obtain ⟨h1, ⟨h2, h3⟩, _⟩ := hI.blk b _ p hm hf
      exact ⟨h1, by omega⟩
    · rename_i hm
      intro _
      obtain ⟨h1, ⟨h2, h3⟩, _⟩ := hI.blk b _ p hm hf
      exact ⟨h1, by omega⟩
    · intro h; omega
  have hl : z = (l : Nat) ∧ l ≤ p.len := by
    cases n with
    | some n =>
      simp only [lenV, Option.some.injEq] at h
      obtain ⟨h1, h2, h3⟩ := hn
      omega
    | none =>
      simp only at hn
      subst hn
      simp only [lenV, rowLen] at h
      split at h
      · rename_i hm
        obtain ⟨_, ⟨h2, _⟩, _⟩ := hI.blk b _ p hm hf
        simp at h; omega
      · rename_i hm
        obtain ⟨_, ⟨h2, _⟩, _⟩ := hI.blk b _ p hm hf
        simp at h; omega
      · cases h
  exact ⟨p, a, l, hf, hl.1, hl.2, fun h => Nat.le_trans hl.2 (hz h).2, ha, rfl, fun h => (hz h).1⟩
theorem indexAddrV_sound {τ : Tau} (hτ : TOK P τ) {w0 : World} {O : Nat → Prop} {m : Mem} (hI : Inv w0 O F S w m) {t : TypeId} {x i : V} {ux ui : Value} {K : V → Option R} {r : R} (hx : VRep F S w x ux) (hi : VRep F S w i ui)
    (h : indexAddrV (elSz τ t) m x i K = some r) : ∃ v u, (Instr.indexAt t ux ui).run P w = .ok u w ∧ VRep F S w v u ∧ K v = some r := by
  unfold indexAddrV at h
  split at h
  · rename_i e xs k i
    obtain ⟨⟨hz, h0⟩, h⟩ := ite_some h
    obtain ⟨hb, h⟩ := chk_some h
    obtain ⟨h1, h2⟩ := inb_iff hb
    obtain ⟨te, hk, hu, hsz⟩ := elSz_ok hτ rfl h0
    rw [hi.int_inv]
    obtain ⟨a, cap, rfl, hc, hr⟩ := hx.sl_inv
    rcases hr with rfl | ⟨g, o, rfl, hr⟩
    · simp at h2; omega
    · refine ⟨_, .pointer (some ⟨g, o + i.toNat * e.sz + 0, none⟩), ?_, .ea hr h1 h2, h⟩
      simp [Instr.indexAt, asIntOf, run_underlying hu, h1, h2, hsz, addr_add, hz]
  · rename_i b n k i
    obtain ⟨j, hj⟩ : ∃ j : Int, j = i := ⟨i, rfl⟩
    subst hj
    obtain ⟨⟨hz, h0⟩, h⟩ := ite_some h
    obtain ⟨te, hk, hu, hsz⟩ := elSz_ok hτ rfl h0
    rw [hi.int_inv]
    split at h
    · rename_i n' hn'
      obtain ⟨hb, h⟩ := chk_some h
      obtain ⟨hb1, hb2⟩ := and_iff hb
      obtain ⟨p, a, l, hf, hl, hlp, hcap, ha, rfl, hps⟩ := own_len hI hx hn'
      have hps : p.sz = elSz τ t := by rw [hz]; exact hps (by omega)
      refine ⟨_, .pointer (some ⟨p.g, p.o + j.toNat * p.sz + 0, none⟩), ?_, .eo hf hb1 (by omega), h⟩
      rw [ha (by omega), hps]
      have hlt : ¬ (l : Int) ≤ j := by omega
      have hlt' : j < (l : Int) := by omega
      simp [Instr.indexAt, asIntOf, run_underlying hu, hb1, hlt', hsz, addr_add]
    · cases h
  · cases h
theorem indexV_sound {τ : Tau} (hτ : TOK P τ) {t : TypeId} {x i : V} {ux ui : Value} {K : V → Option R} {r : R} (hx : VRep F S w x ux) (hi : VRep F S w i ui)
    (h : indexV (τ t) x i K = some r) : ∃ v u, (Instr.index t ux ui).run P w = .ok u w ∧ VRep F S w v u ∧ K v = some r := by
  unfold indexV at h
  split at h
  · rename_i s k i hk
    obtain ⟨hb, h⟩ := chk_some h
    obtain ⟨h1, h2⟩ := inb_iff hb
    have hu := (hτ t (known_of (by simp [hk]))).kind
    rw [hk] at hu
    rw [hx.str_inv, hi.int_inv]
    have h3 : i.toNat < s.length := by omega
    refine ⟨_, .int .u8 (byteAt s i), ?_, .int, h⟩
    have h4 : (⟨s.toArray⟩ : ByteArray)[i.toNat]? = some (s[i.toNat]) := by
      rw [ByteArray.getElem?_lt' _ _ (by simpa [ByteArray.size] using h3)]
      rfl
    simp [Instr.index, asIntOf, run_underlying hu, h1, h4, byteAt, List.getD_eq_getElem?_getD, List.getElem?_eq_getElem h3]
  · cases h
end
end Go.Vi

/-
  Vi, part 6: loads, fields, slices; stores and new blocks.
-/
namespace Go.Vi
open Go
section
variable {R : Type} {F : Nat → Option Pl} {S : Nat → Prop} {w : World} {P : Program} {τ : Tau}
/-- the value that cells make -/
def mkU (t : TI) (us : List Value) : Value := match t.agg with
  | true => .agg us.toArray
  | false => us.headD undef
theorem mk_rep {t : TI} {vs : List V} {us : List Value} (h : VReps F S w vs us) (h1 : ∀ u ∈ us, u.oneCell' = true) : VRep F S w (mk t vs) (mkU t us) := by
  unfold mk mkU
  cases t.agg with
  | true => exact .of_agg h h1
  | false =>
    cases vs with
    | nil => rw [h.nil_inv]; exact .junk
    | cons v vs =>
      obtain ⟨u, us', rfl, h0, _⟩ := h.head
      exact h0
theorem loadVar_run (hτ : TOK P τ) {t : TypeId} (hn : (τ t).known = true) {g o : Nat} {us : List Value} (hl : us.length = (τ t).sz) (hc : ∀ (j : Nat) v, us[j]? = some v → w.cell? ⟨g, o + j, none⟩ = some v) :
    (loadVar t ⟨g, o, none⟩).run P w = .ok (mkU (τ t) us) w := by
  have ha := isAgg_run hτ hn w
  have hz := sizeOf_run hτ hn w
  have hls := run_loadCells_list (P := P) w ⟨g, o, none⟩ us (fun j v hv => by rw [addr_add]; exact hc j v hv)
  rw [hl] at hls
  unfold mkU
  cases hag : (τ t).agg with
  | true =>
    rw [hag] at ha
    simp [loadVar, ha, hz, hls]
  | false =>
    rw [hag] at ha
    have h1 := (hτ t hn).one hag
    rw [h1] at hl
    match us, hl with
    | [u], _ =>
      have := hc 0 u rfl
      simp at this
      simp [loadVar, ha, this]
theorem loadC_sound (hτ : TOK P τ) {t : TypeId} {cs : List V} {us : List Value} {off g o : Nat} {K : V → Option R} {r : R} (h : VReps F S w cs us) (h1 : ∀ u ∈ us, u.oneCell' = true) (hc : ∀ (j : Nat) v, us[j]? = some v → w.cell? ⟨g, o + j, none⟩ = some v)
    (hk : loadC (τ t) cs off K = some r) : ∃ v u, (Instr.loadAt t (.pointer (some ⟨g, o + off, none⟩))).run P w = .ok u w ∧ VRep F S w v u ∧ K v = some r := by
  unfold loadC at hk
  obtain ⟨⟨hn, hl⟩, hk⟩ := ite_some hk
  have hr : VReps F S w ((cs.drop off).take (τ t).sz) ((us.drop off).take (τ t).sz) := (h.drop off).take _
  refine ⟨_, mkU (τ t) ((us.drop off).take (τ t).sz), ?_, mk_rep hr (fun u hu => h1 u (List.mem_of_mem_drop (List.mem_of_mem_take hu))), hk⟩
  have hlen : ((us.drop off).take (τ t).sz).length = (τ t).sz := by
    have := h.len
    simp; omega
  have hrun := loadVar_run hτ hn (g := g) (o := o + off) (w := w) hlen (fun j v hv => by
    rw [List.getElem?_take] at hv
    split at hv
    · rw [List.getElem?_drop] at hv
      have := hc _ v hv
      rw [← this]
      congr 2
      omega
    · cases hv)
  simp [Instr.loadAt, Instr.sureAddr, hrun]
theorem getD_some {α : Type} {xs : List α} {i : Int} {d : α} (h0 : 0 ≤ i) (h1 : i < xs.length) : xs[i.toNat]? = some (xs.getD i.toNat d) := by
  rw [List.getD_eq_getElem?_getD]
  have : i.toNat < xs.length := by omega
  rw [List.getElem?_eq_getElem this]
  rfl
theorem RowS.elem {e : Ty} {xs : List e.D} {g o : Nat} (h : RowS S w e xs g o) {i : Int} (h0 : 0 ≤ i) (h1 : i < xs.length) : ∃ ec, RepD S w e (xs.getD i.toNat e.zero) ec ∧ ∀ (j : Nat) v, ec[j]? = some v → w.cell? ⟨g, o + i.toNat * e.sz + j, none⟩ = some v :=
  h.2 i.toNat _ (getD_some h0 h1)
theorem loadV_sound (hτ : TOK P τ) {w0 : World} {O : Nat → Prop} {m : Mem} (hI : Inv w0 O F S w m) {t : TypeId} {p : V} {up : Value} {K : V → Option R} {r : R} (hp : VRep F S w p up)
    (h : loadV m (τ t) p K = some r) : ∃ v u, (Instr.loadAt t up).run P w = .ok u w ∧ VRep F S w v u ∧ K v = some r := by
  unfold loadV at h
  split at h
  · rename_i e xs i off
    obtain ⟨g, o, hr, h0, h1, rfl⟩ := hp.ea_inv
    obtain ⟨ec, hd, hc⟩ := hr.elem h0 h1
    exact loadC_sound hτ (cellsOf_rep hd) hd.one hc h
  · rename_i b i off
    obtain ⟨pl, hf, h0, h1, rfl⟩ := hp.eo_inv
    split at h
    · rename_i e xs a hm
      obtain ⟨hz, ⟨hl, hlen⟩, _, hr⟩ := hI.blk b _ pl hm hf
      obtain ⟨arr, T, fr, hh, _, hs, hel, _⟩ := hr (by omega)
      obtain ⟨ec, hd, hc⟩ := hel i.toNat _ (getD_some (d := e.zero) h0 (by omega))
      rw [hz]
      exact loadC_sound hτ (cellsOf_rep hd) hd.one (fun j v hv => by rw [cell_of_row w _ _ arr T fr hh]; exact hc j v hv) h
    · rename_i e xs hm
      obtain ⟨hz, ⟨hl, hlen⟩, hr⟩ := hI.blk b _ pl hm hf
      obtain ⟨ec, hd, hc⟩ := (hr (by omega)).elem h0 (by omega)
      rw [hz]
      exact loadC_sound hτ (cellsOf_rep hd) hd.one hc h
    · cases h
  · rename_i b off
    obtain ⟨pl, hf, rfl⟩ := hp.ref_inv
    split at h
    · rename_i cs hm
      obtain ⟨h0, arr, T, hh, hr, h1⟩ := hI.blk b _ pl hm hf
      refine loadC_sound hτ hr (fun u hu => h1 u (by simpa using hu)) (fun j v hv => ?_) h
      rw [cell_of_row w _ _ arr T _ hh, h0]
      simpa using hv
    · cases h
  · cases h
theorem fieldAddrV_sound (hτ : TOK P τ) {t : TypeId} {p : V} {up : Value} {f : Nat} {K : V → Option R} {r : R} (hp : VRep F S w p up)
    (h : fieldAddrV (τ t) p f K = some r) : ∃ v u, (Instr.fieldAt t up f).run P w = .ok u w ∧ VRep F S w v u ∧ K v = some r := by
  unfold fieldAddrV at h
  split at h
  · rename_i fs hk
    have hu := (hτ t (known_of (by simp [hk]))).kind
    rw [hk] at hu
    obtain ⟨fields, hu, rfl, hne⟩ := hu
    split at h
    · rename_i o u hf
      rw [List.getElem?_map] at hf
      obtain ⟨fd, hfd, he⟩ := Option.map_eq_some_iff.1 hf
      cases he
      have hfd' : fields[f]? = some fd := by simpa using hfd
      have hsz := hne fd (by have := List.mem_of_getElem? hfd; simpa using this)
      have hrun : ∀ g o, (fieldPlace ⟨g, o, none⟩ fd).run P w = .ok ⟨g, o + fd.offset, none⟩ w := by
        intro g o
        unfold Program.cellsOf at hsz
        cases hi : P.info? fd.type with
        | none => simp [hi] at hsz
        | some i =>
          simp [hi] at hsz
          simp [fieldPlace, sizeOf, typeInfo, hi, hsz, addr_add]
      split at h
      · obtain ⟨pl, hf, rfl⟩ := hp.ref_inv
        refine ⟨_, .pointer (some ⟨pl.g, pl.o + (_ + fd.offset), none⟩), ?_, .ref hf, h⟩
        simp [Instr.fieldAt, Instr.sureAddr, run_underlying hu, hfd', hrun, Nat.add_assoc]
      · obtain ⟨g, o, hr, h0, h1, rfl⟩ := hp.ea_inv
        refine ⟨_, .pointer (some ⟨g, o + _ * _ + (_ + fd.offset), none⟩), ?_, .ea hr h0 h1, h⟩
        simp [Instr.fieldAt, Instr.sureAddr, run_underlying hu, hfd', hrun, Nat.add_assoc]
      · obtain ⟨pl, hf, h0, h1, rfl⟩ := hp.eo_inv
        refine ⟨_, .pointer (some ⟨pl.g, pl.o + _ * _ + (_ + fd.offset), none⟩), ?_, .eo hf h0 h1, h⟩
        simp [Instr.fieldAt, Instr.sureAddr, run_underlying hu, hfd', hrun, Nat.add_assoc]
      · cases h
    · cases h
  · cases h
theorem aggCells_rep {x : V} {u : Value} {cs : List V} (hx : VRep F S w x u) (h : aggCells x = some cs) : ∃ us, u = .agg us ∧ VReps F S w cs us.toList ∧ ∀ c ∈ us, c.oneCell' = true := by
  unfold aggCells at h
  split at h
  · cases h; exact hx.agg_inv
  · rename_i t x
    split at h
    · rename_i ht
      cases h
      obtain ⟨c, hr, rfl⟩ := hx.d_inv
      refine ⟨c.toArray, by simp [valOf, ht], by simpa using cellsOf_rep hr, fun y hy => hr.one y (by simpa using hy)⟩
    · cases h
  · cases h
theorem fieldV_sound (hτ : TOK P τ) {t : TypeId} {x : V} {ux : Value} {f : Nat} {K : V → Option R} {r : R} (hx : VRep F S w x ux)
    (h : fieldV τ (τ t) x f K = some r) : ∃ v u, (Instr.field t ux f).run P w = .ok u w ∧ VRep F S w v u ∧ K v = some r := by
  unfold fieldV at h
  split at h
  · rename_i fs cs hk hcs
    have hu := (hτ t (known_of (by simp [hk]))).kind
    rw [hk] at hu
    obtain ⟨fields, hu, rfl, _⟩ := hu
    obtain ⟨us, rfl, hr, h1⟩ := aggCells_rep hx hcs
    split at h
    · rename_i o u hf
      rw [List.getElem?_map] at hf
      obtain ⟨fd, hfd, he⟩ := Option.map_eq_some_iff.1 hf
      cases he
      have hfd' : fields[f]? = some fd := by simpa using hfd
      unfold loadC at h
      obtain ⟨⟨hn, hl⟩, h⟩ := ite_some h
      have hrr : VReps F S w ((cs.drop fd.offset).take (τ fd.type).sz) ((us.toList.drop fd.offset).take (τ fd.type).sz) := (hr.drop _).take _
      refine ⟨_, mkU (τ fd.type) ((us.toList.drop fd.offset).take (τ fd.type).sz), ?_, mk_rep hrr (fun u hu => h1 u (by simpa using List.mem_of_mem_drop (List.mem_of_mem_take hu))), h⟩
      have ha := isAgg_run hτ hn w
      have hz := sizeOf_run hτ hn w
      have hlen := hr.len
      unfold mkU
      cases hag : (τ fd.type).agg with
      | true =>
        rw [hag] at ha
        simp [Instr.field, run_underlying hu, hfd', asAgg, part, ha, hz]
        apply Array.ext'
        simp [List.extract_eq_take_drop]
      | false =>
        rw [hag] at ha
        have hone := (hτ _ hn).one hag
        have hlt : fd.offset < us.size := by simp at hlen; omega
        simp [Instr.field, run_underlying hu, hfd', asAgg, part, ha, hlt, hone, List.head?_take, List.head?_drop]
    · cases h
  · cases h
end
end Go.Vi

/-
  Vi, part 7: how the run's own blocks change.
-/
namespace Go.Vi
open Go
section
variable {F F' : Nat → Option Pl} {S S' : Nat → Prop} {w w' w0 : World} {O : Nat → Prop} {m : Mem}
theorem BRep.keep (k : Keep F S w F' S' w') {p : Pl} {x : Blk} (hg : x.hot p → w'.heap[p.g]? = w.heap[p.g]?) (h : BRep F S w p x) : BRep F' S' w' p x := by
  cases x with
  | cells cs =>
    obtain ⟨h0, arr, T, hh, hr, h1⟩ := h
    exact ⟨h0, arr, T, (hg trivial).trans hh, hr.keep k, h1⟩
  | row e xs a =>
    obtain ⟨h0, h1, h2, h3⟩ := h
    refine ⟨h0, h1, h2, fun hc => ?_⟩
    obtain ⟨arr, T, fr, hh, hfr, hs, hel, ha⟩ := h3 hc
    refine ⟨arr, T, fr, (hg hc).trans hh, hfr, hs, fun i x hx => ?_, ha⟩
    obtain ⟨ec, hd, hcell⟩ := hel i x hx
    exact ⟨ec, hd.keep k.s k.h, hcell⟩
  | frz e xs =>
    obtain ⟨h0, h1, h2⟩ := h
    exact ⟨h0, h1, fun hc => (h2 hc).keep k.s k.h⟩
  | dead => trivial
/-- a change of the world that leaves all that is known alone -/
theorem Inv.world (hI : Inv w0 O F S w m) (hos : w'.os = w.os) (htape : w'.tape = w.tape) (hout : w'.output = w.output) (hsize : w.heap.size ≤ w'.heap.size)
    (hS : ∀ g, S g → w'.heap[g]? = w.heap[g]?) (hhot : ∀ (b : Nat) x p, m[b]? = some x → F b = some p → x.hot p → w'.heap[p.g]? = w.heap[p.g]?)
    (hold : ∀ g, g < w0.heap.size → ¬ O g → w'.heap[g]? = w.heap[g]?) : Inv w0 O F S w' m where
  ext := ⟨hos.trans hI.ext.os, htape.trans hI.ext.tape, hout.trans hI.ext.output, Nat.le_trans hI.ext.size hsize, fun g hg ho => (hold g hg ho).trans (hI.ext.block g hg ho)⟩
  dom := hI.dom
  blk := fun b x p hm hf => BRep.keep ⟨fun _ _ h => h, fun _ h => h, hS⟩ (hhot b x p hm hf) (hI.blk b x p hm hf)
  sep := hI.sep
  out := fun b x p hm hf hx => by
    obtain ⟨h1, h2, h3⟩ := hI.out b x p hm hf hx
    exact ⟨h1, Nat.lt_of_lt_of_le h2 hsize, h3⟩
  sb := fun g hg => Nat.lt_of_lt_of_le (hI.sb g hg) hsize
  so := hI.so
  is := hI.is
theorem getElem?_set_dead {b b' : Nat} {x y : Blk} (h : (m.set b y)[b']? = some x) : (b' = b ∧ x = y) ∨ (b' ≠ b ∧ m[b']? = some x) := by
  rw [List.getElem?_set] at h
  split at h
  · rename_i hb
    split at h
    · cases h; exact .inl ⟨hb.symm, rfl⟩
    · cases h
  · rename_i hb
    exact .inr ⟨fun e => hb e.symm, h⟩
theorem Inv.kill (hI : Inv w0 O F S w m) (b : Nat) : Inv w0 O F S w (m.set b .dead) where
  ext := hI.ext
  dom := by simpa using hI.dom
  blk := fun b' x p hm hf => by
    rcases getElem?_set_dead hm with ⟨_, rfl⟩ | ⟨_, hm⟩
    · trivial
    · exact hI.blk b' x p hm hf
  sep := fun b1 b2 x1 x2 p1 p2 hm1 hm2 hf1 hf2 h1 h2 hne => by
    rcases getElem?_set_dead hm1 with ⟨_, rfl⟩ | ⟨_, hm1⟩
    · exact h1.elim
    · rcases getElem?_set_dead hm2 with ⟨_, rfl⟩ | ⟨_, hm2⟩
      · exact h2.elim
      · exact hI.sep b1 b2 x1 x2 p1 p2 hm1 hm2 hf1 hf2 h1 h2 hne
  out := fun b' x p hm hf hx => by
    rcases getElem?_set_dead hm with ⟨_, rfl⟩ | ⟨_, hm⟩
    · exact hx.elim
    · exact hI.out b' x p hm hf hx
  sb := hI.sb
  so := hI.so
  is := fun b' x hm hx => by
    rcases getElem?_set_dead hm with ⟨_, rfl⟩ | ⟨_, hm⟩
    · exact (hx rfl).elim
    · exact hI.is b' x hm hx
/-- no block that may be written lies at g -/
def Free (F : Nat → Option Pl) (m : Mem) (g : Nat) : Prop := ∀ (b : Nat) x p, m[b]? = some x → F b = some p → x.hot p → p.g ≠ g
theorem Inv.free_kill (hI : Inv w0 O F S w m) {b : Nat} {x : Blk} {p : Pl} (hm : m[b]? = some x) (hf : F b = some p) (hx : x.hot p) : Free F (m.set b .dead) p.g := by
  intro b' x' p' hm' hf' hx'
  rcases getElem?_set_dead hm' with ⟨_, rfl⟩ | ⟨hne, hm'⟩
  · exact hx'.elim
  · exact hI.sep b' b x' x p' p hm' hm hf' hf hx' hx hne
theorem Inv.free_new (hI : Inv w0 O F S w m) : Free F m w.heap.size := by
  intro b x p hm hf hx he
  have := (hI.out b x p hm hf hx).2.1
  omega
/-- a place for one more name -/
def placeF (F : Nat → Option Pl) (i : Nat) (p : Pl) : Nat → Option Pl := fun b => if b = i then some p else F b
theorem Inv.add (hI : Inv w0 O F S w m) {p : Pl} {x : Blk} {m1 : Mem} {i : Nat} (hi1 : m1[i]? = some x) (hi2 : ∀ b, b ≠ i → m1[b]? = m[b]?) (hF : F i = none) (hfree : x.hot p → Free F m p.g) (hs : x.hot p → ¬ S p.g ∧ p.g < w.heap.size ∧ (O p.g ∨ w0.heap.size ≤ p.g)) (hb : BRep (placeF F i p) S w p x) :
    Inv w0 O (placeF F i p) S w m1 ∧ Keep F S w (placeF F i p) S w := by
  have hk : Keep F S w (placeF F i p) S w := ⟨fun b q h => by
    unfold placeF
    by_cases hb : b = i
    · subst hb; rw [hF] at h; cases h
    · rw [if_neg hb]; exact h, fun _ h => h, fun _ _ => rfl⟩
  have hin : ∀ (b : Nat) y q, m1[b]? = some y → placeF F i p b = some q → (b ≠ i ∧ m[b]? = some y ∧ F b = some q) ∨ (b = i ∧ y = x ∧ q = p) := by
    intro b y q hy hq
    unfold placeF at hq
    by_cases hb : b = i
    · subst hb
      rw [hi1] at hy
      simp at hq hy
      exact .inr ⟨rfl, hy.symm, hq.symm⟩
    · rw [if_neg hb] at hq
      rw [hi2 b hb] at hy
      exact .inl ⟨hb, hy, hq⟩
  refine ⟨⟨hI.ext, fun b hb => ?_, fun b y q hy hq => ?_, fun b1 b2 y1 y2 q1 q2 hy1 hy2 hq1 hq2 h1 h2 hne => ?_, fun b y q hy hq hx => ?_, hI.sb, hI.so, fun b y hy hne => ?_⟩, hk⟩
  · unfold placeF
    by_cases hbi : b = i
    · subst hbi
      have := (List.getElem?_eq_some_iff.1 hi1).1
      omega
    · rw [if_neg hbi]
      refine hI.dom b ?_
      have : m1[b]? = none := List.getElem?_eq_none hb
      rw [hi2 b hbi] at this
      exact List.getElem?_eq_none_iff.1 this
  · rcases hin b y q hy hq with ⟨_, hm, hf⟩ | ⟨_, rfl, rfl⟩
    · exact BRep.keep hk (fun _ => rfl) (hI.blk b y q hm hf)
    · exact hb
  · rcases hin b1 y1 q1 hy1 hq1 with ⟨_, hm1, hf1⟩ | ⟨rfl, rfl, rfl⟩ <;> rcases hin b2 y2 q2 hy2 hq2 with ⟨_, hm2, hf2⟩ | ⟨rfl, rfl, rfl⟩
    · exact hI.sep b1 b2 y1 y2 q1 q2 hm1 hm2 hf1 hf2 h1 h2 hne
    · exact hfree h2 b1 y1 q1 hm1 hf1 h1
    · exact fun e => hfree h1 b2 y2 q2 hm2 hf2 h2 e.symm
    · exact (hne rfl).elim
  · rcases hin b y q hy hq with ⟨_, hm, hf⟩ | ⟨_, rfl, rfl⟩
    · exact hI.out b y q hm hf hx
    · exact hs hx
  · unfold placeF
    by_cases hbi : b = i
    · rw [if_pos hbi]; simp
    · rw [if_neg hbi]
      rw [hi2 b hbi] at hy
      exact hI.is b y hy hne
/-- the names that were kept are free -/
def AtOk (L : At) (F : Nat → Option Pl) (m : Mem) : Prop := ∀ l, L = some l → l.Nodup ∧ ∀ i ∈ l, m[i]? = some .dead ∧ F i = none
theorem lay_spec {L : At} (hL : AtOk L F m) (hI : Inv w0 O F S w m) (x : Blk) : (lay L m x).2[(lay L m x).1]? = some x ∧ (∀ b, b ≠ (lay L m x).1 → (lay L m x).2[b]? = m[b]?) ∧ F (lay L m x).1 = none := by
  unfold lay
  split
  · rename_i i l
    obtain ⟨_, hl⟩ := hL _ rfl
    obtain ⟨h1, h2⟩ := hl i (by simp)
    have hlt := (List.getElem?_eq_some_iff.1 h1).1
    exact ⟨List.getElem?_set_self hlt, fun b hb => List.getElem?_set_ne (fun e => hb e.symm), h2⟩
  · refine ⟨by simp, fun b hb => ?_, hI.dom _ (Nat.le_refl _)⟩
    by_cases h : b < m.length
    · exact List.getElem?_append_left h
    · rw [List.getElem?_eq_none (by simp at hb ⊢; omega), List.getElem?_eq_none (by omega)]
/-- a block that no name leads to is laid anew at its old name -/
theorem Inv.revive {b : Nat} {x : Blk} {p : Pl} (hI : Inv w0 O F S w (m.set b .dead)) (hb' : b < m.length) (hf : F b = some p) (hfree : x.hot p → Free F (m.set b .dead) p.g) (hs : x.hot p → ¬ S p.g ∧ p.g < w.heap.size ∧ (O p.g ∨ w0.heap.size ≤ p.g)) (hb : BRep F S w p x) :
    Inv w0 O F S w (m.set b x) := by
  have hin : ∀ (b' : Nat) y q, (m.set b x)[b']? = some y → F b' = some q → (b' ≠ b ∧ (m.set b .dead)[b']? = some y) ∨ (b' = b ∧ y = x ∧ q = p) := by
    intro b' y q hy hq
    rcases getElem?_set_dead hy with ⟨rfl, rfl⟩ | ⟨hne, hm⟩
    · rw [hf] at hq; cases hq; exact .inr ⟨rfl, rfl, rfl⟩
    · exact .inl ⟨hne, by rw [List.getElem?_set_ne (fun e => hne e.symm)]; exact hm⟩
  refine ⟨hI.ext, by have := hI.dom; simpa using this, fun b y q hy hq => ?_, fun b1 b2 y1 y2 q1 q2 hy1 hy2 hq1 hq2 h1 h2 hne => ?_, fun b y q hy hq hx => ?_, hI.sb, hI.so, fun b' y hy hne => ?_⟩
  · rcases hin b y q hy hq with ⟨_, hm⟩ | ⟨_, rfl, rfl⟩
    · exact hI.blk b y q hm hq
    · exact hb
  · rcases hin b1 y1 q1 hy1 hq1 with ⟨_, hm1⟩ | ⟨rfl, rfl, rfl⟩ <;> rcases hin b2 y2 q2 hy2 hq2 with ⟨_, hm2⟩ | ⟨rfl, rfl, rfl⟩
    · exact hI.sep b1 b2 y1 y2 q1 q2 hm1 hm2 hq1 hq2 h1 h2 hne
    · exact hfree h2 b1 y1 q1 hm1 hq1 h1
    · exact fun e => hfree h1 b2 y2 q2 hm2 hq2 h2 e.symm
    · exact (hne rfl).elim
  · rcases hin b y q hy hq with ⟨_, hm⟩ | ⟨_, rfl, rfl⟩
    · exact hI.out b y q hm hq hx
    · exact hs hx
  · rcases getElem?_set_dead hy with ⟨rfl, _⟩ | ⟨hne', hm⟩
    · rw [hf]; simp
    · exact hI.is b' y (by rw [List.getElem?_set_ne (fun e => hne' e.symm)]; exact hm) hne
/-- a row is written no more -/
theorem Inv.freeze (hI : Inv w0 O F S w m) {b : Nat} {e : Ty} {xs : List e.D} {a : Option TypeId} {p : Pl} (hm : m[b]? = some (.row e xs a)) (hf : F b = some p) :
    Inv w0 O F (fun g => S g ∨ (0 < p.cap ∧ g = p.g)) w (m.set b (.frz e xs)) ∧ Keep F S w F (fun g => S g ∨ (0 < p.cap ∧ g = p.g)) w := by
  have hk : Keep F S w F (fun g => S g ∨ (0 < p.cap ∧ g = p.g)) w := ⟨fun _ _ h => h, fun _ h => .inl h, fun _ _ => rfl⟩
  have hlt : b < m.length := (List.getElem?_eq_some_iff.1 hm).1
  have hI' : Inv w0 O F (fun g => S g ∨ (0 < p.cap ∧ g = p.g)) w (m.set b .dead) := by
    have h1 := hI.kill b
    refine ⟨h1.ext, h1.dom, fun b' x q hm' hf' => BRep.keep hk (fun _ => rfl) (h1.blk b' x q hm' hf'), h1.sep, fun b' x q hm' hf' hx => ?_, fun g hg => ?_, fun g hg hlt => ?_, h1.is⟩
    · obtain ⟨h2, h3⟩ := h1.out b' x q hm' hf' hx
      refine ⟨fun hs => hs.elim h2 fun ⟨hc, he⟩ => ?_, h3⟩
      exact hI.free_kill (p := p) hm hf hc b' x q hm' hf' hx he
    · rcases hg with hg | ⟨hc, rfl⟩
      · exact hI.sb g hg
      · exact (hI.out b _ p hm hf hc).2.1
    · rcases hg with hg | ⟨hc, rfl⟩
      · exact hI.so g hg hlt
      · exact (hI.out b _ p hm hf hc).2.2.elim id (fun h => by omega)
  refine ⟨hI'.revive hlt hf (fun h => h.elim) (fun h => h.elim) ?_, hk⟩
  obtain ⟨h0, h1, h2, h3⟩ := hI.blk b _ p hm hf
  refine ⟨h0, h1, fun hc => ⟨.inr ⟨hc, rfl⟩, fun i x hx => ?_⟩⟩
  obtain ⟨arr, T, fr, hh, _, hs, hel, _⟩ := h3 hc
  obtain ⟨ec, hd, hcell⟩ := hel i x hx
  refine ⟨ec, hd.keep hk.s hk.h, fun j v hv => ?_⟩
  rw [cell_of_row w _ _ arr T fr hh]
  exact hcell j v hv
end
end Go.Vi

/-
  Vi, part 8: operations that make or write blocks of the run's own.
-/
namespace Go.Vi
open Go
section
variable {R : Type} {F : Nat → Option Pl} {S : Nat → Prop} {w w0 : World} {O : Nat → Prop} {m : Mem} {P : Program} {τ : Tau}
/-- what an operation comes to -/
def Ends (P : Program) (w0 : World) (O : Nat → Prop) (F : Nat → Option Pl) (S : Nat → Prop) (w : World) (K : V → Mem → Option R) (r : R) (x : Sem Value) : Prop :=
  ∃ v u m' F' S' w', x.run P w = .ok u w' ∧ VRep F' S' w' v u ∧ Inv w0 O F' S' w' m' ∧ Keep F S w F' S' w' ∧ K v m' = some r
theorem Inv.alloc (hI : Inv w0 O F S w m) (x : Obj) : Inv w0 O F S (w.alloc x) m ∧ Keep F S w F S (w.alloc x) := by
  have hS : ∀ g, S g → (w.alloc x).heap[g]? = w.heap[g]? := fun g hg => heap_alloc_old w x g (hI.sb g hg)
  refine ⟨hI.world rfl rfl rfl (by simp) hS (fun b y p hm hf hx => heap_alloc_old w x p.g (hI.out b y p hm hf hx).2.1) (fun g hg _ => heap_alloc_old w x g (Nat.lt_of_lt_of_le hg hI.ext.size)), fun _ _ h => h, fun _ h => h, hS⟩
theorem Inv.new {L : At} (hI : Inv w0 O F S w m) (hL : AtOk L F m) (c : Array Value) (T : TypeId) {p : Pl} {x : Blk} (hp : p.g = w.heap.size) (hb : BRep (placeF F (lay L m x).1 p) S (w.alloc (.cells c T)) p x) :
    Inv w0 O (placeF F (lay L m x).1 p) S (w.alloc (.cells c T)) (lay L m x).2 ∧ Keep F S w (placeF F (lay L m x).1 p) S (w.alloc (.cells c T)) := by
  obtain ⟨h1, k1⟩ := hI.alloc (.cells c T)
  obtain ⟨l1, l2, l3⟩ := lay_spec hL hI x
  have h2 := h1.add (p := p) (x := x) l1 l2 l3 (fun _ => hp ▸ hI.free_new) (fun _ => ⟨fun hs => by have := hI.sb _ hs; omega, by rw [hp]; simp, .inr (hp ▸ hI.ext.size)⟩) hb
  exact ⟨h2.1, k1.trans h2.2⟩
theorem Inv.new' {L : At} (hI : Inv w0 O F S w m) (hL : AtOk L F m) (ob : Obj) {p : Pl} {x : Blk} (hp : p.g = w.heap.size) (hb : BRep (placeF F (lay L m x).1 p) S (w.alloc ob) p x) :
    Inv w0 O (placeF F (lay L m x).1 p) S (w.alloc ob) (lay L m x).2 ∧ Keep F S w (placeF F (lay L m x).1 p) S (w.alloc ob) := by
  obtain ⟨h1, k1⟩ := hI.alloc ob
  obtain ⟨l1, l2, l3⟩ := lay_spec hL hI x
  have h2 := h1.add (p := p) (x := x) l1 l2 l3 (fun _ => hp ▸ hI.free_new) (fun _ => ⟨fun hs => by have := hI.sb _ hs; omega, by rw [hp]; simp, .inr (hp ▸ hI.ext.size)⟩) hb
  exact ⟨h2.1, k1.trans h2.2⟩
theorem keep_place {i : Nat} (hF : F i = none) (x : Obj) (hS : ∀ g, S g → g < w.heap.size) (p : Pl) : Keep F S w (placeF F i p) S (w.alloc x) :=
  ⟨fun b q h => by
    unfold placeF
    by_cases hb : b = i
    · subst hb; rw [hF] at h; cases h
    · rw [if_neg hb]; exact h, fun _ h => h, fun g hg => heap_alloc_old w _ g (hS g hg)⟩
theorem cellsR_new {us : List Value} {cs : List V} {T : TypeId} {p : Pl} {i : Nat} (hF : F i = none) (hp : p.g = w.heap.size) (ho : p.o = 0) (h : VReps F S w cs us) (h1 : ∀ u ∈ us, u.oneCell' = true) (hS : ∀ g, S g → g < w.heap.size) :
    BRep (placeF F i p) S (w.alloc (.cells us.toArray T)) p (.cells cs) := by
  refine ⟨ho, us.toArray, T, by rw [hp]; exact heap_alloc_new w _, ?_, fun u hu => h1 u (by simpa using hu)⟩
  simpa using h.keep (keep_place hF _ hS p)
theorem box_sound {L : At} (hI : Inv w0 O F S w m) (hL : AtOk L F m) {t : TypeId} {x : V} {u : Value} {K : V → Mem → Option R} {r : R} (hx : VRep F S w x u) (h : (if (τ t).known = true ∧ x.plain = true ∧ x.cells.length = (τ t).sz then K (.ref (lay L m (.cells x.cells)).1 0) (lay L m (.cells x.cells)).2 else none) = some r) :
    Ends P w0 O F S w K r (Instr.box t u) := by
  obtain ⟨⟨_, hp, _⟩, h⟩ := ite_some h
  obtain ⟨hr, h1⟩ := hx.cells_rep hp
  have hb := cellsR_new (T := t) (p := ⟨w.heap.size, 0, 0, 0, 0⟩) (lay_spec hL hI (.cells x.cells)).2.2 rfl rfl hr (fun u hu => h1 u (by simpa using hu)) hI.sb
  rw [Array.toArray_toList] at hb
  obtain ⟨h2, k2⟩ := hI.new hL u.cells t rfl hb
  refine ⟨_, .pointer (some ⟨w.heap.size, 0 + 0, none⟩), _, _, S, _, ?_, .ref (p := ⟨w.heap.size, 0, 0, 0, 0⟩) ?_, h2, k2, h⟩
  · simp [Instr.box, newVar, newRow]
  · simp [placeF]
theorem zeroIs_rep : ∀ {vs : List V} {us : List Value}, zeroIs vs us = true → VReps F S w vs us ∧ ∀ u ∈ us, u.oneCell' = true
  | [], [], _ => ⟨.nil, by simp⟩
  | .d (.int k) n :: vs, .int k' n' :: us, h => by
    simp only [zeroIs, Bool.and_eq_true, decide_eq_true_eq] at h
    obtain ⟨⟨rfl, rfl⟩, h⟩ := h
    obtain ⟨h1, h2⟩ := zeroIs_rep h
    exact ⟨.cons .int h1, by simpa [Value.oneCell'] using h2⟩
  | .d .bool b :: vs, .bool b' :: us, h => by
    simp only [zeroIs, Bool.and_eq_true, beq_iff_eq] at h
    obtain ⟨rfl, h⟩ := h
    obtain ⟨h1, h2⟩ := zeroIs_rep h
    exact ⟨.cons .bool h1, by simpa [Value.oneCell'] using h2⟩
  | .d .str s :: vs, .string s' :: us, h => by
    simp only [zeroIs, Bool.and_eq_true, beq_iff_eq] at h
    obtain ⟨rfl, h⟩ := h
    obtain ⟨h1, h2⟩ := zeroIs_rep h
    exact ⟨.cons (by simpa using VRep.str (F := F) (S := S) (w := w) (s := s'.data.toList)) h1, by simpa [Value.oneCell'] using h2⟩
  | .d (.sl e) xs :: vs, .slice a 0 c :: us, h => by
    simp only [zeroIs, Bool.and_eq_true, List.isEmpty_iff] at h
    obtain ⟨rfl, h⟩ := h
    obtain ⟨h1, h2⟩ := zeroIs_rep h
    exact ⟨.cons (.sl (e := e) (xs := []) (Nat.zero_le _) (.inl rfl)) h1, by simpa [Value.oneCell'] using h2⟩
  | .nil :: vs, .slice a 0 0 :: us, h => by
    simp only [zeroIs] at h
    obtain ⟨h1, h2⟩ := zeroIs_rep h
    exact ⟨.cons .nil h1, by simpa [Value.oneCell'] using h2⟩
  | .junk :: vs, u :: us, h => by
    simp only [zeroIs, Bool.and_eq_true] at h
    obtain ⟨h1, h2⟩ := zeroIs_rep h.2
    exact ⟨.cons .junk h1, by simpa [h.1] using h2⟩
theorem zeroC_known {t : TypeId} {cs : List V} (h : zeroC τ 20 t = some cs) : (τ t).known = true := by
  unfold zeroC at h
  unfold TI.known
  split
  · rename_i hk; simp [hk] at h
  · rfl
theorem alloc_sound {L : At} (hτ : TOK P τ) (hI : Inv w0 O F S w m) (hL : AtOk L F m) {t : TypeId} {K : V → Mem → Option R} {r : R} (h : (match zeroC τ 20 t with
    | some cs => K (.ref (lay L m (.cells cs)).1 0) (lay L m (.cells cs)).2
    | none => none) = some r) : Ends P w0 O F S w K r (Instr.alloc t true (.tuple #[])) := by
  split at h
  · rename_i cs hz
    obtain ⟨i, z, hi, hzv, hzi, hl⟩ := (hτ t (zeroC_known hz)).zero cs hz
    obtain ⟨hr, h1⟩ := zeroIs_rep (F := F) (S := S) (w := w) hzi
    have hb := cellsR_new (T := t) (p := ⟨w.heap.size, 0, 0, 0, 0⟩) (lay_spec hL hI (.cells cs)).2.2 rfl rfl hr h1 hI.sb
    rw [Array.toArray_toList] at hb
    obtain ⟨h2, k2⟩ := hI.new hL z.cells t rfl hb
    refine ⟨_, .pointer (some ⟨w.heap.size, 0 + 0, none⟩), _, _, S, _, ?_, .ref (p := ⟨w.heap.size, 0, 0, 0, 0⟩) ?_, h2, k2, h⟩
    · simp [Instr.alloc, zeroValue, typeInfo, hi, hzv, newVar, newRow]
    · simp [placeF]
  · cases h
theorem splice_get {α : Type} (l us : List α) (a k : Nat) (h : a + us.length ≤ l.length) : (l.take a ++ us ++ l.drop (a + us.length))[k]? = if k < a then l[k]? else if k < a + us.length then us[k - a]? else l[k]? := by
  rw [List.append_assoc]
  by_cases h1 : k < a
  · rw [if_pos h1, List.getElem?_append_left (by simp; omega), List.getElem?_take, if_pos h1]
  · rw [if_neg h1, List.getElem?_append_right (by simp; omega)]
    simp only [List.length_take]
    rw [Nat.min_eq_left (by omega)]
    by_cases h2 : k < a + us.length
    · rw [if_pos h2, List.getElem?_append_left (by omega)]
    · rw [if_neg h2, List.getElem?_append_right (by omega), List.getElem?_drop]
      congr 1
      omega
theorem storeCells_run (g o : Nat) (T : TypeId) (fr : Nat × Nat) : ∀ (vs : List Value) (i : Nat) (cur : Array Value) (w : World), w.heap[g]? = some (.cells cur T fr) → (fr = (0, 0) ∨ cur.size ≤ fr.1) → o + i + vs.length ≤ cur.size → (∀ v ∈ vs, v.oneCell' = true) →
    (storeCells ⟨g, o, none⟩ vs i).run P w = .ok () (w.setRow g (cur.toList.take (o + i) ++ vs ++ cur.toList.drop (o + i + vs.length)).toArray)
  | [], i, cur, w, hg, _, _, _ => by
    simp only [storeCells, List.append_nil, List.length_nil, Nat.add_zero, List.take_append_drop, Array.toArray_toList]
    rw [setRow_self w g cur T fr hg]
    rfl
  | v :: rest, i, cur, w, hg, hf, hl, h1 => by
    have hi : o + i < cur.size := by simp at hl; omega
    have hcell : w.cell? ⟨g, o + i, none⟩ = some cur[o + i] := by simp [World.cell?, hg, hi]
    have hfro : w.frozen? ⟨g, o + i, none⟩ = false := by
      rcases hf with rfl | hf
      · simp [World.frozen?, hg]
      · obtain ⟨lo, hi'⟩ := fr
        simp only at hf
        simp [World.frozen?, hg]
        omega
    have hst : (store ((⟨g, o, none⟩ : Addr).add i) v).run P w = .ok () (w.setRow g (cur.setIfInBounds (o + i) v)) := by
      rw [addr_add, run_store P w _ v _ (h1 v (by simp)), hcell]
      simp [hfro, setCell_eq_setRow w g (o + i) cur T fr v hg]
    have ih := storeCells_run g o T fr rest (i + 1) (cur.setIfInBounds (o + i) v) (w.setRow g (cur.setIfInBounds (o + i) v)) (setRow_heap w g cur _ T _ hg) (by simpa using hf) (by simp at hl ⊢; omega) (fun x hx => h1 x (by simp [hx]))
    simp only [storeCells, Sem.run_bind, hst, Result.andThen_ok, ih, setRow_setRow]
    congr 3
    apply List.ext_getElem?
    intro k
    have e1 := splice_get (cur.setIfInBounds (o + i) v).toList rest (o + (i + 1)) k (by simp at hl ⊢; omega)
    have e2 := splice_get cur.toList (v :: rest) (o + i) k (by simp at hl ⊢; omega)
    rw [e1, e2]
    simp only [Array.toList_setIfInBounds, List.length_cons, List.getElem?_set, Array.length_toList]
    rcases Nat.lt_trichotomy k (o + i) with hk | hk | hk
    · rw [if_pos (show k < o + (i + 1) by omega), if_pos hk, if_neg (show ¬ o + i = k by omega)]
    · subst hk
      rw [if_pos (show o + i < o + (i + 1) by omega), if_neg (show ¬ o + i < o + i by omega), if_pos (show o + i < o + i + (rest.length + 1) by omega), if_pos rfl, if_pos hi]
      simp
    · rw [if_neg (show ¬ k < o + (i + 1) by omega), if_neg (show ¬ k < o + i by omega)]
      by_cases h2 : k < o + (i + 1) + rest.length
      · rw [if_pos h2, if_pos (show k < o + i + (rest.length + 1) by omega), show k - (o + i) = (k - (o + (i + 1))) + 1 by omega]
        simp
      · rw [if_neg h2, if_neg (show ¬ k < o + i + (rest.length + 1) by omega), if_neg (show ¬ o + i = k by omega)]
theorem storeVar_run (hτ : TOK P τ) {t : TypeId} (hn : (τ t).known = true) {g o : Nat} {T : TypeId} {fr : Nat × Nat} {cur : Array Value} {u : Value} (hh : w.heap[g]? = some (.cells cur T fr)) (hf : fr = (0, 0) ∨ cur.size ≤ fr.1)
    (hl : u.cells.size = (τ t).sz) (h1 : ∀ c ∈ u.cells, c.oneCell' = true) (hb : o + u.cells.size ≤ cur.size) :
    (Instr.storeAt t (.pointer (some ⟨g, o, none⟩)) u).run P w = .ok () (w.setRow g (cur.toList.take o ++ u.cells.toList ++ cur.toList.drop (o + u.cells.size)).toArray) := by
  have hz := sizeOf_run hτ hn w
  have hs := storeCells_run (P := P) g o T fr u.cells.toList 0 cur w hh hf (by simpa using hb) (fun v hv => h1 v (by simpa using hv))
  simp at hs
  simp [Instr.storeAt, Instr.sureAddr, storeVar, hz, hl, hs]
theorem splice_rep {cs new : List V} {us un : List Value} {off : Nat} (h : VReps F S w cs us) (hn : VReps F S w new un) : VReps F S w (splice cs new off) (us.take off ++ un ++ us.drop (off + un.length)) := by
  unfold splice
  rw [hn.len]
  exact ((h.take off).append hn).append (h.drop _)
/-- a world in which one row of the run's own is written -/
theorem Inv.setRow (hI : Inv w0 O F S w m) {b : Nat} {x x' : Blk} {p : Pl} (hm : m[b]? = some x) (hf : F b = some p) (hx : x.hot p) (cs : Array Value) (hb : BRep F S (w.setRow p.g cs) p x') :
    Inv w0 O F S (w.setRow p.g cs) (m.set b x') ∧ Keep F S w F S (w.setRow p.g cs) := by
  have hlt : b < m.length := (List.getElem?_eq_some_iff.1 hm).1
  obtain ⟨h1, h2, h3⟩ := hI.out b x p hm hf hx
  have hfree := hI.free_kill hm hf hx
  have hS : ∀ g, S g → (w.setRow p.g cs).heap[g]? = w.heap[g]? := fun g hg => setRow_other w p.g g cs (fun e => h1 (e ▸ hg))
  have hI2 : Inv w0 O F S (w.setRow p.g cs) (m.set b .dead) := (hI.kill b).world rfl rfl rfl (by simp) hS (fun b' y q hm' hf' hy => setRow_other w p.g q.g cs (hfree b' y q hm' hf' hy))
    (fun g hg ho => setRow_other w p.g g cs (fun e => by subst e; exact h3.elim ho (fun h => by omega)))
  exact ⟨hI2.revive hlt hf (fun _ => hfree) (fun _ => ⟨h1, by simpa using h2, h3⟩) hb, fun _ _ h => h, fun _ h => h, hS⟩
theorem storeV_sound (hτ : TOK P τ) (hI : Inv w0 O F S w m) {t : TypeId} {p x : V} {up ux : Value} {K : Mem → Option R} {r : R} (hp : VRep F S w p up) (hx : VRep F S w x ux) (h : storeV m (τ t) p x K = some r) :
    ∃ m' w', (Instr.storeAt t up ux).run P w = .ok () w' ∧ Inv w0 O F S w' m' ∧ Keep F S w F S w' ∧ K m' = some r := by
  unfold storeV at h
  replace h := ite_some h
  obtain ⟨⟨hn, hpl, hl⟩, h⟩ := h
  obtain ⟨hxr, h1⟩ := hx.cells_rep hpl
  have hsz : ux.cells.size = x.cells.length := by have := hxr.len; simpa using this.symm
  split at h
  · rename_i b i off
    obtain ⟨pl, hf, h0, hlt, rfl⟩ := hp.eo_inv
    split at h
    · rename_i e xs a hm
      replace h := ite_some h
      obtain ⟨hoff, h⟩ := h
      split at h
      · rename_i y hrd
        obtain ⟨hz, ⟨hlen, hcap⟩, hmx, hr⟩ := hI.blk b _ pl hm hf
        have hpc : 0 < pl.cap := by omega
        obtain ⟨arr, T, fr, hh, hfr, hs, hel, ha⟩ := hr hpc
        obtain ⟨ec, hd, hc⟩ := hel i.toNat _ (getD_some (d := e.zero) h0 (by omega))
        have hecl := hd.len
        have hbound : pl.o + i.toNat * e.sz + e.sz ≤ arr.size := by
          have : (i.toNat + 1) * e.sz ≤ pl.cap * e.sz := Nat.mul_le_mul_right _ (by omega)
          rw [Nat.add_mul, Nat.one_mul] at this
          omega
        have hrun := storeVar_run (P := P) hτ hn (o := pl.o + i.toNat * pl.sz + off) hh hfr (by rw [hsz]; exact hl) h1 (by rw [hsz, hz]; omega)
        refine ⟨m.set b (.row e (xs.set i.toNat y) a), _, hrun, ?_⟩
        have hsp := splice_rep (off := off) (cellsOf_rep hd) hxr
        obtain ⟨c, us', he, hy, hnil⟩ := readCells_rep hsp hrd
        rw [hnil.nil_inv, List.append_nil] at he
        have hbr : BRep F S (w.setRow pl.g (arr.toList.take (pl.o + i.toNat * pl.sz + off) ++ ux.cells.toList ++ arr.toList.drop (pl.o + i.toNat * pl.sz + off + ux.cells.size)).toArray) pl (.row e (xs.set i.toNat y) a) := by
          have hS : ∀ g, S g → (w.setRow pl.g (arr.toList.take (pl.o + i.toNat * pl.sz + off) ++ ux.cells.toList ++ arr.toList.drop (pl.o + i.toNat * pl.sz + off + ux.cells.size)).toArray).heap[g]? = w.heap[g]? := fun g hg => setRow_other w pl.g g _ (fun e => (hI.out b _ pl hm hf hpc).1 (e ▸ hg))
          have hlist : (arr.toList.take (pl.o + i.toNat * pl.sz + off) ++ ux.cells.toList ++ arr.toList.drop (pl.o + i.toNat * pl.sz + off + ux.cells.size)).length = arr.size := by
            simp; rw [hsz, hz]; omega
          refine ⟨hz, ⟨by simpa using hlen, by simpa using hcap⟩, hmx, fun _ => ⟨_, T, fr, setRow_heap w pl.g arr _ T fr hh, ?_, ?_, fun j z hj => ?_, fun te hte => ?_⟩⟩
          · rw [List.size_toArray, hlist]; exact hfr
          · rw [List.size_toArray, hlist]; exact hs
          · have hget : ∀ k, ((arr.toList.take (pl.o + i.toNat * pl.sz + off) ++ ux.cells.toList ++ arr.toList.drop (pl.o + i.toNat * pl.sz + off + ux.cells.size)).toArray)[k]? = if k < pl.o + i.toNat * pl.sz + off then arr[k]? else if k < pl.o + i.toNat * pl.sz + off + ux.cells.size then ux.cells[k - (pl.o + i.toNat * pl.sz + off)]? else arr[k]? := by
              intro k
              have := splice_get arr.toList ux.cells.toList (pl.o + i.toNat * pl.sz + off) k (by simp; rw [hsz, hz]; omega)
              simpa using this
            by_cases hij : j = i.toNat
            · subst hij
              have hlt' : i.toNat < xs.length := by omega
              rw [List.getElem?_set_self hlt'] at hj
              cases hj
              refine ⟨c, hy.keep (fun _ h => h) hS, fun k v hv => ?_⟩
              have hk : k < e.sz := by have := hy.len; have h2 := (List.getElem?_eq_some_iff.1 hv).1; omega
              rw [← he, splice_get _ _ _ _ (by simp; rw [hsz]; omega)] at hv
              rw [hget, hz]
              by_cases h3 : k < off
              · rw [if_pos h3] at hv
                rw [if_pos (by omega)]
                exact hc k v hv
              · rw [if_neg h3] at hv
                rw [if_neg (by omega)]
                by_cases h4 : k < off + ux.cells.toList.length
                · rw [if_pos h4] at hv
                  rw [if_pos (by simp at h4; omega)]
                  rw [show pl.o + i.toNat * e.sz + k - (pl.o + i.toNat * e.sz + off) = k - off by omega]
                  simpa using hv
                · rw [if_neg h4] at hv
                  rw [if_neg (by simp at h4; omega)]
                  exact hc k v hv
            · rw [List.getElem?_set_ne (fun e => hij e.symm)] at hj
              obtain ⟨ec', hd', hc'⟩ := hel j z hj
              refine ⟨ec', hd'.keep (fun _ h => h) hS, fun k v hv => ?_⟩
              have hk : k < e.sz := by have := hd'.len; have h2 := (List.getElem?_eq_some_iff.1 hv).1; omega
              rw [hget, hz]
              have hne : j * e.sz + e.sz ≤ i.toNat * e.sz ∨ i.toNat * e.sz + e.sz ≤ j * e.sz := by
                rcases Nat.lt_or_gt_of_ne hij with h5 | h5
                · left
                  have := Nat.mul_le_mul_right e.sz h5
                  rw [Nat.succ_mul] at this
                  exact this
                · right
                  have := Nat.mul_le_mul_right e.sz h5
                  rw [Nat.succ_mul] at this
                  exact this
              rcases hne with h6 | h6
              · rw [if_pos (by omega)]
                exact hc' k v hv
              · rw [if_neg (by omega), if_neg (by rw [hsz]; omega)]
                exact hc' k v hv
          · obtain ⟨q1, q2, q3, q4⟩ := ha te hte
            exact ⟨q1, q2, q3, by rw [List.size_toArray, hlist]; exact q4⟩
        obtain ⟨h2, k2⟩ := hI.setRow hm hf (x := .row e xs a) (x' := .row e (xs.set i.toNat y) a) hpc _ hbr
        exact ⟨h2, k2, h⟩
      · cases h
    · cases h
  · rename_i b off
    obtain ⟨pl, hf, rfl⟩ := hp.ref_inv
    split at h
    · rename_i cs hm
      replace h := ite_some h
      obtain ⟨hoff, h⟩ := h
      obtain ⟨ho, arr, T, hh, hr, ho1⟩ := hI.blk b _ pl hm hf
      have hlen : cs.length = arr.size := by simpa using hr.len
      have hrun := storeVar_run (P := P) hτ hn (o := pl.o + off) hh (.inl rfl) (by rw [hsz]; exact hl) h1 (by rw [hsz, ho]; omega)
      refine ⟨m.set b (.cells (splice cs x.cells off)), _, hrun, ?_⟩
      have hS : ∀ g, S g → (w.setRow pl.g (arr.toList.take (pl.o + off) ++ ux.cells.toList ++ arr.toList.drop (pl.o + off + ux.cells.size)).toArray).heap[g]? = w.heap[g]? := fun g hg => setRow_other w pl.g g _ (fun e => (hI.out b _ pl hm hf trivial).1 (e ▸ hg))
      have hbr : BRep F S (w.setRow pl.g (arr.toList.take (pl.o + off) ++ ux.cells.toList ++ arr.toList.drop (pl.o + off + ux.cells.size)).toArray) pl (.cells (splice cs x.cells off)) := by
        refine ⟨ho, _, T, setRow_heap w pl.g arr _ T _ hh, ?_, fun u hu => ?_⟩
        · have := (splice_rep (off := off) hr hxr).keep (F' := F) (S' := S) (w' := w.setRow pl.g (arr.toList.take (pl.o + off) ++ ux.cells.toList ++ arr.toList.drop (pl.o + off + ux.cells.size)).toArray) ⟨fun _ _ h => h, fun _ h => h, hS⟩
          simpa [ho] using this
        · simp only [List.mem_toArray, List.mem_append] at hu
          rcases hu with (hu | hu) | hu
          · exact ho1 u (by simpa using List.mem_of_mem_take hu)
          · exact h1 u (by simpa using hu)
          · exact ho1 u (by simpa using List.mem_of_mem_drop hu)
      obtain ⟨h2, k2⟩ := hI.setRow hm hf (x := .cells cs) (x' := .cells (splice cs x.cells off)) trivial _ hbr
      exact ⟨h2, k2, h⟩
    · cases h
  · cases h
end
end Go.Vi
