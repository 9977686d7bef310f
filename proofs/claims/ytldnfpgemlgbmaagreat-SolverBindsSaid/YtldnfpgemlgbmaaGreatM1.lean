/- What is proved in the end: SolverBinds returns true whatever the input, and its input reads as it did; no condition.
This text: FlatDefs, FlatRel, FlatOps, FlatOps2, FlatOps3, FlatOps4. -/
import Derived.Orders
import Derived.LoopN
import Derived.KernelRfl
import Derived.Laws.AppendOwn
import Derived.Great.BuildSlice

section
/- A pure evaluator for a part of the language: values without memory, a small memory of one's own, ways kept as a tree. Definitions. -/
namespace Go.Flat
open Go

/-- values: what is shared and never written stands in them as a whole ('vsl', 'vptr'); what is one's own is named by a block of the small memory ('ptr', 'lsl') -/
inductive AV where
  | lit (v : Value)
  | kb (b : Bool)
  | ki (k : IntKind) (n : Int)
  | nsl
  | vsl (kn : Bool) (esz len : Nat) (rows : Nat → List AV)
  | vptr (cells : List AV)
  | ptr (b esz row off : Nat)
  | lsl (kn : Bool) (b et esz len : Nat)
  | clo (f : FuncId) (captured : List AV)
  | iface (t : TypeId) (v : AV)
  | agg (cells : List AV)
  | tup (vs : List AV)
  | undef
  deriving Inhabited

inductive Blk where
  | one (cells : List AV)
  | many (et esz : Nat) (flat : Bool) (rows : List (List AV))
  deriving Inhabited

structure Slot where
  blk : Blk
  frozen : Bool
  deriving Inhabited

abbrev Mem := List (Option Slot)
abbrev Env := List (Nat × AV)

structure St where
  env : Env
  mem : Mem
  deriving Inhabited

inductive Ex where
  | normal
  | exit (id : Nat)
  | ret

inductive Tree (α : Type) where
  | leaf (x : α)
  | node (c : Bool) (t e : Tree α)
  | fail (why : Nat)

def Tree.holds {α : Type} (Q : α → Prop) : Tree α → Prop
  | .leaf x => Q x
  | .node c t e => (c = true → t.holds Q) ∧ (c = false → e.holds Q)
  | .fail _ => False

/-- conditions that must hold -/
def guards {α : Type} : List Bool → Tree α → Tree α
  | [], t => t
  | c :: cs, t => .node c (guards cs t) (.fail 1)

def look : Env → Nat → AV
  | [], _ => .undef
  | (u, v) :: r, t => bif Nat.beq u t then v else look r t

def inK (k : IntKind) (n : Int) : Bool := decide (k.min ≤ n) && decide (n ≤ k.max)

def ofLeaf : Value → AV
  | .bool b => .kb b
  | .int k n => bif inK k n then .ki k n else .undef
  | .string s => .lit (.string s)
  | .pointer none => .lit (.pointer none)
  | .slice none 0 0 => .nsl
  | .nilFunc => .lit .nilFunc
  | .nilIface => .lit .nilIface
  | .func (.func f) ⟨[]⟩ ⟨[]⟩ => .clo f []
  | _ => .undef

def ofConst : Value → AV
  | .agg cs => .agg (cs.toList.map ofLeaf)
  | v => ofLeaf v

def AV.cells : AV → List AV
  | .agg cs => cs
  | v => [v]

def AV.leaf : AV → Bool
  | .agg _ | .tup _ | .undef => false
  | _ => true

def constA (v : Value) : AV := bif (ofConst v).cells.all AV.leaf then ofConst v else .undef

def evF (g : Nat → AV) : Operand → AV
  | .tmp t => g t
  | .const v => constA v
  | .func f => .clo f []
  | .global _ => .undef

abbrev ev (env : Env) : Operand → AV := evF (look env)

/-- a value that is known to the sign as a value of the model: no memory in it -/
def leafV : AV → Option Value
  | .lit v => some v
  | .kb b => some (.bool b)
  | .ki k n => some (.int k n)
  | _ => none

def leavesV : List AV → Option (List Value)
  | [] => some []
  | a :: r => match leafV a with
    | some v => (match leavesV r with | some vs => some (v :: vs) | none => none)
    | none => none

def toV : AV → Option Value
  | .agg cs => match leavesV cs with | some vs => some (.agg vs.toArray) | none => none
  | a => leafV a

def known : AV → Bool
  | .kb _ | .ki _ _ => true
  | _ => false

/-- runs what asks the program alone -/
def det {α : Type} (P : Program) : Sem α → Option α
  | .pure a => some a
  | .program k => det P (k P)
  | _ => none

def ofRes (kn : Bool) : Value → Option AV
  | .bool b => some (bif kn then .kb b else .lit (.bool b))
  | .int k n => some (bif kn then .ki k n else .lit (.int k n))
  | .string s => some (.lit (.string s))
  | _ => none

def ofResB (kn : Bool) : Value → Option AV
  | .bool b => some (bif kn then .kb b else .lit (.bool b))
  | .string s => some (.lit (.string s))
  | _ => none

/-- two numbers may give a number; others a truth value or a string -/
def ofRes2 (kn : Bool) (a b r : Value) : Option AV :=
  match a, b with
  | .int _ _, .int _ _ => ofRes kn r
  | _, _ => ofResB kn r

def szOf (P : Program) (t : TypeId) : Option Nat := match P.info? t with | some i => some i.size | none => none

def aggT (P : Program) (t : TypeId) : Option Bool :=
  match P.underlying t with
  | some (.struct _) | some (.array _ _) => some true
  | some _ => some false
  | none => none

def zeroA (P : Program) (t : TypeId) : Option AV :=
  match P.info? t with
  | some i => (match i.zero with | some v => some (ofConst v) | none => none)
  | none => none

def takeN : Nat → List AV → Option (List AV)
  | 0, _ => some []
  | n + 1, a :: r => match takeN n r with | some l => some (a :: l) | none => none
  | _ + 1, [] => none

/-- writes cells over a list, from a place on -/
def over : List AV → Nat → List AV → List AV
  | l, _, [] => l
  | [], _, _ :: _ => []
  | _ :: l, 0, v :: vs => v :: over l 0 vs
  | a :: l, n + 1, v :: vs => a :: over l n (v :: vs)

def getSlot (mem : Mem) (b : Nat) : Option Slot := match mem[b]? with | some (some s) => some s | _ => none

abbrev Rng := Nat × Nat × Nat      -- a block, a place, how many cells (0: the whole block)
def whole (b : Nat) : Rng := (b, 0, 0)

/-- the cells behind a pointer, from it on, and where they lie -/
def behind (mem : Mem) (n : Nat) : AV → Option (List AV × List Rng)
  | .vptr cs => some (cs, [])
  | .ptr b esz row off => match getSlot mem b with
    | some ⟨.one cs, _⟩ => bif Nat.beq row 0 then some (cs.drop off, [(b, off, n)]) else none
    | some ⟨.many _ esz' _ rows, _⟩ => bif Nat.beq esz esz' then (match rows[row]? with
        | some r => some (r.drop off, [whole b])
        | none => none) else none
    | none => none
  | _ => none

def loadA (P : Program) (mem : Mem) (t : TypeId) (a : AV) : Option (AV × List Rng) :=
  match aggT P t with
  | some true => (match szOf P t with
    | some n => (match behind mem n a with
      | some (cs, g) => (match takeN n cs with | some l => some (.agg l, g) | none => none)
      | none => none)
    | none => none)
  | some false => (match behind mem 1 a with
    | some (c :: _, g) => some (c, g)
    | _ => none)
  | none => none

def noLoc : AV → Bool
  | .ptr .. | .lsl .. => false
  | .clo _ [] => true
  | .clo _ _ | .iface _ _ | .tup _ | .agg _ => false
  | _ => true

inductive W1 where
  | put (b : Nat) (s : Option Slot)
  | cells (b off : Nat) (vs : List AV)
abbrev Upd := List W1

structure Eff where
  v : AV
  upd : Upd
  conds : List Bool
  reads : List Rng
  writes : List Rng

def Eff.val (v : AV) (g : List Bool := []) : Eff := ⟨v, [], g, [], []⟩

def storeA (P : Program) (mem : Mem) (t : TypeId) (a v : AV) : Option Eff :=
  match a with
  | .ptr b esz row off => match szOf P t with
    | some n => bif (Nat.beq v.cells.length n && v.cells.all AV.leaf && !Nat.beq n 0) then (match getSlot mem b with
      | some ⟨.one cs, false⟩ => bif Nat.beq row 0 && Nat.ble (off + n) cs.length then some ⟨.undef, [.cells b off v.cells], [], [], [(b, off, n)]⟩ else none
      | some ⟨.many et esz' fl rows, false⟩ => bif Nat.beq esz esz' then
          (bif Nat.beq off 0 && Nat.beq n esz then some ⟨.undef, [.put b (some ⟨.many et esz (fl && v.cells.all noLoc) (rows.set row v.cells), false⟩)], [decide (row < rows.length)], [], [whole b]⟩
          else match rows[row]? with
            | some r => bif Nat.ble (off + n) r.length then some ⟨.undef, [.put b (some ⟨.many et esz (fl && v.cells.all noLoc) (rows.set row (over r off v.cells)), false⟩)], [], [], [whole b]⟩ else none
            | none => none) else none
      | _ => none)
      else none
    | none => none
  | _ => none

def fieldOf (P : Program) (t : TypeId) (f : Nat) : Option (Nat × TypeId) :=
  match P.underlying t with
  | some (.struct fs) => match fs[f]? with | some x => some (x.offset, x.type) | none => none
  | _ => none

def offPtr (a : AV) (n : Nat) : Option AV :=
  match a with
  | .vptr cs => some (.vptr (cs.drop n))
  | .ptr b esz row off => some (.ptr b esz row (off + n))
  | _ => none

def partA (P : Program) (t : TypeId) (cs : List AV) (off : Nat) : Option AV :=
  match aggT P t with
  | some true => (match szOf P t with
    | some n => (match takeN n (cs.drop off) with | some l => some (.agg l) | none => none)
    | none => none)
  | some false => cs[off]?
  | none => none

def fillA (place : Nat → Option (Nat × Nat)) (cells : List AV) : List (Nat × AV) → Option (List AV)
  | [] => some cells
  | (i, v) :: rest => match place i with
    | none => none
    | some (off, size) => bif (Nat.beq v.cells.length size && v.cells.all AV.leaf && Nat.ble (off + size) cells.length) then
        fillA place (over cells off v.cells) rest else none

def buildA (P : Program) (t : TypeId) (parts : List (Nat × AV)) : Option AV :=
  match zeroA P t with
  | some z => bif z.cells.all AV.leaf then (match P.underlying t with
    | some (.struct fs) => (match fs.toList.mapM (fun f => (P.info? f.type).map fun i => (f.offset, i.size)) with
      | some places => (match fillA (fun i => places[i]?) z.cells parts with
        | some l => some (.agg l) | none => none)
      | none => none)
    | some (.array _ e) => (match szOf P e with
      | some n => (match fillA (fun i => some (i * n, n)) z.cells parts with
        | some l => some (.agg l) | none => none)
      | none => none)
    | _ => none) else none
  | none => none

def repl : Nat → List AV → List AV
  | 0, _ => []
  | n + 1, l => l ++ repl n l

def buildSliceA (P : Program) (t : TypeId) (len : Nat) (parts : List (Nat × AV)) : Option AV :=
  match P.underlying t with
  | some (.slice e) => match szOf P e with
    | some n => (match zeroA P e with
      | some z => bif z.cells.all AV.leaf && Nat.beq z.cells.length n && !Nat.beq n 0 && !Nat.beq len 0 && Nat.ble (len * n) 16777216 then
        (match fillA (fun i => some (i * n, n)) (repl len z.cells) parts with
        | some l => bif l.all noLoc then some (.vsl true n len (fun r => (l.drop (r * n)).take n)) else none
        | none => none) else none
      | none => none)
    | none => none
  | _ => none

def intOf : AV → Option (Int × Bool)
  | .lit (.int _ n) => some (n, false)
  | .ki _ n => some (n, true)
  | _ => none

/-- an index within bounds: known ones are decided, others become conditions -/
def inB (z : Int) (len : Nat) (kn : Bool) (v : AV) : Option Eff :=
  match kn with
  | true => bif decide (0 ≤ z) && decide (z < (len : Int)) then some (.val v) else none
  | false => some (.val v [decide (0 ≤ z) && decide (z < (len : Int))])

def indexAddrA (P : Program) (t : TypeId) (x i : AV) : Option Eff :=
  match intOf i with
  | some (z, kz) => match P.underlying t with
    | some (.array len e) => (match szOf P e with
      | some n => (match offPtr x (z.toNat * n) with
        | some p => inB z len kz p
        | none => none)
      | none => none)
    | some (.slice e) => (match szOf P e with
      | some n => (match x with
        | .vsl kn esz len rows => bif Nat.beq n esz then inB z len (kn && kz) (.vptr (rows z.toNat)) else none
        | .lsl kn b _ esz len => bif Nat.beq n esz then inB z len (kn && kz) (.ptr b esz z.toNat 0) else none
        | _ => none)
      | none => none)
    | _ => none
  | none => none

def binA (P : Program) (op : BinOp) (t : TypeId) (xo yo : Operand) (x y : AV) : Option Eff :=
  match toV x with
  | some a => (match toV y with
    | some b => (match det P (do eqGuard op t xo yo a b; binOp op t a b) with
      | some r => (match ofRes2 (known x && known y) a b r with | some v => some (.val v) | none => none)
      | none => none)
    | none => none)
  | none => none

/-- the cells of a part, as values -/
def cutV (P : Program) (t : TypeId) (xs : List Value) (off : Nat) : Option (List Value) :=
  match aggT P t with
  | some true => (match szOf P t with
    | some n => bif Nat.ble (off + n) xs.length then some ((xs.drop off).take n) else none
    | none => none)
  | some false => (match xs[off]? with
    | some v => some [v]
    | none => none)
  | none => none

def conjO {α : Type} (f : α → Option Bool) : List α → Option Bool
  | [] => some true
  | a :: r => match f a with
    | some b => (match conjO f r with
      | some c => some (b && c)
      | none => none)
    | none => none

def eqPart (cut : List Value → Option (List Value)) (eq : List Value → List Value → Option Bool) (xs ys : List Value) : Option Bool :=
  match cut xs with
  | some a => (match cut ys with
    | some b => eq a b
    | none => none)
  | none => none

/-- whether cells are equal, of a type without strings and addresses -/
def eqC (P : Program) : Nat → TypeId → List Value → List Value → Option Bool
  | 0, _, _, _ => none
  | d + 1, t, xs, ys => match P.underlying t with
    | some .bool => (match xs with
      | [.bool a] => (match ys with
        | [.bool b] => some (a == b)
        | _ => none)
      | _ => none)
    | some (.int _) => (match xs with
      | [.int k a] => (match ys with
        | [.int k' b] => bif decide (k = k') then some (a == b) else none
        | _ => none)
      | _ => none)
    | some (.struct fs) => bif P.stoodInHeld t then none else
        conjO (fun f => bif f.name == "_" then none else eqPart (fun l => cutV P f.type l f.offset) (fun a b => eqC P d f.type a b) xs ys) fs.toList
    | some (.array n e) => (match szOf P e with
      | some sz => conjO (fun i => eqPart (fun l => cutV P e l (i * sz)) (fun a b => eqC P d e a b) xs ys) (List.range n)
      | none => none)
    | _ => none

def eqA (P : Program) (ne : Bool) (t : TypeId) (x y : AV) : Option Eff :=
  match toV x with
  | some (.agg a) => (match toV y with
    | some (.agg b) => bif P.eqGuardType P.depth t then none else (match aggT P t with
      | some true => (match eqC P 100 t a.toList b.toList with
        | some r => some (.val (bif x.cells.all known && y.cells.all known then .kb (bif ne then !r else r) else .lit (.bool (bif ne then !r else r))))
        | none => none)
      | _ => none)
    | _ => none)
  | _ => none

/-- operations that may stop: by a number that is not known -/
def divV (op : BinOp) (k : IntKind) (a b : Int) : Option (Value × Bool) :=
  match op with
  | .quo => some (.int k (k.wrap (a.tdiv b)), !decide (b = 0))
  | .rem => some (.int k (a.tmod b), !decide (b = 0))
  | .shl => some (.int k (k.wrap (a * 2 ^ (min b.toNat k.bits))), decide (0 ≤ b))
  | .shr => some (.int k (a.fdiv (2 ^ (min b.toNat k.bits))), decide (0 ≤ b))
  | _ => none

def isShift : BinOp → Bool
  | .shl | .shr => true
  | _ => false

def divA (op : BinOp) (x y : AV) : Option Eff :=
  match leafV x with
  | some (.int k a) => (match leafV y with
    | some (.int k' b) => bif (decide (k = k') || isShift op) then
        (match divV op k a b with
        | some (v, c) => some (.val (.lit v) [c])
        | none => none) else none
    | _ => none)
  | _ => none

def binX (P : Program) (op : BinOp) (t : TypeId) (xo yo : Operand) (x y : AV) : Option Eff :=
  match op with
  | .eql => (match x, y with
    | .agg _, .agg _ => eqA P false t x y
    | _, _ => binA P op t xo yo x y)
  | .neq => (match x, y with
    | .agg _, .agg _ => eqA P true t x y
    | _, _ => binA P op t xo yo x y)
  | .quo => bif known y then binA P .quo t xo yo x y else divA .quo x y
  | .rem => bif known y then binA P .rem t xo yo x y else divA .rem x y
  | .shl => bif known y then binA P .shl t xo yo x y else divA .shl x y
  | .shr => bif known y then binA P .shr t xo yo x y else divA .shr x y
  | op => binA P op t xo yo x y

/-- a value as the callee may see it: nothing of one's own memory in it; the blocks that it shows; what must hold -/
def viewFlat (mem : Mem) : AV → Option (AV × List Nat × List Bool)
  | .ptr b esz row off => match getSlot mem b with
    | some ⟨.one cs, _⟩ => bif Nat.beq row 0 && cs.all noLoc then some (.vptr (cs.drop off), [b], []) else none
    | some ⟨.many _ esz' true rows, _⟩ => bif Nat.beq esz esz' then (match rows[row]? with | some r => some (.vptr (r.drop off), [b], []) | none => none) else none
    | _ => none
  | .lsl kn b et esz len => match getSlot mem b with
    | some ⟨.many et' esz' true rows, _⟩ => bif Nat.beq et et' && Nat.beq esz esz' then some (.vsl kn esz len (fun r => rows.getD r []), [b], [Nat.ble len rows.length]) else none
    | _ => none
  | .agg cs => bif cs.all noLoc then some (.agg cs, [], []) else none
  | .tup _ | .undef | .iface _ _ => none
  | .clo f [] => some (.clo f [], [], [])
  | .clo _ _ => none
  | a => some (a, [], [])

/-- cells, each as the callee may see it -/
def viewCells (mem : Mem) : List AV → Option (List AV × List Nat × List Bool)
  | [] => some ([], [], [])
  | a :: r => match viewFlat mem a with
    | some (v, b, g) => bif v.leaf then (match viewCells mem r with
      | some (vs, bs, gs) => some (v :: vs, b ++ bs, g ++ gs)
      | none => none) else none
    | none => none

def viewTop (mem : Mem) (a : AV) : Option (AV × List Nat × List Bool) :=
  match a with
  | .agg cs => (match viewCells mem cs with
    | some (vs, bs, gs) => some (.agg vs, bs, gs)
    | none => none)
  | a => viewFlat mem a

def viewAll (mem : Mem) : List AV → Option (List AV × List Nat × List Bool)
  | [] => some ([], [], [])
  | a :: r => match viewTop mem a with
    | some (v, b, g) => (match viewAll mem r with
      | some (vs, bs, gs) => some (v :: vs, b ++ bs, g ++ gs)
      | none => none)
    | none => none

/-- a value in which nothing refers to memory -/
def noRef : AV → Bool
  | .lit _ | .kb _ | .ki _ _ | .nsl => true
  | .clo _ [] => true
  | _ => false
def noRef1 : AV → Bool
  | .agg cs => cs.all noRef
  | a => noRef a
def noRefs : AV → Bool
  | .tup vs => vs.all noRef1
  | a => noRef1 a

def freeze (mem : Mem) : List Nat → Upd
  | [] => []
  | b :: r => match getSlot mem b with
    | some s => .put b (some { s with frozen := true }) :: freeze mem r
    | none => freeze mem r

abbrev Orc := FuncId → List AV → Option (AV × List Bool)

structure Ctx where
  P : Program
  orc : Orc
  isOrc : FuncId → Bool
  hints : FuncId → Nat → Option (List Nat × Nat)
  /-- calls that write to what they are handed: the result, the memory behind, what must hold -/
  wr : FuncId → List AV → Mem → Option (AV × Mem × List Bool)
  /-- nil slices at the head of a loop that are one's own from there on: which, of what element type and size -/
  nils : FuncId → Nat → List (Nat × Nat × Nat)
  /-- calls that read and write what they reach: they may stand where an order is drawn -/
  wl : FuncId → Option (List AV → Mem → Option (AV × Mem × List Bool)) := fun _ => none
  /-- calls that read some blocks and write none: the blocks; the result out of them, and what must hold -/
  rd : FuncId → Option (List AV → List Nat × (List (Option Slot) → Option (AV × List Bool))) := fun _ => none
  /-- calls that make blocks out of what they are handed: how many slots they are given; the result and the blocks, and what must hold -/
  nw : FuncId → Nat := fun _ => 0
  nwRun : FuncId → List AV → Option (AV × Mem × List Bool) := fun _ _ => none

/-- how many slots an operation needs -/
def slotsOf (C : Ctx) : Op → Nat
  | .alloc _ | .box _ _ | .makeSlice .. => 1
  | .buildSlice _ len _ => bif Nat.beq len 0 then 1 else 0
  | .call { callee := .builtin .append, .. } => 1
  | .call { callee := .value (.func g), .. } => C.nw g
  | _ => 0

def bytesOk (P : Program) (e : TypeId) : Bool := match P.info? e with | some i => Nat.ble i.bytes 8388608 | none => false

def elemOk (P : Program) (e : TypeId) (n : Nat) : Bool := match zeroA P e with
  | some z => z.cells.all AV.leaf && Nat.beq z.cells.length n
  | none => false

/-- the rows that a viewed source adds -/
def addOf (n : Nat) : AV → Option (List (List AV) × Bool)
  | .nsl => some ([], true)
  | .vsl kn n' len rows => bif Nat.beq n n' then some ((List.range len).map rows, kn) else none
  | _ => none

def appendA (P : Program) (mem : Mem) (slot : Nat) (t : TypeId) (s x : AV) : Option Eff :=
  match P.underlying t with
  | some (.slice e) => match szOf P e with
    | some n => bif Nat.beq n 0 || !bytesOk P e || !elemOk P e n then none else (match viewFlat mem x with
      | some (x', tx, gx) =>
        (match addOf n x' with
        | none => none
        | some (rows2, kx) => (match s with
          | .nsl => some ⟨.lsl kx slot e n rows2.length, [.put slot (some ⟨.many e n true rows2, false⟩)], (decide (rows2.length < 16777216) :: gx), tx.map whole, [whole slot]⟩
          | .lsl kn b et n' len => (match getSlot mem b with
            | some ⟨.many et' n'' true rows, false⟩ => bif Nat.beq e et && Nat.beq e et' && Nat.beq n n' && Nat.beq n n'' then
                some ⟨.lsl (kn && kx) slot e n (len + rows2.length), [.put b none, .put slot (some ⟨.many e n true (rows ++ rows2), false⟩)], (decide (rows.length = len) :: decide (len + rows2.length < 16777216) :: gx), tx.map whole, [whole b, whole slot]⟩ else none
            | _ => none)
          | _ => none))
      | none => none)
    | none => none
  | _ => none

def lenA : AV → Option AV
  | .nsl => some (.ki .i64 0)
  | .vsl kn _ len _ => some (bif kn then .ki .i64 len else .lit (.int .i64 len))
  | .lsl kn _ _ _ len => some (bif kn then .ki .i64 len else .lit (.int .i64 len))
  | _ => none

/-- the rest of a shared slice from a known place on -/
def sliceFromA (P : Program) (t : TypeId) (x lo : AV) : Option Eff :=
  match P.underlying t with
  | some (.slice e) => match szOf P e with
    | some n => match x with
      | .vsl kn esz len rows => match lo with
        | .ki .i64 z => bif Nat.beq n esz && decide (0 ≤ z) then some (.val (.vsl kn esz (len - z.toNat) fun r => rows (r + z.toNat)) [decide (z ≤ (len : Int))]) else none
        | _ => none
      | _ => none
    | none => none
  | _ => none

def callA (C : Ctx) (mem : Mem) (f : FuncId) (args : List AV) : Option Eff :=
  match viewAll mem args with
  | some (vs, tb, gv) => match C.orc f vs with
    | some (r, g) => bif noRefs r then some ⟨r, [], gv ++ g, tb.map whole, []⟩ else some ⟨r, freeze mem tb, gv ++ g, tb.map whole, tb.map whole⟩
    | none => none
  | none => none

/-- other names for blocks -/
def renL (σ : Nat → Nat) : AV → AV
  | .ptr b e r o => .ptr (σ b) e r o
  | .lsl kn b et esz len => .lsl kn (σ b) et esz len
  | a => a
def renBlk (σ : Nat → Nat) : Blk → Blk
  | .one cs => .one (cs.map (renL σ))
  | .many et esz false rows => .many et esz false (rows.map fun r => r.map (renL σ))
  | .many et esz true rows => .many et esz true rows
def renSlot (σ : Nat → Nat) (s : Slot) : Slot := ⟨renBlk σ s.blk, s.frozen⟩
def ren1 (σ : Nat → Nat) : AV → AV
  | .agg cs => .agg (cs.map (renL σ))
  | .clo f cs => .clo f (cs.map (renL σ))
  | .iface t v => .iface t (renL σ v)
  | a => renL σ a

def locsOf : AV → List Nat
  | .ptr b .. => [b]
  | .lsl _ b .. => [b]
  | _ => []
def locs1 : AV → List Nat
  | .agg cs | .clo _ cs => cs.flatMap locsOf
  | .iface _ v => locsOf v
  | a => locsOf a
def slotLocs : Option Slot → List Nat
  | some ⟨.one cs, _⟩ => cs.flatMap locsOf
  | some ⟨.many _ _ false rows, _⟩ => rows.flatMap fun r => r.flatMap locsOf
  | _ => []
def addNew (base : Nat) : List Nat → List Nat → List Nat
  | acc, [] => acc
  | acc, b :: r => bif Nat.blt b base || acc.any (Nat.beq b) then addNew base acc r else addNew base (acc ++ [b]) r
def idxOf (b : Nat) : List Nat → Nat
  | [] => 0
  | c :: r => bif Nat.beq c b then 0 else idxOf b r + 1
/-- a value whose places are among some -/
def okP (p : Nat → Bool) : AV → Bool
  | .ptr b .. => p b
  | .lsl _ b .. => p b
  | .clo _ [] => true
  | .clo _ _ | .iface _ _ | .tup _ | .agg _ => false
  | _ => true
def okP1 (p : Nat → Bool) : AV → Bool
  | .agg cs => cs.all (okP p)
  | .clo _ cs => cs.all (okP p)
  | .iface _ v => okP p v
  | a => okP p a
def slotP (p : Nat → Bool) : Option Slot → Bool
  | none => true
  | some ⟨.one cs, _⟩ => cs.all (okP p)
  | some ⟨.many _ _ true _, _⟩ => true
  | some ⟨.many _ _ false rows, _⟩ => rows.all fun r => r.all (okP p)
def nodupB : List Nat → Bool
  | [] => true
  | a :: r => !r.any (Nat.beq a) && nodupB r

/-- the blocks that some values reach in two steps -/
def closeOf (mem : Mem) (args : List AV) : List Nat :=
  let l := addNew 0 [] (args.flatMap locs1)
  addNew 0 l (l.flatMap fun b => slotLocs (getSlot mem b))
def inL (bs : List Nat) (b : Nat) : Bool := bs.any (Nat.beq b)
def resP (p : Nat → Bool) : AV → Bool
  | .tup vs => vs.all (okP1 p)
  | a => okP1 p a
def renR (σ : Nat → Nat) : AV → AV
  | .tup vs => .tup (vs.map (ren1 σ))
  | a => ren1 σ a
def nthB (bs : List Nat) (i : Nat) : Nat := bs.getD i 0
/-- a call that reads and writes what it reaches, and nothing else: its contract speaks of that memory alone -/
def mutA (C : Ctx) (mem : Mem) (g : FuncId) (args : List AV) : Option Eff :=
  match C.wl g with
  | none => none
  | some run =>
    let bs := closeOf mem args
    let ss := bs.map (getSlot mem)
    bif nodupB bs && (args.all (okP1 (inL bs)) && ss.all fun s => s.isSome && slotP (inL bs) s) then
      (match run (args.map (ren1 fun b => idxOf b bs)) (ss.map fun s => s.map (renSlot fun b => idxOf b bs)) with
      | some (r, m1, cs) => bif Nat.beq m1.length bs.length && (resP (fun b => Nat.blt b bs.length) r && m1.all fun s => s.isSome && slotP (fun b => Nat.blt b bs.length) s) then
          some ⟨renR (nthB bs) r, (bs.zip m1).map (fun x => .put x.1 (x.2.map (renSlot (nthB bs)))), cs, bs.map whole, bs.map whole⟩ else none
      | none => none)
    else none

/-- a call that reads some blocks and writes none -/
def readA (C : Ctx) (mem : Mem) (g : FuncId) (args : List AV) : Option Eff :=
  match C.rd g with
  | some run => (match (run args).2 ((run args).1.map (getSlot mem)) with
    | some (r, cs) => some ⟨r, [], cs, (run args).1.map whole, []⟩
    | none => none)
  | none => mutA C mem g args

/-- a call that makes blocks -/
def newA (C : Ctx) (slot : Nat) (g : FuncId) (args : List AV) : Option Eff :=
  match C.nwRun g args with
  | some (r, m1, cs) =>
    let bs := (List.range m1.length).map (slot + ·)
    bif args.all (okP1 fun _ => false) && (Nat.ble m1.length (C.nw g) && (resP (fun b => Nat.blt b m1.length) r && m1.all fun s => s.isSome && slotP (fun b => Nat.blt b m1.length) s)) then
      some ⟨renR (nthB bs) r, (bs.zip m1).map (fun x => .put x.1 (x.2.map (renSlot (nthB bs)))), cs, [], bs.map whole⟩ else none
  | none => none
def newOf (C : Ctx) : Operand → Option FuncId
  | .func g => bif Nat.beq (C.nw g) 0 then none else some g
  | _ => none
def restA (C : Ctx) (mem : Mem) (slot : Nat) (fo : Operand) (g : FuncId) (args : List AV) : Option Eff :=
  match newOf C fo with
  | some h => bif Nat.beq h g then newA C slot g args else none
  | none => readA C mem g args

def intsK (k : IntKind) : List AV → Option (List Value)
  | [] => some []
  | a :: r => match leafV a with
    | some (.int k' n) => bif decide (k = k') then (match intsK k r with | some vs => some (.int k n :: vs) | none => none) else none
    | _ => none

def kindOf : List AV → IntKind
  | .lit (.int k _) :: _ => k
  | .ki k _ :: _ => k
  | _ => .i64

def detRes (P : Program) (kn : Bool) (s : Sem Value) : Option Eff :=
  match det P s with
  | some r => (match ofRes kn r with | some v => some (.val v) | none => none)
  | none => none

def notIface (P : Program) (t : TypeId) : Bool := match P.underlying t with
  | some (.interface _) => false
  | some _ => true
  | none => false

def valO : Option AV → Option Eff
  | some v => some (.val v)
  | none => none

def emptyA {α : Type} (P : Program) (slot : Nat) (t : TypeId) (parts : List α) : Option Eff :=
  match parts with
  | [] => (match P.underlying t with
    | some (.slice e) => (match szOf P e with
      | some n => bif Nat.beq n 0 then none else some ⟨.lsl true slot e n 0, [.put slot (some ⟨.many e n true [], false⟩)], [], [], [whole slot]⟩
      | none => none)
    | _ => none)
  | _ => none

/-- one operation that does not part the way -/
def simple (C : Ctx) (mem : Mem) (slot : Nat) (ρ : Operand → AV) (o : Oper) : Option Eff :=
  match o.op with
  | .move x => some (.val (ρ x))
  | .assign x => some (.val (ρ x))
  | .pick c a b => match ρ c with
    | .kb true => some (.val (ρ a))
    | .kb false => some (.val (ρ b))
    | _ => none
  | .alloc t => match zeroA C.P t with
    | some z => bif z.cells.all AV.leaf then some ⟨.ptr slot z.cells.length 0 0, [.put slot (some ⟨.one z.cells, false⟩)], [], [], [whole slot]⟩ else none
    | none => none
  | .box _ x => bif (ρ x).cells.all AV.leaf then some ⟨.ptr slot (ρ x).cells.length 0 0, [.put slot (some ⟨.one (ρ x).cells, false⟩)], [], [], [whole slot]⟩ else none
  | .build t parts => valO (buildA C.P t (parts.toList.map fun (i, x) => (i, ρ x)))
  | .buildSlice t len parts => bif Nat.beq len 0 then emptyA C.P slot t parts.toList else valO (buildSliceA C.P t len (parts.toList.map fun (i, x) => (i, ρ x)))
  | .load t a => match loadA C.P mem t (ρ a) with
    | some (v, g) => some ⟨v, [], [], g, []⟩ | none => none
  | .store t a x => storeA C.P mem t (ρ a) (ρ x)
  | .nilCheck x => match ρ x with
    | .ptr b e r off => some (.val (.ptr b e r off))
    | .vptr cs => some (.val (.vptr cs))
    | _ => none
  | .binOp op t x y _ => binX C.P op t x y (ρ x) (ρ y)
  | .unOp op _ x => match leafV (ρ x) with
    | some a => detRes C.P (known (ρ x)) (Op.unary op a)
    | none => none
  | .convert s d x => match leafV (ρ x) with
    | some (.int _ n) => (match C.P.underlying s with
      | some _ => (match C.P.underlying d with
        | some (.int k) => some (.val (bif known (ρ x) then .ki k (k.wrap n) else .lit (.int k (k.wrap n))))
        | _ => none)
      | none => none)
    | _ => none
  | .fieldAddr t x f => match fieldOf C.P t f with
    | some (off, u) => (match szOf C.P u with
      | some n => bif Nat.beq n 0 then none else valO (offPtr (ρ x) off)
      | none => none)
    | none => none
  | .field t x f => match fieldOf C.P t f with
    | some (off, u) => (match ρ x with
      | .agg cs => valO (partA C.P u cs off)
      | _ => none)
    | _ => none
  | .indexAddr t x i => indexAddrA C.P t (ρ x) (ρ i)
  | .extract x i => match ρ x with
    | .tup vs => valO vs[i]?
    | _ => none
  | .makeFunc fn first cap => match fn with
    | .func f => (match first.toList with
      | [] => some (.val (.clo f (cap.toList.map ρ)))
      | _ => none)
    | _ => none
  | .makeInterface t x => bif notIface C.P t && (ρ x).leaf then some (.val (.iface t (ρ x))) else none
  | .typeAssert x _ t true => match ρ x with
    | .iface u v => bif notIface C.P t then (bif Nat.beq u t then some (.val (.tup [v, .kb true])) else (match zeroA C.P t with | some z => bif z.cells.all AV.leaf then some (.val (.tup [z, .kb false])) else none | none => none)) else none
    | _ => none
  | .makeSlice t l c => match C.P.underlying t with
    | some (.slice e) => (match intOf (ρ l) with
      | some (z, kz) => (match intOf (ρ c) with
        | some (z', _) => (match szOf C.P e with
          | some n => (match zeroA C.P e with
            | some zr => bif zr.cells.all AV.leaf && zr.cells.all noLoc && Nat.beq zr.cells.length n && !Nat.beq n 0 && bytesOk C.P e then
                some ⟨.lsl kz slot e n z.toNat, [.put slot (some ⟨.many e n true (List.replicate z.toNat zr.cells), false⟩)], [decide (z = z'), decide (0 ≤ z) && decide (z < 16777216)], [], [whole slot]⟩ else none
            | none => none)
          | none => none)
        | none => none)
      | none => none)
    | _ => none
  | .slice t x (some lo) none none => sliceFromA C.P t (ρ x) (ρ lo)
  | .call { callee := .builtin .len, args, argTypes } => match args.toList.map ρ with
    | [a] => (match argTypes.toList with
      | [t] => (match C.P.underlying t with
        | some (.slice _) => valO (lenA a)
        | _ => none)
      | _ => none)
    | _ => none
  | .call { callee := .builtin .append, args, argTypes } => match args.toList.map ρ with
    | [s, x] => (match argTypes.toList with
      | [t, t'] => bif Nat.beq t t' then appendA C.P mem slot t s x else none
      | _ => none)
    | _ => none
  | .call { callee := .builtin .max, args, .. } => match intsK (kindOf (args.toList.map ρ)) (args.toList.map ρ) with
    | some vs => detRes C.P ((args.toList.map ρ).all known) (Builtin.max_ #[] 0 vs.toArray)
    | none => none
  | .call { callee := .builtin .min, args, .. } => match intsK (kindOf (args.toList.map ρ)) (args.toList.map ρ) with
    | some vs => detRes C.P ((args.toList.map ρ).all known) (Builtin.min_ #[] 0 vs.toArray)
    | none => none
  | .call { callee := .value fo, args, .. } => match ρ fo with
    | .clo f cap => bif C.isOrc f then callA C mem f (args.toList.map ρ ++ cap) else restA C mem slot fo f (args.toList.map ρ ++ cap)
    | _ => none
  | _ => none

def apply1 (mem : Mem) : W1 → Mem
  | .put b s => mem.set b s
  | .cells b off vs => match mem[b]? with
    | some (some ⟨.one cs, fr⟩) => mem.set b (some ⟨.one (over cs off vs), fr⟩)
    | _ => mem

def applyU (mem : Mem) (u : Upd) : Mem := u.foldl apply1 mem

def putA (env : Env) (dst : Option Nat) (v : AV) : Env :=
  match dst with
  | some d => (d, v) :: env
  | none => env

/-- conflict of two footprints -/
def meet1 (x y : Rng) : Bool :=
  Nat.beq x.1 y.1 && (Nat.beq x.2.2 0 || Nat.beq y.2.2 0 || (Nat.blt x.2.1 (y.2.1 + y.2.2) && Nat.blt y.2.1 (x.2.1 + x.2.2)))
def meets (xs ys : List Rng) : Bool := xs.any fun x => ys.any fun y => meet1 x y
structure Log where
  i : Nat
  reads : List Rng
  writes : List Rng
def clash (x y : Log) : Bool := meets x.writes y.writes || meets x.writes y.reads || meets x.reads y.writes

def binding (e : Edge) : Bool := Region.binds .any e
/-- all that must come ahead of each operation, by bit masks -/
def aheads : List Oper → List Nat → List Nat
  | [], acc => acc
  | o :: r, acc => aheads r (acc ++ [o.after.toList.foldl (fun s e => bif binding e then s ||| 2 ^ e.on ||| acc.getD e.on 0 else s) 0])

def namesOf (ops : List Oper) (o : Oper) : List Nat :=
  o.dst.toList ++ (o.op.operands.toList.filterMap fun | .tmp t => some t | _ => none) ++
    (match o.guard with | some (j, _) => (match ops[j]? with | some p => p.dst.toList | none => []) | none => [])

def tmpClash (ops : List Oper) (x y : Oper) : Bool :=
  (match x.dst with | some d => (namesOf ops y).any (Nat.beq d) | none => false) ||
  (match y.dst with | some d => (namesOf ops x).any (Nat.beq d) | none => false)

def getO {α : Type} (l : List α) (i : Nat) (d : α) : α := match l[i]? with | some x => x | none => d

/-- a region that draws its order: what is not ordered does not meet -/
def drawOk (ops : List Oper) (log : List Log) : Bool :=
  let a := aheads ops []
  (ops.zipIdx.all fun x => x.1.after.toList.all fun e => !binding e || Nat.blt e.on x.2) &&
  (ops.zipIdx.all fun x => ops.zipIdx.all fun y => !Nat.blt y.2 x.2 || (getO a x.2 0).testBit y.2 || !tmpClash ops x.1 y.1) &&
  log.all fun y => log.all fun x => !Nat.blt x.i y.i || (getO a y.i 0).testBit x.i || !clash x y

def resOf (C : Ctx) (env : Env) (mem : Mem) : ResultVar → Option AV
  | .tmp t => some (look env t)
  | .cell a t => match loadA C.P mem t (look env a) with
    | some (v, _) => some v
    | none => none

def resAll (C : Ctx) (env : Env) (mem : Mem) : List ResultVar → Option (List AV)
  | [] => some []
  | r :: rs => match resOf C env mem r with
    | some v => (match resAll C env mem rs with
      | some vs => some (v :: vs)
      | none => none)
    | none => none

def results1 (l : List AV) : AV := match l with | [a] => a | l => .tup l

def bindArgs : Nat → List AV → Env
  | _, [] => []
  | n, a :: r => (n, a) :: bindArgs (n + 1) r

def firstReg : Code → Option Nat
  | .region id _ _ => some id
  | .seq a b => match firstReg a with | some n => some n | none => firstReg b
  | .block _ c | .scope c | .loop c => firstReg c
  | _ => none

def locBelow (n : Nat) : AV → Bool
  | .ptr b .. | .lsl _ b .. => Nat.blt b n
  | .clo _ [] => true
  | .clo _ _ | .iface _ _ | .tup _ | .agg _ => false
  | _ => true
def locsBelow1 (n : Nat) : AV → Bool
  | .agg cs => cs.all (locBelow n)
  | .clo _ cs => cs.all (locBelow n)
  | .iface _ v => locBelow n v
  | a => locBelow n a
def locsBelow (n : Nat) : AV → Bool
  | .tup vs => vs.all (locsBelow1 n)
  | a => locsBelow1 n a
def slotBelow (n : Nat) : Option Slot → Bool
  | none => true
  | some ⟨.one cs, _⟩ => cs.all (locBelow n)
  | some ⟨.many _ _ true _, _⟩ => true
  | some ⟨.many _ _ false rows, _⟩ => rows.all fun r => r.all (locBelow n)

def gc (live : List Nat) (m : Nat) (s : St) : Option St :=
  let env := live.map fun t => (t, look s.env t)
  let mem := s.mem.take m
  bif env.all (fun x => locsBelow m x.2) && mem.all (slotBelow m) then some ⟨env, mem⟩ else none

def cutBack (m : Nat) (v : AV) (mem : Mem) : Mem :=
  bif locsBelow m v && (mem.take m).all (slotBelow m) then mem.take m else mem

structure Fx where
  f : FuncId
  nt : Nat
  base : Nat

abbrev K (α : Type) := Ex → St → Tree α

def isTarget (all : List Oper) (i : Nat) : Bool := all.any fun o => match o.guard with | some (j, _) => Nat.beq j i | none => false

def dstOk (nt : Nat) (o : Oper) : Bool := match o.dst with | some d => Nat.blt d nt | none => true

/-- what becomes of an operation's value: one that others wait for is parted at once -/
def landT {α : Type} (tgt : Bool) (v : AV) (k : AV → Tree α) : Tree α :=
  match tgt, v with
  | true, .lit (.bool b) => .node b (k (.kb true)) (k (.kb false))
  | _, v => k v

/-- what a step that is left out leaves -/
def skipV : AV := .tup []

def guardOf (all : List Oper) (env : Nat → AV) (o : Oper) : Option Bool :=
  match o.guard with
  | none => some true
  | some (j, want) => match all[j]? with
    | some p => (match p.dst with
      | some t => (match env t with | .kb b => some (b == want) | .tup [] => some false | _ => none)
      | none => none)
    | none => none

/-- the rest of a region's operations, in the order of the text -/
def opsR {α : Type} (C : Ctx) (fx : Fx) (inl : FuncId → List AV → Mem → (AV → Mem → Tree α) → Tree α) (all : List Oper) (draw : Bool) :
    List Oper → Nat → Nat → St → List Log → (St → Tree α) → Tree α
  | [], _, _, s, log, k => bif !draw || drawOk all log then k s else .fail 7
  | o :: rest, i, slot, s, log, k =>
    bif !dstOk fx.nt o then .fail 19 else
    match guardOf all (look s.env) o with
    | some true => (match simple C s.mem slot (ev s.env) o with
      | some e => guards e.conds (landT (isTarget all i) e.v fun v =>
          opsR C fx inl all draw rest (i + 1) (slot + slotsOf C o.op) ⟨putA s.env o.dst v, applyU s.mem e.upd⟩ (⟨i, e.reads, e.writes⟩ :: log) k)
      | none => bif draw then .fail (1000 + i) else (match o.op with
        | .call { callee := .value g, args, .. } => (match ev s.env g with
          | .clo g cap => inl g (args.toList.map (ev s.env) ++ cap) s.mem fun v mem =>
              landT (isTarget all i) v fun v => opsR C fx inl all draw rest (i + 1) slot ⟨putA s.env o.dst v, mem⟩ log k
          | _ => .fail 12)
        | _ => .fail (2000 + i)))
    | some false => opsR C fx inl all draw rest (i + 1) (slot + slotsOf C o.op) ⟨putA s.env o.dst skipV, s.mem⟩ log k
    | none => .fail 13

def reach (mem : Mem) (base : Nat) (env : Env) : List Nat :=
  let bl := addNew base [] (env.flatMap fun x => locs1 x.2)
  addNew base bl (bl.flatMap fun b => slotLocs (getSlot mem b))
def tau (base : Nat) (bl : List Nat) (b : Nat) : Nat := bif Nat.blt b base then b else base + idxOf b bl
def okLoc (base : Nat) (bl : List Nat) (b : Nat) : Bool := Nat.blt b base || bl.any (Nat.beq b)
/-- what is live, its blocks numbered anew -/
def gcC (live : List Nat) (base : Nat) (s : St) : Option St :=
  let env := live.map fun t => (t, look s.env t)
  let bl := reach s.mem base env
  let p := okLoc base bl
  bif env.all (fun x => okP1 p x.2) && (bl.all (fun b => slotP p (getSlot s.mem b)) && ((s.mem.take base).all (slotBelow base) && (nodupB bl && bl.all (fun b => Nat.ble base b)))) then
    some ⟨env.map fun x => (x.1, ren1 (tau base bl) x.2), s.mem.take base ++ bl.map fun b => (getSlot s.mem b).map (renSlot (tau base bl))⟩ else none
def nilTo (m et esz : Nat) : AV → AV
  | .nsl => .lsl false m et esz 0
  | v => v
def nilAt (s : St) (x : Nat × Nat × Nat) : St :=
  bif Nat.beq x.2.2 0 then s else ⟨s.env.map fun y => bif Nat.beq y.1 x.1 then (y.1, nilTo s.mem.length x.2.1 x.2.2 y.2) else y, s.mem ++ [some ⟨.many x.2.1 x.2.2 true [], false⟩]⟩

def isNil : AV → Bool
  | .nsl => true
  | _ => false
def stepNil (s : St) (x : Nat × Nat × Nat) : St := bif isNil (look s.env x.1) then nilAt s x else s

/-- that a number is known is not kept through a loop -/
def forget : AV → AV
  | .ki k n => .lit (.int k n)
  | .kb b => .lit (.bool b)
  | .lsl _ b et esz len => .lsl false b et esz len
  | a => a
def forgetSlot : Option Slot → Option Slot
  | some ⟨.one cs, fr⟩ => some ⟨.one (cs.map forget), fr⟩
  | s => s
def forgetS (s : St) : St := ⟨s.env.map fun x => (x.1, forget x.2), s.mem.map forgetSlot⟩

/-- what is kept at the head of a loop -/
def gcAt (C : Ctx) (fx : Fx) (b : Code) (s : St) : Option St :=
  match firstReg b with
  | none => none
  | some r => (match C.hints fx.f r with
    | some (live, m) => (match (bif Nat.beq m 999 then gcC live fx.base s else gc live (fx.base + m) s) with
      | some s0 => some (forgetS ((C.nils fx.f r).foldl stepNil s0))
      | none => none)
    | none => some s)

def nSlots (C : Ctx) (l : List Oper) : Nat := match l with | [] => 0 | o :: r => slotsOf C o.op + nSlots C r

def exec {α : Type} (C : Ctx) : Nat → Fx → Code → St → K α → Tree α
  | 0, _, _, _, _ => .fail 0
  | n + 1, fx, c, s, k => match c with
    | .skip => k .normal s
    | .label _ => k .normal s
    | .ret => k .ret s
    | .exit id => k (.exit id) s
    | .seq a b => exec C n fx a s fun e s' => match e with | .normal => exec C n fx b s' k | .exit id => k (.exit id) s' | .ret => k .ret s'
    | .cond c x y => match ev s.env c with
      | .kb true => exec C n fx x s k
      | .kb false => exec C n fx y s k
      | .lit (.bool b) => (match c with
        | .tmp t => .node b (exec C n fx x { s with env := (t, .kb true) :: s.env } k) (exec C n fx y { s with env := (t, .kb false) :: s.env } k)
        | _ => .fail 2)
      | _ => .fail 3
    | .block id c => exec C n fx c s fun e s' => match e with
      | .exit id' => bif Nat.beq id' id then k .normal s' else k (.exit id') s'
      | .normal => k .normal s'
      | .ret => k .ret s'
    | .loop b => (match gcAt C fx b s with
      | none => .fail 4
      | some s0 => exec C n fx b s0 fun e s' => match e with
        | .normal => (match gcAt C fx b s' with
          | none => .fail 4
          | some s1 => exec C n fx (.loop b) s1 k)
        | .exit id => k (.exit id) s'
        | .ret => k .ret s')
    | .region _ ops draw =>
      opsR C fx (fun g args mem k' => match C.wr g args mem with
        | some (r, mem', cs) => guards cs (k' r mem')
        | none => match C.P.funcs[g]? with
        | some fn => (match fn.body with
          | some body => exec C n ⟨g, fn.ntmps, mem.length⟩ body ⟨bindArgs 0 args, mem⟩ fun e s' => match e with
            | .exit _ => .fail 9
            | _ => (match resAll C s'.env s'.mem fn.results.toList with
              | some vs => k' (results1 vs) (cutBack mem.length (results1 vs) s'.mem)
              | none => .fail 8)
          | none => .fail 10)
        | none => .fail 11) ops.toList draw ops.toList 0 s.mem.length { s with mem := s.mem ++ List.replicate (nSlots C ops.toList) none } [] (k .normal)
    | _ => .fail 6

/-- the end of a call: the results as others see them -/
def endT (mem : Mem) (vs : List AV) : Tree AV := match viewAll mem vs with
  | some (vs', _, g) => guards g (.leaf (results1 vs'))
  | none => .fail 14

def runF (C : Ctx) (fuel : Nat) (f : FuncId) (args : List AV) : Tree AV :=
  match C.P.funcs[f]? with
  | some fn => match fn.body with
    | some body => exec C fuel ⟨f, fn.ntmps, 0⟩ body ⟨bindArgs 0 args, []⟩ fun e s => match e with
      | .exit _ => .fail 16
      | _ => (match resAll C s.env s.mem fn.results.toList with
        | some vs => endT s.mem vs
        | none => .fail 15)
    | none => .fail 17
  | none => .fail 18

end Go.Flat
end

section
/- How the evaluator's values and its small memory stand for the model's: the relations, and what keeps them. -/
namespace Go.Flat
open Go

def okLeaf : Value → Prop
  | .bool _ | .string _ | .pointer none | .nilFunc | .nilIface => True
  | .int k n => inK k n = true
  | _ => False

abbrev Loc := Nat → Option Nat

inductive VR (R : Nat → Prop) (ρ : Loc) (w : World) : AV → Value → Prop
  | lit {v} : okLeaf v → VR R ρ w (.lit v) v
  | kb {b} : VR R ρ w (.kb b) (.bool b)
  | ki {k n} : inK k n = true → VR R ρ w (.ki k n) (.int k n)
  | nsl : VR R ρ w .nsl (.slice none 0 0)
  | vsl0 {kn : Bool} {esz : Nat} {rows : Nat → List AV} {a : Option Addr} {cap : Nat} : VR R ρ w (.vsl kn esz 0 rows) (.slice a 0 cap)
  | vsl {kn : Bool} {esz len : Nat} {rows : Nat → List AV} {x o cap : Nat} (vals : Nat → Nat → Value) : R x → (len ≤ maxLen ∧ len ≤ cap) → 0 < esz →
      (∀ r, r < len → (rows r).length = esz) →
      (∀ (r j : Nat) (c : AV), r < len → (rows r)[j]? = some c → c.leaf = true ∧ noLoc c = true) →
      (∀ (r j : Nat) (c : AV), r < len → (rows r)[j]? = some c → w.cell? ⟨x, o + (r * esz + j), none⟩ = some (vals r j)) →
      (∀ (r j : Nat) (c : AV), r < len → (rows r)[j]? = some c → VR R ρ w c (vals r j)) →
      VR R ρ w (.vsl kn esz len rows) (.slice (some ⟨x, o, none⟩) len cap)
  | vptr {cells : List AV} {x o : Nat} (vals : Nat → Value) : R x →
      (∀ (j : Nat) (c : AV), cells[j]? = some c → c.leaf = true ∧ noLoc c = true) →
      (∀ (j : Nat) (c : AV), cells[j]? = some c → w.cell? ⟨x, o + j, none⟩ = some (vals j)) →
      (∀ (j : Nat) (c : AV), cells[j]? = some c → VR R ρ w c (vals j)) →
      VR R ρ w (.vptr cells) (.pointer (some ⟨x, o, none⟩))
  | ptr {b esz row off x : Nat} : ρ b = some x → VR R ρ w (.ptr b esz row off) (.pointer (some ⟨x, row * esz + off, none⟩))
  | lsl0 {kn : Bool} {b et esz : Nat} : VR R ρ w (.lsl kn b et esz 0) (.slice none 0 0)
  | lsl {kn : Bool} {b et esz len x cap : Nat} {c : Array Value} {fr : Nat × Nat} : ρ b = some x → len ≤ cap → cap ≤ maxLen → w.heap[x]? = some (.cells c et fr) → c.size = cap * esz →
      VR R ρ w (.lsl kn b et esz len) (.slice (some ⟨x, 0, none⟩) len cap)
  | clo {f : FuncId} {cs : List AV} (vs : Array Value) : vs.size = cs.length → (∀ (i : Nat) (c : AV), cs[i]? = some c → VR R ρ w c (vs.getD i undef)) → VR R ρ w (.clo f cs) (.func (.func f) #[] vs)
  | iface {t a v} : a.leaf = true → VR R ρ w a v → VR R ρ w (.iface t a) (.iface t v)
  | agg {cs : List AV} (vs : Array Value) : vs.size = cs.length → (∀ (i : Nat) (c : AV), cs[i]? = some c → c.leaf = true) → (∀ (i : Nat) (c : AV), cs[i]? = some c → VR R ρ w c (vs.getD i undef)) → VR R ρ w (.agg cs) (.agg vs)
  | tup {cs : List AV} (vs : Array Value) : vs.size = cs.length → (∀ (i : Nat) (c : AV), cs[i]? = some c → VR R ρ w c (vs.getD i undef)) → VR R ρ w (.tup cs) (.tuple vs)
  | undef {v} : VR R ρ w .undef v

/-- what lies outside of memory is as it was -/
def Side (w w' : World) : Prop := w'.os = w.os ∧ w'.output = w.output
/-- sizes of rows do not change -/
def Sizes (w w' : World) : Prop := Side w w' ∧ ∀ (x : Nat) (c : Array Value) (e : TypeId) (f : Nat × Nat), w.heap[x]? = some (.cells c e f) → ∃ (c' : Array Value) (f' : Nat × Nat), w'.heap[x]? = some (.cells c' e f') ∧ c'.size = c.size

theorem Side.refl (w : World) : Side w w := ⟨rfl, rfl⟩
theorem Side.trans {w w' w'' : World} (h : Side w w') (h' : Side w' w'') : Side w w'' := ⟨h'.1.trans h.1, h'.2.trans h.2⟩
theorem Sizes.refl (w : World) : Sizes w w := ⟨.refl w, fun _ c _ f h => ⟨c, f, h, rfl⟩⟩
theorem Sizes.trans {w w' w'' : World} (h : Sizes w w') (h' : Sizes w' w'') : Sizes w w'' := ⟨h.1.trans h'.1, fun x c e f hx => by
  obtain ⟨c', f', h1, h2⟩ := h.2 x c e f hx
  obtain ⟨c'', f'', h3, h4⟩ := h'.2 x c' e f' h1
  exact ⟨c'', f'', h3, h4.trans h2⟩⟩
theorem Sizes.of_heap {w w' : World} (h : w'.heap = w.heap) (hs : Side w w') : Sizes w w' := ⟨hs, fun x c e f hx => ⟨c, f, by rw [h]; exact hx, rfl⟩⟩

theorem cell_of_block {w w' : World} {x o : Nat} (h : w'.heap[x]? = w.heap[x]?) : w'.cell? ⟨x, o, none⟩ = w.cell? ⟨x, o, none⟩ := by simp [World.cell?, h]

theorem VR.mono {R R' : Nat → Prop} {ρ ρ' : Loc} {w w' : World} {a : AV} {v : Value} (h : VR R ρ w a v)
    (hR : ∀ x, R x → R' x) (hk : ∀ x, R x → w'.heap[x]? = w.heap[x]?) (hs : Sizes w w') (hρ : ∀ b x, ρ b = some x → ρ' b = some x) : VR R' ρ' w' a v := by
  induction h with
  | lit h => exact .lit h
  | kb => exact .kb
  | ki h => exact .ki h
  | nsl => exact .nsl
  | vsl0 => exact .vsl0
  | vsl vals hx hl he h1 h2 h3 _ ih => exact .vsl vals (hR _ hx) hl he h1 h2 (fun r j c hr hc => (cell_of_block (hk _ hx)).trans (h3 r j c hr hc)) ih
  | vptr vals hx h2 h3 _ ih => exact .vptr vals (hR _ hx) h2 (fun j c hc => (cell_of_block (hk _ hx)).trans (h3 j c hc)) ih
  | ptr h => exact .ptr (hρ _ _ h)
  | lsl0 => exact .lsl0
  | lsl h1 h2 h3 h4 h5 =>
    obtain ⟨c', f', h6, h7⟩ := hs.2 _ _ _ _ h4
    exact .lsl (hρ _ _ h1) h2 h3 h6 (h7.trans h5)
  | clo vs h1 _ ih => exact .clo vs h1 ih
  | iface h1 _ ih => exact .iface h1 ih
  | agg vs h1 h2 _ ih => exact .agg vs h1 h2 ih
  | tup vs h1 _ ih => exact .tup vs h1 ih
  | undef => exact .undef

/-- a value without places of one's own stands whatever the places are -/
theorem VR.anyLoc {R : Nat → Prop} {ρ ρ' : Loc} {w : World} {a : AV} {v : Value} (h : VR R ρ w a v) (hn : noLoc a = true) : VR R ρ' w a v := by
  induction h with
  | lit h => exact .lit h
  | kb => exact .kb
  | ki h => exact .ki h
  | nsl => exact .nsl
  | vsl0 => exact .vsl0
  | vsl vals hx hl he h1 h2 h3 _ ih => exact .vsl vals hx hl he h1 h2 h3 (fun r j c hr hc => ih r j c hr hc (h2 r j c hr hc).2)
  | vptr vals hx h2 h3 _ ih => exact .vptr vals hx h2 h3 (fun j c hc => ih j c hc (h2 j c hc).2)
  | ptr h => simp [noLoc] at hn
  | lsl0 => simp [noLoc] at hn
  | lsl h1 h2 h3 h4 h5 => simp [noLoc] at hn
  | @clo f cs vs h1 _ ih =>
    cases cs with
    | nil => exact .clo vs h1 (fun i c hc => by simp at hc)
    | cons x xs => simp [noLoc] at hn
  | iface h1 _ ih => simp [noLoc] at hn
  | agg vs h1 h2 _ ih => simp [noLoc] at hn
  | tup vs h1 _ ih => simp [noLoc] at hn
  | undef => exact .undef

def upTo (m : Nat) (ρ : Loc) : Loc := fun b => if b < m then ρ b else none

theorem upTo_eq {m b x : Nat} {ρ : Loc} (h : b < m) (hb : ρ b = some x) : upTo m ρ b = some x := by simp [upTo, h, hb]

theorem VR.cut1 {R : Nat → Prop} {ρ : Loc} {w : World} {a : AV} {v : Value} {m : Nat} (h : VR R ρ w a v) (hn : locBelow m a = true) : VR R (upTo m ρ) w a v := by
  cases h with
  | ptr h => exact .ptr (upTo_eq (by simpa [locBelow] using hn) h)
  | lsl0 => exact .lsl0
  | lsl h1 h2 h3 h4 h5 => exact .lsl (upTo_eq (by simpa [locBelow] using hn) h1) h2 h3 h4 h5
  | @clo f cs vs h1 h2 =>
    cases cs with
    | nil => exact .clo vs h1 (fun i c hc => by simp at hc)
    | cons x xs => simp [locBelow] at hn
  | iface h1 _ => simp [locBelow] at hn
  | agg vs h1 h2 _ => simp [locBelow] at hn
  | tup vs h1 _ => simp [locBelow] at hn
  | undef => exact .undef
  | lit h => exact .lit h
  | kb => exact .kb
  | ki h => exact .ki h
  | nsl => exact .nsl
  | vsl0 => exact .vsl0
  | vsl vals hx hl he h1 h2 h3 h4 => exact .vsl vals hx hl he h1 h2 h3 (fun r j c hr hc => (h4 r j c hr hc).anyLoc (h2 r j c hr hc).2)
  | vptr vals hx h2 h3 h4 => exact .vptr vals hx h2 h3 (fun j c hc => (h4 j c hc).anyLoc (h2 j c hc).2)

theorem all_get {p : AV → Bool} {l : List AV} (h : l.all p = true) {i : Nat} {c : AV} (hc : l[i]? = some c) : p c = true :=
  List.all_eq_true.1 h c (List.mem_of_getElem? hc)

theorem VR.cut2 {R : Nat → Prop} {ρ : Loc} {w : World} {a : AV} {v : Value} {m : Nat} (h : VR R ρ w a v) (hn : locsBelow1 m a = true) : VR R (upTo m ρ) w a v := by
  cases h with
  | agg vs h1 h2 h3 => exact .agg vs h1 h2 (fun i c hc => (h3 i c hc).cut1 (all_get hn hc))
  | clo vs h1 h2 => exact .clo vs h1 (fun i c hc => (h2 i c hc).cut1 (all_get hn hc))
  | iface h1 h2 => exact .iface h1 (h2.cut1 hn)
  | undef => exact .undef
  | ptr h => exact (VR.ptr h).cut1 hn
  | lsl0 => exact .lsl0
  | lsl h1 h2 h3 h4 h5 => exact (VR.lsl h1 h2 h3 h4 h5).cut1 hn
  | tup vs h1 _ => simp [locsBelow1, locBelow] at hn
  | lit h => exact .lit h
  | kb => exact .kb
  | ki h => exact .ki h
  | nsl => exact .nsl
  | vsl0 => exact .vsl0
  | vsl vals hx hl he h1 h2 h3 h4 => exact (VR.vsl vals hx hl he h1 h2 h3 h4).cut1 hn
  | vptr vals hx h2 h3 h4 => exact (VR.vptr vals hx h2 h3 h4).cut1 hn

theorem VR.cut {R : Nat → Prop} {ρ : Loc} {w : World} {a : AV} {v : Value} {m : Nat} (h : VR R ρ w a v) (hn : locsBelow m a = true) : VR R (upTo m ρ) w a v := by
  cases h with
  | tup vs h1 h2 => exact .tup vs h1 (fun i c hc => (h2 i c hc).cut2 (all_get hn hc))
  | agg vs h1 h2 h3 => exact (VR.agg vs h1 h2 h3).cut2 hn
  | clo vs h1 h2 => exact (VR.clo vs h1 h2).cut2 hn
  | iface h1 h2 => exact (VR.iface h1 h2).cut2 hn
  | undef => exact .undef
  | ptr h => exact (VR.ptr h).cut2 hn
  | lsl0 => exact .lsl0
  | lsl h1 h2 h3 h4 h5 => exact (VR.lsl h1 h2 h3 h4 h5).cut2 hn
  | lit h => exact .lit h
  | kb => exact .kb
  | ki h => exact .ki h
  | nsl => exact .nsl
  | vsl0 => exact .vsl0
  | vsl vals hx hl he h1 h2 h3 h4 => exact (VR.vsl vals hx hl he h1 h2 h3 h4).cut1 hn
  | vptr vals hx h2 h3 h4 => exact (VR.vptr vals hx h2 h3 h4).cut1 hn

/-! ### blocks -/

/-- cells of a row, from a place on, stand for a list -/
def Cells (R : Nat → Prop) (ρ : Loc) (w : World) (c : Array Value) (o : Nat) (l : List AV) : Prop :=
  ∀ (j : Nat) (a : AV), l[j]? = some a → a.leaf = true ∧ ∃ v, c[o + j]? = some v ∧ VR R ρ w a v

theorem Cells.mono {R R' : Nat → Prop} {ρ ρ' : Loc} {w w' : World} {c : Array Value} {o : Nat} {l : List AV} (h : Cells R ρ w c o l)
    (hR : ∀ x, R x → R' x) (hk : ∀ x, R x → w'.heap[x]? = w.heap[x]?) (hs : Sizes w w') (hρ : ∀ b x, ρ b = some x → ρ' b = some x) : Cells R' ρ' w' c o l :=
  fun j a ha => let ⟨h1, v, h2, h3⟩ := h j a ha; ⟨h1, v, h2, h3.mono hR hk hs hρ⟩

/-- row x of the heap stands for a block -/
def BR (R : Nat → Prop) (ρ : Loc) (w : World) (x : Nat) : Blk → Prop
  | .one cells => ∃ (c : Array Value) (e : TypeId), w.heap[x]? = some (.cells c e (0, 0)) ∧ cells.length ≤ c.size ∧ Cells R ρ w c 0 cells
  | .many et esz fl rows => ∃ (c : Array Value), w.heap[x]? = some (.cells c et (0, 0)) ∧ 0 < esz ∧ rows.length * esz ≤ c.size ∧
      (∀ (r : Nat) (row : List AV), rows[r]? = some row → row.length = esz ∧ Cells R ρ w c (r * esz) row) ∧
      (fl = true → ∀ (r : Nat) (row : List AV), rows[r]? = some row → row.all noLoc = true)

theorem BR.mono {R R' : Nat → Prop} {ρ ρ' : Loc} {w w' : World} {x : Nat} {b : Blk} (h : BR R ρ w x b) (hx : w'.heap[x]? = w.heap[x]?)
    (hR : ∀ x, R x → R' x) (hk : ∀ x, R x → w'.heap[x]? = w.heap[x]?) (hs : Sizes w w') (hρ : ∀ b x, ρ b = some x → ρ' b = some x) : BR R' ρ' w' x b := by
  cases b with
  | one cells =>
    obtain ⟨c, e, h1, h2, h3⟩ := h
    exact ⟨c, e, hx.trans h1, h2, h3.mono hR hk hs hρ⟩
  | many et esz fl rows =>
    obtain ⟨c, h1, h2, h3, h4, h5⟩ := h
    exact ⟨c, hx.trans h1, h2, h3, fun r row hr => ⟨(h4 r row hr).1, (h4 r row hr).2.mono hR hk hs hρ⟩, h5⟩

def emptyMany : Blk → Prop
  | .many _ _ _ rows => rows = []
  | _ => False

/-- where we started from: the world, what is shared, the places, what must stay, how many blocks there were -/
structure Ref where
  w0 : World
  ρ0 : Loc
  R0 : Nat → Prop
  Old : Nat → Prop
  base : Nat

structure MS (rf : Ref) (R : Nat → Prop) (ρ : Loc) (mem : Mem) (w : World) : Prop where
  blk : ∀ b s, getSlot mem b = some s → (∃ x, ρ b = some x ∧ BR R ρ w x s.blk) ∨ (ρ b = none ∧ emptyMany s.blk)
  dom : ∀ b x, ρ b = some x → b < mem.length
  inj : ∀ b b' x s s', getSlot mem b = some s → getSlot mem b' = some s' → ρ b = some x → ρ b' = some x → b = b'
  lt : ∀ b x, ρ b = some x → x < w.heap.size
  nold : ∀ b x s, getSlot mem b = some s → ρ b = some x → ¬ rf.Old x
  oldk : ∀ x, rf.Old x → w.heap[x]? = rf.w0.heap[x]?
  oldlt : ∀ x, rf.Old x → x < w.heap.size
  nR : ∀ b x s, getSlot mem b = some s → s.frozen = false → ρ b = some x → ¬ R x
  Rlt : ∀ x, R x → x < w.heap.size
  R0 : ∀ x, rf.R0 x → R x
  Rn : ∀ x, R x → rf.R0 x ∨ ¬ rf.Old x
  R0k : ∀ x, rf.R0 x → w.heap[x]? = rf.w0.heap[x]?
  ρ0 : ∀ b, b < rf.base → ρ b = rf.ρ0 b
  szk : Sizes rf.w0 w
  size : rf.w0.heap.size ≤ w.heap.size
  base : rf.base ≤ mem.length

theorem getSlot_lt {mem : Mem} {b : Nat} {s : Slot} (h : getSlot mem b = some s) : b < mem.length := by
  unfold getSlot at h
  split at h
  · rename_i h'; exact (List.getElem?_eq_some_iff.1 h').1
  · simp at h

theorem getSlot_set {mem : Mem} {b b' : Nat} {s : Option Slot} (hb : b < mem.length) : getSlot (mem.set b s) b' = if b = b' then s else getSlot mem b' := by
  unfold getSlot
  rw [List.getElem?_set]
  by_cases h : b = b'
  · subst h
    simp [hb]
    cases s <;> rfl
  · simp [h]

/-- nothing but counts changed -/
theorem MS.heap {rf : Ref} {R : Nat → Prop} {ρ : Loc} {mem : Mem} {w w' : World} (h : MS rf R ρ mem w) (hw : w'.heap = w.heap) (hsd : Side w w') : MS rf R ρ mem w' where
  blk b s hs := (h.blk b s hs).imp (fun ⟨x, h1, h2⟩ => ⟨x, h1, h2.mono (by rw [hw]) (fun _ h => h) (fun _ _ => by rw [hw]) (.of_heap hw hsd) (fun _ _ h => h)⟩) id
  dom := h.dom
  inj := h.inj
  lt b x hb := by rw [hw]; exact h.lt b x hb
  nold := h.nold
  oldk x hx := by rw [hw]; exact h.oldk x hx
  oldlt x hx := by rw [hw]; exact h.oldlt x hx
  nR := h.nR
  Rlt x hx := by rw [hw]; exact h.Rlt x hx
  R0 := h.R0
  Rn := h.Rn
  R0k x hx := by rw [hw]; exact h.R0k x hx
  ρ0 := h.ρ0
  szk := h.szk.trans (.of_heap hw hsd)
  size := by rw [hw]; exact h.size
  base := h.base

theorem VR.heap {R : Nat → Prop} {ρ : Loc} {w w' : World} {a : AV} {v : Value} (h : VR R ρ w a v) (hw : w'.heap = w.heap) (hsd : Side w w') : VR R ρ w' a v :=
  h.mono (fun _ h => h) (fun _ _ => by rw [hw]) (.of_heap hw hsd) (fun _ _ h => h)

theorem Sizes.alloc (w : World) (o : Obj) : Sizes w (w.alloc o) := ⟨⟨rfl, rfl⟩, fun x c e f hx => ⟨c, f, by rw [heap_alloc_old w o x (Array.getElem?_eq_some_iff.1 hx).1]; exact hx, rfl⟩⟩

def Loc.upd (ρ : Loc) (b x : Nat) : Loc := fun b' => if b' = b then some x else ρ b'

theorem Loc.upd_old {ρ : Loc} {b x : Nat} (h : ρ b = none) : ∀ b' y, ρ b' = some y → ρ.upd b x b' = some y := by
  intro b' y hb
  unfold Loc.upd
  split
  · rename_i e; subst e; rw [h] at hb; cases hb
  · exact hb

/-- a new row for a slot -/
theorem MS.alloc {rf : Ref} {R : Nat → Prop} {ρ : Loc} {mem : Mem} {w : World} (h : MS rf R ρ mem w) {slot : Nat} {o : Obj} {s : Slot} (hl : slot < mem.length) (hb : rf.base ≤ slot) (hρ : ρ slot = none)
    (hB : BR R (ρ.upd slot w.heap.size) (w.alloc o) w.heap.size s.blk) : MS rf R (ρ.upd slot w.heap.size) (mem.set slot (some s)) (w.alloc o) where
  blk b s' hs := by
    rw [getSlot_set hl] at hs
    split at hs
    · rename_i e; subst e; cases hs; exact .inl ⟨w.heap.size, by simp [Loc.upd], hB⟩
    · rename_i e
      rcases h.blk b s' hs with ⟨x, h1, h2⟩ | ⟨h1, h2⟩
      · exact .inl ⟨x, Loc.upd_old hρ _ _ h1, h2.mono (heap_alloc_old w o x (h.lt b x h1)) (fun _ h => h) (fun x hx => heap_alloc_old w o x (h.Rlt x hx)) (.alloc w o) (Loc.upd_old hρ)⟩
      · exact .inr ⟨by simp [Loc.upd, Ne.symm e, h1], h2⟩
  dom b x hb := by
    unfold Loc.upd at hb
    simp only [List.length_set]
    split at hb
    · rename_i e; subst e; exact hl
    · exact h.dom b x hb
  inj b b' x s1 s2 h1 h2 h3 h4 := by
    unfold Loc.upd at h3 h4
    rw [getSlot_set hl] at h1 h2
    by_cases e : b = slot <;> by_cases e' : b' = slot
    · rw [e, e']
    · simp [e] at h3; simp [e'] at h4; subst h3; exact absurd (h.lt _ _ h4) (Nat.lt_irrefl _)
    · simp [e] at h3; simp [e'] at h4; subst h4; exact absurd (h.lt _ _ h3) (Nat.lt_irrefl _)
    · simp [e] at h3; simp [e'] at h4
      simp [Ne.symm e] at h1; simp [Ne.symm e'] at h2
      exact h.inj b b' x s1 s2 h1 h2 h3 h4
  lt b x hb := by
    unfold Loc.upd at hb
    simp only [World.size_alloc]
    split at hb
    · cases hb; omega
    · have := h.lt b x hb; omega
  nold b x s1 h1 h2 := by
    unfold Loc.upd at h2
    rw [getSlot_set hl] at h1
    by_cases e : b = slot
    · simp [e] at h2; subst h2; intro ho; exact absurd (h.oldlt _ ho) (Nat.lt_irrefl _)
    · simp [e] at h2; simp [Ne.symm e] at h1; exact h.nold b x s1 h1 h2
  oldk x hx := (heap_alloc_old w o x (h.oldlt x hx)).trans (h.oldk x hx)
  oldlt x hx := by have := h.oldlt x hx; simp; omega
  nR b x s1 h1 hf h2 := by
    unfold Loc.upd at h2
    rw [getSlot_set hl] at h1
    by_cases e : b = slot
    · simp [e] at h2; subst h2; intro ho; exact absurd (h.Rlt _ ho) (Nat.lt_irrefl _)
    · simp [e] at h2; simp [Ne.symm e] at h1; exact h.nR b x s1 h1 hf h2
  Rlt x hx := by have := h.Rlt x hx; simp; omega
  R0 := h.R0
  Rn := h.Rn
  R0k x hx := (heap_alloc_old w o x (h.Rlt x (h.R0 x hx))).trans (h.R0k x hx)
  ρ0 b hb := by
    unfold Loc.upd
    rw [if_neg (by omega)]
    exact h.ρ0 b hb
  szk := h.szk.trans (.alloc w o)
  size := by have := h.size; simp; omega
  base := by simp only [List.length_set]; exact h.base

/-- a new row that nobody will write -/
theorem MS.share {rf : Ref} {R : Nat → Prop} {ρ : Loc} {mem : Mem} {w : World} (h : MS rf R ρ mem w) (o : Obj) : MS rf (fun x => R x ∨ x = w.heap.size) ρ mem (w.alloc o) where
  blk b s hs := (h.blk b s hs).imp (fun ⟨x, h1, h2⟩ => ⟨x, h1, h2.mono (heap_alloc_old w o x (h.lt b x h1)) (fun _ h => .inl h) (fun x hx => heap_alloc_old w o x (h.Rlt x hx)) (.alloc w o) (fun _ _ h => h)⟩) id
  dom := h.dom
  inj := h.inj
  lt b x hb := by have := h.lt b x hb; simp; omega
  nold := h.nold
  oldk x hx := (heap_alloc_old w o x (h.oldlt x hx)).trans (h.oldk x hx)
  oldlt x hx := by have := h.oldlt x hx; simp; omega
  nR b x s h1 h2 h3 := by
    rintro (hR | rfl)
    · exact h.nR b x s h1 h2 h3 hR
    · exact absurd (h.lt b _ h3) (Nat.lt_irrefl _)
  Rlt x hx := by
    simp only [World.size_alloc]
    rcases hx with hx | rfl
    · have := h.Rlt x hx; omega
    · omega
  R0 x hx := .inl (h.R0 x hx)
  Rn x hx := hx.elim (h.Rn x) (fun e => .inr (fun ho => by have := h.oldlt x ho; omega))
  R0k x hx := (heap_alloc_old w o x (h.Rlt x (h.R0 x hx))).trans (h.R0k x hx)
  ρ0 := h.ρ0
  szk := h.szk.trans (.alloc w o)
  size := by have := h.size; simp; omega
  base := h.base

/-- a slot is given up -/
theorem MS.drop {rf : Ref} {R : Nat → Prop} {ρ : Loc} {mem : Mem} {w : World} (h : MS rf R ρ mem w) (b0 : Nat) : MS rf R ρ (mem.set b0 none) w := by
  by_cases hl : b0 < mem.length
  · have key : ∀ b s, getSlot (mem.set b0 none) b = some s → getSlot mem b = some s := by
      intro b s hs
      rw [getSlot_set hl] at hs
      split at hs
      · cases hs
      · exact hs
    exact { blk := fun b s hs => h.blk b s (key b s hs), dom := fun b x hb => by simp only [List.length_set]; exact h.dom b x hb
            inj := fun b b' x s s' h1 h2 => h.inj b b' x s s' (key _ _ h1) (key _ _ h2), lt := h.lt, nold := fun b x s h1 => h.nold b x s (key _ _ h1)
            oldk := h.oldk, oldlt := h.oldlt, nR := fun b x s h1 => h.nR b x s (key _ _ h1), Rlt := h.Rlt, R0 := h.R0, Rn := h.Rn, R0k := h.R0k, ρ0 := h.ρ0, szk := h.szk, size := h.size
            base := by simp only [List.length_set]; exact h.base }
  · rw [List.set_eq_of_length_le (by omega)]; exact h

/-- a slot becomes shared -/
theorem MS.freeze1 {rf : Ref} {R : Nat → Prop} {ρ : Loc} {mem : Mem} {w : World} (h : MS rf R ρ mem w) {b0 : Nat} {s0 : Slot} (h0 : getSlot mem b0 = some s0) :
    MS rf (fun x => R x ∨ ρ b0 = some x) ρ (mem.set b0 (some { s0 with frozen := true })) w := by
  have hl := getSlot_lt h0
  have key : ∀ b s, getSlot (mem.set b0 (some { s0 with frozen := true })) b = some s → ∃ s', getSlot mem b = some s' ∧ s'.blk = s.blk ∧ (b ≠ b0 → s' = s) ∧ (b = b0 → s.frozen = true) := by
    intro b s hs
    rw [getSlot_set hl] at hs
    split at hs
    · rename_i e; subst e; cases hs; exact ⟨s0, h0, rfl, fun h => absurd rfl h, fun _ => rfl⟩
    · rename_i e; exact ⟨s, hs, rfl, fun _ => rfl, fun h => absurd h.symm e⟩
  refine { blk := ?_, dom := ?_, inj := ?_, lt := h.lt, nold := ?_, oldk := h.oldk, oldlt := h.oldlt, nR := ?_, Rlt := ?_, R0 := fun x hx => .inl (h.R0 x hx), Rn := fun x hx => hx.elim (h.Rn x) (fun e => .inr (h.nold b0 x s0 h0 e)), R0k := h.R0k, ρ0 := h.ρ0, szk := h.szk, size := h.size, base := ?_ }
  · intro b s hs
    obtain ⟨s', h1, h2, _⟩ := key b s hs
    rw [← h2]
    exact (h.blk b s' h1).imp (fun ⟨x, h3, h4⟩ => ⟨x, h3, h4.mono rfl (fun _ h => .inl h) (fun _ _ => rfl) (.refl w) (fun _ _ h => h)⟩) id
  · intro b x hb; simp only [List.length_set]; exact h.dom b x hb
  · intro b b' x s s' h1 h2 h3 h4
    obtain ⟨t, ht, _⟩ := key b s h1
    obtain ⟨t', ht', _⟩ := key b' s' h2
    exact h.inj b b' x t t' ht ht' h3 h4
  · intro b x s h1 h2
    obtain ⟨t, ht, _⟩ := key b s h1
    exact h.nold b x t ht h2
  · intro b x s h1 hf h2
    obtain ⟨t, ht, _, hne, he⟩ := key b s h1
    have hb : b ≠ b0 := fun e => by rw [he e] at hf; cases hf
    have hts : t = s := hne hb
    subst hts
    rintro (hR | h0x)
    · exact h.nR b x t ht hf h2 hR
    · exact hb (h.inj b b0 x t s0 ht h0 h2 h0x)
  · intro x hx
    rcases hx with hx | hx
    · exact h.Rlt x hx
    · exact h.lt b0 x hx
  · simp only [List.length_set]; exact h.base

end Go.Flat
end

section
/- Each operation of the evaluator does what the model's operation does. Part 1: values, cells, loads, stores, what is made. -/
set_option linter.unusedSimpArgs false
set_option linter.unusedVariables false
namespace Go.Flat
open Go

section
variable {R : Nat → Prop} {ρ : Loc} {w : World}

theorem VR.ofLeaf (v : Value) : VR R ρ w (ofLeaf v) v := by
  unfold Flat.ofLeaf
  split
  · exact .kb
  · rename_i k n
    cases h : inK k n
    · exact .undef
    · exact .ki h
  · exact .lit trivial
  · exact .lit trivial
  · exact .nsl
  · exact .lit trivial
  · exact .lit trivial
  · exact .clo #[] rfl (fun i c hc => by simp at hc)
  · exact .undef

/-- leaves stand for values of one cell -/
theorem VR.oneCell {a : AV} {v : Value} (h : VR R ρ w a v) (hl : a.leaf = true) : v.oneCell' = true := by
  cases h <;> first | rfl | (simp [AV.leaf] at hl; done) | skip
  rename_i h
  cases v <;> first | rfl | exact h.elim

theorem okLeaf_cells {v : Value} (h : v.oneCell' = true) : v.cells = #[v] := by
  cases v <;> first | rfl | (simp [Value.oneCell'] at h)

theorem leaf_cells {a : AV} (h : a.leaf = true) : a.cells = [a] := by
  cases a <;> first | rfl | (simp [AV.leaf] at h)

/-- a list stands for the cells of an array -/
def PW (R : Nat → Prop) (ρ : Loc) (w : World) (l : List AV) (vs : Array Value) : Prop :=
  vs.size = l.length ∧ ∀ (j : Nat) (c : AV), l[j]? = some c → c.leaf = true ∧ VR R ρ w c (vs.getD j undef)

theorem VR.pw {a : AV} {v : Value} (h : VR R ρ w a v) (hl : a.cells.all AV.leaf = true) : PW R ρ w a.cells v.cells := by
  cases ha : a with
  | agg cs =>
    subst ha
    cases h with
    | agg vs h1 h2 h3 => exact ⟨h1, fun j c hc => ⟨h2 j c hc, h3 j c hc⟩⟩
  | tup cs => subst ha; simp [AV.cells, AV.leaf] at hl
  | undef => subst ha; simp [AV.cells, AV.leaf] at hl
  | _ =>
    have hlf : a.leaf = true := by rw [ha]; rfl
    have h1 := h.oneCell hlf
    rw [← ha, okLeaf_cells h1, leaf_cells hlf]
    refine ⟨rfl, fun j c hc => ?_⟩
    cases j with
    | zero => simp at hc; subst hc; exact ⟨hlf, by simpa using h⟩
    | succ j => simp at hc

theorem PW.agg {l : List AV} {vs : Array Value} (h : PW R ρ w l vs) : VR R ρ w (.agg l) (.agg vs) :=
  .agg vs h.1 (fun i c hc => (h.2 i c hc).1) (fun i c hc => (h.2 i c hc).2)

theorem PW.mono {R' : Nat → Prop} {ρ' : Loc} {w' : World} {l : List AV} {vs : Array Value} (h : PW R ρ w l vs)
    (hR : ∀ x, R x → R' x) (hk : ∀ x, R x → w'.heap[x]? = w.heap[x]?) (hs : Sizes w w') (hρ : ∀ b x, ρ b = some x → ρ' b = some x) : PW R' ρ' w' l vs :=
  ⟨h.1, fun j c hc => ⟨(h.2 j c hc).1, (h.2 j c hc).2.mono hR hk hs hρ⟩⟩

theorem PW.cells {l : List AV} {vs : Array Value} (h : PW R ρ w l vs) : Cells R ρ w vs 0 l := by
  intro j a ha
  have hj : j < vs.size := by rw [h.1]; exact (List.getElem?_eq_some_iff.1 ha).1
  have h2 := h.2 j a ha
  refine ⟨h2.1, vs.getD j Go.undef, ?_, h2.2⟩
  simp [Array.getD, hj]

theorem PW.one {l : List AV} {vs : Array Value} (h : PW R ρ w l vs) : ∀ v ∈ vs.toList, v.oneCell' = true := by
  intro v hv
  obtain ⟨j, hj, rfl⟩ := List.getElem_of_mem hv
  have hj' : j < vs.size := by simpa using hj
  have hl : j < l.length := by rw [← h.1]; exact hj'
  have h2 := h.2 j l[j] (List.getElem?_eq_getElem hl)
  have := h2.2.oneCell h2.1
  simpa [Array.getD, hj'] using this

/-! ### known values -/

theorem VR.leafV {a : AV} {v u : Value} (h : VR R ρ w a v) (hu : leafV a = some u) : u = v := by
  cases h <;> simp [Flat.leafV] at hu <;> exact hu.symm

theorem leavesV_get : ∀ {l : List AV} {us : List Value}, leavesV l = some us → us.length = l.length ∧ ∀ (j : Nat) (c : AV), l[j]? = some c → ∃ u, us[j]? = some u ∧ leafV c = some u
  | [], us, h => by simp [leavesV] at h; subst h; exact ⟨rfl, fun j c hc => by simp at hc⟩
  | a :: r, us, h => by
    simp only [leavesV] at h
    cases ha : Flat.leafV a with
    | none => simp [ha] at h
    | some v =>
      cases hr : leavesV r with
      | none => simp [ha, hr] at h
      | some vs =>
        simp [ha, hr] at h
        subst h
        have ih := leavesV_get hr
        refine ⟨by simp [ih.1], fun j c hc => ?_⟩
        cases j with
        | zero => simp at hc; subst hc; exact ⟨v, rfl, ha⟩
        | succ j => simp at hc; simpa using ih.2 j c hc

theorem VR.toV {a : AV} {v u : Value} (h : VR R ρ w a v) (hu : toV a = some u) : u = v := by
  cases ha : a with
  | agg cs =>
    subst ha
    cases h with
    | agg vs h1 h2 h3 =>
      simp only [Flat.toV] at hu
      cases hl : leavesV cs with
      | none => simp [hl] at hu
      | some us =>
        simp [hl] at hu
        subst hu
        have g := leavesV_get hl
        congr 1
        apply Array.ext'
        apply List.ext_getElem?
        intro j
        by_cases hj : j < cs.length
        · obtain ⟨u, hu1, hu2⟩ := g.2 j cs[j] (List.getElem?_eq_getElem hj)
          have h4 := (h3 j cs[j] (List.getElem?_eq_getElem hj)).leafV hu2
          have hjv : j < vs.size := by omega
          simp only [hu1]
          simp [Array.getD, hjv] at h4
          simp [hjv, h4]
        · have : us[j]? = none := List.getElem?_eq_none (by omega)
          simp [this, show vs.size ≤ j by omega]
  | _ => subst ha; exact h.leafV hu

theorem det_run {α : Type} (P : Program) : ∀ (s : Sem α) (x : α), det P s = some x → ∀ w : World, s.run P w = .ok x w
  | .pure a, x, h, w => by simp [det] at h; subst h; rfl
  | .program k, x, h, w => by simp only [det] at h; exact det_run P (k P) x h w
  | .load _ _ _, x, h, w => by simp [det] at h
  | .store _ _ _ _, x, h, w => by simp [det] at h
  | .new _ _, x, h, w => by simp [det] at h
  | .shape _ _, x, h, w => by simp [det] at h
  | .freeze _ _ _, x, h, w => by simp [det] at h
  | .frozen _ _, x, h, w => by simp [det] at h
  | .getObj _ _, x, h, w => by simp [det] at h
  | .setObj _ _ _, x, h, w => by simp [det] at h
  | .choose _ _, x, h, w => by simp [det] at h
  | .sys _ _, x, h, w => by simp [det] at h
  | .mark _ _, x, h, w => by simp [det] at h
  | .halt _, x, h, w => by simp [det] at h

theorem det_bind {α β : Type} (P : Program) : ∀ (s : Sem α) (f : α → Sem β) (y : β), det P (s >>= f) = some y → ∃ x, det P s = some x ∧ det P (f x) = some y
  | .pure a, f, y, h => ⟨a, rfl, h⟩
  | .program k, f, y, h => by
    obtain ⟨x, h1, h2⟩ := det_bind P (k P) f y h
    exact ⟨x, h1, h2⟩
  | .load _ _ _, _, _, h | .store _ _ _ _, _, _, h | .new _ _, _, _, h | .shape _ _, _, _, h | .freeze _ _ _, _, _, h | .frozen _ _, _, _, h
  | .getObj _ _, _, _, h | .setObj _ _ _, _, _, h | .choose _ _, _, _, h | .sys _ _, _, _, h | .mark _ _, _, _, h | .halt _, _, _, h => by
    first | (simp [Bind.bind, Sem.bind, det] at h; done)

/-! ### reading -/

theorem takeN_some : ∀ {n : Nat} {l r : List AV}, takeN n l = some r → r.length = n ∧ ∀ (j : Nat) (c : AV), r[j]? = some c → l[j]? = some c
  | 0, l, r, h => by simp [takeN] at h; subst h; exact ⟨rfl, fun j c hc => by simp at hc⟩
  | n + 1, [], r, h => by simp [takeN] at h
  | n + 1, a :: l, r, h => by
    simp only [takeN] at h
    cases hr : takeN n l with
    | none => simp [hr] at h
    | some r' =>
      simp [hr] at h
      subst h
      have ih := takeN_some hr
      refine ⟨by simp [ih.1], fun j c hc => ?_⟩
      cases j with
      | zero => simpa using hc
      | succ j => simp at hc ⊢; exact ih.2 j c hc

/-- what lies behind a pointer -/
theorem behind_cells {rf : Ref} {mem : Mem} (hm : MS rf R ρ mem w) {n : Nat} {a : AV} {v : Value} {cs : List AV} {g : List Rng} (h : VR R ρ w a v) (hb : behind mem n a = some (cs, g)) :
    ∃ x o, v = .pointer (some ⟨x, o, none⟩) ∧ ∀ (j : Nat) (c : AV), cs[j]? = some c → c.leaf = true ∧ ∃ u, w.cell? ⟨x, o + j, none⟩ = some u ∧ VR R ρ w c u := by
  cases h with
  | vptr vals hx h2 h3 h4 =>
    simp [behind] at hb
    obtain ⟨rfl, _⟩ := hb
    exact ⟨_, _, rfl, fun j c hc => ⟨(h2 j c hc).1, _, h3 j c hc, h4 j c hc⟩⟩
  | @ptr b esz row off x h =>
    refine ⟨_, _, rfl, ?_⟩
    simp only [behind] at hb
    cases hs : getSlot mem b with
    | none => simp [hs] at hb
    | some s =>
      obtain ⟨blk, fr⟩ := s
      have hB : BR R ρ w x blk := by
        rcases hm.blk b _ hs with ⟨y, h1, h2⟩ | ⟨h1, _⟩
        · rw [h] at h1; cases h1; exact h2
        · rw [h] at h1; cases h1
      cases blk with
      | one cells =>
        simp only [hs] at hb
        cases hr : Nat.beq row 0 with
        | false => simp [hr] at hb
        | true =>
          simp [hr] at hb
          obtain ⟨rfl, _⟩ := hb
          have hr0 : row = 0 := Nat.eq_of_beq_eq_true hr
          subst hr0
          obtain ⟨c, e, h1, h2, h3⟩ := hB
          intro j a ha
          rw [List.getElem?_drop] at ha
          obtain ⟨hl, u, hu1, hu2⟩ := h3 _ _ ha
          exact ⟨hl, u, by rw [cell_of_row w x _ c e (0, 0) h1]; simpa [Nat.add_assoc] using hu1, hu2⟩
      | many et esz' fl rows =>
        simp only [hs] at hb
        cases he : Nat.beq esz esz' with
        | false => simp [he] at hb
        | true =>
          have he' := Nat.eq_of_beq_eq_true he
          subst he'
          cases hr : rows[row]? with
          | none => simp [he, hr] at hb
          | some r =>
            simp [he, hr] at hb
            obtain ⟨rfl, _⟩ := hb
            obtain ⟨c, h1, _, h3, h4, _⟩ := hB
            obtain ⟨_, h5⟩ := h4 row r hr
            intro j a ha
            rw [List.getElem?_drop] at ha
            obtain ⟨hl, u, hu1, hu2⟩ := h5 _ _ ha
            exact ⟨hl, u, by rw [cell_of_row w x _ c et (0, 0) h1]; simpa [Nat.add_assoc] using hu1, hu2⟩
  | _ => simp [behind] at hb

theorem run_isAgg {P : Program} {t : TypeId} {b : Bool} (h : aggT P t = some b) (w : World) : (isAgg t).run P w = .ok b w := by
  unfold aggT at h
  cases hu : P.underlying t with
  | none => simp [hu] at h
  | some d => cases d <;> simp [hu] at h <;> subst h <;> simp [isAgg, run_underlying hu]

theorem run_sizeOf {P : Program} {t : TypeId} {n : Nat} (h : szOf P t = some n) (w : World) : (sizeOf t).run P w = .ok n w := by
  unfold szOf at h
  cases hi : P.info? t with
  | none => simp [hi] at h
  | some i => simp [hi] at h; subst h; simp [sizeOf, typeInfo, hi]

theorem loadA_run {P : Program} {rf : Ref} {mem : Mem} (hm : MS rf R ρ mem w) {t : TypeId} {a r : AV} {v : Value} {g : List Rng} (h : VR R ρ w a v) (hl : loadA P mem t a = some (r, g)) :
    ∃ x o u, v = .pointer (some ⟨x, o, none⟩) ∧ (loadVar t ⟨x, o, none⟩).run P w = .ok u w ∧ VR R ρ w r u := by
  unfold loadA at hl
  cases ht : aggT P t with
  | none => simp [ht] at hl
  | some b =>
    cases b with
    | true =>
      simp only [ht] at hl
      cases hn : szOf P t with
      | none => simp [hn] at hl
      | some n =>
        simp only [hn] at hl
        cases hb : behind mem n a with
        | none => simp [hb] at hl
        | some p =>
          obtain ⟨cs, g'⟩ := p
          simp only [hb] at hl
          cases hk : takeN n cs with
          | none => simp [hk] at hl
          | some l =>
            simp [hk] at hl
            obtain ⟨rfl, rfl⟩ := hl
            obtain ⟨x, o, rfl, hc⟩ := behind_cells hm h hb
            have hk' := takeN_some hk
            have ex : ∀ j, j < n → ∃ u, w.cell? ⟨x, o + j, none⟩ = some u := fun j hj => by
              obtain ⟨_, u, hu, _⟩ := hc j l[j] (hk'.2 j _ (List.getElem?_eq_getElem (by omega)))
              exact ⟨u, hu⟩
            let f : Nat → Value := fun j => (w.cell? ⟨x, o + j, none⟩).getD Go.undef
            have hf : ∀ j, j < n → w.cell? ((⟨x, o, none⟩ : Addr).add j) = some (f j) := fun j hj => by
              obtain ⟨u, hu⟩ := ex j hj
              rw [Addr.add_lit]
              simp [f, hu]
            have hrun := run_loadCells (P := P) w ⟨x, o, none⟩ n f hf
            refine ⟨x, o, .agg ((List.range n).map f).toArray, rfl, ?_, ?_⟩
            · simp [loadVar, run_isAgg ht, run_sizeOf hn, hrun]
            · refine .agg _ (by simp [hk'.1]) (fun i c hi => (hc i c (hk'.2 i c hi)).1) (fun i c hi => ?_)
              have hin : i < n := by have := (List.getElem?_eq_some_iff.1 hi).1; omega
              obtain ⟨_, u, hu, hv⟩ := hc i c (hk'.2 i c hi)
              have : f i = u := by simp [f, hu]
              simpa [Array.getD, hin, this] using hv
    | false =>
      simp only [ht] at hl
      cases hb : behind mem 1 a with
      | none => simp [hb] at hl
      | some p =>
        obtain ⟨cs, g'⟩ := p
        cases cs with
        | nil => simp [hb] at hl
        | cons c cs =>
          simp [hb] at hl
          obtain ⟨rfl, rfl⟩ := hl
          obtain ⟨x, o, rfl, hc⟩ := behind_cells hm h hb
          obtain ⟨_, u, hu, hv⟩ := hc 0 c rfl
          refine ⟨x, o, u, rfl, ?_, hv⟩
          have hu' : w.cell? ⟨x, o, none⟩ = some u := by simpa using hu
          simp [loadVar, run_isAgg ht, hu']

end
end Go.Flat
end

section
/- Each operation of the evaluator does what the model's operation does. Part 2: stores, literals. -/
set_option linter.unusedSimpArgs false
set_option linter.unusedVariables false
namespace Go.Flat
open Go

theorem length_over : ∀ (l : List AV) (o : Nat) (vs : List AV), (over l o vs).length = l.length
  | l, o, [] => by cases l <;> cases o <;> rfl
  | [], o, _ :: _ => by cases o <;> rfl
  | _ :: l, 0, v :: vs => by simp [over, length_over l 0 vs]
  | a :: l, n + 1, v :: vs => by simp [over, length_over l n (v :: vs)]

theorem get_over : ∀ (l : List AV) (o : Nat) (vs : List AV) (j : Nat), (over l o vs)[j]? = if o ≤ j ∧ j < o + vs.length ∧ j < l.length then vs[j - o]? else l[j]?
  | l, o, [], j => by
    have : over l o [] = l := by cases l <;> cases o <;> rfl
    rw [this, if_neg (by simp only [List.length_nil]; omega)]
  | [], o, _ :: _, j => by
    have : over [] o (‹AV› :: ‹List AV›) = [] := by cases o <;> rfl
    simp [this]
  | a :: l, 0, v :: vs, j => by
    cases j with
    | zero => simp [over]
    | succ j =>
      have ih := get_over l 0 vs j
      simp only [over, List.getElem?_cons_succ, ih, List.length_cons, Nat.zero_le, true_and, Nat.zero_add, Nat.sub_zero, Nat.add_lt_add_iff_right]
  | a :: l, n + 1, v :: vs, j => by
    cases j with
    | zero => simp [over]
    | succ j =>
      have ih := get_over l n (v :: vs) j
      simp only [over, List.getElem?_cons_succ, ih, List.length_cons]
      by_cases h : n ≤ j ∧ j < n + (vs.length + 1) ∧ j < l.length
      · rw [if_pos h, if_pos (by omega), Nat.add_sub_add_right]
      · rw [if_neg h, if_neg (by omega)]

theorem get_put (c : List Value) (o : Nat) (vs : List Value) (h : o + vs.length ≤ c.length) (j : Nat) :
    (c.take o ++ vs ++ c.drop (o + vs.length))[j]? = if o ≤ j ∧ j < o + vs.length then vs[j - o]? else c[j]? := by
  rw [List.append_assoc, List.getElem?_append]
  simp only [List.length_take, show min o c.length = o by omega]
  by_cases h1 : j < o
  · rw [if_pos h1, if_neg (by omega), List.getElem?_take, if_pos h1]
  · rw [if_neg h1, List.getElem?_append]
    by_cases h2 : j - o < vs.length
    · rw [if_pos h2, if_pos (by omega)]
    · rw [if_neg h2, if_neg (by omega), List.getElem?_drop]
      congr 1
      omega

theorem setRow_side (w : World) (x : Nat) (c : Array Value) : Side w (w.setRow x c) := by
  unfold World.setRow
  repeat' split
  all_goals exact ⟨rfl, rfl⟩
theorem Sizes.setRow {w : World} {x : Nat} {c c' : Array Value} {e : TypeId} {f : Nat × Nat} (h : w.heap[x]? = some (.cells c e f)) (hs : c'.size = c.size) : Sizes w (w.setRow x c') := by
  refine ⟨?_, fun y d e' f' hy => ?_⟩
  · exact setRow_side w x c'
  by_cases hxy : y = x
  · subst hxy
    rw [h] at hy
    cases hy
    exact ⟨c', f, setRow_heap w y c c' e f h, hs⟩
  · exact ⟨d, f', by rw [setRow_other w x y c' hxy]; exact hy, rfl⟩

section
variable {R : Nat → Prop} {ρ : Loc} {w : World} {rf : Ref} {mem : Mem}

theorem MS.write (h : MS rf R ρ mem w) {b x : Nat} {s : Slot} {w' : World} {blk' : Blk} (hs : getSlot mem b = some s) (hf : s.frozen = false) (hx : ρ b = some x)
    (hw : ∀ y, y ≠ x → w'.heap[y]? = w.heap[y]?) (hsz : Sizes w w') (hsize : w'.heap.size = w.heap.size) (hB : BR R ρ w' x blk') :
    MS rf R ρ (mem.set b (some ⟨blk', false⟩)) w' := by
  have hl := getSlot_lt hs
  have hR : ∀ y, R y → w'.heap[y]? = w.heap[y]? := fun y hy => hw y (fun e => h.nR b x s hs hf hx (e ▸ hy))
  have key : ∀ b' s', getSlot (mem.set b (some ⟨blk', false⟩)) b' = some s' → ∃ s'', getSlot mem b' = some s'' ∧ s''.frozen = s'.frozen ∧ (b' ≠ b → s'' = s') ∧ (b' = b → s'.blk = blk') := by
    intro b' s' h'
    rw [getSlot_set hl] at h'
    split at h'
    · rename_i e; subst e; cases h'; exact ⟨s, hs, hf, fun e => absurd rfl e, fun _ => rfl⟩
    · rename_i e; exact ⟨s', h', rfl, fun _ => rfl, fun e' => absurd e'.symm e⟩
  refine { blk := ?_, dom := ?_, inj := ?_, lt := ?_, nold := ?_, oldk := ?_, oldlt := ?_, nR := ?_, Rlt := ?_, R0 := h.R0, Rn := h.Rn, R0k := ?_, ρ0 := h.ρ0, szk := h.szk.trans hsz, size := by rw [hsize]; exact h.size, base := ?_ }
  · intro b' s' h'
    obtain ⟨s'', h1, _, h3, h4⟩ := key b' s' h'
    by_cases e : b' = b
    · rw [h4 e, e]; exact .inl ⟨x, hx, hB⟩
    · have := h3 e; subst this
      rcases h.blk b' s'' h1 with ⟨y, h5, h6⟩ | h5
      · have hyx : y ≠ x := fun e' => e (h.inj b' b x s'' s h1 hs (e' ▸ h5) hx)
        exact .inl ⟨y, h5, h6.mono (hw y hyx) (fun _ h => h) hR hsz (fun _ _ h => h)⟩
      · exact .inr h5
  · intro b' y hb; simp only [List.length_set]; exact h.dom b' y hb
  · intro b1 b2 y s1 s2 h1 h2 h3 h4
    obtain ⟨t1, k1, _⟩ := key b1 s1 h1
    obtain ⟨t2, k2, _⟩ := key b2 s2 h2
    exact h.inj b1 b2 y t1 t2 k1 k2 h3 h4
  · intro b' y hb; rw [hsize]; exact h.lt b' y hb
  · intro b' y s' h1 h2
    obtain ⟨t, k, _⟩ := key b' s' h1
    exact h.nold b' y t k h2
  · intro y hy
    rw [hw y (fun e => h.nold b x s hs hx (e ▸ hy))]
    exact h.oldk y hy
  · intro y hy; rw [hsize]; exact h.oldlt y hy
  · intro b' y s' h1 h2 h3
    obtain ⟨t, k, k2, _⟩ := key b' s' h1
    exact h.nR b' y t k (k2.trans h2) h3
  · intro y hy; rw [hsize]; exact h.Rlt y hy
  · intro y hy; rw [hR y (h.R0 y hy)]; exact h.R0k y hy
  · simp only [List.length_set]; exact h.base

theorem getSlot_some {mem : Mem} {b : Nat} {s : Slot} (h : getSlot mem b = some s) : mem[b]? = some (some s) := by
  unfold getSlot at h
  split at h
  · rename_i s' h'; cases h; exact h'
  · cases h

/-- a store through a pointer into one's own memory -/
theorem storeA_run {P : Program} (hm : MS rf R ρ mem w) {t : TypeId} {a x : AV} {va vx : Value} {e : Eff} (ha : VR R ρ w a va) (hx : VR R ρ w x vx) (hs : storeA P mem t a x = some e)
    (hc : ∀ c ∈ e.conds, c = true) :
    ∃ y o w', va = .pointer (some ⟨y, o, none⟩) ∧ (storeVar t ⟨y, o, none⟩ vx).run P w = .ok () w' ∧ MS rf R ρ (applyU mem e.upd) w' ∧ (∀ z, R z → w'.heap[z]? = w.heap[z]?) ∧ Sizes w w' ∧ e.v = .undef := by
  cases ha with
  | @ptr b esz row off y h =>
    simp only [storeA] at hs
    cases hn : szOf P t with
    | none => simp [hn] at hs
    | some n =>
      simp only [hn] at hs
      cases hg : (Nat.beq x.cells.length n && x.cells.all AV.leaf && !Nat.beq n 0) with
      | false => simp [hg] at hs
      | true =>
        simp only [Bool.and_eq_true, Bool.not_eq_true'] at hg
        obtain ⟨⟨g1, g2⟩, g3⟩ := hg
        have hlen : x.cells.length = n := Nat.eq_of_beq_eq_true g1
        have hn0 : 0 < n := by rcases Nat.eq_zero_or_pos n with h | h; · subst h; simp at g3
                               · exact h
        have hpw := hx.pw g2
        have h1 := hpw.one
        have hvl : vx.cells.toList.length = n := by simp [hpw.1, hlen]
        have hvs : vx.cells.size = n := hpw.1.trans hlen
        simp only [g1, g2, g3, Bool.and_self, Bool.not_false, cond_true] at hs
        cases hsl : getSlot mem b with
        | none => simp [hsl] at hs
        | some s =>
          obtain ⟨blk, fr⟩ := s
          have hB : BR R ρ w y blk := by
            rcases hm.blk b _ hsl with ⟨y', k1, k2⟩ | ⟨k1, _⟩
            · rw [h] at k1; cases k1; exact k2
            · rw [h] at k1; cases k1
          cases fr with
          | true => cases blk <;> simp [hsl] at hs
          | false =>
            have hnR : ∀ z, R z → z ≠ y := fun z hz e' => hm.nR b y _ hsl rfl h (e' ▸ hz)
            cases blk with
            | one cs =>
              simp only [hsl] at hs
              cases hq : (Nat.beq row 0 && Nat.ble (off + n) cs.length) with
              | false => simp [hq] at hs
              | true =>
                simp [hq] at hs
                subst hs
                simp only [Bool.and_eq_true] at hq
                have hr0 : row = 0 := Nat.eq_of_beq_eq_true hq.1
                have hle : off + n ≤ cs.length := Nat.le_of_ble_eq_true hq.2
                subst hr0
                obtain ⟨c, et, k1, k2, k3⟩ := hB
                have hfit : off + 0 + vx.cells.toList.length ≤ c.size := by omega
                have hst := run_storeCells_at P y off et vx.cells.toList 0 c w k1 hfit h1
                simp only [Nat.add_zero] at hst
                let c' : Array Value := (c.toList.take off ++ vx.cells.toList ++ c.toList.drop (off + vx.cells.toList.length)).toArray
                have hcs : c'.size = c.size := by simp [c']; omega
                have hsz := Sizes.setRow (c' := c') k1 hcs
                refine ⟨y, 0 * esz + off, w.setRow y c', rfl, ?_, ?_, fun z hz => setRow_other w y z c' (hnR z hz), hsz, rfl⟩
                · simp only [Nat.zero_mul, Nat.zero_add]
                  simp [storeVar, run_sizeOf hn, hpw.1, hlen, hst, c']
                · have hap : applyU mem [.cells b off x.cells] = mem.set b (some ⟨.one (over cs off x.cells), false⟩) := by
                    simp [applyU, apply1, getSlot_some hsl]
                  rw [hap]
                  refine hm.write hsl rfl h (fun z hz => setRow_other w y z c' hz) hsz (setRow_size w y c') ⟨c', et, setRow_heap w y c c' et (0, 0) k1, by rw [length_over, hcs]; exact k2, ?_⟩
                  intro j q hj
                  have hget : c'[0 + j]? = if off ≤ j ∧ j < off + vx.cells.toList.length then vx.cells.toList[j - off]? else c.toList[j]? := by
                    have := get_put c.toList off vx.cells.toList (by simpa using hfit) j
                    simpa [c'] using this
                  rw [get_over] at hj
                  by_cases hin : off ≤ j ∧ j < off + n
                  · have hjl : off ≤ j ∧ j < off + x.cells.length ∧ j < cs.length := by omega
                    rw [if_pos hjl] at hj
                    obtain ⟨q1, q2⟩ := hpw.2 _ _ hj
                    refine ⟨q1, _, ?_, q2.mono (fun _ h => h) (fun z hz => setRow_other w y z c' (hnR z hz)) hsz (fun _ _ h => h)⟩
                    rw [hget, if_pos (by omega)]
                    have : j - off < vx.cells.size := by have := hpw.1; omega
                    simp [Array.getD, this]
                  · have hjl : ¬ (off ≤ j ∧ j < off + x.cells.length ∧ j < cs.length) := by omega
                    rw [if_neg hjl] at hj
                    obtain ⟨q1, u, q2, q3⟩ := k3 j q hj
                    refine ⟨q1, u, ?_, q3.mono (fun _ h => h) (fun z hz => setRow_other w y z c' (hnR z hz)) hsz (fun _ _ h => h)⟩
                    rw [hget, if_neg (by omega)]
                    simpa using q2
            | many et esz' fl rows =>
              simp only [hsl] at hs
              cases he : Nat.beq esz esz' with
              | false => simp [he] at hs
              | true =>
                have he' := Nat.eq_of_beq_eq_true he
                subst he'
                obtain ⟨c, k1, k0, k2, k3, k4⟩ := hB
                -- what is common: the new row, and where it goes
                have main : ∀ (old : List AV), rows[row]? = some old → off + n ≤ esz →
                    ∃ w', (storeVar t ⟨y, row * esz + off, none⟩ vx).run P w = .ok () w' ∧
                      MS rf R ρ (mem.set b (some ⟨.many et esz (fl && x.cells.all noLoc) (rows.set row (over old off x.cells)), false⟩)) w' ∧
                      (∀ z, R z → w'.heap[z]? = w.heap[z]?) ∧ Sizes w w' := by
                  intro old hold hfit0
                  have hrow : row < rows.length := (List.getElem?_eq_some_iff.1 hold).1
                  have hmul : (row + 1) * esz ≤ rows.length * esz := Nat.mul_le_mul_right _ hrow
                  rw [Nat.add_mul, Nat.one_mul] at hmul
                  have hfit : row * esz + off + 0 + vx.cells.toList.length ≤ c.size := by omega
                  have hst := run_storeCells_at P y (row * esz + off) et vx.cells.toList 0 c w k1 hfit h1
                  simp only [Nat.add_zero] at hst
                  let c' : Array Value := (c.toList.take (row * esz + off) ++ vx.cells.toList ++ c.toList.drop (row * esz + off + vx.cells.toList.length)).toArray
                  have hcs : c'.size = c.size := by simp [c']; omega
                  have hsz := Sizes.setRow (c' := c') k1 hcs
                  have hkeep : ∀ z, R z → (w.setRow y c').heap[z]? = w.heap[z]? := fun z hz => setRow_other w y z c' (hnR z hz)
                  refine ⟨w.setRow y c', ?_, ?_, hkeep, hsz⟩
                  · simp [storeVar, run_sizeOf hn, hpw.1, hlen, hst, c']
                  · refine hm.write hsl rfl h (fun z hz => setRow_other w y z c' hz) hsz (setRow_size w y c') ⟨c', setRow_heap w y c c' et (0, 0) k1, k0, by rw [List.length_set, hcs]; exact k2, ?_, ?_⟩
                    · intro r rw' hr
                      have hget : ∀ j, c'[j]? = if row * esz + off ≤ j ∧ j < row * esz + off + vx.cells.toList.length then vx.cells.toList[j - (row * esz + off)]? else c.toList[j]? := by
                        intro j
                        have := get_put c.toList (row * esz + off) vx.cells.toList (by simpa using hfit) j
                        simpa [c'] using this
                      rw [List.getElem?_set] at hr
                      by_cases hrr : row = r
                      · subst hrr
                        simp only [hrow, if_true] at hr
                        cases hr
                        obtain ⟨m1, m2⟩ := k3 row old hold
                        refine ⟨by rw [length_over]; exact m1, fun j q hj => ?_⟩
                        rw [get_over] at hj
                        by_cases hin : off ≤ j ∧ j < off + n
                        · rw [if_pos (by omega)] at hj
                          obtain ⟨q1, q2⟩ := hpw.2 _ _ hj
                          refine ⟨q1, _, ?_, q2.mono (fun _ h => h) hkeep hsz (fun _ _ h => h)⟩
                          rw [hget, if_pos (by omega)]
                          have : j - off < vx.cells.size := by have := hpw.1; omega
                          rw [show row * esz + j - (row * esz + off) = j - off by omega]
                          simp [Array.getD, this]
                        · rw [if_neg (by omega)] at hj
                          obtain ⟨q1, u, q2, q3⟩ := m2 j q hj
                          refine ⟨q1, u, ?_, q3.mono (fun _ h => h) hkeep hsz (fun _ _ h => h)⟩
                          rw [hget, if_neg (by omega)]
                          simpa using q2
                      · simp only [hrr, if_false] at hr
                        obtain ⟨m1, m2⟩ := k3 r rw' hr
                        refine ⟨m1, fun j q hj => ?_⟩
                        have hje : j < esz := by rw [← m1]; exact (List.getElem?_eq_some_iff.1 hj).1
                        obtain ⟨q1, u, q2, q3⟩ := m2 j q hj
                        refine ⟨q1, u, ?_, q3.mono (fun _ h => h) hkeep hsz (fun _ _ h => h)⟩
                        have hout : ¬ (row * esz + off ≤ r * esz + j ∧ r * esz + j < row * esz + off + vx.cells.toList.length) := by
                          rcases Nat.lt_or_gt_of_ne hrr with hlt | hlt
                          · have : (row + 1) * esz ≤ r * esz := Nat.mul_le_mul_right _ hlt
                            rw [Nat.add_mul, Nat.one_mul] at this
                            omega
                          · have : (r + 1) * esz ≤ row * esz := Nat.mul_le_mul_right _ hlt
                            rw [Nat.add_mul, Nat.one_mul] at this
                            omega
                        rw [hget, if_neg hout]
                        simpa using q2
                    · intro hfl r rw' hr
                      simp only [Bool.and_eq_true] at hfl
                      rw [List.getElem?_set] at hr
                      by_cases hrr : row = r
                      · subst hrr
                        simp only [hrow, if_true] at hr
                        cases hr
                        have hold' := k4 hfl.1 row old hold
                        rw [List.all_eq_true]
                        intro q hq
                        obtain ⟨j, hj⟩ := List.mem_iff_getElem?.1 hq
                        rw [get_over] at hj
                        split at hj
                        · exact all_get hfl.2 hj
                        · exact all_get hold' hj
                      · simp only [hrr, if_false] at hr
                        exact k4 hfl.1 r rw' hr
                simp only [he, cond_true] at hs
                cases hw : (Nat.beq off 0 && Nat.beq n esz) with
                | true =>
                  simp [hw] at hs
                  subst hs
                  simp only [Bool.and_eq_true] at hw
                  have ho : off = 0 := Nat.eq_of_beq_eq_true hw.1
                  have hne : n = esz := Nat.eq_of_beq_eq_true hw.2
                  subst ho
                  have hlt : row < rows.length := by simpa using hc _ (List.mem_singleton.2 rfl)
                  obtain ⟨w', r1, r2, r3, r4⟩ := main _ (List.getElem?_eq_getElem hlt) (by omega)
                  have hov : over rows[row] 0 x.cells = x.cells := by
                    have hl1 := (k3 row _ (List.getElem?_eq_getElem hlt)).1
                    apply List.ext_getElem?
                    intro j
                    rw [get_over]
                    by_cases hj : j < x.cells.length
                    · rw [if_pos (by omega)]; simp
                    · rw [if_neg (by omega), List.getElem?_eq_none (by omega), List.getElem?_eq_none (by omega)]
                  rw [hov] at r2
                  exact ⟨y, _, w', rfl, r1, by simpa [applyU, apply1] using r2, r3, r4, rfl⟩
                | false =>
                  simp only [hw, cond_false] at hs
                  cases hr : rows[row]? with
                  | none => simp [hr] at hs
                  | some old =>
                    simp only [hr] at hs
                    cases hb : Nat.ble (off + n) old.length with
                    | false => simp [hb] at hs
                    | true =>
                      simp [hb] at hs
                      subst hs
                      have hfit := Nat.le_of_ble_eq_true hb
                      have hl1 := (k3 row old hr).1
                      obtain ⟨w', r1, r2, r3, r4⟩ := main old hr (by omega)
                      exact ⟨y, _, w', rfl, r1, by simpa [applyU, apply1] using r2, r3, r4, rfl⟩
  | _ => simp [storeA] at hs

end
end Go.Flat
end

section
/- Each operation of the evaluator does what the model's operation does. Part 3: literals of structs, arrays and slices. -/
set_option linter.unusedSimpArgs false
set_option linter.unusedVariables false
namespace Go.Flat
open Go

theorem foldl_sets (off : Nat) : ∀ (us : List Value) (s : Nat) (cells : Array Value),
    ((us.zipIdx s).foldl (fun cs (x : Value × Nat) => cs.setIfInBounds (off + x.2) x.1) cells).size = cells.size ∧
    ∀ k, ((us.zipIdx s).foldl (fun cs (x : Value × Nat) => cs.setIfInBounds (off + x.2) x.1) cells)[k]? =
      if off + s ≤ k ∧ k < off + s + us.length ∧ k < cells.size then us[k - (off + s)]? else cells[k]?
  | [], s, cells => by
    refine ⟨rfl, fun k => ?_⟩
    rw [if_neg (by simp only [List.length_nil]; omega)]
    rfl
  | u :: us, s, cells => by
    have ih := foldl_sets off us (s + 1) (cells.setIfInBounds (off + s) u)
    simp only [List.zipIdx_cons, List.foldl_cons]
    refine ⟨by rw [ih.1]; simp, fun k => ?_⟩
    rw [ih.2 k, Array.getElem?_setIfInBounds]
    simp only [Array.size_setIfInBounds, List.length_cons]
    by_cases h1 : off + (s + 1) ≤ k ∧ k < off + (s + 1) + us.length ∧ k < cells.size
    · rw [if_pos h1, if_pos (by omega), show k - (off + s) = (k - (off + (s + 1))) + 1 by omega, List.getElem?_cons_succ]
    · rw [if_neg h1]
      by_cases h2 : off + s = k
      · subst h2
        by_cases h3 : off + s < cells.size
        · simp [h3]
        · simp [h3]
      · rw [if_neg h2, if_neg (by omega)]

theorem fill_step (off : Nat) (v : Value) (cells : Array Value) :
    (v.cells.zipIdx.foldl (fun cs (x : Value × Nat) => cs.setIfInBounds (off + x.2) x.1) cells).size = cells.size ∧
    ∀ k, (v.cells.zipIdx.foldl (fun cs (x : Value × Nat) => cs.setIfInBounds (off + x.2) x.1) cells)[k]? =
      if off ≤ k ∧ k < off + v.cells.size ∧ k < cells.size then v.cells[k - off]? else cells[k]? := by
  have h := foldl_sets off v.cells.toList 0 cells
  rw [← Array.foldl_toList, Array.toList_zipIdx]
  refine ⟨h.1, fun k => ?_⟩
  have := h.2 k
  simpa using this

section
variable {R : Nat → Prop} {ρ : Loc} {w : World} {rf : Ref} {mem : Mem}

theorem getD_some {vs : Array Value} {j : Nat} {u : Value} (h : vs[j]? = some u) : vs.getD j undef = u := by
  obtain ⟨hj, h⟩ := Array.getElem?_eq_some_iff.1 h
  simp [Array.getD, hj, h]
theorem getD_eq {vs : Array Value} {j : Nat} (h : j < vs.size) : vs.getD j undef = vs[j] := by simp [Array.getD, h]

theorem fill_sim (place : Nat → Option (Nat × Nat)) : ∀ (parts : List (Nat × AV)) (parts' : List (Nat × Value)) (cells l : List AV) (cells' : Array Value),
    PW R ρ w cells cells' → parts.length = parts'.length → (∀ (i : Nat) (p : Nat × AV) (q : Nat × Value), parts[i]? = some p → parts'[i]? = some q → p.1 = q.1 ∧ VR R ρ w p.2 q.2) →
    fillA place cells parts = some l → ∃ vs, Instr.fill place cells' parts' = some vs ∧ PW R ρ w l vs
  | [], parts', cells, l, cells', hp, hl, _, h => by
    simp [fillA] at h
    subst h
    have : parts' = [] := List.eq_nil_of_length_eq_zero hl.symm
    subst this
    exact ⟨cells', rfl, hp⟩
  | (i, v) :: rest, [], cells, l, cells', hp, hl, _, h => by simp at hl
  | (i, v) :: rest, (i', v') :: rest', cells, l, cells', hp, hl, hv, h => by
    obtain ⟨e, hvv⟩ := hv 0 _ _ rfl rfl
    simp only at e hvv
    subst e
    simp only [fillA] at h
    cases hpl : place i with
    | none => simp [hpl] at h
    | some q =>
      obtain ⟨off, size⟩ := q
      simp only [hpl] at h
      cases hg : (Nat.beq v.cells.length size && v.cells.all AV.leaf && Nat.ble (off + size) cells.length) with
      | false => simp [hg] at h
      | true =>
        simp only [hg, cond_true] at h
        simp only [Bool.and_eq_true] at hg
        obtain ⟨⟨g1, g2⟩, g3⟩ := hg
        have hsz : v.cells.length = size := Nat.eq_of_beq_eq_true g1
        have hle := Nat.le_of_ble_eq_true g3
        have hpw := hvv.pw g2
        have hfs := fill_step off v' cells'
        have hp1 := hp.1
        have hpw1 := hpw.1
        have hp' : PW R ρ w (over cells off v.cells) (v'.cells.zipIdx.foldl (fun cs (x : Value × Nat) => cs.setIfInBounds (off + x.2) x.1) cells') := by
          refine ⟨by rw [hfs.1, length_over]; exact hp1, fun j c hc => ?_⟩
          have hj : j < cells'.size := by
            have := (List.getElem?_eq_some_iff.1 hc).1
            rw [length_over] at this
            omega
          have hget := hfs.2 j
          rw [get_over] at hc
          by_cases hin : off ≤ j ∧ j < off + size
          · rw [if_pos (by omega)] at hc hget
            obtain ⟨q1, q2⟩ := hpw.2 _ _ hc
            refine ⟨q1, ?_⟩
            have hlt : j - off < v'.cells.size := by omega
            rw [getD_some (Array.getElem?_eq_getElem hlt)] at q2
            rw [getD_some (hget.trans (Array.getElem?_eq_getElem hlt))]
            exact q2
          · rw [if_neg (by omega)] at hc hget
            obtain ⟨q1, q2⟩ := hp.2 _ _ hc
            refine ⟨q1, ?_⟩
            rw [getD_some (Array.getElem?_eq_getElem hj)] at q2
            rw [getD_some (hget.trans (Array.getElem?_eq_getElem hj))]
            exact q2
        obtain ⟨vs, k1, k2⟩ := fill_sim place rest rest' _ l _ hp' (by simpa using hl) (fun i p q h1 h2 => hv (i + 1) p q (by simpa using h1) (by simpa using h2)) h
        refine ⟨vs, ?_, k2⟩
        simp only [Instr.fill, hpl]
        rw [if_neg (by simp; omega)]
        exact k1

theorem VR.ofConst (v : Value) : VR R ρ w (ofConst v) v ∨ ¬ (Flat.ofConst v).cells.all AV.leaf = true := by
  cases v with
  | agg cs =>
    by_cases h : (Flat.ofConst (.agg cs)).cells.all AV.leaf = true
    · left
      simp only [Flat.ofConst]
      refine .agg cs (by simp) (fun i c hc => ?_) (fun i c hc => ?_)
      · exact all_get h hc
      · simp only [List.getElem?_map, Option.map_eq_some_iff] at hc
        obtain ⟨u, h1, rfl⟩ := hc
        have hi : i < cs.size := by simpa using (List.getElem?_eq_some_iff.1 h1).1
        rw [getD_eq hi]
        have : u = cs[i] := by simpa [hi] using h1.symm
        rw [this]
        exact .ofLeaf _
    · exact .inr h
  | bool b => exact .inl (VR.ofLeaf (.bool b))
  | int k n => exact .inl (VR.ofLeaf (.int k n))
  | float k n => exact .inl (VR.ofLeaf (.float k n))
  | complex k n m => exact .inl (VR.ofLeaf (.complex k n m))
  | string b => exact .inl (VR.ofLeaf (.string b))
  | pointer b => exact .inl (VR.ofLeaf (.pointer b))
  | slice a b c => exact .inl (VR.ofLeaf (.slice a b c))
  | map b => exact .inl (VR.ofLeaf (.map b))
  | chan b => exact .inl (VR.ofLeaf (.chan b))
  | func a b c => exact .inl (VR.ofLeaf (.func a b c))
  | nilFunc => exact .inl (VR.ofLeaf .nilFunc)
  | iface a b => exact .inl (VR.ofLeaf (.iface a b))
  | nilIface => exact .inl (VR.ofLeaf .nilIface)
  | tuple b => exact .inl (VR.ofLeaf (.tuple b))

theorem zeroA_some {P : Program} {t : TypeId} {z : AV} (h : zeroA P t = some z) : ∃ i v, P.info? t = some i ∧ i.zero = some v ∧ z = ofConst v := by
  unfold zeroA at h
  cases hi : P.info? t with
  | none => simp [hi] at h
  | some i =>
    cases hz : i.zero with
    | none => simp [hi, hz] at h
    | some v => simp [hi, hz] at h; exact ⟨i, v, rfl, hz, h.symm⟩

theorem zero_pw {P : Program} {t : TypeId} {z : AV} (h : zeroA P t = some z) (hl : z.cells.all AV.leaf = true) : ∃ i v, P.info? t = some i ∧ i.zero = some v ∧ VR R ρ w z v ∧ PW R ρ w z.cells v.cells := by
  obtain ⟨i, v, h1, h2, rfl⟩ := zeroA_some h
  rcases VR.ofConst (R := R) (ρ := ρ) (w := w) v with h3 | h3
  · exact ⟨i, v, h1, h2, h3, h3.pw hl⟩
  · exact absurd hl h3

theorem buildA_run {P : Program} {t : TypeId} {parts : List (Nat × AV)} {parts' : Array (Nat × Value)} {r : AV} (hlen : parts.length = parts'.toList.length)
    (hv : ∀ (i : Nat) (p : Nat × AV) (q : Nat × Value), parts[i]? = some p → parts'.toList[i]? = some q → p.1 = q.1 ∧ VR R ρ w p.2 q.2) (h : buildA P t parts = some r) :
    ∃ vs, (Instr.build t parts').run P w = .ok (.agg vs) w ∧ VR R ρ w r (.agg vs) := by
  unfold buildA at h
  cases hz : zeroA P t with
  | none => simp [hz] at h
  | some z =>
    simp only [hz] at h
    cases hl : z.cells.all AV.leaf with
    | false => simp [hl] at h
    | true =>
      obtain ⟨it, zv, h1, h2, h3, h4⟩ := zero_pw (R := R) (ρ := ρ) (w := w) hz hl
      simp only [hl, cond_true] at h
      cases hu : P.underlying t with
      | none => simp [hu] at h
      | some d =>
        cases d with
        | struct fs =>
          simp only [hu] at h
          cases hm : fs.toList.mapM (fun f => (P.info? f.type).map fun i => (f.offset, i.size)) with
          | none => simp [hm] at h
          | some places =>
            simp only [hm] at h
            cases hf : fillA (fun i => places[i]?) z.cells parts with
            | none => simp [hf] at h
            | some l =>
              simp [hf] at h
              subst h
              obtain ⟨vs, k1, k2⟩ := fill_sim _ parts parts'.toList z.cells l zv.cells h4 hlen hv hf
              refine ⟨vs, run_build w t parts' vs ?_, k2.agg⟩
              simp only [Program.built, h1, hu, h2, hm]
              simpa using k1
        | array n e =>
          simp only [hu] at h
          cases hs : szOf P e with
          | none => simp [hs] at h
          | some k =>
            simp only [hs] at h
            cases hf : fillA (fun i => some (i * k, k)) z.cells parts with
            | none => simp [hf] at h
            | some l =>
              simp [hf] at h
              subst h
              obtain ⟨vs, k1, k2⟩ := fill_sim _ parts parts'.toList z.cells l zv.cells h4 hlen hv hf
              refine ⟨vs, run_build w t parts' vs ?_, k2.agg⟩
              unfold szOf at hs
              cases hi : P.info? e with
              | none => simp [hi] at hs
              | some ie =>
                simp [hi] at hs
                subst hs
                simp only [Program.built, h1, hu, h2, hi]
                exact k1
        | _ => simp [hu] at h

theorem length_repl (l : List AV) : ∀ n, (repl n l).length = n * l.length
  | 0 => by simp [repl]
  | n + 1 => by simp [repl, length_repl l n, Nat.add_mul, Nat.add_comm]

theorem get_repl (l : List AV) (h : 0 < l.length) : ∀ (n k : Nat), k < n * l.length → (repl n l)[k]? = l[k % l.length]?
  | 0, k, hk => by simp at hk
  | n + 1, k, hk => by
    simp only [repl, List.getElem?_append]
    by_cases h1 : k < l.length
    · rw [if_pos h1, Nat.mod_eq_of_lt h1]
    · rw [if_neg h1, get_repl l h n (k - l.length) (by rw [Nat.add_mul, Nat.one_mul] at hk; omega)]
      congr 1
      rw [Nat.mod_eq_sub_mod (by omega : k ≥ l.length)]

theorem Value.get!_eq {vs : Array Value} {j : Nat} (h : j < vs.size) : vs[j]! = vs[j] := by simp [h]

theorem repl_pw {l : List AV} {vs : Array Value} (h : PW R ρ w l vs) (hl : 0 < l.length) (len : Nat) : PW R ρ w (repl len l) ((Array.range (len * l.length)).map (vs[· % vs.size]!)) := by
  refine ⟨by simp [length_repl], fun j c hc => ?_⟩
  have hj : j < len * l.length := by rw [← length_repl]; exact (List.getElem?_eq_some_iff.1 hc).1
  rw [get_repl l hl len j hj] at hc
  obtain ⟨q1, q2⟩ := h.2 _ _ hc
  refine ⟨q1, ?_⟩
  have hm : j % l.length < vs.size := by rw [h.1]; exact Nat.mod_lt _ hl
  rw [getD_eq hm] at q2
  rw [getD_eq (by simpa using hj)]
  have : ((Array.range (len * l.length)).map (vs[· % vs.size]!))[j]'(by simpa using hj) = vs[j % l.length] := by
    simp only [Array.getElem_map, Array.getElem_range, h.1]
    exact Value.get!_eq hm
  rw [this]
  exact q2

theorem buildSliceA_run {P : Program} {t : TypeId} {len : Nat} {parts : List (Nat × AV)} {parts' : Array (Nat × Value)} {r : AV} (hlen : parts.length = parts'.toList.length)
    (hv : ∀ (i : Nat) (p : Nat × AV) (q : Nat × Value), parts[i]? = some p → parts'.toList[i]? = some q → p.1 = q.1 ∧ VR R ρ w p.2 q.2) (hm : MS rf R ρ mem w) (h : buildSliceA P t len parts = some r) :
    ∃ v o, (Instr.buildSlice t len parts').run P w = .ok v (w.alloc o) ∧ VR (fun x => R x ∨ x = w.heap.size) ρ (w.alloc o) r v := by
  unfold buildSliceA at h
  cases hu : P.underlying t with
  | none => simp [hu] at h
  | some d =>
    cases d with
    | slice e =>
      simp only [hu] at h
      cases hs : szOf P e with
      | none => simp [hs] at h
      | some n =>
        cases hz : zeroA P e with
        | none => simp [hs, hz] at h
        | some z =>
          simp only [hs, hz] at h
          cases hg : (z.cells.all AV.leaf && Nat.beq z.cells.length n && !Nat.beq n 0 && !Nat.beq len 0 && Nat.ble (len * n) 16777216) with
          | false => simp [hg] at h
          | true =>
            simp only [hg, cond_true] at h
            simp only [Bool.and_eq_true, Bool.not_eq_true'] at hg
            obtain ⟨⟨⟨⟨g1, g2⟩, g3⟩, g5⟩, g4⟩ := hg
            have hzl : z.cells.length = n := Nat.eq_of_beq_eq_true g2
            have hn0 : 0 < n := by
              rcases Nat.eq_zero_or_pos n with h | h
              · subst h; simp at g3
              · exact h
            have hsmall := Nat.le_of_ble_eq_true g4
            obtain ⟨ie, zv, k1, k2, k3, k4⟩ := zero_pw (R := R) (ρ := ρ) (w := w) hz g1
            have hie : ie.size = n := by unfold szOf at hs; simp [k1] at hs; exact hs
            cases hf : fillA (fun i => some (i * n, n)) (repl len z.cells) parts with
            | none => simp [hf] at h
            | some l =>
              simp only [hf] at h
              cases hnl : l.all noLoc with
              | false => simp [hnl] at h
              | true =>
                simp [hnl] at h
                subst h
                have hrp := repl_pw k4 (by omega : 0 < z.cells.length) len
                rw [hzl] at hrp
                obtain ⟨vs, m1, m2⟩ := fill_sim _ parts parts'.toList _ l _ hrp hlen hv hf
                have hll : l.length = len * n := by
                  have key : ∀ (ps : List (Nat × AV)) (cs l' : List AV), fillA (fun i => some (i * n, n)) cs ps = some l' → l'.length = cs.length := by
                    intro ps
                    induction ps with
                    | nil => intro cs l' h'; simp [fillA] at h'; rw [h']
                    | cons p ps ih =>
                      intro cs l' h'
                      obtain ⟨i, v⟩ := p
                      simp only [fillA] at h'
                      cases hq : (Nat.beq v.cells.length n && v.cells.all AV.leaf && Nat.ble (i * n + n) cs.length) with
                      | false => simp [hq] at h'
                      | true => simp only [hq, cond_true] at h'; rw [ih _ _ h', length_over]
                  rw [key _ _ _ hf, length_repl, hzl]
                have hl0 : len ≠ 0 := fun e => by subst e; simp at g5
                · have hpos : 0 < len * n := Nat.mul_pos (Nat.pos_of_ne_zero hl0) hn0
                  have hzs : zv.cells.size = z.cells.length := k4.1
                  refine ⟨_, _, run_buildSlice w t e len parts' vs ie zv hu k1 k2 (by rw [hie]; omega) (by rw [hie]; omega) (by rw [hie]; exact m1), ?_⟩
                  have hnew : (w.alloc (.cells vs e)).heap[w.heap.size]? = some (.cells vs e) := heap_alloc_new w _
                  have hgd : ∀ (r j : Nat) (c : AV), r < len → ((l.drop (r * n)).take n)[j]? = some c → j < n ∧ l[r * n + j]? = some c := by
                    intro r j c hr hc
                    rw [List.getElem?_take] at hc
                    split at hc
                    · rename_i hj; rw [List.getElem?_drop] at hc; exact ⟨hj, hc⟩
                    · cases hc
                  refine .vsl (fun r j => vs.getD (r * n + j) Go.undef) (.inr rfl) (by simp only [maxLen]; have := Nat.le_mul_of_pos_right len hn0; omega) hn0 ?_ ?_ ?_ ?_
                  · intro r hr
                    simp only [List.length_take, List.length_drop, hll]
                    have : (r + 1) * n ≤ len * n := Nat.mul_le_mul_right _ hr
                    rw [Nat.add_mul, Nat.one_mul] at this
                    omega
                  · intro r j c hr hc
                    obtain ⟨_, hc'⟩ := hgd r j c hr hc
                    exact ⟨(m2.2 _ _ hc').1, all_get hnl hc'⟩
                  · intro r j c hr hc
                    obtain ⟨_, hc'⟩ := hgd r j c hr hc
                    have hlt : r * n + j < vs.size := by rw [m2.1]; exact (List.getElem?_eq_some_iff.1 hc').1
                    rw [Nat.zero_add, cell_of_row _ _ _ vs e (0, 0) hnew, getD_eq hlt, Array.getElem?_eq_getElem hlt]
                  · intro r j c hr hc
                    obtain ⟨_, hc'⟩ := hgd r j c hr hc
                    exact (m2.2 _ _ hc').2.mono (fun _ h => .inl h) (fun x hx => heap_alloc_old w _ x (hm.Rlt x hx)) (.alloc w _) (fun _ _ h => h)
    | _ => simp [hu] at h

end
end Go.Flat
end

section
/- Each operation of the evaluator does what the model's operation does. Part 4: numbers keep within their kinds. -/
set_option linter.unusedSimpArgs false
set_option linter.unusedVariables false
namespace Go.Flat
open Go

theorem inK_iff {k : IntKind} {n : Int} : inK k n = true ↔ k.min ≤ n ∧ n ≤ k.max := by simp [inK]

theorem inK_wrap (k : IntKind) (n : Int) : inK k (k.wrap n) = true := by
  rw [inK_iff]
  cases k <;> simp only [IntKind.wrap, IntKind.min, IntKind.max, IntKind.signed, IntKind.bits, Bool.true_and, Bool.false_and, if_true] <;>
    first
      | (split <;> rename_i h <;> simp only [decide_eq_true_eq] at h <;> omega)
      | (simp; omega)

theorem tmod_le (x y : Int) : (0 ≤ x → 0 ≤ x.tmod y ∧ x.tmod y ≤ x) ∧ (x < 0 → x ≤ x.tmod y ∧ x.tmod y ≤ 0) := by
  cases x with
  | ofNat m =>
    refine ⟨fun _ => ?_, fun h => absurd h (by simp)⟩
    cases y with
    | ofNat n => simp only [Int.tmod]; exact ⟨Int.natCast_nonneg _, Int.ofNat_le.2 (Nat.mod_le m n)⟩
    | negSucc n => simp only [Int.tmod]; exact ⟨Int.natCast_nonneg _, Int.ofNat_le.2 (Nat.mod_le m _)⟩
  | negSucc m =>
    refine ⟨fun h => by simp at h, fun _ => ?_⟩
    cases y with
    | ofNat n =>
      have := Nat.mod_le (m + 1) n
      show Int.negSucc m ≤ -(((m + 1) % n : Nat) : Int) ∧ -(((m + 1) % n : Nat) : Int) ≤ 0
      rw [Int.negSucc_eq]
      generalize (m + 1) % n = q at *
      omega
    | negSucc n =>
      have := Nat.mod_le (m + 1) (n + 1)
      show Int.negSucc m ≤ -(((m + 1) % (n + 1) : Nat) : Int) ∧ -(((m + 1) % (n + 1) : Nat) : Int) ≤ 0
      rw [Int.negSucc_eq]
      generalize (m + 1) % (n + 1) = q at *
      omega

theorem inK_tmod {k : IntKind} {x y : Int} (h : inK k x = true) : inK k (x.tmod y) = true := by
  rw [inK_iff] at h ⊢
  have h1 := tmod_le x y
  have h2 : k.min ≤ 0 ∧ 0 ≤ k.max := by cases k <;> decide
  rcases Int.lt_or_le x 0 with hx | hx
  · have := h1.2 hx; omega
  · have := h1.1 hx; omega

theorem inK_fdiv {k : IntKind} {x : Int} (n : Nat) (h : inK k x = true) : inK k (x.fdiv (2 ^ n)) = true := by
  rw [inK_iff] at h ⊢
  have hp : (0 : Int) < 2 ^ n := Int.pow_pos (by decide)
  rw [Int.fdiv_eq_ediv_of_nonneg _ (Int.le_of_lt hp)]
  have h2 : k.min ≤ 0 ∧ 0 ≤ k.max := by cases k <;> decide
  rcases Int.lt_or_le x 0 with hx | hx
  · have a1 : x ≤ x / 2 ^ n := by
      rw [Int.le_ediv_iff_mul_le hp]
      have h3 : x * 2 ^ n ≤ x * 1 := Int.mul_le_mul_of_nonpos_left (by omega) (by omega)
      omega
    have a2 : x / 2 ^ n < 0 := Int.ediv_neg_of_neg_of_pos hx hp
    omega
  · have a1 : x / 2 ^ n ≤ x := Int.ediv_le_self _ hx
    have a2 : 0 ≤ x / 2 ^ n := Int.ediv_nonneg hx (Int.le_of_lt hp)
    omega

/-- what an operation on two numbers gives is a truth value or a number of its kind -/
def okNum : Value → Prop
  | .int k n => inK k n = true
  | _ => True

theorem okNum_back (k : IntKind) (r : BitVec k.bits) (P : Program) (v : Value) (h : det P (pure (Value.int k (k.wrap r.toNat)) : Sem Value) = some v) : okNum v := by
  simp [det, pure] at h; subst h; exact inK_wrap _ _

theorem det_pure {α : Type} {P : Program} {a v : α} (h : det P (pure a : Sem α) = some v) : a = v := by
  have h' : some a = some v := h
  exact Option.some.inj h'

theorem det_stuck {α : Type} {P : Program} {why : String} {v : α} (h : det P (stuck why : Sem α) = some v) : False := by
  have h' : (none : Option α) = some v := h
  cases h'

theorem det_rt {α : Type} {P : Program} {m : String} {v : α} (h : det P (runtimePanic (.error m) : Sem α) = some v) : False := by
  have h' : (none : Option α) = some v := h
  cases h'

theorem int_bin (P : Program) (op : BinOp) (t : TypeId) (k k' : IntKind) (x y : Int) (v : Value) (hx : inK k x = true) (h : det P (binOp op t (.int k x) (.int k' y)) = some v) : okNum v := by
  have sh : ∀ op', (op' = BinOp.shl ∨ op' = BinOp.shr) → det P (Op.shift op' k x k' y) = some v → okNum v := by
    intro op' ho h
    unfold Op.shift at h
    by_cases hy : y < 0
    · rw [if_pos hy] at h; exact (det_rt h).elim
    · rw [if_neg hy] at h
      rcases ho with rfl | rfl
      · have := det_pure h; subst this; exact inK_wrap _ _
      · have := det_pure h; subst this; exact inK_fdiv _ hx
  cases op with
  | shl => exact sh _ (.inl rfl) h
  | shr => exact sh _ (.inr rfl) h
  | add | sub | mul =>
    simp only [binOp] at h
    by_cases hk : k = k'
    · subst hk
      rw [if_neg (fun h => h rfl)] at h
      have := det_pure h; subst this; exact inK_wrap _ _
    · rw [if_pos hk] at h; exact (det_stuck h).elim
  | quo | rem =>
    simp only [binOp] at h
    by_cases hk : k = k'
    · subst hk
      rw [if_neg (fun h => h rfl)] at h
      unfold Op.intDiv at h
      by_cases hy : y = 0
      · rw [if_pos hy] at h; exact (det_rt h).elim
      · rw [if_neg hy] at h
        have := det_pure h; subst this
        first | exact inK_wrap _ _ | exact inK_tmod hx
    · rw [if_pos hk] at h; exact (det_stuck h).elim
  | and | or | xor | andNot =>
    simp only [binOp] at h
    by_cases hk : k = k'
    · subst hk
      rw [if_neg (fun h => h rfl)] at h
      have := det_pure h; subst this; exact inK_wrap _ _
    · rw [if_pos hk] at h; exact (det_stuck h).elim
  | eql | neq | lss | leq | gtr | geq =>
    simp only [binOp] at h
    by_cases hk : k = k'
    · subst hk
      rw [if_neg (fun h => h rfl)] at h
      have := det_pure h; subst this; trivial
    · rw [if_pos hk] at h; exact (det_stuck h).elim

theorem int_un (P : Program) (op : UnOp) (a v : Value) (h : det P (Op.unary op a) = some v) : okNum v := by
  cases op <;> cases a <;> simp only [Op.unary] at h <;> first
    | exact (det_stuck h).elim
    | (have := det_pure h; subst this; first | trivial | exact inK_wrap _ _)
    | skip
  all_goals (rename_i o; cases o <;> first | exact (det_stuck h).elim | (have h' : (none : Option Value) = some v := h; cases h'))

section
variable {R : Nat → Prop} {ρ : Loc} {w : World}

theorem ofRes_VR {kn : Bool} {v : Value} {r : AV} (h : ofRes kn v = some r) (hv : okNum v) : VR R ρ w r v := by
  cases v <;> simp [ofRes] at h
  · subst h; cases kn
    · exact .lit trivial
    · exact .kb
  · subst h; cases kn
    · exact .lit hv
    · exact .ki hv
  · subst h; exact .lit trivial

theorem ofResB_VR {kn : Bool} {v : Value} {r : AV} (h : ofResB kn v = some r) : VR R ρ w r v := by
  cases v <;> simp [ofResB] at h
  · subst h; cases kn
    · exact .lit trivial
    · exact .kb
  · subst h; exact .lit trivial
end
end Go.Flat
end
