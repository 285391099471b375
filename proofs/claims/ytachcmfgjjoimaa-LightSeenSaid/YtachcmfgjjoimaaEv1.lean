/- An evaluator of the model's code over abstract values, and the single operations on floats, tests and whole numbers. -/
import Derived.Calls
import Derived.Orders
import Derived.WalkKit
import Derived.Laws.FloatBits
import Derived.Laws.FloatArith
import Derived.Laws.StructEq
import Derived.ChangeKeysEq
import Derived.Laws.Rows
import Derived.Laws.CopyRow
/- An evaluator of the model's code over abstract values: floats with one NaN, blocks by name, a tree where a test is not known. -/
namespace Go.Ev

/-- A cell of a row. -/
inductive CV (F B Z : Type) where
  | f (x : F)
  | b (x : B)
  | z (x : Z)

/-- What a cell is. -/
inductive CK where
  | f
  | b
  | z (k : IntKind)
  deriving DecidableEq

/-- A parameter of a loop. -/
inductive PV (F B Z L : Type) where
  | f (x : F)
  | b (x : B)
  | z (x : Z)
  | l (x : L)

/-- What floats, tests, whole numbers and rows are, and what is done with them; and where a loop ends that goes on from parameters to parameters (does it go on, is all well, what is next). -/
structure Dom where
  F : Type
  B : Type
  Z : Type
  L : Type
  fc : Nat → F
  fadd : F → F → F
  fsub : F → F → F
  fmul : F → F → F
  fdiv : F → F → F
  fneg : F → F
  fsqrt : F → F
  fmin : F → F → F
  fmax : F → F → F
  feq : F → F → B
  flt : F → F → B
  fle : F → F → B
  fgt : F → F → B
  fge : F → F → B
  i2f : Z → F
  f2iok : IntKind → F → B
  f2i : IntKind → F → Z
  zc : Int → Z
  zadd : IntKind → Z → Z → Z
  zsub : IntKind → Z → Z → Z
  zmul : IntKind → Z → Z → Z
  zquo : IntKind → Z → Z → Z
  zrem : IntKind → Z → Z → Z
  zmin : Z → Z → Z
  zmax : Z → Z → Z
  zeq : Z → Z → B
  zlt : Z → Z → B
  zle : Z → Z → B
  zconv : IntKind → Z → Z
  bc : Bool → B
  fite : B → F → F → F
  bite : B → B → B → B
  zite : B → Z → Z → Z
  bnot : B → B
  band : B → B → B
  beq : B → B → B
  lnil : L
  llen : L → Z
  lf : L → Z → Nat → F
  lb : L → Z → Nat → B
  lz : L → Z → Nat → Z
  lput : L → Z → Nat → List (CV F B Z) → L
  lapp : L → List (List (CV F B Z)) → L
  lcat : L → L → L
  lsub : L → Z → Z → L
  lrep : Z → List (CV F B Z) → L
  lite : B → L → L → L
  last : (List (PV F B Z L) → B × B × List (PV F B Z L)) → List (PV F B Z L) → List (PV F B Z L)
  ends : (List (PV F B Z L) → B × B × List (PV F B Z L)) → List (PV F B Z L) → B

/-- How a part of a row stands to it: all of it, or any part, or any part that is not nil. -/
inductive SK where
  | whole
  | part
  | live
  deriving DecidableEq

/-- Abstract values: 'k' known, 's' not known (symbolic). -/
inductive AV (D : Dom) where
  | undef
  | any
  | fl (x : D.F)
  | kb (b : Bool)
  | sb (b : D.B)
  | ki (k : IntKind) (n : Int)
  | si (k : IntKind) (n : D.Z)
  | ptr (n off : Nat)
  | nilp
  | slice (n off len cap : Nat)
  | nils
  | clo (f : FuncId) (first cap : List (AV D))
  | nilf
  | agg (cs : List (AV D))
  | tup (cs : List (AV D))
  | row (ro : Bool) (ks : List CK) (l : D.L)
  | sptr (n : Nat) (z : D.Z) (sz o : Nat)
  | sslice (n : Nat) (k : SK) (off : Option D.Z) (len : D.Z) (sz : Nat)
  | arr (n : Nat) (k : CK) (l : D.L)
  | aptr (n len : Nat)
  | optr (c : D.B) (n off : Nat)
  | gh (c : D.B) (cs : List (AV D))
  deriving Inhabited

/-- A tree: it parts where a test is not known. -/
inductive T (B α : Type) where
  | fail (why : String)
  | ret (a : α)
  | node (b : B) (t e : T B α)

def T.bind {B α β : Type} : T B α → (α → T B β) → T B β
  | .fail w, _ => .fail w
  | .ret a, f => f a
  | .node b t e, f => .node b (t.bind f) (e.bind f)

variable {D : Dom}

abbrev Heap (D : Dom) := List (Nat × List (AV D))

def hget : Heap D → Nat → Option (List (AV D))
  | [], _ => none
  | (m, b) :: r, n => if m == n then some b else hget r n

def AV.cells : AV D → List (AV D)
  | .agg cs => cs
  | v => [v]

def AV.isCell : AV D → Bool
  | .agg _ | .tup _ | .undef | .any | .row _ _ _ | .arr _ _ _ | .gh _ _ => false
  | _ => true

def AV.isAny : AV D → Bool
  | .any => true
  | _ => false

/-- What is no row of cells as it stands. -/
def AV.noBox : AV D → Bool
  | .any | .arr _ _ _ => true
  | _ => false

/-- A great array of whole numbers, and how many there are. -/
def bigT (P : Program) (t : TypeId) : Option (Nat × IntKind) := match P.underlying t with
  | some (.array len e) => if 64 ≤ len ∧ len ≤ 4096 then match P.underlying e, P.info? e, P.info? t with
    | some (.int k), some j, some i => if j.size = 1 ∧ i.size = len then some (len, k) else none
    | _, _, _ => none
    else none
  | _ => none

/-- A constant that is one cell. -/
def absS (D : Dom) : Value → Option (AV D)
  | .bool b => some (.kb b)
  | .int k n => if k.min ≤ n ∧ n ≤ k.max then some (.ki k n) else none
  | .float .f64 b => if b < 2 ^ 64 then some (.fl (D.fc b)) else none
  | .pointer none => some .nilp
  | .slice none 0 0 => some .nils
  | .nilFunc => some .nilf
  | _ => none

def absL (D : Dom) : List Value → Option (List (AV D))
  | [] => some []
  | v :: r => match absS D v, absL D r with
    | some a, some l => some (a :: l)
    | _, _ => none

def absV (D : Dom) : Value → Option (AV D)
  | .agg cs => (absL D cs.toList).map .agg
  | v => absS D v

def opd (tm : List (AV D)) : Operand → Option (AV D)
  | .tmp t => tm[t]?
  | .const v => absV D v
  | .func f => some (.clo f [] [])
  | .global _ => none

def opds (tm : List (AV D)) : List Operand → Option (List (AV D))
  | [] => some []
  | x :: r => match opd tm x, opds tm r with
    | some a, some l => some (a :: l)
    | _, _ => none

/-- What an operation comes to: its value, what it lays into memory, the next free name. -/
structure Out (D : Dom) where
  v : AV D
  d : Heap D
  nx : Nat

abbrev TO (D : Dom) := T D.B (Out D)

def val (nx : Nat) (v : AV D) : TO D := .ret ⟨v, [], nx⟩

def valO (nx : Nat) (why : String) : Option (AV D) → TO D
  | some v => val nx v
  | none => .fail why

/-- A whole number as a symbolic one. -/
def AV.z : AV D → Option (IntKind × D.Z)
  | .ki k n => some (k, D.zc n)
  | .si k n => some (k, n)
  | _ => none

def AV.b : AV D → Option D.B
  | .kb b => some (D.bc b)
  | .sb b => some b
  | _ => none

def floatOp (nx : Nat) (op : BinOp) (x y : D.F) : TO D :=
  match op with
  | .add => val nx (.fl (D.fadd x y))
  | .sub => val nx (.fl (D.fsub x y))
  | .mul => val nx (.fl (D.fmul x y))
  | .quo => val nx (.fl (D.fdiv x y))
  | .eql => val nx (.sb (D.feq x y))
  | .neq => val nx (.sb (D.bnot (D.feq x y)))
  | .lss => val nx (.sb (D.flt x y))
  | .leq => val nx (.sb (D.fle x y))
  | .gtr => val nx (.sb (D.fgt x y))
  | .geq => val nx (.sb (D.fge x y))
  | _ => .fail "floatOp"

def intOpK (nx : Nat) (op : BinOp) (k : IntKind) (x y : Int) : TO D :=
  match op with
  | .add => val nx (.ki k (k.wrap (x + y)))
  | .sub => val nx (.ki k (k.wrap (x - y)))
  | .mul => val nx (.ki k (k.wrap (x * y)))
  | .quo => if y = 0 then .fail "quo" else val nx (.ki k (k.wrap (x.tdiv y)))
  | .rem => if y = 0 then .fail "rem" else val nx (.ki k (x.tmod y))
  | .eql => val nx (.kb (x == y))
  | .neq => val nx (.kb (x != y))
  | .lss => val nx (.kb (decide (x < y)))
  | .leq => val nx (.kb (decide (x ≤ y)))
  | .gtr => val nx (.kb (decide (y < x)))
  | .geq => val nx (.kb (decide (y ≤ x)))
  | _ => .fail "intOpK"

def intOpS (nx : Nat) (op : BinOp) (k : IntKind) (x y : D.Z) : TO D :=
  match op with
  | .add => val nx (.si k (D.zadd k x y))
  | .sub => val nx (.si k (D.zsub k x y))
  | .mul => val nx (.si k (D.zmul k x y))
  | .quo => .node (D.zeq y (D.zc 0)) (.fail "quo 0") (val nx (.si k (D.zquo k x y)))
  | .rem => .node (D.zeq y (D.zc 0)) (.fail "rem 0") (val nx (.si k (D.zrem k x y)))
  | .eql => val nx (.sb (D.zeq x y))
  | .neq => val nx (.sb (D.bnot (D.zeq x y)))
  | .lss => val nx (.sb (D.zlt x y))
  | .leq => val nx (.sb (D.zle x y))
  | .gtr => val nx (.sb (D.zlt y x))
  | .geq => val nx (.sb (D.zle y x))
  | _ => .fail "intOpS"

/-- Are the cells the same, all of them? (floats where the flag says so, else whole numbers) -/
def eqCells : List Bool → List (AV D) → List (AV D) → Option D.B
  | [], [], [] => some (D.bc true)
  | true :: q, .fl x :: r, .fl y :: s => match eqCells q r s with
    | some b => some (D.band (D.feq x y) b)
    | none => none
  | false :: q, x :: r, y :: s => match x.z, y.z with
    | some (k, a), some (j, c) => if k = j then match eqCells q r s with
      | some b => some (D.band (D.zeq a c) b)
      | none => none
      else none
    | _, _ => none
  | _, _, _ => none

def flatFs (P : Program) (sz : TypeId → Option (List Bool)) : List Field → List Bool → Option (List Bool)
  | [], acc => some acc
  | f :: r, acc => match sz f.type, P.info? f.type with
    | some s, some i => if f.name != "_" && f.offset == acc.length && i.size == s.length then flatFs P sz r (acc ++ s) else none
    | _, _ => none

/-- The cells of a type whose values are rows of cells that are held against each other one by one, none left out: which are floats. -/
def flatK (P : Program) : Nat → TypeId → Option (List Bool)
  | 0, _ => none
  | n + 1, t =>
    match P.underlying t with
    | some (.float .f64) => some [true]
    | some (.int _) => some [false]
    | some (.struct fs) => if P.stoodInHeld t then none else flatFs P (flatK P n) fs.toList []
    | _ => none

def isBoolT (P : Program) (t : TypeId) : Bool := match P.underlying t with
  | some .bool => true
  | _ => false

def isSliceT (P : Program) (t : TypeId) : Bool := match P.underlying t with
  | some (.slice _) => true
  | _ => false

def isPtrT (P : Program) (t : TypeId) : Bool := match P.underlying t with
  | some (.pointer _) => true
  | _ => false

/-- A slice held against nil. -/
def nilCmp (P : Program) (nx : Nat) (op : BinOp) (t : TypeId) (c : Bool) : TO D :=
  if isSliceT P t then
    match op with
    | .eql => val nx (.kb c)
    | .neq => val nx (.kb (!c))
    | _ => .fail "ptr op"
  else .fail "slice type"

/-- Are two rows of whole numbers the same, up to so many? -/
def eqUpto (l m : D.L) : Nat → D.B
  | 0 => D.bc true
  | n + 1 => D.band (eqUpto l m n) (D.zeq (D.lz l (D.zc n) 0) (D.lz m (D.zc n) 0))

def binOpV (P : Program) (nx : Nat) (op : BinOp) (t : TypeId) (x y : AV D) : TO D :=
  match x, y with
  | .fl x, .fl y => floatOp nx op x y
  | .ki k x, .ki j y => if k = j then intOpK nx op k x y else .fail "int kinds"
  | .kb a, .kb b => if isBoolT P t then
      match op with
      | .eql => val nx (.kb (a == b))
      | .neq => val nx (.kb (!(a == b)))
      | _ => .fail "bool op"
    else .fail "bool type"
  | .agg xs, .agg ys =>
    match P.underlying t with
    | some (.struct _) => match flatK P 5 t with
      | some q => match op with
        | .eql => valO nx "eqCells" ((eqCells q xs ys).map .sb)
        | .neq => valO nx "eqCells" ((eqCells q xs ys).map fun b => .sb (D.bnot b))
        | _ => .fail "agg op"
      | none => .fail "agg type"
    | _ => .fail "agg type"
  | .ptr _ _, .nilp | .nilp, .ptr _ _ =>
    if isPtrT P t then
      match op with
      | .eql => val nx (.kb false)
      | .neq => val nx (.kb true)
      | _ => .fail "ptr op"
    else .fail "ptr type"
  | .optr c _ _, .nilp | .nilp, .optr c _ _ =>
    if isPtrT P t then
      match op with
      | .eql => val nx (.sb (D.bnot c))
      | .neq => val nx (.sb c)
      | _ => .fail "ptr op"
    else .fail "ptr type"
  | .sptr _ _ _ _, .nilp | .nilp, .sptr _ _ _ _ =>
    if isPtrT P t then
      match op with
      | .eql => val nx (.kb false)
      | .neq => val nx (.kb true)
      | _ => .fail "ptr op"
    else .fail "ptr type"
  | .nilp, .nilp =>
    if isPtrT P t then
      match op with
      | .eql => val nx (.kb true)
      | .neq => val nx (.kb false)
      | _ => .fail "ptr op"
    else .fail "ptr type"
  | .arr n (.z k) l, .arr m (.z j) r => match bigT P t with
    | some (len, k') => if n = len ∧ m = len ∧ k = k' ∧ j = k' then
        match op with
        | .eql => val nx (.sb (eqUpto l r len))
        | .neq => val nx (.sb (D.bnot (eqUpto l r len)))
        | _ => .fail "array op"
      else .fail "array type"
    | none => .fail "array type"
  | .slice _ _ _ _, .nils => nilCmp P nx op t false
  | .sslice _ .live _ _ _, .nils => nilCmp P nx op t false
  | .nils, .nils => nilCmp P nx op t true
  | x, y =>
    match x.z, y.z with
    | some (k, a), some (j, b) => if k = j then intOpS nx op k a b else .fail "int kinds"
    | _, _ => match x.b, y.b with
      | some a, some b => if isBoolT P t then
          match op with
          | .eql => val nx (.sb (D.beq a b))
          | .neq => val nx (.sb (D.bnot (D.beq a b)))
          | _ => .fail "bool op"
        else .fail "bool type"
      | _, _ => .fail "binOp"

def unOpV (nx : Nat) (op : UnOp) (x : AV D) : TO D :=
  match op, x with
  | .not, .kb b => val nx (.kb !b)
  | .not, .sb b => val nx (.sb (D.bnot b))
  | .neg, .fl x => val nx (.fl (D.fneg x))
  | .neg, .ki k n => val nx (.ki k (k.wrap (0 - n)))
  | .neg, .si k n => val nx (.si k (D.zsub k (D.zc 0) n))
  | _, _ => .fail "unOp"

def convV (P : Program) (nx : Nat) (src dst : TypeId) (x : AV D) : TO D :=
  match P.underlying src, P.underlying dst, x with
  | some _, some (.int k), .ki _ n => val nx (.ki k (k.wrap n))
  | some _, some (.int k), .si _ n => val nx (.si k (D.zconv k n))
  | some _, some (.float .f64), .ki _ n => val nx (.fl (D.i2f (D.zc n)))
  | some _, some (.float .f64), .si _ n => val nx (.fl (D.i2f n))
  | some _, some (.int k), .fl x => .node (D.f2iok k x) (val nx (.si k (D.f2i k x))) (.fail "f2i")
  | some _, some (.float .f64), .fl x => val nx (.fl x)
  | _, _, _ => .fail "convert"

def loadV (P : Program) (t : TypeId) (blk : List (AV D)) (off : Nat) : Option (AV D) :=
  match P.underlying t with
  | some (.struct _) | some (.array _ _) => match P.info? t with
    | some i => if off + i.size ≤ blk.length then some (.agg ((blk.drop off).take i.size)) else none
    | none => none
  | some _ => blk[off]?
  | none => none

def storeV (P : Program) (t : TypeId) (blk : List (AV D)) (off : Nat) (x : AV D) : Option (List (AV D)) :=
  match P.info? t with
  | some i =>
    if x.cells.length = i.size && off + i.size ≤ blk.length && x.cells.all AV.isCell then
      some (blk.take off ++ (x.cells ++ blk.drop (off + i.size)))
    else none
  | none => none

def zeroV (D : Dom) (P : Program) (t : TypeId) : Option (List (AV D)) :=
  match P.info? t with
  | some i => match i.zero with
    | some z => (absV D z).map AV.cells
    | none => none
  | none => none

def fillV (place : Nat → Option (Nat × Nat)) (cells : List (AV D)) : List (Nat × AV D) → Option (List (AV D))
  | [] => some cells
  | (i, v) :: rest =>
    match place i with
    | none => none
    | some (off, size) =>
      if v.cells.length = size && off + size ≤ cells.length && !v.noBox then fillV place (cells.take off ++ (v.cells ++ cells.drop (off + size))) rest
      else none

def placesL (P : Program) : List Field → Option (List (Nat × Nat))
  | [] => some []
  | f :: r => match P.info? f.type, placesL P r with
    | some j, some l => some ((f.offset, j.size) :: l)
    | _, _ => none

def buildV (P : Program) (t : TypeId) (parts : List (Nat × AV D)) : Option (AV D) :=
  match zeroV D P t with
  | none => none
  | some zero =>
    match P.underlying t with
    | some (.struct fields) => match placesL P fields.toList with
      | some ps => match fillV (fun i => ps[i]?) zero parts with
        | some cs => some (.agg cs)
        | none => none
      | none => none
    | some (.array _ elem) => match P.info? elem with
      | some j => match fillV (fun i => some (i * j.size, j.size)) zero parts with
        | some cs => some (.agg cs)
        | none => none
      | none => none
    | _ => none

def cellsRep : Nat → List (AV D) → List (AV D)
  | 0, _ => []
  | n + 1, z => z ++ cellsRep n z

def buildSliceV (P : Program) (t : TypeId) (len : Nat) (parts : List (Nat × AV D)) : Option (List (AV D)) :=
  match P.underlying t with
  | some (.slice elem) => match P.info? elem, zeroV D P elem with
    | some j, some z =>
      if len ≤ 4096 && j.size ≤ 64 && z.length = j.size && j.size ≠ 0 && len ≠ 0 then fillV (fun i => some (i * j.size, j.size)) (cellsRep len z) parts else none
    | _, _ => none
  | _ => none

def fieldAddrV (P : Program) (t : TypeId) (x : AV D) (f : Nat) : Option (AV D) :=
  match P.underlying t, x with
  | some (.struct fields), .sptr n z sz o => match fields[f]? with
    | some fd => match P.info? fd.type with
      | some i => if i.size ≠ 0 then some (.sptr n z sz (o + fd.offset)) else none
      | none => none
    | none => none
  | some (.struct fields), .ptr n off => match fields[f]? with
    | some fd => match P.info? fd.type with
      | some i => if i.size ≠ 0 then some (.ptr n (off + fd.offset)) else none
      | none => none
    | none => none
  | _, _ => none

def partV (P : Program) (t : TypeId) (cs : List (AV D)) (off : Nat) : Option (AV D) := loadV P t cs off

def fieldV (P : Program) (t : TypeId) (x : AV D) (f : Nat) : Option (AV D) :=
  match P.underlying t, x with
  | some (.struct fields), .agg cs => match fields[f]? with
    | some fd => partV P fd.type cs fd.offset
    | none => none
  | _, _ => none

/-- The element at a symbolic place of a row that is known: a chain of tests. -/
def pickAt (nx : Nat) (z : D.Z) (f : Nat → Option (AV D)) : (n : Nat) → (i : Nat) → TO D
  | 0, _ => .fail "index: beyond"
  | n + 1, i => .node (D.zeq z (D.zc i)) (valO nx "index" (f i)) (pickAt nx z f n (i + 1))

def indexV (P : Program) (nx : Nat) (t : TypeId) (x i : AV D) : TO D :=
  match P.underlying t, x with
  | some (.array len elem), .agg cs => match P.info? elem with
    | some j => match i with
      | .ki _ n => if 0 ≤ n ∧ n < len then valO nx "index" (partV P elem cs (n.toNat * j.size)) else .fail "index: range"
      | .si _ z => pickAt nx z (fun m => partV P elem cs (m * j.size)) len 0
      | _ => .fail "index"
    | none => .fail "index"
  | some (.array len elem), .arr m (.z k) l => match bigT P t, P.info? elem, i.z with
    | some (_, k'), some _, some (_, z) => if m = len ∧ k = k' then
        .node (D.band (D.zle (D.zc 0) z) (D.zlt z (D.zc len))) (val nx (.si k (D.lz l z 0))) (.fail "index: range")
      else .fail "index"
    | _, _, _ => .fail "index"
  | _, _ => .fail "index: type"

/-- A place in a row, from a part's beginning. -/
def addO (off : Option D.Z) (z : D.Z) : D.Z := match off with
  | none => z
  | some o => D.zadd .i64 o z

def indexAddrV (P : Program) (nx : Nat) (t : TypeId) (x i : AV D) : TO D :=
  match P.underlying t, x, i with
  | some (.array len elem), .ptr n off, .ki _ m => match P.info? elem with
    | some j => if 0 ≤ m ∧ m < len then val nx (.ptr n (off + m.toNat * j.size)) else .fail "indexAddr: range"
    | none => .fail "indexAddr"
  | some (.array len elem), .ptr n off, .si _ z => match P.info? elem with
    | some j => pickAt nx z (fun m => some (.ptr n (off + m * j.size))) len 0
    | none => .fail "indexAddr"
  | some (.slice elem), .slice n off len _, .ki _ m => match P.info? elem with
    | some j => if 0 ≤ m ∧ m < len then val nx (.ptr n (off + m.toNat * j.size)) else .fail "indexAddr: range"
    | none => .fail "indexAddr"
  | some (.slice elem), .slice n off len _, .si _ z => match P.info? elem with
    | some j => pickAt nx z (fun m => some (.ptr n (off + m * j.size))) len 0
    | none => .fail "indexAddr"
  | some (.slice elem), .sslice n _ off len sz, i => match P.info? elem, i.z with
    | some j, some (_, z) => if j.size = sz then
        .node (D.band (D.zle (D.zc 0) z) (D.zlt z len)) (val nx (.sptr n (addO off z) sz 0)) (.fail "index: range")
      else .fail "indexAddr"
    | _, _ => .fail "indexAddr"
  | some (.array len elem), .aptr n m, i => match P.info? elem, i.z with
    | some j, some (_, z) => if j.size = 1 ∧ m = len then
        .node (D.band (D.zle (D.zc 0) z) (D.zlt z (D.zc len))) (val nx (.sptr n z 1 0)) (.fail "index: range")
      else .fail "indexAddr"
    | _, _ => .fail "indexAddr"
  | _, _, _ => .fail "indexAddr: type"

def minmaxV (isMax : Bool) (nx : Nat) : AV D → List (AV D) → TO D
  | x, [] => val nx x
  | .fl x, .fl y :: r => minmaxV isMax nx (.fl (if isMax then D.fmax x y else D.fmin x y)) r
  | .ki k x, .ki j y :: r => if k = j then minmaxV isMax nx (.ki k (if isMax then (if y > x then y else x) else (if y < x then y else x))) r else .fail "minmax"
  | x, y :: r => match x.z, y.z with
    | some (k, a), some (j, b) => if k = j then minmaxV isMax nx (.si k (if isMax then D.zmax a b else D.zmin a b)) r else .fail "minmax"
    | _, _ => .fail "minmax"

/-- A cell of a row's element. -/
def rowCell (l : D.L) (z : D.Z) (j : Nat) : CK → AV D
  | .f => .fl (D.lf l z j)
  | .b => .sb (D.lb l z j)
  | .z k => .si k (D.lz l z j)

def rowCells (l : D.L) (z : D.Z) : List CK → Nat → List (AV D)
  | [], _ => []
  | k :: ks, j => rowCell l z j k :: rowCells l z ks (j + 1)

def loadRow (P : Program) (t : TypeId) (ks : List CK) (l : D.L) (z : D.Z) (o : Nat) : Option (AV D) :=
  match P.underlying t with
  | some (.struct _) | some (.array _ _) => match P.info? t with
    | some i => if o + i.size ≤ ks.length then some (.agg (((rowCells l z ks 0).drop o).take i.size)) else none
    | none => none
  | some _ => (rowCells l z ks 0)[o]?
  | none => none

/-- A value as a cell of a row, if it is of that kind. -/
def toCV : CK → AV D → Option (CV D.F D.B D.Z)
  | .f, .fl x => some (.f x)
  | .b, .sb x => some (.b x)
  | .b, .kb x => some (.b (D.bc x))
  | .z k, .si j x => if k = j then some (.z x) else none
  | .z k, .ki j x => if k = j then some (.z (D.zc x)) else none
  | _, _ => none

def toCVs : List CK → List (AV D) → Option (List (CV D.F D.B D.Z))
  | [], [] => some []
  | k :: ks, v :: vs => match toCV k v, toCVs ks vs with
    | some c, some l => some (c :: l)
    | _, _ => none
  | _, _ => none

def storeRow (P : Program) (t : TypeId) (ks : List CK) (l : D.L) (z : D.Z) (o : Nat) (x : AV D) : Option D.L :=
  match P.info? t with
  | some i =>
    if x.cells.length = i.size && o + i.size ≤ ks.length then
      match toCVs ((ks.drop o).take i.size) x.cells with
      | some cs => some (D.lput l z o cs)
      | none => none
    else none
  | none => none

/-- The kinds of the cells of values. -/
def kindOf : AV D → Option CK
  | .fl _ => some .f
  | .sb _ | .kb _ => some .b
  | .si k _ | .ki k _ => some (.z k)
  | _ => none

def kindsOf : List (AV D) → Option (List CK)
  | [] => some []
  | v :: r => match kindOf v, kindsOf r with
    | some k, some l => some (k :: l)
    | _, _ => none

/-- Elements, so many cells each. -/
def elems (ks : List CK) : Nat → List (AV D) → Option (List (List (CV D.F D.B D.Z)))
  | 0, [] => some []
  | 0, _ :: _ => none
  | n + 1, l => match toCVs ks (l.take ks.length), elems ks n (l.drop ks.length) with
    | some c, some r => some (c :: r)
    | _, _ => none

def builtinV (P : Program) (nx : Nat) (b : Builtin) (argTypes : List TypeId) (vs : List (AV D)) : TO D :=
  match b, vs with
  | .len, [.slice _ _ n _] => match argTypes with
    | t :: _ => if isSliceT P t then (if n < 2 ^ 63 then val nx (.ki .i64 n) else .fail "len") else .fail "len"
    | _ => .fail "len"
  | .len, [.sslice _ _ _ n _] => match argTypes with
    | t :: _ => if isSliceT P t then val nx (.si .i64 n) else .fail "len"
    | _ => .fail "len"
  | .len, [.nils] => match argTypes with
    | t :: _ => if isSliceT P t then val nx (.ki .i64 0) else .fail "len"
    | _ => .fail "len"
  | .max, x :: r => minmaxV true nx x r
  | .min, x :: r => minmaxV false nx x r
  | _, _ => .fail "builtin"

/-- The parts of an aggregate with their values. -/
def zipParts : List (Nat × Operand) → List (AV D) → List (Nat × AV D)
  | (i, _) :: r, v :: s => (i, v) :: zipParts r s
  | _, _ => []

structure St (D : Dom) where
  tm : List (AV D)
  h : Heap D
  nx : Nat

inductive Ex where
  | normal
  | exit (id : Nat)
  | ret
  deriving DecidableEq

/- The ways of a tree taken together. -/
inductive J (D : Dom) where
  | bot
  | bad
  | val (ok : Option D.B) (v : AV D)

mutual
def join2 (c : D.B) : AV D → AV D → Option (AV D)
  | .fl x, .fl y => some (.fl (D.fite c x y))
  | .kb x, .kb y => if x == y then some (.kb x) else some (.sb (D.bite c (D.bc x) (D.bc y)))
  | .kb x, .sb y => some (.sb (D.bite c (D.bc x) y))
  | .sb x, .kb y => some (.sb (D.bite c x (D.bc y)))
  | .sb x, .sb y => some (.sb (D.bite c x y))
  | .ki k x, .ki j y => if k = j then (if x = y then some (.ki k x) else some (.si k (D.zite c (D.zc x) (D.zc y)))) else none
  | .ki k x, .si j y => if k = j then some (.si k (D.zite c (D.zc x) y)) else none
  | .si k x, .ki j y => if k = j then some (.si k (D.zite c x (D.zc y))) else none
  | .si k x, .si j y => if k = j then some (.si k (D.zite c x y)) else none
  | .nilp, .nilp => some .nilp
  | .nils, .nils => some .nils
  | .nilf, .nilf => some .nilf
  | .undef, .undef => some .undef
  | .any, .any => some .any
  | .ptr n i, .ptr m j => if n = m ∧ i = j then some (.ptr n i) else none
  | .ptr n i, .nilp => some (.optr c n i)
  | .nilp, .ptr n i => some (.optr (D.bnot c) n i)
  | .optr a n i, .nilp => some (.optr (D.bite c a (D.bc false)) n i)
  | .nilp, .optr a n i => some (.optr (D.bite c (D.bc false) a) n i)
  | .optr a n i, .ptr m j => if n = m ∧ i = j then some (.optr (D.bite c a (D.bc true)) n i) else none
  | .ptr n i, .optr a m j => if n = m ∧ i = j then some (.optr (D.bite c (D.bc true) a) n i) else none
  | .optr a n i, .optr b m j => if n = m ∧ i = j then some (.optr (D.bite c a b) n i) else none
  | .slice n i a b, .slice m j x y => if n = m ∧ i = j ∧ a = x ∧ b = y then some (.slice n i a b) else none
  | .sptr n z s o, .sptr m y q p => if n = m ∧ s = q ∧ o = p then some (.sptr n (D.zite c z y) s o) else none
  | .arr n k l, .arr m j r => if n = m ∧ k = j then some (.arr n k (D.lite c l r)) else none
  | .aptr n a, .aptr m b => if n = m ∧ a = b then some (.aptr n a) else none
  | .sslice n k o l s, .sslice m j o' l' q => if n = m ∧ k = j ∧ s = q ∧ o.isNone ∧ o'.isNone then some (.sslice n k none (D.zite c l l') s) else none
  | .clo f xs us, .clo g ys vs => if f = g then match joins c xs ys, joins c us vs with
    | some l, some k => some (.clo f l k)
    | _, _ => none
    else none
  | .agg xs, .agg ys => match joins c xs ys with
    | some l => some (.agg l)
    | none => none
  | .tup xs, .tup ys => match joins c xs ys with
    | some l => some (.tup l)
    | none => none
  | _, _ => none
def joins (c : D.B) : List (AV D) → List (AV D) → Option (List (AV D))
  | [], [] => some []
  | x :: xs, y :: ys => match join2 c x y, joins c xs ys with
    | some a, some l => some (a :: l)
    | _, _ => none
  | _, _ => none
end


/-- Joined; or anything, where the one is not there, or both are addresses; else not at all. -/
def joinO (c : D.B) (x y : AV D) : Option (AV D) := match join2 c x y with
  | some v => some v
  | none => match x, y with
    | .undef, _ | _, .undef | .any, _ | _, .any | .ptr _ _, .ptr _ _ | .optr _ _ _, .optr _ _ _ | .optr _ _ _, .ptr _ _ | .ptr _ _, .optr _ _ _ | .slice _ _ _ _, .slice _ _ _ _ | .clo _ _ _, .clo _ _ _ => some .any
    | _, _ => none

/-- The same, but never forgotten where there was something before. -/
def joinB (c : D.B) (b x y : AV D) : Option (AV D) := match b with
  | .undef | .any => joinO c x y
  | _ => join2 c x y

/-- Temporaries: joined where the mask says so, else those that were there before. -/
def joinTm (c : D.B) (m : Nat) : Nat → List (AV D) → List (AV D) → List (AV D) → Option (List (AV D))
  | _, [], [], [] => some []
  | i, b :: bs, x :: xs, y :: ys => match joinTm c m (i + 1) bs xs ys, (if m.testBit i then joinB c b x y else some b) with
    | some l, some v => some (v :: l)
    | _, _ => none
  | _, _, _, _ => none

def joinBlk (c : D.B) : List (AV D) → List (AV D) → Option (List (AV D))
  | [], [] => some []
  | [.row ro ks l], [.row rp js m] => if ro = rp ∧ ks = js then some [.row ro ks (D.lite c l m)] else none
  | .row _ _ _ :: _, _ | _, .row _ _ _ :: _ | .gh _ _ :: _, _ | _, .gh _ _ :: _ => none
  | x :: xs, y :: ys => match joinBlk c xs ys, joinO c x y with
    | some l, some v => some (v :: l)
    | _, _ => none
  | _, _ => none

/-- What was laid behind 'h'. -/
def laidOn (h h' : Heap D) : Heap D := h'.take (h'.length - h.length)

def namesOf : Heap D → List Nat → List Nat
  | [], acc => acc
  | p :: r, acc => namesOf r (if acc.contains p.1 then acc else p.1 :: acc)

/-- Something is known of the block, and it may be written. -/
def ownBlk : List (AV D) → Bool
  | [] => false
  | [.row ro _ _] => !ro
  | [.gh _ _] => false
  | _ => true

/-- A block that may be there or not: when it is, and what it holds. -/
def openB : List (AV D) → Option (Option D.B × List (AV D))
  | [.gh c l] => match l with
    | [.gh _ _] => none
    | _ => some (some c, l)
  | l => some (none, l)

def ghOr (a : Option D.B) : D.B := match a with
  | none => D.bc true
  | some a => a

/-- A block of which something is known, that may be there or not. -/
def ghB (c : D.B) : List (AV D) → Option (List (AV D))
  | [] => none
  | l => some [.gh c l]

/-- A new block, of the one, the other or both. -/
def joinNew (c : D.B) (k : Bool) : Option (List (AV D)) → Option (List (AV D)) → Option (List (AV D))
  | some a, some b => match openB a, openB b with
    | some (none, xs), some (none, ys) => match joinBlk c xs ys with
      | some l => if ownBlk l then some l else none
      | none => none
    | some (p, xs), some (q, ys) => match joinBlk c xs ys with
      | some l => ghB (D.bite c (ghOr p) (ghOr q)) l
      | none => none
    | _, _ => none
  | some a, none => if k then match openB a with
      | some (p, xs) => ghB (D.bite c (ghOr p) (D.bc false)) xs
      | none => none
    else none
  | none, some b => if k then match openB b with
      | some (q, ys) => ghB (D.bite c (D.bc false) (ghOr q)) ys
      | none => none
    else none
  | none, none => none

/-- Memory: block by block; new ones may be there or not, or are forgotten. -/
def joinHp (c : D.B) (n0 n1 : Nat) (hx hy : Heap D) (k : Nat → Bool) : List Nat → Option (Heap D)
  | [] => some []
  | n :: r => match joinHp c n0 n1 hx hy k r with
    | none => none
    | some d => if n0 ≤ n ∧ n < n1 then match joinNew c (k n) (hget hx n) (hget hy n) with
        | some l => some ((n, l) :: d)
        | none => some d
      else match hget hx n, hget hy n with
      | some a, some b => match joinBlk c a b with
        | some l => if ownBlk l then some ((n, l) :: d) else none
        | none => none
      | _, _ => none

mutual
/-- The names in a value. -/
def AV.names : AV D → List Nat
  | .ptr n _ | .slice n _ _ _ | .sptr n _ _ _ | .sslice n _ _ _ _ | .aptr n _ | .optr _ n _ => [n]
  | .clo _ xs ys => namess xs ++ namess ys
  | .agg xs | .tup xs | .gh _ xs => namess xs
  | _ => []
def namess : List (AV D) → List Nat
  | [] => []
  | v :: r => v.names ++ namess r
end

def addN (n0 : Nat) : List Nat → List Nat → List Nat
  | [], acc => acc
  | n :: r, acc => addN n0 r (if n < n0 || acc.contains n then acc else n :: acc)

/-- What of the new names can be reached. -/
def reach (n0 : Nat) (hx hy : Heap D) : Nat → List Nat → List Nat → List Nat
  | 0, _, acc => acc
  | _ + 1, [], acc => acc
  | k + 1, n :: r, acc =>
    if acc.contains n then reach n0 hx hy k r acc else
    reach n0 hx hy k (addN n0 (namess ((hget hx n).getD []) ++ namess ((hget hy n).getD [])) r) (n :: acc)

/-- The new names that what was there before, or a temporary, leads to. -/
def roots (n0 : Nat) (tm : List (AV D)) (hx hy : Heap D) (ns : List Nat) : List Nat :=
  addN n0 (namess tm) (ns.foldr (fun n acc => if n < n0 then addN n0 (namess ((hget hx n).getD []) ++ namess ((hget hy n).getD [])) acc else acc) [])

def joinSt (c : D.B) (m : Nat) (base : List (AV D)) (h0 : Heap D) (n0 : Nat) (x y : St D) : Option (St D) :=
  match joinTm c m 0 base x.tm y.tm with
  | none => none
  | some tm =>
    let ns := namesOf (laidOn h0 x.h) (namesOf (laidOn h0 y.h) [])
    let live := reach n0 x.h y.h 200 (roots n0 tm x.h y.h ns) []
    match joinHp c n0 (max x.nx y.nx) x.h y.h (fun n => live.contains n) ns with
    | some d => some ⟨tm, d ++ h0, max x.nx y.nx⟩
    | none => none

/-- One way out of a tree: how it ends, when (always, if nothing is said), with what. -/
structure Ent (D : Dom) where
  e : Ex
  c : Option D.B
  st : St D

/-- The first one that it can be joined with. -/
def takeJ (b : D.B) (m : Nat) (base : List (AV D)) (h0 : Heap D) (n0 : Nat) (x : Ent D) : List (Ent D) → Option (Ent D × St D × List (Ent D))
  | [] => none
  | y :: r => match (if x.e = y.e then joinSt b m base h0 n0 x.st y.st else none) with
    | some st => some (y, st, r)
    | none => match takeJ b m base h0 n0 x r with
      | some (z, st, s) => some (z, st, y :: s)
      | none => none

def condL (b : D.B) (c : Option D.B) : Option D.B := some (match c with
  | none => b
  | some o => D.band b o)
def condR (b : D.B) (c : Option D.B) : Option D.B := some (match c with
  | none => D.bnot b
  | some o => D.band (D.bnot b) o)
def condJ (b : D.B) : Option D.B → Option D.B → Option D.B
  | none, none => none
  | some o, none => some (D.bite b o (D.bc true))
  | none, some o => some (D.bite b (D.bc true) o)
  | some o, some o' => some (D.bite b o o')

def mergeE (b : D.B) (m : Nat) (base : List (AV D)) (h0 : Heap D) (n0 : Nat) : List (Ent D) → List (Ent D) → Option (List (Ent D))
  | [], r => some (r.map fun y => { y with c := condR b y.c })
  | x :: l, r => match takeJ b m base h0 n0 x r with
    | none => match mergeE b m base h0 n0 l r with
      | some s => some ({ x with c := condL b x.c } :: s)
      | none => none
    | some (y, st, r') => match mergeE b m base h0 n0 l r' with
      | some s => some (⟨x.e, condJ b x.c y.c, st⟩ :: s)
      | none => none

/-- The ways out of a tree, each exit once; what must hold lest it fail (nothing, if nothing is said); or it fails at any rate. -/
inductive Nf (D : Dom) where
  | bot (why : String)
  | ways (l : List (Ent D)) (a : Option D.B)

def condT (b : D.B) : Option D.B → Option D.B
  | none => some b
  | some a => some (D.band b a)
def condF (b : D.B) : Option D.B → Option D.B
  | none => some (D.bnot b)
  | some a => some (D.band (D.bnot b) a)

def nf (m : Nat) (base : List (AV D)) (h0 : Heap D) (n0 : Nat) : T D.B (Ex × St D) → Option (Nf D)
  | .fail w => some (.bot w)
  | .ret (e, st) => some (.ways [⟨e, none, st⟩] none)
  | .node b t e => match nf m base h0 n0 t, nf m base h0 n0 e with
    | some (.bot w), some (.bot _) => some (.bot w)
    | some (.ways l a), some (.bot _) => some (.ways l (condT b a))
    | some (.bot _), some (.ways r a) => some (.ways r (condF b a))
    | some (.ways l a), some (.ways r a') => match mergeE b m base h0 n0 l r with
      | some s => some (.ways s (condJ b a a'))
      | none => none
    | _, _ => none

def toW : List (Ent D) → T D.B (Ex × St D)
  | [] => .fail "none"
  | [x] => .ret (x.e, x.st)
  | x :: r => match x.c with
    | none => .ret (x.e, x.st)
    | some c => .node c (.ret (x.e, x.st)) (toW r)

def toT : Nf D → T D.B (Ex × St D)
  | .bot w => .fail w
  | .ways l none => toW l
  | .ways l (some a) => .node a (toW l) (.fail "must")

/-- A tree in which each exit comes once. -/
def compact (m : Nat) (base : List (AV D)) (h0 : Heap D) (n0 : Nat) (t : T D.B (Ex × St D)) : T D.B (Ex × St D) :=
  match t with
  | .node _ _ _ => if h0.all fun p => decide (p.1 < n0) then match nf m base h0 n0 t with
    | some x => toT x
    | none => t
    else t
  | t => t

/-- Does no way of the tree come to anything at all? -/
def T.noAny : T D.B (Ex × St D) → Bool
  | .ret (_, st) => match st.tm with
    | [v] => !v.isAny
    | _ => false
  | .node _ t e => t.noAny && e.noAny
  | .fail _ => true

/-- The same for what an operation comes to. -/
def compactO (h : Heap D) (nx : Nat) (t : TO D) : TO D :=
  match t with
  | .node _ _ _ =>
    let u := compact 1 [.undef] h nx (t.bind fun o => .ret (.normal, ⟨[o.v], o.d ++ h, o.nx⟩))
    if u.noAny then u.bind fun (_, st) => match st.tm with
      | [v] => .ret ⟨v, laidOn h st.h, st.nx⟩
      | _ => .fail "compactO"
    else t
  | t => t

/-- A block that is one row of elements. -/
def isRow : List (AV D) → Bool
  | [.row _ _ _] => true
  | _ => false

/-- A block that may be there or not. -/
def isGh : List (AV D) → Bool
  | [.gh _ _] => true
  | _ => false

/-- Nothing is known of this block, or it is a row, or it may be there or not. -/
def shut (blk : List (AV D)) : Bool := blk.isEmpty || (isRow blk || isGh blk)

/-- The row at a name. -/
def rowAt (h : Heap D) (n : Nat) : Option (Bool × List CK × D.L) := match hget h n with
  | some [.row ro ks l] => some (ro, ks, l)
  | _ => none

/-- What is appended to: the row that is there (none: an empty one, of any kind), and what dies. -/
def appTo (h : Heap D) (sz : Nat) : AV D → Option (Option (List CK × D.L) × Heap D)
  | .nils => some (none, [])
  | .sslice n .whole none _ q => match rowAt h n with
    | some (false, ks, l) => if q = sz ∧ ks.length = sz then some (some (ks, l), [(n, [])]) else none
    | _ => none
  | _ => none

/-- What is appended: elements that are known, or a row. -/
inductive App (D : Dom) where
  | none
  | els (ks : List CK) (k : Nat) (l : List (List (CV D.F D.B D.Z)))
  | row (ks : List CK) (l : D.L)

def appOf (h : Heap D) (sz : Nat) : AV D → Option (App D)
  | .nils => some .none
  | .slice m off k _ => match hget h m with
    | some blk => if shut blk then none else match kindsOf ((blk.drop off).take sz) with
      | some ks => if ks.length = sz ∧ k ≤ 4096 ∧ k ≠ 0 ∧ off + k * sz ≤ blk.length then match elems ks k ((blk.drop off).take (k * sz)) with
        | some es => some (.els ks k es)
        | none => none
        else none
      | none => none
    | none => none
  | .sslice m k off len q => match rowAt h m with
    | some (_, ks, l) => if q = sz ∧ ks.length = sz then
        match k, off with
        | .whole, _ => some (.row ks l)
        | _, off => some (.row ks (D.lsub l (off.getD (D.zc 0)) (addO off len)))
      else none
    | none => none
  | _ => none

def appJoin : Option (List CK × D.L) → App D → Option (List CK × D.L)
  | none, .els ks _ es => some (ks, D.lapp D.lnil es)
  | none, .row ks l => some (ks, l)
  | some (ks, l), .els js _ es => if ks = js then some (ks, D.lapp l es) else none
  | some (ks, l), .row js m => if ks = js then some (ks, D.lcat l m) else none
  | some (ks, l), .none => some (ks, l)
  | none, .none => none

def appendV (P : Program) (h : Heap D) (nx : Nat) (ts : List TypeId) (vs : List (AV D)) : TO D :=
  match ts, vs with
  | [t, u], [s, x] =>
    if t = u then match P.underlying t with
      | some (.slice e) => match P.info? e, zeroV D P e with
        | some j, some z =>
          if 0 < j.size ∧ j.size ≤ 64 ∧ j.bytes ≤ 1024 ∧ z.length = j.size then match appTo h j.size s, appOf h j.size x with
            | some (a, dead), some b => match appJoin a b with
              | some (ks, l) => .node (D.zle (D.llen l) (D.zc 1073741824)) (.ret ⟨.sslice nx .whole none (D.llen l) j.size, (nx, [.row false ks l]) :: dead, nx + 1⟩) (.fail "append: room")
              | none => .fail "append: kinds"
            | _, _ => .fail "append: parts"
          else .fail "append: type"
        | _, _ => .fail "append: type"
      | _ => .fail "append: type"
    else .fail "append: types"
  | _, _ => .fail "append"

def sameOpd : Operand → Operand → Bool
  | .tmp a, .tmp b => a == b
  | _, _ => false

def makeSliceV (P : Program) (nx : Nat) (t : TypeId) (v : AV D) : TO D :=
  match P.underlying t with
  | some (.slice e) => match P.info? e, zeroV D P e, v.z with
    | some j, some z, some (_, n) =>
      if 0 < j.size ∧ j.size ≤ 64 ∧ j.bytes ≤ 1024 ∧ z.length = j.size then match kindsOf z with
        | some ks => match toCVs ks z with
          | some cs => .node (D.band (D.zle (D.zc 0) n) (D.zle n (D.zc 1073741824))) (.ret ⟨.sslice nx .whole none n j.size, [(nx, [.row false ks (D.lrep n cs)])], nx + 1⟩) (.fail "make: room")
          | none => .fail "make: kinds"
        | none => .fail "make: kinds"
      else .fail "make: type"
    | _, _, _ => .fail "make"
  | _ => .fail "make: type"

/-- A row of none, that is not nil. -/
def emptyV (P : Program) (nx : Nat) (t : TypeId) : TO D :=
  match P.underlying t with
  | some (.slice e) => match P.info? e, zeroV D P e with
    | some j, some z => if z.length = j.size then match kindsOf z with
      | some ks => .ret ⟨.sslice nx .whole none (D.zc 0) j.size, [(nx, [.row false ks D.lnil])], nx + 1⟩
      | none => .fail "empty: kinds"
      else .fail "empty"
    | _, _ => .fail "empty"
  | _ => .fail "empty: type"

/-- A part of a part of a row: its bounds are told. -/
def sliceV (P : Program) (nx : Nat) (t : TypeId) (x : AV D) (low high max : Option (AV D)) : TO D :=
  match P.underlying t, x with
  | some (.slice e), .sslice n _ off len sz =>
    match P.info? e with
    | some j => if j.size = sz then
      match low, high, max with
      | none, some v, none => match v.z with
        | some (_, hi) => .node (D.band (D.zle (D.zc 0) hi) (D.zle hi len)) (val nx (.sslice n .part off hi sz)) (.fail "slice: range")
        | none => .fail "slice"
      | some a, none, none => match a.z with
        | some (_, lo) => .node (D.band (D.zle (D.zc 0) lo) (D.zle lo len)) (val nx (.sslice n .part (some (addO off lo)) (D.zsub .i64 len lo) sz)) (.fail "slice: range")
        | none => .fail "slice"
      | some a, some v, none => match a.z, v.z with
        | some (_, lo), some (_, hi) => .node (D.band (D.zle (D.zc 0) lo) (D.band (D.zle lo hi) (D.zle hi len))) (val nx (.sslice n .part (some (addO off lo)) (D.zsub .i64 hi lo) sz)) (.fail "slice: range")
        | _, _ => .fail "slice"
      | some a, some v, some m => match a.z, v.z, m.z with
        | some (_, lo), some (_, hi), some (_, mx) => .node (D.band (D.band (D.zle (D.zc 0) lo) (D.zle lo hi)) (D.band (D.zle hi mx) (D.zle mx len))) (val nx (.sslice n .part (some (addO off lo)) (D.zsub .i64 hi lo) sz)) (.fail "slice: range")
        | _, _, _ => .fail "slice"
      | _, _, _ => .fail "slice"
      else .fail "slice: size"
    | none => .fail "slice: size"
  | _, _ => .fail "slice: type"

/-- A row is cut: what is behind is gone, and the old name with it. -/
def cutV (P : Program) (h : Heap D) (nx : Nat) (t : TypeId) (x v m : AV D) : TO D :=
  match P.underlying t, x with
  | some (.slice e), .sslice n .whole none len sz => match P.info? e, rowAt h n, v.z, m.z with
    | some j, some (false, ks, l), some (_, hi), some (_, mx) =>
      if j.size = sz ∧ ks.length = sz then
        .node (D.band (D.zeq hi mx) (D.band (D.zle (D.zc 0) hi) (D.zle hi len))) (.ret ⟨.sslice nx .whole none hi sz, [(nx, [.row false ks (D.lsub l (D.zc 0) hi)]), (n, [])], nx + 1⟩) (.fail "slice: range")
      else .fail "slice: size"
    | _, _, _, _ => .fail "slice"
  | _, _ => .fail "slice: type"

/-- Operands that may be there, with their values. -/
def optV : List (Option Operand) → List (AV D) → Option (List (Option (AV D)))
  | [], [] => some []
  | none :: r, vs => (optV r vs).map (none :: ·)
  | some _ :: r, v :: vs => (optV r vs).map (some v :: ·)
  | _, _ => none

/-- Is it nought? -/
def isZero (k : IntKind) : AV D → Bool
  | .ki j n => j == k && n == 0
  | _ => false

/-- Whole numbers as elements of a row. -/
def toEls (k : IntKind) : List (AV D) → Option (List (List (CV D.F D.B D.Z)))
  | [] => some []
  | v :: r => match toCV (.z k) v, toEls k r with
    | some c, some l => some ([c] :: l)
    | _, _ => none

/-- A great array out of the cells of a block. -/
def loadArr (len : Nat) (k : IntKind) (blk : List (AV D)) (off : Nat) : Option (AV D) :=
  if off + len ≤ blk.length then match toEls k ((blk.drop off).take len) with
    | some es => some (.arr len (.z k) (D.lapp D.lnil es))
    | none => none
  else none

abbrev CallFn (D : Dom) := FuncId → List (AV D) → Heap D → Nat → TO D

def evOpV (P : Program) (call : CallFn D) (op : Op) (vs : List (AV D)) (h : Heap D) (nx : Nat) : TO D :=
  match op with
  | .move _ | .assign _ => match vs with
    | [x] => val nx x
    | _ => .fail "arity"
  | .pick _ _ _ => match vs with
    | [.kb c, a, b] => val nx (if c then a else b)
    | [.sb c, a, b] => match join2 c a b with
      | some v => val nx v
      | none => .node c (val nx a) (val nx b)
    | _ => .fail "pick"
  | .alloc e => match bigT P e with
    | some (len, k) => match zeroV D P e with
      | some z => if z.length = len && z.all (isZero k) then .ret ⟨.aptr nx len, [(nx, [.row false [.z k] (D.lrep (D.zc len) [.z (D.zc 0)])])], nx + 1⟩ else .fail "alloc: array"
      | none => .fail "alloc"
    | none => match zeroV D P e with
      | some z => .ret ⟨.ptr nx 0, [(nx, z)], nx + 1⟩
      | none => .fail "alloc"
  | .box _ _ => match vs with
    | [.arr n k l] => .ret ⟨.aptr nx n, [(nx, [.row false [k] l])], nx + 1⟩
    | [x] => if x.noBox then .fail "box" else .ret ⟨.ptr nx 0, [(nx, x.cells)], nx + 1⟩
    | _ => .fail "box"
  | .build t ps => valO nx "build" (buildV P t (zipParts ps.toList vs))
  | .buildSlice t n ps => if n = 0 then (match vs with
    | [] => emptyV P nx t
    | _ => .fail "arity") else match buildSliceV P t n (zipParts ps.toList vs) with
    | some c => .ret ⟨.slice nx 0 n n, [(nx, c)], nx + 1⟩
    | none => .fail "buildSlice"
  | .load t _ => match vs with
    | [.ptr n off] => match hget h n with
      | some blk => if shut blk then .fail "load: shut" else match bigT P t with
        | some (len, k) => valO nx "load: array" (loadArr len k blk off)
        | none => valO nx "load" (loadV P t blk off)
      | none => .fail "load: no block"
    | [.aptr n len] => match rowAt h n, bigT P t with
      | some (_, [.z k], l), some (len', k') => if len = len' ∧ k = k' then val nx (.arr len (.z k) l) else .fail "load: array"
      | _, _ => .fail "load: array"
    | [.sptr n z sz o] => match rowAt h n with
      | some (_, ks, l) => if ks.length = sz then valO nx "load" (loadRow P t ks l z o) else .fail "load: row"
      | none => .fail "load: no row"
    | _ => .fail "load"
  | .store t _ _ => match vs with
    | [.ptr n off, x] => match hget h n with
      | some blk => if shut blk then .fail "store: shut" else match storeV P t blk off x with
        | some blk' => .ret ⟨.undef, [(n, blk')], nx⟩
        | none => .fail "store"
      | none => .fail "store: no block"
    | [.aptr n len, .arr m (.z k) l] => match rowAt h n, bigT P t with
      | some (false, ks, _), some (len', k') => if len = len' ∧ m = len' ∧ k = k' ∧ ks = [.z k] then .ret ⟨.undef, [(n, [.row false [.z k] l])], nx⟩ else .fail "store: array"
      | _, _ => .fail "store: array"
    | [.sptr n z sz o, x] => match rowAt h n with
      | some (false, ks, l) => if ks.length = sz then match storeRow P t ks l z o x with
        | some l' => .ret ⟨.undef, [(n, [.row false ks l'])], nx⟩
        | none => .fail "store"
        else .fail "store: row"
      | _ => .fail "store: no row"
    | _ => .fail "store"
  | .nilCheck _ => match vs with
    | [.aptr n len] => val nx (.aptr n len)
    | [.ptr n off] => val nx (.ptr n off)
    | [.sptr n z sz o] => val nx (.sptr n z sz o)
    | [.clo f a b] => val nx (.clo f a b)
    | _ => .fail "nilCheck"
  | .binOp op t _ _ _ => match vs with
    | [x, y] => binOpV P nx op t x y
    | _ => .fail "arity"
  | .unOp op _ _ => match vs with
    | [x] => unOpV nx op x
    | _ => .fail "arity"
  | .convert s d _ => match vs with
    | [x] => convV P nx s d x
    | _ => .fail "arity"
  | .makeFunc fn first _ => match fn with
    | .func f => val nx (.clo f (vs.take first.size) (vs.drop first.size))
    | _ => .fail "makeFunc"
  | .fieldAddr t _ f => match vs with
    | [x] => valO nx "fieldAddr" (fieldAddrV P t x f)
    | _ => .fail "arity"
  | .field t _ f => match vs with
    | [x] => valO nx "field" (fieldV P t x f)
    | _ => .fail "arity"
  | .indexAddr t _ _ => match vs with
    | [x, i] => indexAddrV P nx t x i
    | _ => .fail "arity"
  | .index t _ _ => match vs with
    | [x, i] => indexV P nx t x i
    | _ => .fail "arity"
  | .extract _ i => match vs with
    | [.tup cs] => valO nx "extract" cs[i]?
    | _ => .fail "extract"
  | .call c => match c.callee, vs with
    | .value _, .clo f first cap :: args => call f (first ++ (args ++ cap)) h nx
    | .builtin .append, vs => appendV P h nx c.argTypes.toList vs
    | .builtin b, vs => builtinV P nx b c.argTypes.toList vs
    | _, _ => .fail "call"
  | .makeSlice t l c => match vs with
    | [v, _] => if sameOpd l c then makeSliceV P nx t v else .fail "make: room behind"
    | _ => .fail "arity"
  | .slice t _ low high max => match vs with
    | x :: r => match optV [low, high, max] r with
      | some [none, some v, some m] => cutV P h nx t x v m
      | some [a, b, m] => sliceV P nx t x a b m
      | _ => .fail "arity"
    | _ => .fail "arity"
  | _ => .fail "op"

/-- The block that is looked at, as if it were there; and when it is. -/
def opened (h : Heap D) : AV D → Option (D.B × Heap D)
  | .ptr n _ | .sptr n _ _ _ | .aptr n _ => match hget h n with
    | some [.gh c l] => some (c, (n, l) :: h)
    | _ => none
  | _ => none

/-- A load, of what may be there or not. -/
def evLoadV (P : Program) (call : CallFn D) (op : Op) (x : AV D) (h : Heap D) (nx : Nat) : TO D :=
  match opened h x with
  | some (c, h') => .node c (evOpV P call op [x] h' nx) (.fail "not there")
  | none => evOpV P call op [x] h nx

/-- An operation, where an address may be nil or not. -/
def evOpN (P : Program) (call : CallFn D) (op : Op) (vs : List (AV D)) (h : Heap D) (nx : Nat) : TO D :=
  match op, vs with
  | .load _ _, [.optr c n o] => .node c (evLoadV P call op (.ptr n o) h nx) (.fail "nil")
  | .load _ _, [x] => evLoadV P call op x h nx
  | .fieldAddr _ _ _, [.optr c n o] => .node c (evOpV P call op [.ptr n o] h nx) (.fail "nil")
  | .nilCheck _, [.optr c n o] => .node c (evOpV P call op [.ptr n o] h nx) (.fail "nil")
  | _, _ => evOpV P call op vs h nx

/-- Is operation 'i' a guard of one of these? Then a test that is not known parts the tree at once. -/
def guards (ops : List Oper) (i : Nat) : Bool := ops.any fun o => match o.guard with
  | some (j, _) => j == i
  | none => false

def splitB (g : Bool) (o : Out D) : TO D :=
  match g, o.v with
  | true, .sb b => .node b (.ret { o with v := .kb true }) (.ret { o with v := .kb false })
  | _, _ => .ret o

/-- The guard's word: is the operation wanted? -/
def wantedV (all : List Oper) (tm : List (AV D)) (o : Oper) : Option Bool :=
  match o.guard with
  | none => some true
  | some (j, want) => match all[j]? with
    | some g => match g.dst with
      | some t => match tm[t]? with
        | some (.kb b) => some (b == want)
        | some .undef => some false
        | _ => none
      | none => none
    | none => none

def putT (tm : List (AV D)) (dst : Option Tmp) (v : AV D) : List (AV D) :=
  match dst with
  | some d => tm.set d v
  | none => tm

/-- One operation, in memory h: a skipped one gives 'undef'. -/
def evOper (P : Program) (call : CallFn D) (all : List Oper) (i : Nat) (o : Oper) (tm : List (AV D)) (h : Heap D) (nx : Nat) : TO D :=
  match wantedV all tm o with
  | some true => match opds tm o.op.operands.toList with
    | some vs => (compactO h nx (evOpN P call o.op vs h nx)).bind fun u => if nx ≤ u.nx then splitB (guards all i) u else .fail "names"
    | none => .fail "operand"
  | some false => val nx .undef
  | none => .fail "guard"

/-- A region whose order is that of its list. -/
def evSeq (P : Program) (call : CallFn D) (all : List Oper) : List Oper → Nat → List (AV D) → Heap D → Nat → T D.B (List (AV D) × Heap D × Nat)
  | [], _, tm, h, nx => .ret (tm, h, nx)
  | o :: r, i, tm, h, nx => (evOper P call all i o tm h nx).bind fun u => evSeq P call all r (i + 1) (putT tm o.dst u.v) (u.d ++ h) u.nx

/-- What operations write: a mask. -/
def wrOps (ops : List Oper) : Nat := ops.foldr (fun o m => match o.dst with
  | some t => m ||| 2 ^ t
  | none => m) 0

/-- How far what hangs on a guard goes: 'i' is where the guard stands, 'e' the last one that is known to hang on it. -/
def segEnd (all : List Oper) (i : Nat) : List Oper → Nat → Nat → List Tmp → Nat
  | [], _, e, _ => e
  | o :: r, j, e, ts =>
    let g := match o.guard with
      | some (k, _) => decide (i ≤ k) && decide (k ≤ e)
      | none => false
    if g then segEnd all i r (j + 1) j (match o.dst with | some t => t :: ts | none => ts)
    else if (o.looksAt all.toArray).any fun t => ts.contains t then segEnd all i r (j + 1) j ts
    else segEnd all i r (j + 1) e ts

/-- The lengths of the segments of a region, those with guards by themselves. -/
def segsOf (all : List Oper) : Nat → List Oper → Nat → Nat → List Nat
  | 0, r, _, k => [k + r.length]
  | _ + 1, [], _, k => [k]
  | n + 1, _ :: r, i, k =>
    if guards all i then
      let e := segEnd all i r (i + 1) i []
      k :: (e + 1 - i) :: segsOf all n (r.drop (e - i)) (e + 1) 0
    else segsOf all n r (i + 1) (k + 1)

/-- A region segment by segment, the ways taken together behind each. -/
def evSegs (P : Program) (call : CallFn D) (all : List Oper) : List Nat → List Oper → Nat → List (AV D) → Heap D → Nat → T D.B (List (AV D) × Heap D × Nat)
  | [], [], _, tm, h, nx => .ret (tm, h, nx)
  | [], _ :: _, _, _, _, _ => .fail "segments"
  | k :: ks, r, i, tm, h, nx =>
    (compact (wrOps (r.take k)) tm h nx ((evSeq P call all (r.take k) i tm h nx).bind fun (tm, h, nx) => .ret (.normal, ⟨tm, h, nx⟩))).bind fun (e, st) =>
      if e = .normal then evSegs P call all ks (r.drop k) (i + (r.take k).length) st.tm st.h st.nx else .fail "segments"

/-- What is known of an operation of a region that draws, once it is reckoned: the ones before it (a mask), the memory that it saw, what it laid. -/
structure Rec (D : Dom) where
  mask : Nat
  seen : Heap D
  d : Heap D

/-- The mask of those that come before: '.on' must be less than the place. -/
def maskOf (masks : List Nat) (i : Nat) : List Edge → Option Nat
  | [] => some 0
  | e :: r => match maskOf masks i r with
    | none => none
    | some m => if Region.binds .any e then (if e.on < i then some (m ||| (2 ^ e.on ||| masks.getD e.on 0)) else none) else some m

def masksOf : List Oper → Nat → List Nat → Option (List Nat)
  | [], _, acc => some acc
  | o :: r, i, acc => match maskOf acc i o.after.toList with
    | some m => masksOf r (i + 1) (acc ++ [m])
    | none => none

/-- The memory that some of them have laid, the latest first, before 'h0'. -/
def heapOf (p : Nat → Bool) : Heap D → List (Rec D) → Nat → Heap D
  | h0, [], _ => h0
  | h0, r :: rs, i => heapOf p (if p i then r.d ++ h0 else h0) rs (i + 1)

def memless : Op → Bool
  | .move _ | .assign _ | .pick .. | .alloc _ | .box .. | .build .. | .buildSlice .. | .nilCheck _ | .binOp .. | .unOp .. | .convert .. | .makeFunc ..
  | .fieldAddr .. | .field .. | .indexAddr .. | .index .. | .extract .. | .makeSlice .. => true
  | .slice _ _ none (some _) (some _) => false
  | .slice .. => true
  | .call c => match c.callee with
    | .builtin .append => false
    | .builtin _ => true
    | _ => false
  | _ => false

/-- The block that a look or a laying is at. -/
def blockAt (tm : List (AV D)) (h : Heap D) : Option Operand → Heap D
  | some a => match opd tm a with
    | some (.ptr n _) | some (.sptr n _ _ _) | some (.aptr n _) => match hget h n with
      | some b => [(n, b)]
      | none => []
    | _ => h
  | none => h

/-- Of memory what an operation may look at. -/
def narrow (op : Op) (tm : List (AV D)) (h : Heap D) : Heap D :=
  if memless op then [] else match op with
    | .load _ a => blockAt tm h (some a)
    | .store _ a _ => blockAt tm h (some a)
    | _ => h

def evDraw (P : Program) (call : CallFn D) (all : List Oper) (h0 : Heap D) : List Oper → List Nat → Nat → List (Rec D) → List (AV D) → Nat → T D.B (List (AV D) × List (Rec D) × Nat)
  | [], _, _, recs, tm, nx => .ret (tm, recs, nx)
  | o :: r, ms, i, recs, tm, nx =>
    match ms with
    | [] => .fail "masks"
    | m :: ms' =>
      (evOper P call all i o tm (narrow o.op tm (heapOf (fun k => m.testBit k) h0 recs 0)) nx).bind fun u =>
        evDraw P call all h0 r ms' (i + 1) (recs ++ [⟨m, narrow o.op tm (heapOf (fun k => m.testBit k) h0 recs 0), u.d⟩]) (putT tm o.dst u.v) u.nx

def looksT (all : List Oper) (o : Oper) : List Tmp := o.looksAt all.toArray

/-- Temporaries: each is written once at most, and whoever looks at one is before or behind its writer. -/
def drawTmps (all : List Oper) (masks : List Nat) : Bool :=
  (all.zipIdx.all fun (o, j) => all.zipIdx.all fun (p, i) => i == j || match p.dst with
    | none => true
    | some t => o.dst != some t && (!(looksT all o).contains t || (masks.getD j 0).testBit i || (masks.getD i 0).testBit j))

/-- Memory: what one lays, no other one lays or has seen that is neither before nor behind it. -/
def drawMem (recs : List (Rec D)) : Bool :=
  recs.zipIdx.all fun (a, i) => a.d.isEmpty || recs.zipIdx.all fun (b, j) => i == j || a.mask.testBit j || b.mask.testBit i ||
    a.d.all fun p => (hget b.seen p.1).isNone && (hget b.d p.1).isNone

def noSel : List Oper → Bool
  | [] => true
  | o :: r => (match o.op with | .select .. => false | _ => true) && noSel r

def evRegion (P : Program) (call : CallFn D) (ops : List Oper) (draw : Bool) (tm : List (AV D)) (h : Heap D) (nx : Nat) : T D.B (List (AV D) × Heap D × Nat) :=
  if draw then
    match masksOf ops 0 [] with
    | none => .fail "masks"
    | some ms =>
      if drawTmps ops ms then
        (evDraw P call ops h ops ms 0 [] tm nx).bind fun (tm', recs, nx') =>
          if drawMem recs then .ret (tm', heapOf (fun _ => true) h recs 0, nx') else .fail "drawMem"
      else .fail "drawTmps"
  else evSegs P call ops (segsOf ops (2 * ops.length + 1) ops 0 0) ops 0 tm h nx

/-- A number's table: what a function gives that is proved already. -/
abbrev Tbl (D : Dom) := FuncId → Option (List (AV D) → T D.B (AV D))

mutual
def AV.noPtr : AV D → Bool
  | .ptr _ _ | .slice _ _ _ _ | .clo _ _ _ | .row _ _ _ | .sptr _ _ _ _ | .sslice _ _ _ _ _ | .aptr _ _ | .optr _ _ _ | .gh _ _ => false
  | .agg cs | .tup cs => noPtrs cs
  | _ => true
def noPtrs : List (AV D) → Bool
  | [] => true
  | v :: r => v.noPtr && noPtrs r
end

def resV (P : Program) (tm : List (AV D)) (h : Heap D) : ResultVar → Option (AV D)
  | .tmp t => tm[t]?
  | .cell a t => match tm[a]? with
    | some (.ptr n off) => match hget h n with
      | some blk => if shut blk then none else loadV P t blk off
      | none => none
    | some (.aptr n len) => match rowAt h n, bigT P t with
      | some (_, [.z k], l), some (len', k') => if len = len' ∧ k = k' then some (.arr len (.z k) l) else none
      | _, _ => none
    | _ => none

def resVs (P : Program) (tm : List (AV D)) (h : Heap D) : List ResultVar → Option (List (AV D))
  | [] => some []
  | r :: rs => match resV P tm h r, resVs P tm h rs with
    | some a, some l => some (a :: l)
    | _, _ => none

/-- What a call leaves of what it laid: all, if what it gives has addresses; else only what it laid into memory that was there. -/
def keepD (v : AV D) (nx nx' : Nat) (d : Heap D) : Heap D :=
  if v.noPtr && d.all (fun p => (nx ≤ p.1 && p.1 < nx') || isRow p.2 || noPtrs p.2) then d.filter fun p => !(nx ≤ p.1 && p.1 < nx') else d

def oneOr : List (AV D) → AV D
  | [x] => x
  | l => .tup l

def evFnV (P : Program) (ev : Code → St D → T D.B (Ex × St D)) (f : FuncId) (args : List (AV D)) (h : Heap D) (nx : Nat) : TO D :=
  match P.funcs[f]? with
  | none => .fail "no function"
  | some fn => match fn.body with
    | none => .fail "no body"
    | some c =>
      (ev c ⟨args ++ List.replicate (fn.ntmps - args.length) .undef, h, nx⟩).bind fun (e, st) =>
        match e with
        | .exit _ => .fail "exit"
        | _ => match resVs P st.tm st.h fn.results.toList with
          | some vs => .ret ⟨oneOr vs, keepD (oneOr vs) nx st.nx (laidOn h st.h), st.nx⟩
          | none => .fail "results"

def evCallV (P : Program) (tbl : Tbl D) (ev : Code → St D → T D.B (Ex × St D)) : CallFn D := fun f args h nx =>
  match tbl f with
  | some sp => if noPtrs args then (sp args).bind fun v => if v.noPtr then val nx v else .fail "table: address" else .fail "table: address in"
  | none => evFnV P ev f args h nx

/-- What code writes: a mask. -/
def wrCode : Code → Nat
  | .region _ ops _ => wrOps ops.toList
  | .seq a b => wrCode a ||| wrCode b
  | .cond _ a b => wrCode a ||| wrCode b
  | .block _ b => wrCode b
  | .loop b => wrCode b
  | .scope b => wrCode b
  | _ => 0

def evCode (P : Program) (tbl : Tbl D) : Nat → Code → St D → T D.B (Ex × St D)
  | 0, _, _ => .fail "fuel"
  | n + 1, c, st =>
    match c with
    | .skip => .ret (.normal, st)
    | .region _ ops draw => (evRegion P (evCallV P tbl (evCode P tbl n)) ops.toList draw st.tm st.h st.nx).bind fun (tm, h, nx) => .ret (.normal, ⟨tm, h, nx⟩)
    | .seq a b => (evCode P tbl n a st).bind fun (e, st') => match e with
      | .normal => evCode P tbl n b st'
      | e => .ret (e, st')
    | .cond c a b => match opd st.tm c with
      | some (.kb t) => evCode P tbl n (if t then a else b) st
      | some (.sb s) => compact (wrCode a ||| wrCode b) st.tm st.h st.nx (.node s (evCode P tbl n a st) (evCode P tbl n b st))
      | _ => .fail "cond"
    | .block id b => compact (wrCode b) st.tm st.h st.nx ((evCode P tbl n b st).bind fun (e, st') => match e with
      | .exit j => if j = id then .ret (.normal, st') else .ret (.exit j, st')
      | e => .ret (e, st'))
    | .loop b => (evCode P tbl n b st).bind fun (e, st') => match e with
      | .normal => evCode P tbl n (.loop b) st'
      | e => .ret (e, st')
    | .scope b => evCode P tbl n b st
    | .label _ => .ret (.normal, st)
    | .exit id => .ret (.exit id, st)
    | .ret => .ret (.ret, st)
    | _ => .fail "code"

def joinT : T D.B (AV D) → J D
  | .fail _ => .bot
  | .ret a => .val none a
  | .node c t e => match joinT t, joinT e with
    | .bad, _ | _, .bad => .bad
    | .bot, .bot => .bot
    | .val ok v, .bot => .val (some (match ok with | none => c | some o => D.band c o)) v
    | .bot, .val ok v => .val (some (match ok with | none => D.bnot c | some o => D.band (D.bnot c) o)) v
    | .val ok v, .val ok' v' => match join2 c v v' with
      | some u => .val (match ok, ok' with
        | none, none => none
        | some o, none => some (D.bite c o (D.bc true))
        | none, some o => some (D.bite c (D.bc true) o)
        | some o, some o' => some (D.bite c o o')) u
      | none => .bad

/-- A function from its arguments, with nothing in memory. -/
def evFn (P : Program) (tbl : Tbl D) (n : Nat) (f : FuncId) (args : List (AV D)) : T D.B (AV D) :=
  (evFnV P (evCode P tbl n) f args [] 0).bind fun u => .ret u.v

/- How a table's entry takes its arguments. -/
def argF : List (AV D) → (D.F → List (AV D) → T D.B (AV D)) → T D.B (AV D)
  | .fl x :: r, k => k x r
  | _, _ => .fail "argF"
def argB : List (AV D) → (D.B → List (AV D) → T D.B (AV D)) → T D.B (AV D)
  | .kb b :: r, k => k (D.bc b) r
  | .sb b :: r, k => k b r
  | _, _ => .fail "argB"
def argZ (i : IntKind) : List (AV D) → (D.Z → List (AV D) → T D.B (AV D)) → T D.B (AV D)
  | .ki j n :: r, k => if i = j then k (D.zc n) r else .fail "argZ"
  | .si j n :: r, k => if i = j then k n r else .fail "argZ"
  | _, _ => .fail "argZ"
def argK (i : IntKind) : List (AV D) → (Int → List (AV D) → T D.B (AV D)) → T D.B (AV D)
  | .ki j n :: r, k => if i = j then k n r else .fail "argK"
  | _, _ => .fail "argK"
def argA : List (AV D) → (List (AV D) → List (AV D) → T D.B (AV D)) → T D.B (AV D)
  | .agg cs :: r, k => k cs r
  | _, _ => .fail "argA"
def arg0 : List (AV D) → T D.B (AV D) → T D.B (AV D)
  | [], t => t
  | _ :: _, _ => .fail "arg0"

abbrev Spec := (D : Dom) → List (AV D) → T D.B (AV D)

def tblOf (l : List (Nat × Spec)) (D : Dom) : Tbl D := fun f => match l with
  | [] => none
  | (k, sp) :: r => if k == f then some (sp D) else tblOf r D f

end Go.Ev
/- Loops: the shape of the states at a loop's head, and code whose loops are told by the last one of them. -/
namespace Go.Ev

section
variable {D : Dom}

abbrev PD (D : Dom) := PV D.F D.B D.Z D.L

def nthF (l : List (PD D)) (i : Nat) : D.F := match l[i]? with
  | some (.f x) => x
  | _ => D.fc 0
def nthB (l : List (PD D)) (i : Nat) : D.B := match l[i]? with
  | some (.b x) => x
  | _ => D.bc false
def nthZ (l : List (PD D)) (i : Nat) : D.Z := match l[i]? with
  | some (.z x) => x
  | _ => D.zc 0
def nthL (l : List (PD D)) (i : Nat) : D.L := match l[i]? with
  | some (.l x) => x
  | _ => D.lnil

/-- Skeletons of values: what is a symbol is left out. -/
abbrev KD : Dom where
  F := Unit
  B := Unit
  Z := Unit
  L := Unit
  fc _ := ()
  fadd _ _ := ()
  fsub _ _ := ()
  fmul _ _ := ()
  fdiv _ _ := ()
  fneg _ := ()
  fsqrt _ := ()
  fmin _ _ := ()
  fmax _ _ := ()
  feq _ _ := ()
  flt _ _ := ()
  fle _ _ := ()
  fgt _ _ := ()
  fge _ _ := ()
  i2f _ := ()
  f2iok _ _ := ()
  f2i _ _ := ()
  zc _ := ()
  zadd _ _ _ := ()
  zsub _ _ _ := ()
  zmul _ _ _ := ()
  zquo _ _ _ := ()
  zrem _ _ _ := ()
  zmin _ _ := ()
  zmax _ _ := ()
  zeq _ _ := ()
  zlt _ _ := ()
  zle _ _ := ()
  zconv _ _ := ()
  bc _ := ()
  fite _ _ _ := ()
  bite _ _ _ := ()
  zite _ _ _ := ()
  bnot _ := ()
  band _ _ := ()
  beq _ _ := ()
  lnil := ()
  llen _ := ()
  lf _ _ _ := ()
  lb _ _ _ := ()
  lz _ _ _ := ()
  lput _ _ _ _ := ()
  lapp _ _ := ()
  lcat _ _ := ()
  lsub _ _ _ := ()
  lrep _ _ := ()
  lite _ _ _ := ()
  last _ _ := []
  ends _ _ := ()

/-- Where a part begins (if the skeleton says so), and its length. -/
def matchO : Bool → Option D.Z → D.Z → Option (List (PD D))
  | false, none, z => some [.z z]
  | true, some o, z => some [.z o, .z z]
  | _, _, _ => none

mutual
/-- The symbols of a value, if it is of that skeleton. -/
def matchX : AV KD → AV D → Option (List (PD D))
  | .undef, .undef => some []
  | .any, .any => some []
  | .fl _, .fl x => some [.f x]
  | .kb a, .kb b => if a = b then some [] else none
  | .sb _, .sb b => some [.b b]
  | .ki k n, .ki j m => if k = j ∧ n = m then some [] else none
  | .si k _, .si j x => if k = j then some [.z x] else none
  | .ptr n o, .ptr m p => if n = m ∧ o = p then some [] else none
  | .nilp, .nilp => some []
  | .slice n o l c, .slice m p k e => if n = m ∧ o = p ∧ l = k ∧ c = e then some [] else none
  | .nils, .nils => some []
  | .nilf, .nilf => some []
  | .clo f xs ys, .clo g us vs => if f = g then match matchXs xs us, matchXs ys vs with
    | some a, some b => some (a ++ b)
    | _, _ => none
    else none
  | .agg xs, .agg ys => matchXs xs ys
  | .tup xs, .tup ys => matchXs xs ys
  | .row ro ks _, .row rp js l => if ro = rp ∧ ks = js then some [.l l] else none
  | .sptr n _ s o, .sptr m z q p => if n = m ∧ s = q ∧ o = p then some [.z z] else none
  | .sslice n k o _ s, .sslice m j p z q => if n = m ∧ k = j ∧ s = q then matchO o.isSome p z else none
  | .arr n k _, .arr m j l => if n = m ∧ k = j then some [.l l] else none
  | .aptr n a, .aptr m b => if n = m ∧ a = b then some [] else none
  | .optr _ n o, .optr c m p => if n = m ∧ o = p then some [.b c] else none
  | .gh _ xs, .gh c ys => match matchXs xs ys with
    | some a => some (.b c :: a)
    | none => none
  | _, _ => none
def matchXs : List (AV KD) → List (AV D) → Option (List (PD D))
  | [], [] => some []
  | x :: xs, y :: ys => match matchX x y, matchXs xs ys with
    | some a, some b => some (a ++ b)
    | _, _ => none
  | _, _ => none
end

mutual
/-- How many symbols there are. -/
def holes : AV KD → Nat
  | .fl _ | .sb _ | .si _ _ | .row _ _ _ | .sptr _ _ _ _ | .arr _ _ _ | .optr _ _ _ => 1
  | .gh _ xs => 1 + holess xs
  | .sslice _ _ o _ _ => if o.isSome then 2 else 1
  | .clo _ xs ys => holess xs + holess ys
  | .agg xs | .tup xs => holess xs
  | _ => 0
def holess : List (AV KD) → Nat
  | [] => 0
  | x :: r => holes x + holess r
end

mutual
/-- A value out of its skeleton and parameters, from the i-th on. -/
def layV (l : List (PD D)) : AV KD → Nat → AV D
  | .undef, _ => .undef
  | .any, _ => .any
  | .fl _, i => .fl (nthF l i)
  | .kb b, _ => .kb b
  | .sb _, i => .sb (nthB l i)
  | .ki k n, _ => .ki k n
  | .si k _, i => .si k (nthZ l i)
  | .ptr n o, _ => .ptr n o
  | .nilp, _ => .nilp
  | .slice n o l c, _ => .slice n o l c
  | .nils, _ => .nils
  | .nilf, _ => .nilf
  | .clo f xs ys, i => .clo f (layVs l xs i) (layVs l ys (i + holess xs))
  | .agg xs, i => .agg (layVs l xs i)
  | .tup xs, i => .tup (layVs l xs i)
  | .row ro ks _, i => .row ro ks (nthL l i)
  | .sptr n _ s o, i => .sptr n (nthZ l i) s o
  | .arr n k _, i => .arr n k (nthL l i)
  | .aptr n a, _ => .aptr n a
  | .optr _ n o, i => .optr (nthB l i) n o
  | .gh _ xs, i => .gh (nthB l i) (layVs l xs (i + 1))
  | .sslice n k o _ s, i => match o.isSome with
    | true => .sslice n k (some (nthZ l i)) (nthZ l (i + 1)) s
    | false => .sslice n k none (nthZ l i) s
def layVs (l : List (PD D)) : List (AV KD) → Nat → List (AV D)
  | [], _ => []
  | x :: r, i => layV l x i :: layVs l r (i + holes x)
end

mutual
/-- Known numbers and tests as symbols. -/
def symV : AV D → AV D
  | .kb b => .sb (D.bc b)
  | .ki k n => .si k (D.zc n)
  | .agg cs => .agg (symVs cs)
  | v => v
def symVs : List (AV D) → List (AV D)
  | [] => []
  | v :: r => symV v :: symVs r
end

mutual
/-- All names are below K. -/
def AV.lt (K : Nat) : AV D → Bool
  | .ptr n _ | .slice n _ _ _ | .sptr n _ _ _ | .sslice n _ _ _ _ | .aptr n _ | .optr _ n _ => decide (n < K)
  | .gh _ xs => ltAll K xs
  | .clo _ xs ys => ltAll K xs && ltAll K ys
  | .agg xs | .tup xs => ltAll K xs
  | _ => true
def ltAll (K : Nat) : List (AV D) → Bool
  | [] => true
  | v :: r => v.lt K && ltAll K r
end

/-- What stands at a place of a head state: what does not change, what changes, a row that is given anew, nothing that is known, or what nobody looks at. -/
inductive TS where
  | env (s : AV KD)
  | var (s : AV KD)
  | slot (ks : List CK) (sz : Nat)
  | drop
  | ctx

inductive BS where
  | cells (l : List TS)
  | row (ks : List CK)

/-- The shape of a loop's head states: the first name that is free, the names in use behind a round, the temporaries, the blocks that are laid, those that are looked at, and the names that die. -/
structure HSh where
  K : Nat
  N : Nat
  tm : List TS
  vh : List (Nat × BS)
  eh : List (Nat × List (AV KD))
  dead : List Nat

/-- Counters: of what does not change, of what changes, of what nobody looks at, of rows given anew. -/
structure Ct where
  e : Nat
  v : Nat
  c : Nat
  s : Nat

def TS.next : TS → Ct → Ct
  | .env s, c => ⟨c.e + holes s, c.v, c.c, c.s⟩
  | .var s, c => ⟨c.e, c.v + holes s, c.c, c.s⟩
  | .slot _ _, c => ⟨c.e, c.v, c.c, c.s + 1⟩
  | .drop, c => c
  | .ctx, c => ⟨c.e, c.v, c.c + 1, c.s⟩

def nexts : List TS → Ct → Ct
  | [], c => c
  | t :: r, c => nexts r (t.next c)

def fillS (K : Nat) (env vars : List (PD D)) (ctx : List (AV D)) : TS → Ct → AV D
  | .env s, c => layV env s c.e
  | .var s, c => layV vars s c.v
  | .slot _ sz, c => .sslice (K + c.s) .whole none (D.llen (nthL vars c.s)) sz
  | .drop, _ => .any
  | .ctx, c => ctx.getD c.c .undef

def fillSs (K : Nat) (env vars : List (PD D)) (ctx : List (AV D)) : List TS → Ct → List (AV D)
  | [], _ => []
  | t :: r, c => fillS K env vars ctx t c :: fillSs K env vars ctx r (t.next c)

def fillB (K : Nat) (vars : List (PD D)) : List (Nat × BS) → Ct → Heap D
  | [], _ => []
  | (n, .cells l) :: r, c => (n, fillSs K [] vars [] l c) :: fillB K vars r (nexts l c)
  | (n, .row ks) :: r, c => (n, [.row false ks (nthL vars c.v)]) :: fillB K vars r ⟨c.e, c.v + 1, c.c, c.s⟩

def fillE (env : List (PD D)) : List (Nat × List (AV KD)) → Nat → Heap D
  | [], _ => []
  | (n, l) :: r, i => (n, layVs env l i) :: fillE env r (i + holess l)

/-- The kinds of the rows that are given anew. -/
def slotsT : List TS → List (List CK)
  | [] => []
  | .slot ks _ :: r => ks :: slotsT r
  | _ :: r => slotsT r

def slotsB : List (Nat × BS) → List (List CK)
  | [] => []
  | (_, .cells l) :: r => slotsT l ++ slotsB r
  | (_, .row _) :: r => slotsB r

def HSh.slots (sh : HSh) : List (List CK) := slotsT sh.tm ++ slotsB sh.vh
def HSh.ct (sh : HSh) : Ct := ⟨0, sh.slots.length, 0, 0⟩

def rowsS (K : Nat) (vars : List (PD D)) : List (List CK) → Nat → Heap D
  | [], _ => []
  | ks :: r, i => (K + i, [.row false ks (nthL vars i)]) :: rowsS K vars r (i + 1)

def HSh.tmF (sh : HSh) (env vars : List (PD D)) (ctx : List (AV D)) : List (AV D) := fillSs sh.K env vars ctx sh.tm sh.ct
def HSh.d (sh : HSh) (vars : List (PD D)) : Heap D := fillB sh.K vars sh.vh (nexts sh.tm sh.ct) ++ (rowsS sh.K vars sh.slots 0 ++ sh.dead.map fun n => (n, []))
def HSh.he (sh : HSh) (env : List (PD D)) : Heap D := fillE env sh.eh (nexts sh.tm sh.ct).e
/-- The head state at given parameters. -/
def HSh.st (sh : HSh) (env vars : List (PD D)) (ctx : List (AV D)) : St D := ⟨sh.tmF env vars ctx, sh.d vars ++ sh.he env, sh.K + sh.slots.length⟩

/-- What changes, read: the names of rows that are to be given anew (none: nil), and the parameters. -/
def rdS : TS → AV D → Option (List (Option Nat) × List (PD D))
  | .var s, v => match matchX s (symV v) with
    | some p => some ([], p)
    | none => none
  | .slot _ sz, .sslice n .whole none _ q => if q = sz then some ([some n], []) else none
  | .slot _ _, .nils => some ([none], [])
  | .slot _ _, _ => none
  | .drop, _ | .env _, _ | .ctx, _ => some ([], [])

def rdSs : List TS → List (AV D) → Option (List (Option Nat) × List (PD D))
  | [], [] => some ([], [])
  | t :: r, v :: s => match rdS t v, rdSs r s with
    | some (a, p), some (b, q) => some (a ++ b, p ++ q)
    | _, _ => none
  | _, _ => none

def rdB (h : Heap D) : List (Nat × BS) → Option (List (Option Nat) × List (PD D))
  | [] => some ([], [])
  | (n, .cells l) :: r => match hget h n with
    | some blk => if shut blk then none else match rdSs l blk, rdB h r with
      | some (a, p), some (b, q) => some (a ++ b, p ++ q)
      | _, _ => none
    | none => none
  | (n, .row ks) :: r => match rowAt h n, rdB h r with
    | some (false, js, l), some (b, q) => if js = ks then some (b, .l l :: q) else none
    | _, _ => none

def rdRows (h : Heap D) : List (List CK) → List (Option Nat) → Option (List (PD D))
  | [], [] => some []
  | ks :: r, some n :: s => match rowAt h n, rdRows h r s with
    | some (false, js, l), some q => if js = ks then some (.l l :: q) else none
    | _, _ => none
  | _ :: r, none :: s => match rdRows h r s with
    | some q => some (.l D.lnil :: q)
    | none => none
  | _, _ => none

def HSh.canon (sh : HSh) (tm : List (AV D)) (h : Heap D) : Option (List (Option Nat) × List (PD D)) :=
  match rdSs sh.tm tm, rdB h sh.vh with
  | some (a, p), some (b, q) => match rdRows h sh.slots (a ++ b) with
    | some r => some (a ++ b, r ++ (p ++ q))
    | none => none
  | _, _ => none

/-- What does not change, read; and what nobody looks at. -/
def rdE : TS → AV D → Option (List (PD D) × List (AV D))
  | .env s, v => match matchX s v with
    | some p => some (p, [])
    | none => none
  | .ctx, v => some ([], [v])
  | _, _ => some ([], [])

def rdEs : List TS → List (AV D) → Option (List (PD D) × List (AV D))
  | [], [] => some ([], [])
  | t :: r, v :: s => match rdE t v, rdEs r s with
    | some (a, p), some (b, q) => some (a ++ b, p ++ q)
    | _, _ => none
  | _, _ => none

def rdEh (h : Heap D) : List (Nat × List (AV KD)) → Option (List (PD D))
  | [] => some []
  | (n, l) :: r => match hget h n, rdEh h r with
    | some blk, some q => match matchXs l blk with
      | some p => some (p ++ q)
      | none => none
    | _, _ => none

def noDups : List (Option Nat) → Bool
  | [] => true
  | none :: r => noDups r
  | some n :: r => !r.contains (some n) && noDups r

def HSh.listed (sh : HSh) (n : Nat) : Bool := (sh.vh.any fun p => p.1 == n) || sh.dead.contains n

/-- The parameters of a first head state. -/
def HSh.init (sh : HSh) (st : St D) : Option (List (PD D) × List (PD D) × List (AV D)) :=
  if st.nx = sh.K && st.h.all (fun p => decide (p.1 < sh.K)) && sh.dead.all (fun n => match rowAt st.h n with
      | some (false, _, _) => true
      | _ => false) then
    match rdEs sh.tm st.tm, rdEh st.h sh.eh, sh.canon st.tm st.h with
    | some (e, ctx), some e', some (sl, vars) =>
      if ltAll sh.K ctx && noDups sl && sl.all (fun o => match o with
          | some n => decide (n < sh.K) && sh.dead.contains n
          | none => true) then some (e ++ e', vars, ctx) else none
    | _, _, _ => none
  else none

/-- The parameters of a state behind a round. -/
def HSh.again (sh : HSh) (base : Nat) (st : St D) : Option (List (PD D)) :=
  if decide (st.nx ≤ sh.N) && (st.h.take (st.h.length - base)).all (fun p => decide (p.1 < st.nx) && (decide (sh.K ≤ p.1) || sh.listed p.1)) then
    match sh.canon st.tm st.h with
    | some (sl, vars) =>
      if noDups sl && sl.all (fun o => match o with
          | some n => decide (sh.K ≤ n) && decide (n < st.nx)
          | none => true) then some vars else none
    | none => none
  else none

/-- A test that may be known. -/
inductive Cd (B : Type) where
  | tt
  | ff
  | s (b : B)

def Cd.val : Cd D.B → D.B
  | .tt => D.bc true
  | .ff => D.bc false
  | .s b => b

def cdIte (b : D.B) : Cd D.B → Cd D.B → Cd D.B
  | .tt, .tt => .tt
  | .ff, .ff => .ff
  | .tt, .ff => .s b
  | .ff, .tt => .s (D.bnot b)
  | x, .ff => .s (D.band b x.val)
  | .ff, y => .s (D.band (D.bnot b) y.val)
  | x, y => .s (D.bite b x.val y.val)

def joinPD (c : D.B) : PD D → PD D → Option (PD D)
  | .f x, .f y => some (.f (D.fite c x y))
  | .b x, .b y => some (.b (D.bite c x y))
  | .z x, .z y => some (.z (D.zite c x y))
  | .l x, .l y => some (.l (D.lite c x y))
  | _, _ => none

def joinPs (c : D.B) : List (PD D) → List (PD D) → Option (List (PD D))
  | [], [] => some []
  | x :: r, y :: s => match joinPD c x y, joinPs c r s with
    | some a, some l => some (a :: l)
    | _, _ => none
  | _, _ => none

/-- What a round comes to: does the loop go on, is all well, the parameters behind it. -/
structure Nr (D : Dom) where
  c : Cd D.B
  o : Cd D.B
  ps : Option (List (PD D))

def nrJoin (b : D.B) (x y : Nr D) : Option (Nr D) :=
  match x.ps, y.ps with
  | none, q => some ⟨cdIte b x.c y.c, cdIte b x.o y.o, q⟩
  | p, none => some ⟨cdIte b x.c y.c, cdIte b x.o y.o, p⟩
  | some p, some q => match joinPs b p q with
    | some r => some ⟨cdIte b x.c y.c, cdIte b x.o y.o, some r⟩
    | none => none

def HSh.round (sh : HSh) (base : Nat) : T D.B (Ex × St D) → Option (Nr D)
  | .fail _ => some ⟨.tt, .ff, none⟩
  | .ret (.normal, st) => match sh.again base st with
    | some p => some ⟨.tt, .tt, some p⟩
    | none => none
  | .ret _ => some ⟨.ff, .tt, none⟩
  | .node b t e => match sh.round base t, sh.round base e with
    | some x, some y => nrJoin b x y
    | _, _ => none

def Nr.step (x : Nr D) : D.B × D.B × List (PD D) := (x.c.val, x.o.val, x.ps.getD [])

abbrev Step1 (D : Dom) := List (PD D) → List (PD D) → D.B × D.B × List (PD D)
/-- What is told of a loop at its first head state: that it ends, the last head state and its round, what is laid there, and how many names were in use. -/
structure HO (D : Dom) where
  e : D.B
  s : St D
  t : T D.B (Ex × St D)
  dl : Heap D
  N : Nat

abbrev Hk (D : Dom) := St D → Option (HO D)

/-- From the first head state to the last one. -/
def hkOf (sh : HSh) (step : Step1 D) (ev : St D → T D.B (Ex × St D)) : Hk D := fun st =>
  match sh.init st with
  | some (env, vars, ctx) => some ⟨D.ends (step env) vars, sh.st env (D.last (step env) vars) ctx, ev (sh.st env (D.last (step env) vars) ctx), sh.d (D.last (step env) vars), sh.N⟩
  | none => none

/-- The first that knows the state. -/
def hkOr (sh : HSh) (step : Step1 D) (ev : St D → T D.B (Ex × St D)) (hk : Hk D) : Hk D := fun st => match sh.init st with
  | some _ => hkOf sh step ev st
  | none => hk st

/-- The ways out of a loop's last round. -/
def prune : T D.B (Ex × St D) → Option (T D.B (Ex × St D))
  | .fail _ => none
  | .ret (.normal, _) => none
  | .ret x => some (.ret x)
  | .node b t e => match prune t, prune e with
    | none, none => none
    | some x, none => some x
    | none, some y => some y
    | some x, some y => some (.node b x y)

/-- A loop by its last round. -/
def evLast (ho : Option (HO D)) (st : St D) : T D.B (Ex × St D) := match ho with
  | none => .fail "head"
  | some o => match prune o.t with
    | some t => .node o.e (t.bind fun (e, s) => .ret (e, ⟨s.tm, laidOn o.s.h s.h ++ (o.dl ++ st.h), max s.nx o.N⟩)) (.fail "endless")
    | none => .fail "no way out"

def TS.lt (K : Nat) : TS → Bool
  | .env s | .var s => s.lt K
  | _ => true

/-- What changes stands where the loop writes, the rest elsewhere. -/
def TS.at (mask i : Nat) : TS → Bool
  | .env _ | .ctx => !mask.testBit i
  | _ => mask.testBit i

def TS.mut : TS → Bool
  | .env _ | .ctx => false
  | _ => true

def tsLt (K : Nat) : List TS → Bool
  | [] => true
  | t :: r => t.lt K && tsLt K r
def tsAt (mask : Nat) : List TS → Nat → Bool
  | [], _ => true
  | t :: r, i => t.at mask i && tsAt mask r (i + 1)
def tsMut : List TS → Bool
  | [] => true
  | t :: r => t.mut && tsMut r

def vhOk (K : Nat) (dead : List Nat) : List (Nat × BS) → Bool
  | [] => true
  | (n, .cells l) :: r => decide (n < K) && !dead.contains n && tsLt K l && tsMut l && vhOk K dead r
  | (n, .row _) :: r => decide (n < K) && !dead.contains n && vhOk K dead r

def ehOk (K : Nat) : List (Nat × List (AV KD)) → Bool
  | [] => true
  | (n, l) :: r => decide (n < K) && ltAll K l && ehOk K r

/-- All that a shape must be, beside what its rounds show. -/
def HSh.ok (sh : HSh) (mask : Nat) : Bool :=
  tsLt sh.K sh.tm && tsAt mask sh.tm 0 && vhOk sh.K sh.dead sh.vh && ehOk sh.K sh.eh && sh.dead.all (fun n => decide (n < sh.K)) && decide (sh.K + sh.slots.length ≤ sh.N)

/-- What is told of loops: by the function, and the block around each. -/
structure LTb (D : Dom) where
  hk : FuncId → Nat → Option (Hk D)
  jt : FuncId → Nat → Nat → List (AV D) → Heap D → Nat → T D.B (Ex × St D) → List HSh

instance : CoeFun (LTb D) fun _ => FuncId → Nat → Option (Hk D) := ⟨LTb.hk⟩

/-- Shapes in which ways may be taken together (they need not be right: each is looked at before it is used). -/
def jtOf (js : List (FuncId × Nat × HSh)) : FuncId → Nat → Nat → List (AV D) → Heap D → Nat → T D.B (Ex × St D) → List HSh := fun f key _ _ _ _ _ =>
  (js.filter fun j => j.1 == f && j.2.1 == key).map fun j => j.2.2

/-- What is told of one loop. -/
structure LE (D : Dom) where
  f : FuncId
  id : Nat
  sh : HSh
  step : Step1 D
  ev : St D → T D.B (Ex × St D)

def ltOf0 : List (LE D) → FuncId → Nat → Option (Hk D)
  | [], _, _ => none
  | e :: r, f, id => if e.f == f && e.id == id then (match ltOf0 r f id with
    | some hk => some (hkOr e.sh e.step e.ev hk)
    | none => some (hkOf e.sh e.step e.ev)) else ltOf0 r f id

def ltOf (l : List (LE D)) (js : List (FuncId × Nat × HSh)) : LTb D := ⟨ltOf0 l, jtOf js⟩

/-- The loops in code, by the block around each. -/
def loopsOf : Code → List (Nat × Code)
  | .seq a b => loopsOf a ++ loopsOf b
  | .cond _ a b => loopsOf a ++ loopsOf b
  | .block id (.loop b) => (id, b) :: loopsOf b
  | .block _ b => loopsOf b
  | .loop b => loopsOf b
  | .scope b => loopsOf b
  | _ => []

def loopsAt (P : Program) (f : FuncId) (id : Nat) : List (Nat × Code) := match P.funcs[f]? with
  | some fn => match fn.body with
    | some c => (loopsOf c).filter fun p => p.1 == id
    | none => []
  | none => []

/-- The one loop with this block around it. -/
def loopB (P : Program) (f : FuncId) (id : Nat) : Code := match loopsAt P f id with
  | [(_, b)] => b
  | _ => .skip

def loopOne (P : Program) (f : FuncId) (id : Nat) : Bool := match loopsAt P f id with
  | [_] => true
  | _ => false

/-- Is a slice held against nil anywhere in code? -/
def hasNilT : Code → Bool
  | .region _ ops _ => ops.toList.any fun o => match o.op with
    | .binOp .eql _ _ (.const (.slice none 0 0)) _ => true
    | _ => false
  | .seq a b => hasNilT a || hasNilT b
  | .cond _ a b => hasNilT a || hasNilT b
  | _ => false

def nilFn (P : Program) (f : FuncId) : Bool := match P.funcs[f]? with
  | some fn => match fn.body with
    | some c => hasNilT c
    | none => false
  | none => false

/-- The one argument of a function that holds it against nil: a slice, of which nothing is known. -/
def nilArg (P : Program) (f : FuncId) : List (AV D) → Option (Nat × Option D.Z × D.Z × Nat)
  | [.sslice n k off len sz] => if k = .live then none else if nilFn P f then some (n, off, len, sz) else none
  | _ => none

/-- Of new names only the one has anything. -/
def oneNew (nx nx' m : Nat) (d : Heap D) : Bool := d.all fun p => decide (nx ≤ p.1) && decide (p.1 < nx') && (p.1 == m || match hget d p.1 with
  | some [] => true
  | _ => false)

/-- A function of a slice, asked once with nil and once with another: of nil it makes nil, of others a row. -/
def evNil (ef : List (AV D) → TO D) (nx : Nat) (n : Nat) (off : Option D.Z) (len : D.Z) (sz : Nat) : TO D :=
  match ef [.nils] with
  | .ret ⟨.nils, [], q⟩ => if q = nx then
      (ef [.sslice n .live off len sz]).bind fun o => match o.v with
        | .sslice m .whole none z _ => match rowAt o.d m with
          | some (false, _, l) => if oneNew nx o.nx m o.d && (decide (nx ≤ m) && decide (m < o.nx)) then
              .node (D.bite (D.zeq len (D.zc 0)) (D.band (D.zeq z (D.zc 0)) (D.zeq (D.llen l) (D.zc 0))) (D.bc true)) (.ret o) (.fail "nil: length")
            else .fail "nil: names"
          | _ => .fail "nil: row"
        | _ => .fail "nil: what"
    else .fail "nil: name"
  | _ => .fail "nil"

/-- A way's end, its names given anew. -/
def HSh.leaf (sh : HSh) (base : Nat) (st : St D) : Option (List (PD D)) :=
  if decide (st.nx ≤ sh.N) && (st.h.take (st.h.length - base)).all (fun p => decide (p.1 < st.nx) && (decide (sh.K ≤ p.1) || sh.listed p.1)) then
    match sh.canon st.tm st.h with
    | some (sl, vars) =>
      if noDups sl && sl.all (fun o => match o with
          | some n => (decide (sh.K ≤ n) && decide (n < st.nx)) || (decide (n < sh.K) && sh.dead.contains n)
          | none => true) then some vars else none
    | none => none
  else none

/-- The ways of a tree that go on: which, whether all is well, the parameters behind them. -/
def HSh.gather (sh : HSh) (base : Nat) : T D.B (Ex × St D) → Option (Nr D)
  | .fail _ => some ⟨.tt, .ff, none⟩
  | .ret (.normal, st) => match sh.leaf base st with
    | some p => some ⟨.tt, .tt, some p⟩
    | none => none
  | .ret _ => some ⟨.ff, .tt, none⟩
  | .node b t e => match sh.gather base t, sh.gather base e with
    | some x, some y => nrJoin b x y
    | _, _ => none

/-- A tree that parts, unless the test is known. -/
def cdNode {α : Type} : Cd D.B → T D.B α → T D.B α → T D.B α
  | .tt, x, _ => x
  | .ff, _, y => y
  | .s b, x, y => .node b x y

/-- The ways that go on taken together, by a shape. -/
def evJ1 (sh : HSh) (mask : Nat) (base : List (AV D)) (h0 : Heap D) (n0 : Nat) (t : T D.B (Ex × St D)) : Option (T D.B (Ex × St D)) :=
  if sh.ok mask && decide (n0 = sh.K) && h0.all (fun p => decide (p.1 < sh.K)) && sh.eh.isEmpty && sh.dead.all (fun n => match rowAt h0 n with
      | some (false, _, _) => true
      | _ => false) then
    match rdEs sh.tm base, sh.gather h0.length t with
    | some (env, ctx), some ⟨c, o, some ps⟩ =>
      if ltAll sh.K ctx then
        let x : T D.B (Ex × St D) := cdNode o (.ret (.normal, ⟨sh.tmF env ps ctx, sh.d ps ++ h0, sh.N⟩)) (.fail "must")
        match prune t with
        | none => some x
        | some p => some (cdNode c x p)
      else none
    | _, _ => none
  else none

/-- How many ways go on. -/
def T.goOn : T D.B (Ex × St D) → Nat
  | .ret (.normal, _) => 1
  | .node _ t e => t.goOn + e.goOn
  | _ => 0

def evJs (mask : Nat) (base : List (AV D)) (h0 : Heap D) (n0 : Nat) (t : T D.B (Ex × St D)) : List HSh → T D.B (Ex × St D)
  | [] => t
  | sh :: r => match evJ1 sh mask base h0 n0 t with
    | some u => u
    | none => evJs mask base h0 n0 t r

/-- Several ways that go on, taken together where a shape is told that fits. -/
def evJ (js : Nat → List (AV D) → Heap D → Nat → T D.B (Ex × St D) → List HSh) (mask : Nat) (base : List (AV D)) (h0 : Heap D) (n0 : Nat) (t : T D.B (Ex × St D)) : T D.B (Ex × St D) :=
  if 2 ≤ t.goOn then evJs mask base h0 n0 t (js mask base h0 n0 t) else t

/-- The same for what a call comes to. -/
def evJO (js : Nat → List (AV D) → Heap D → Nat → T D.B (Ex × St D) → List HSh) (h : Heap D) (nx : Nat) (t : TO D) : TO D :=
  match t with
  | .node _ _ _ => (evJ js 1 [.undef] h nx (t.bind fun o => .ret (.normal, ⟨[o.v], o.d ++ h, o.nx⟩))).bind fun (_, st) => match st.tm with
    | [v] => .ret ⟨v, laidOn h st.h, st.nx⟩
    | _ => .fail "evJO"
  | t => t

def condKey : Operand → Nat
  | .tmp t => t
  | _ => 0

def evCallG (P : Program) (tbl : Tbl D) (lt : LTb D) (ev : FuncId → Code → St D → T D.B (Ex × St D)) : CallFn D := fun f args h nx =>
  match tbl f with
  | some sp => if noPtrs args then (sp args).bind fun v => if v.noPtr then val nx v else .fail "table: address" else .fail "table: address in"
  | none => match nilArg P f args with
    | some (n, off, len, sz) => evNil (fun as => evFnV P (ev f) f as h nx) nx n off len sz
    | none => evJO (lt.jt f 2000000) h nx (evFnV P (ev f) f args h nx)

/-- Code with loops of which it is told what they come to. -/
def evCodeH (P : Program) (tbl : Tbl D) (lt : LTb D) : Nat → FuncId → Code → St D → T D.B (Ex × St D)
  | 0, _, _, _ => .fail "fuel"
  | n + 1, f, c, st =>
    match c with
    | .skip => .ret (.normal, st)
    | .region _ ops draw => (evRegion P (evCallG P tbl lt (evCodeH P tbl lt n)) ops.toList draw st.tm st.h st.nx).bind fun (tm, h, nx) => .ret (.normal, ⟨tm, h, nx⟩)
    | .seq a b => (evCodeH P tbl lt n f a st).bind fun (e, st') => match e with
      | .normal => evCodeH P tbl lt n f b st'
      | e => .ret (e, st')
    | .cond c a b => match opd st.tm c with
      | some (.kb t) => evCodeH P tbl lt n f (if t then a else b) st
      | some (.sb s) => evJ (lt.jt f (condKey c)) (wrCode a ||| wrCode b) st.tm st.h st.nx (compact (wrCode a ||| wrCode b) st.tm st.h st.nx (.node s (evCodeH P tbl lt n f a st) (evCodeH P tbl lt n f b st)))
      | _ => .fail "cond"
    | .block id (.loop b) => match lt f id with
      | some hk => compact (wrCode b) st.tm st.h st.nx ((evLast (hk st) st).bind fun (e, st') => match e with
        | .exit j => if j = id then .ret (.normal, st') else .ret (.exit j, st')
        | e => .ret (e, st'))
      | none => compact (wrCode b) st.tm st.h st.nx ((evCodeH P tbl lt n f (.loop b) st).bind fun (e, st') => match e with
        | .exit j => if j = id then .ret (.normal, st') else .ret (.exit j, st')
        | e => .ret (e, st'))
    | .block id b => evJ (lt.jt f (1000000 + id)) (wrCode b) st.tm st.h st.nx (compact (wrCode b) st.tm st.h st.nx ((evCodeH P tbl lt n f b st).bind fun (e, st') => match e with
      | .exit j => if j = id then .ret (.normal, st') else .ret (.exit j, st')
      | e => .ret (e, st')))
    | .loop b => (evCodeH P tbl lt n f b st).bind fun (e, st') => match e with
      | .normal => evCodeH P tbl lt n f (.loop b) st'
      | e => .ret (e, st')
    | .scope b => evCodeH P tbl lt n f b st
    | .label _ => .ret (.normal, st)
    | .exit id => .ret (.exit id, st)
    | .ret => .ret (.ret, st)
    | _ => .fail "code"

/-- A function, its loops told, from a memory that is there. -/
def evFnH (P : Program) (tbl : Tbl D) (lt : LTb D) (n : Nat) (f : FuncId) (args : List (AV D)) (h : Heap D) (nx : Nat) : T D.B (AV D) :=
  (evFnV P (evCodeH P tbl lt n f) f args h nx).bind fun u => .ret u.v

end
end Go.Ev
/- The real domain (floats of 64 bits with one NaN, Bool, Int), and how abstract values stand to the model's. -/
namespace Go.Ev

abbrev Fl := Option Nat

def f64 : Ieee.Format := Ieee.double

def isNaN (b : Nat) : Bool := (f64.read b).isNaN

def cls (b : Nat) : Fl := if isNaN b then none else some b

def lift2 (f : Nat → Nat → Option Nat) : Fl → Fl → Fl
  | some a, some b => match f a b with
    | some r => cls r
    | none => none
  | _, _ => none

def ford : Fl → Fl → Option Ordering
  | some a, some b => f64.order a b
  | _, _ => none

def flsqrt : Fl → Fl
  | some a => match f64.sqrt a with
    | some r => cls r
    | none => none
  | none => none

def flneg : Fl → Fl
  | some a => cls (a ^^^ 2 ^ 63)
  | none => none

def flmax : Fl → Fl → Fl
  | some a, some b => match f64.order a b with
    | none => none
    | some .lt => some b
    | some .gt => some a
    | some .eq => some (if (f64.read a).neg then b else a)
  | _, _ => none

def flmin : Fl → Fl → Fl
  | some a, some b => match f64.order a b with
    | none => none
    | some .lt => some a
    | some .gt => some b
    | some .eq => some (if (f64.read a).neg then a else b)
  | _, _ => none

def flint (x : Fl) : Option Int := match x with
  | some b => (f64.read b).toInt .zero
  | none => none

abbrev Cell := CV Fl Bool Int
abbrev Row := List (List Cell)

/-- A cell of a row. -/
def Row.cell (l : Row) (z : Int) (j : Nat) : Option Cell := (l[z.toNat]?).bind (·[j]?)

def Row.fl (l : Row) (z : Int) (j : Nat) : Fl := match l.cell z j with
  | some (.f x) => x
  | _ => none
def Row.bl (l : Row) (z : Int) (j : Nat) : Bool := match l.cell z j with
  | some (.b x) => x
  | _ => false
def Row.int (l : Row) (z : Int) (j : Nat) : Int := match l.cell z j with
  | some (.z x) => x
  | _ => 0

/-- Cells of an element, laid from one on. -/
def layOn (o : Nat) (cs e : List Cell) : List Cell := e.take o ++ (cs ++ e.drop (o + cs.length))

def Row.put (l : Row) (z : Int) (o : Nat) (cs : List Cell) : Row := l.modify z.toNat (layOn o cs)

/-- Parameters behind so many rounds. -/
def itP {α : Type} (step : α → Bool × Bool × α) : Nat → α → α
  | 0, p => p
  | n + 1, p => itP step n (step p).2.2

/-- All goes well for so many rounds, and then it is over. -/
def EndsAt {α : Type} (step : α → Bool × Bool × α) (p : α) (n : Nat) : Prop :=
  (∀ i, i < n → (step (itP step i p)).1 = true ∧ (step (itP step i p)).2.1 = true) ∧ (step (itP step n p)).1 = false

open Classical in
noncomputable def lastP {α : Type} (step : α → Bool × Bool × α) (p : α) : α := if h : ∃ n, EndsAt step p n then itP step (Classical.choose h) p else p

open Classical in
noncomputable def endsP {α : Type} (step : α → Bool × Bool × α) (p : α) : Bool := decide (∃ n, EndsAt step p n)

noncomputable abbrev R : Dom where
  F := Fl
  B := Bool
  Z := Int
  L := Row
  fc := cls
  fadd := lift2 f64.add
  fsub := lift2 f64.sub
  fmul := lift2 f64.mul
  fdiv := lift2 f64.div
  fneg := flneg
  fsqrt := flsqrt
  fmin := flmin
  fmax := flmax
  feq x y := ford x y == some .eq
  flt x y := ford x y == some .lt
  fle x y := ford x y == some .lt || ford x y == some .eq
  fgt x y := ford x y == some .gt
  fge x y := ford x y == some .gt || ford x y == some .eq
  i2f n := cls (FloatKind.f64.nearest n)
  f2iok k x := match flint x with
    | some n => decide (k.min ≤ n ∧ n ≤ k.max)
    | none => false
  f2i _ x := (flint x).getD 0
  zc n := n
  zadd k x y := k.wrap (x + y)
  zsub k x y := k.wrap (x - y)
  zmul k x y := k.wrap (x * y)
  zquo k x y := k.wrap (x.tdiv y)
  zrem _ x y := x.tmod y
  zmin x y := if y < x then y else x
  zmax x y := if y > x then y else x
  zeq x y := x == y
  zlt x y := decide (x < y)
  zle x y := decide (x ≤ y)
  zconv k n := k.wrap n
  bc b := b
  fite c x y := if c then x else y
  bite c x y := if c then x else y
  zite c x y := if c then x else y
  bnot b := !b
  band a b := a && b
  beq a b := a == b
  lnil := []
  llen l := (l.length : Int)
  lf := Row.fl
  lb := Row.bl
  lz := Row.int
  lput := Row.put
  lapp l es := l ++ es
  lcat l m := l ++ m
  lsub l i j := (l.drop i.toNat).take (j - i).toNat
  lrep n e := List.replicate n.toNat e
  lite c l m := if c then l else m
  last := lastP
  ends := endsP

/-- Where a name lies: the block (none: nowhere, an empty row that is nil), the first cell, how many elements there are, and for how many there is room. -/
structure Plc where
  b : Option Nat
  off : Nat := 0
  len : Nat := 0
  room : Nat := 0

inductive Stat where
  | own
  | ro
  | dead
  deriving DecidableEq

/-- What names stand for. -/
structure Nm where
  pl : Nat → Option Plc
  st : Nat → Stat

def Nm.bl (ρ : Nm) (n : Nat) : Option Nat := (ρ.pl n).bind Plc.b
instance : CoeFun Nm fun _ => Nat → Option Nat := ⟨Nm.bl⟩
def Nm.nil : Nm := ⟨fun _ => none, fun _ => .own⟩

theorem Nm.bl_of {ρ : Nm} {n : Nat} {p : Plc} {b : Nat} (h : ρ.pl n = some p) (hb : p.b = some b) : ρ n = some b := by
  show (ρ.pl n).bind Plc.b = some b
  rw [h]; exact hb

theorem Nm.pl_of {ρ : Nm} {n b : Nat} (h : ρ n = some b) : ∃ p, ρ.pl n = some p ∧ p.b = some b := by
  have h' : (ρ.pl n).bind Plc.b = some b := h
  cases hp : ρ.pl n with
  | none => rw [hp] at h'; cases h'
  | some p => rw [hp] at h'; exact ⟨p, rfl, h'⟩

theorem Nm.bl_congr {ρ ρ' : Nm} {n : Nat} (h : ρ'.pl n = ρ.pl n) : ρ' n = ρ n := by
  show (ρ'.pl n).bind Plc.b = (ρ.pl n).bind Plc.b
  rw [h]

theorem Nm.bl_none {ρ : Nm} {n : Nat} (h : ρ.pl n = none) : ρ n = none := by
  show (ρ.pl n).bind Plc.b = none
  rw [h]; rfl

/-- A slice's value, by where its row lies. -/
structure SR (p : Plc) (k : SK) (off : Option Int) (len : Int) (sz : Nat) (base : Option Addr) (cap : Nat) : Prop where
  len0 : 0 ≤ len
  off0 : 0 ≤ off.getD 0
  lenb : p.len ≤ 2 ^ 63 - 1
  fits : (off.getD 0).toNat + len.toNat ≤ p.len
  cap1 : len.toNat ≤ cap
  cap2 : cap ≤ 2 ^ 63 - 1
  nil : base = none → cap = 0
  whole : k = .whole → off = none ∧ len.toNat = p.len ∧ cap ≤ p.room
  live : k = .live → base ≠ none
  base : (k = .whole ∨ 0 < len) → base = p.b.map fun b => ⟨b, p.off + (off.getD 0).toNat * sz, none⟩

/-- What the tree comes to, by the tests' own values. -/
def T.run {α : Type} : T Bool α → Option α
  | .fail _ => none
  | .ret a => some a
  | .node b t e => if b then t.run else e.run

@[simp] theorem T.run_ret {α : Type} (a : α) : (T.ret a : T Bool α).run = some a := rfl
@[simp] theorem T.run_fail {α : Type} (w : String) : (T.fail w : T Bool α).run = none := rfl
@[simp] theorem T.run_node {α : Type} (b : Bool) (t e : T Bool α) : (T.node b t e).run = if b then t.run else e.run := rfl

theorem T.run_bind {α β : Type} (t : T Bool α) (f : α → T Bool β) : (t.bind f).run = t.run.bind fun a => (f a).run := by
  induction t with
  | fail w => rfl
  | ret a => rfl
  | node b t e iht ihe => simp only [T.bind, T.run_node, iht, ihe]; cases b <;> rfl

theorem T.run_bind_some {α β : Type} {t : T Bool α} {f : α → T Bool β} {r : β} (h : (t.bind f).run = some r) : ∃ a, t.run = some a ∧ (f a).run = some r := by
  rw [T.run_bind] at h
  cases ht : t.run with
  | none => rw [ht] at h; cases h
  | some a => rw [ht] at h; exact ⟨a, rfl, h⟩

def okInt (k : IntKind) (n : Int) : Prop := k.min ≤ n ∧ n ≤ k.max

/-- A cell of a row and a value. -/
def cellR : CK → Cell → Value → Prop
  | .f, .f x, v => ∃ b, v = .float .f64 b ∧ b < 2 ^ 64 ∧ cls b = x
  | .b, .b x, v => v = .bool x
  | .z k, .z n, v => v = .int k n ∧ okInt k n
  | _, _, _ => False

/-- A row of one cell each, and values. -/
def rowR (k : CK) : Row → List Value → Prop
  | [], [] => True
  | [c] :: l, v :: vs => cellR k c v ∧ rowR k l vs
  | _, _ => False

mutual
def VR (ρ : Nm) : AV R → Value → Prop
  | .undef, v => v = undef
  | .any, _ => True
  | .fl x, v => ∃ b, v = .float .f64 b ∧ b < 2 ^ 64 ∧ cls b = x
  | .kb b, v => v = .bool b
  | .sb b, v => v = .bool b
  | .ki k n, v => v = .int k n ∧ okInt k n
  | .si k n, v => v = .int k n ∧ okInt k n
  | .ptr n off, v => ∃ b, ρ n = some b ∧ v = .pointer (some ⟨b, off, none⟩)
  | .nilp, v => v = .pointer none
  | .slice n off len cap, v => ∃ b, ρ n = some b ∧ v = .slice (some ⟨b, off, none⟩) len cap
  | .nils, v => v = .slice none 0 0
  | .clo f first cap, v => ∃ xs ys, v = .func (.func f) xs ys ∧ VRs ρ first xs.toList ∧ VRs ρ cap ys.toList
  | .nilf, v => v = .nilFunc
  | .agg cs, v => ∃ xs, v = .agg xs ∧ VRs ρ cs xs.toList
  | .tup cs, v => ∃ xs, v = .tuple xs ∧ VRs ρ cs xs.toList
  | .row _ _ _, _ => False
  | .sptr n z sz o, v => ∃ p b, ρ.pl n = some p ∧ p.b = some b ∧ 0 ≤ z ∧ z.toNat < p.len ∧ v = .pointer (some ⟨b, p.off + z.toNat * sz + o, none⟩)
  | .sslice n k off len sz, v => ∃ p base cap, ρ.pl n = some p ∧ v = .slice base len.toNat cap ∧ SR p k off len sz base cap
  | .arr n k l, v => l.length = n ∧ ∃ xs, v = .agg xs ∧ rowR k l xs.toList
  | .aptr n len, v => ∃ p b, ρ.pl n = some p ∧ p.b = some b ∧ p.off = 0 ∧ p.len = len ∧ v = .pointer (some ⟨b, 0, none⟩)
  | .optr c n off, v => (c = true ∧ ∃ b, ρ n = some b ∧ v = .pointer (some ⟨b, off, none⟩)) ∨ (c = false ∧ v = .pointer none)
  | .gh _ _, _ => False
def VRs (ρ : Nm) : List (AV R) → List Value → Prop
  | [], [] => True
  | a :: as, v :: vs => VR ρ a v ∧ VRs ρ as vs
  | [], _ :: _ => False
  | _ :: _, [] => False
end

/-- Another naming that knows all that the first one knows. -/
def Knows (ρ ρ' : Nm) : Prop := ∀ n p, ρ.pl n = some p → ρ'.pl n = some p

theorem Knows.bl {ρ ρ' : Nm} (h : Knows ρ ρ') {n b : Nat} (hb : ρ n = some b) : ρ' n = some b := by
  obtain ⟨p, h1, h2⟩ := Nm.pl_of hb
  exact Nm.bl_of (h n p h1) h2

mutual
theorem VR.mono {ρ ρ' : Nm} (h : Knows ρ ρ') : ∀ (a : AV R) (v : Value), VR ρ a v → VR ρ' a v
  | .undef, _, x => x
  | .any, _, _ => trivial
  | .fl _, _, x => x
  | .kb _, _, x => x
  | .sb _, _, x => x
  | .ki _ _, _, x => x
  | .si _ _, _, x => x
  | .ptr _ _, _, ⟨b, hb, hv⟩ => ⟨b, h.bl hb, hv⟩
  | .nilp, _, x => x
  | .slice _ _ _ _, _, ⟨b, hb, hv⟩ => ⟨b, h.bl hb, hv⟩
  | .nils, _, x => x
  | .clo _ first cap, _, ⟨xs, ys, hv, h1, h2⟩ => ⟨xs, ys, hv, VRs.mono h first _ h1, VRs.mono h cap _ h2⟩
  | .nilf, _, x => x
  | .agg cs, _, ⟨xs, hv, h1⟩ => ⟨xs, hv, VRs.mono h cs _ h1⟩
  | .tup cs, _, ⟨xs, hv, h1⟩ => ⟨xs, hv, VRs.mono h cs _ h1⟩
  | .row _ _ _, _, x => x
  | .sptr _ _ _ _, _, ⟨p, b, hp, hr⟩ => ⟨p, b, h _ _ hp, hr⟩
  | .sslice _ _ _ _ _, _, ⟨p, base, cap, hp, hr⟩ => ⟨p, base, cap, h _ _ hp, hr⟩
  | .arr _ _ _, _, x => x
  | .aptr _ _, _, ⟨p, b, hp, hr⟩ => ⟨p, b, h _ _ hp, hr⟩
  | .optr _ _ _, _, .inl ⟨hc, b, hb, hv⟩ => .inl ⟨hc, b, h.bl hb, hv⟩
  | .optr _ _ _, _, .inr x => .inr x
  | .gh _ _, _, x => x
theorem VRs.mono {ρ ρ' : Nm} (h : Knows ρ ρ') : ∀ (as : List (AV R)) (vs : List Value), VRs ρ as vs → VRs ρ' as vs
  | [], [], _ => trivial
  | a :: as, v :: vs, ⟨h1, h2⟩ => ⟨VR.mono h a v h1, VRs.mono h as vs h2⟩
end

mutual
theorem VR.noPtr {ρ ρ' : Nm} : ∀ (a : AV R) (v : Value), a.noPtr = true → VR ρ a v → VR ρ' a v
  | .undef, _, _, x => x
  | .any, _, _, _ => trivial
  | .fl _, _, _, x => x
  | .kb _, _, _, x => x
  | .sb _, _, _, x => x
  | .ki _ _, _, _, x => x
  | .si _ _, _, _, x => x
  | .ptr _ _, _, h, _ => by simp [AV.noPtr] at h
  | .nilp, _, _, x => x
  | .slice _ _ _ _, _, h, _ => by simp [AV.noPtr] at h
  | .nils, _, _, x => x
  | .clo _ _ _, _, h, _ => by simp [AV.noPtr] at h
  | .nilf, _, _, x => x
  | .agg cs, _, h, ⟨xs, hv, h1⟩ => ⟨xs, hv, VRs.noPtr cs _ (by simpa [AV.noPtr] using h) h1⟩
  | .tup cs, _, h, ⟨xs, hv, h1⟩ => ⟨xs, hv, VRs.noPtr cs _ (by simpa [AV.noPtr] using h) h1⟩
  | .row _ _ _, _, h, _ => by simp [AV.noPtr] at h
  | .sptr _ _ _ _, _, h, _ => by simp [AV.noPtr] at h
  | .sslice _ _ _ _ _, _, h, _ => by simp [AV.noPtr] at h
  | .arr _ _ _, _, _, x => x
  | .aptr _ _, _, h, _ => by simp [AV.noPtr] at h
  | .optr _ _ _, _, h, _ => by simp [AV.noPtr] at h
  | .gh _ _, _, h, _ => by simp [AV.noPtr] at h
theorem VRs.noPtr {ρ ρ' : Nm} : ∀ (as : List (AV R)) (vs : List Value), noPtrs as = true → VRs ρ as vs → VRs ρ' as vs
  | [], [], _, _ => trivial
  | a :: as, v :: vs, h, ⟨h1, h2⟩ => by
    have hh : a.noPtr = true ∧ noPtrs as = true := by simpa [noPtrs] using h
    exact ⟨VR.noPtr a v hh.1 h1, VRs.noPtr as vs hh.2 h2⟩
end

variable {ρ : Nm}

theorem VRs.length : ∀ {as : List (AV R)} {vs : List Value}, VRs ρ as vs → as.length = vs.length
  | [], [], _ => rfl
  | _ :: _, _ :: _, ⟨_, h⟩ => by simp [VRs.length h]

theorem VRs.get : ∀ {as : List (AV R)} {vs : List Value} {i : Nat} {a : AV R}, VRs ρ as vs → as[i]? = some a → ∃ v, vs[i]? = some v ∧ VR ρ a v
  | a :: _, v :: _, 0, _, ⟨h, _⟩, e => by simp at e; subst e; exact ⟨v, rfl, h⟩
  | _ :: as, _ :: vs, i + 1, _, ⟨_, h⟩, e => by simpa using VRs.get (i := i) h (by simpa using e)
  | [], _, _, _, _, e => by simp at e

theorem VRs.set : ∀ {as : List (AV R)} {vs : List Value} {i : Nat} {a : AV R} {v : Value}, VRs ρ as vs → VR ρ a v → VRs ρ (as.set i a) (vs.set i v)
  | [], [], _, _, _, _, _ => trivial
  | _ :: _, _ :: _, 0, _, _, ⟨_, h⟩, e => ⟨e, h⟩
  | _ :: _, _ :: _, i + 1, _, _, ⟨h1, h⟩, e => ⟨h1, VRs.set (i := i) h e⟩

theorem VRs.append : ∀ {as bs : List (AV R)} {vs ws : List Value}, VRs ρ as vs → VRs ρ bs ws → VRs ρ (as ++ bs) (vs ++ ws)
  | [], _, [], _, _, h => h
  | _ :: _, _, _ :: _, _, ⟨h1, h2⟩, h => ⟨h1, VRs.append h2 h⟩

theorem VRs.take : ∀ {as : List (AV R)} {vs : List Value} (n : Nat), VRs ρ as vs → VRs ρ (as.take n) (vs.take n)
  | _, _, 0, _ => by simp [VRs]
  | [], [], _ + 1, _ => trivial
  | _ :: _, _ :: _, n + 1, ⟨h1, h2⟩ => ⟨h1, VRs.take n h2⟩

theorem VRs.drop : ∀ {as : List (AV R)} {vs : List Value} (n : Nat), VRs ρ as vs → VRs ρ (as.drop n) (vs.drop n)
  | _, _, 0, h => by simpa using h
  | [], [], _ + 1, _ => trivial
  | _ :: _, _ :: _, n + 1, ⟨_, h2⟩ => VRs.drop n h2

theorem VRs.replicate {a : AV R} {v : Value} (h : VR ρ a v) : ∀ n, VRs ρ (List.replicate n a) (List.replicate n v)
  | 0 => trivial
  | n + 1 => ⟨h, VRs.replicate h n⟩

theorem VRs.nil_inv {vs : List Value} (h : VRs ρ [] vs) : vs = [] := by cases vs <;> simp_all [VRs]
theorem VRs.cons_inv {a : AV R} {as : List (AV R)} {vs : List Value} (h : VRs ρ (a :: as) vs) : ∃ v ws, vs = v :: ws ∧ VR ρ a v ∧ VRs ρ as ws := by
  cases vs with
  | nil => simp [VRs] at h
  | cons v ws => exact ⟨v, ws, rfl, h.1, h.2⟩

end Go.Ev
/- Memory by names: what a step of the machine may do to it, and the single operations. -/
namespace Go.Ev

def CK.fitC : CK → Cell → Prop
  | .f, .f _ => True
  | .b, .b _ => True
  | .z k, .z x => okInt k x
  | _, _ => False

/-- An element has cells of these kinds. -/
def fitE : List CK → List Cell → Prop
  | [], [] => True
  | k :: ks, c :: cs => k.fitC c ∧ fitE ks cs
  | _, _ => False

def cellA : CK → Cell → AV R
  | .f, .f x => .fl x
  | .b, .b x => .sb x
  | .z k, .z x => .si k x
  | _, _ => .undef

def elemA (ks : List CK) (e : List Cell) : List (AV R) := List.zipWith cellA ks e

/-- The cells of a row. -/
def rowA (ks : List CK) (l : Row) : List (AV R) := l.flatMap (elemA ks)

/-- A row lies at a place. -/
structure RowAt (ks : List CK) (l : Row) (p : Plc) (w : World) : Prop where
  len : l.length = p.len
  fit : ∀ e ∈ l, fitE ks e
  le : p.len ≤ p.room
  at' : (p.b = none ∧ p.room = 0) ∨ ∃ b cs ty fz, p.b = some b ∧ w.heap[b]? = some (.cells cs ty fz) ∧ p.off + p.room * ks.length ≤ cs.size ∧ VRs Nm.nil (rowA ks l) ((cs.toList.drop p.off).take (p.len * ks.length))

/-- Nothing of the block is frozen. -/
def Clear (p : Plc) (w : World) : Prop := ∀ b cs ty fz, p.b = some b → w.heap[b]? = some (.cells cs ty fz) → fz = (0, 0)

theorem Clear.of {p : Plc} {w : World} {b : Nat} {cs : Array Value} {ty : TypeId} (hb : p.b = some b) (h : w.heap[b]? = some (.cells cs ty (0, 0))) : Clear p w := fun b' cs' ty' fz e1 e2 => by
  rw [hb] at e1; cases e1
  rw [h] at e2; cases e2; rfl

theorem Clear.none {p : Plc} {w : World} (h : p.b = none) : Clear p w := fun b' cs' ty' fz e1 e2 => by rw [h] at e1; cases e1

/-- What a block that is named stands for: nothing is known; cells; or a row. -/
inductive BlkR (ρ : Nm) (n : Nat) (w : World) : List (AV R) → Prop where
  | nothing : BlkR ρ n w []
  | plain {blk : List (AV R)} {b : Nat} {cs : Array Value} {ty : TypeId} (h1 : ρ n = some b) (h2 : ρ.st n = .own) (h3 : w.heap[b]? = some (.cells cs ty (0, 0))) (h4 : VRs ρ blk cs.toList) : BlkR ρ n w blk
  | row {ro : Bool} {ks : List CK} {l : Row} {p : Plc} (h1 : ρ.pl n = some p) (h2 : ρ.st n ≠ .dead) (h3 : ro = false → p.off = 0 ∧ ρ.st n = .own) (h4 : RowAt ks l p w) (h5 : ro = false → Clear p w) : BlkR ρ n w [.row ro ks l]
  | gh {c : Bool} {l : List (AV R)} (h1 : l ≠ []) (h2 : c = true → BlkR ρ n w l) : BlkR ρ n w [.gh c l]

theorem VRs.noRow {ρ : Nm} {blk : List (AV R)} {vs : List Value} (h : VRs ρ blk vs) : isRow blk = false := by
  match blk, vs, h with
  | [], _, _ => rfl
  | [a], _ :: _, ⟨h1, _⟩ =>
    cases a <;> first | rfl | exact (h1 : False).elim
  | _ :: _ :: _, _, _ => simp [isRow]

theorem BlkR.open {ρ : Nm} {n : Nat} {w : World} {blk : List (AV R)} (h : BlkR ρ n w blk) (hs : shut blk = false) : ∃ b cs ty, ρ n = some b ∧ ρ.st n = .own ∧ w.heap[b]? = some (.cells cs ty (0, 0)) ∧ VRs ρ blk cs.toList := by
  cases h with
  | nothing => simp [shut] at hs
  | plain h1 h2 h3 h4 => exact ⟨_, _, _, h1, h2, h3, h4⟩
  | row h1 h2 h3 h4 => simp [shut, isRow] at hs
  | gh h1 h2 => simp [shut, isGh] at hs

theorem BlkR.openRow {ρ : Nm} {n : Nat} {w : World} {ro : Bool} {ks : List CK} {l : Row} (h : BlkR ρ n w [.row ro ks l]) : ∃ p, ρ.pl n = some p ∧ ρ.st n ≠ .dead ∧ (ro = false → p.off = 0 ∧ ρ.st n = .own) ∧ RowAt ks l p w := by
  cases h with
  | plain h1 h2 h3 h4 => have := VRs.noRow h4; simp [isRow] at this
  | row h1 h2 h3 h4 => exact ⟨_, h1, h2, h3, h4⟩

theorem BlkR.clear {ρ : Nm} {n : Nat} {w : World} {ks : List CK} {l : Row} (h : BlkR ρ n w [.row false ks l]) {p : Plc} (hp : ρ.pl n = some p) : Clear p w := by
  cases h with
  | plain h1 h2 h3 h4 => have := VRs.noRow h4; simp [isRow] at this
  | row h1 h2 h3 h4 h5 => rw [hp] at h1; cases h1; exact h5 rfl

def HR (ρ : Nm) (h : Heap R) (w : World) : Prop := ∀ n blk, hget h n = some blk → BlkR ρ n w blk

structure Inj (ρ : Nm) (w : World) : Prop where
  lt : ∀ n b, ρ n = some b → b < w.heap.size
  inj : ∀ n m b, ρ n = some b → ρ m = some b → ρ.st n = .own → ρ.st m ≠ .dead → n = m

def Fresh (ρ : Nm) (nx nx' : Nat) : Prop := ∀ n, nx ≤ n → n < nx' → ρ.pl n = none

/-- The world goes from w to w': names from nx to nx' are new; 'd' is what was laid, before 'h'. -/
structure Step (ρ ρ' : Nm) (w w' : World) (nx nx' : Nat) (d h : Heap R) : Prop where
  inj : Inj ρ' w'
  hr : HR ρ' (d ++ h) w'
  old : ∀ n, ¬ (nx ≤ n ∧ n < nx') → ρ'.pl n = ρ.pl n
  st : ∀ n, ¬ (nx ≤ n ∧ n < nx') → ρ'.st n = ρ.st n ∨ (ρ'.st n = .dead ∧ ρ.st n = .own ∧ (hget d n).isSome = true)
  new : ∀ n b, nx ≤ n → n < nx' → ρ' n = some b → w.heap.size ≤ b ∨ ∃ m, ρ m = some b ∧ ρ.st m = .own ∧ (hget d m).isSome = true
  own : ∀ n, (hget d n).isSome = true → (nx ≤ n ∧ n < nx') ∨ ρ.st n = .own
  size : w.heap.size ≤ w'.heap.size
  os : w'.os = w.os
  tape : w'.tape = w.tape
  output : w'.output = w.output
  frame : ∀ b, b < w.heap.size → (∀ n blk, hget d n = some blk → ρ n ≠ some b) → w'.heap[b]? = w.heap[b]?
  le : nx ≤ nx'

theorem hget_append (d h : Heap R) (n : Nat) : hget (d ++ h) n = (hget d n).or (hget h n) := by
  induction d with
  | nil => simp [hget]
  | cons p r ih =>
    obtain ⟨m, b⟩ := p
    simp only [List.cons_append, hget]
    by_cases e : (m == n) = true
    · simp [e]
    · simp [e, ih]

theorem Step.knows {ρ ρ' : Nm} {w w' : World} {nx nx' : Nat} {d h : Heap R} (s : Step ρ ρ' w w' nx nx' d h) (hF : Fresh ρ nx nx') : Knows ρ ρ' := by
  intro n b hb
  by_cases hn : nx ≤ n ∧ n < nx'
  · rw [hF n hn.1 hn.2] at hb; cases hb
  · rw [s.old n hn]; exact hb

theorem RowAt.mono {ks : List CK} {l : Row} {p : Plc} {w w' : World} (h : RowAt ks l p w) (hw : ∀ b, p.b = some b → w'.heap[b]? = w.heap[b]?) : RowAt ks l p w' := by
  refine { h with at' := ?_ }
  rcases h.at' with g | ⟨b, cs, ty, fz, g1, g2, g3, g4⟩
  · exact .inl g
  · exact .inr ⟨b, cs, ty, fz, g1, by rw [hw b g1]; exact g2, g3, g4⟩

/-- A block stands as it stood, where nobody touched it. -/
theorem BlkR.keep {ρ ρ' : Nm} {n : Nat} {w w' : World} {blk : List (AV R)} (h : BlkR ρ n w blk) (kn : Knows ρ ρ') (hst : ρ'.st n = ρ.st n) (hw : ∀ b, ρ n = some b → w'.heap[b]? = w.heap[b]?) : BlkR ρ' n w' blk := by
  induction h with
  | gh h1 h2 ih => exact .gh h1 ih
  | nothing => exact .nothing
  | plain h1 h2 h3 h4 => exact .plain (kn.bl h1) (hst.trans h2) (by rw [hw _ h1]; exact h3) (VRs.mono kn _ _ h4)
  | row h1 h2 h3 h4 h5 => exact .row (kn _ _ h1) (by rw [hst]; exact h2) (by rw [hst]; exact h3) (h4.mono fun b hb => hw b (Nm.bl_of h1 hb)) fun e b cs ty fz hb hc => h5 e b cs ty fz hb (by rw [← hw b (Nm.bl_of h1 hb)]; exact hc)

theorem Knows.refl (ρ : Nm) : Knows ρ ρ := fun _ _ h => h

/-- The name of a block of which something is known is not dead; or nothing is said. -/
theorem BlkR.deadOr {ρ : Nm} {n : Nat} {w : World} {blk : List (AV R)} (h : BlkR ρ n w blk) : ρ.st n ≠ .dead ∨ ∀ (ρ' : Nm) (w' : World), BlkR ρ' n w' blk := by
  induction h with
  | nothing => exact .inr fun _ _ => .nothing
  | plain h1 h2 h3 h4 => exact .inl (by rw [h2]; simp)
  | row h1 h2 h3 h4 => exact .inl h2
  | @gh c l h1 h2 ih =>
    cases c with
    | false => exact .inr fun _ _ => .gh h1 fun h => by cases h
    | true => exact (ih rfl).imp id fun g ρ' w' => .gh h1 fun _ => g ρ' w'

/-- Of a name that stands for nothing, nothing is said. -/
theorem BlkR.fresh {ρ : Nm} {n : Nat} {w : World} {blk : List (AV R)} (h : BlkR ρ n w blk) (hp : ρ.pl n = none) : ∀ (ρ' : Nm) (w' : World), BlkR ρ' n w' blk := by
  induction h with
  | nothing => exact fun _ _ => .nothing
  | plain h1 h2 h3 h4 => rw [Nm.bl_none hp] at h1; cases h1
  | row h1 h2 h3 h4 => rw [hp] at h1; cases h1
  | gh h1 h2 ih => exact fun ρ' w' => .gh h1 fun hc => ih hc ρ' w'

theorem HR.mono_world {ρ : Nm} {h : Heap R} {w w' : World} (hH : HR ρ h w) (hw : w'.heap = w.heap) : HR ρ h w' := fun n blk hg =>
  (hH n blk hg).keep (.refl ρ) rfl fun b _ => by rw [hw]

theorem Inj.mono_world {ρ : Nm} {w w' : World} (hI : Inj ρ w) (hw : w'.heap = w.heap) : Inj ρ w' := ⟨fun n b h => by rw [hw]; exact hI.lt n b h, hI.inj⟩

theorem Step.same {ρ : Nm} {w w' : World} {nx : Nat} {h : Heap R} (hH : HR ρ h w) (hI : Inj ρ w) (hw : w'.heap = w.heap) (h1 : w'.os = w.os) (h2 : w'.tape = w.tape) (h3 : w'.output = w.output) :
    Step ρ ρ w w' nx nx [] h where
  inj := hI.mono_world hw
  hr := hH.mono_world hw
  old _ _ := rfl
  st _ _ := .inl rfl
  new n b h1 h2 _ := by omega
  own n h := by cases h
  size := by rw [hw]; exact Nat.le_refl _
  os := h1
  tape := h2
  output := h3
  frame b _ _ := by rw [hw]
  le := Nat.le_refl _

theorem Step.refl {ρ : Nm} {w : World} {nx : Nat} {h : Heap R} (hH : HR ρ h w) (hI : Inj ρ w) : Step ρ ρ w w nx nx [] h := .same hH hI rfl rfl rfl rfl

theorem hget_some_append {d h : Heap R} {n : Nat} (hs : (hget d n).isSome = true ∨ (hget h n).isSome = true) : (hget (d ++ h) n).isSome = true := by
  rw [hget_append]
  cases hd : hget d n with
  | some b => rfl
  | none => rw [hd] at hs; simpa using hs

theorem Step.trans {ρ ρ1 ρ2 : Nm} {w w1 w2 : World} {nx n1 n2 : Nat} {d1 d2 h : Heap R}
    (s1 : Step ρ ρ1 w w1 nx n1 d1 h) (s2 : Step ρ1 ρ2 w1 w2 n1 n2 d2 (d1 ++ h)) : Step ρ ρ2 w w2 nx n2 (d2 ++ d1) h := by
  have l1 := s1.le
  have l2 := s2.le
  have sold : ∀ n, ¬ (nx ≤ n ∧ n < n1) → ρ1.st n = .own → ρ.st n = .own := fun n hn ho => by
    rcases s1.st n hn with g | ⟨g, _⟩
    · rw [← g]; exact ho
    · rw [g] at ho; cases ho
  exact {
    inj := s2.inj
    hr := by rw [List.append_assoc]; exact s2.hr
    old := fun n hn => by rw [s2.old n (by omega), s1.old n (by omega)]
    st := fun n hn => by
      rcases s2.st n (by omega) with g | ⟨g1, g2, g3⟩
      · rcases s1.st n (by omega) with k | ⟨k1, k2, k3⟩
        · exact .inl (g.trans k)
        · exact .inr ⟨g.trans k1, k2, hget_some_append (.inr k3)⟩
      · exact .inr ⟨g1, sold n (by omega) g2, hget_some_append (.inl g3)⟩
    new := fun n b h1 h2 hb => by
      have early : ∀ m, nx ≤ m → m < n1 → ρ1 m = some b → w.heap.size ≤ b ∨ ∃ m, ρ m = some b ∧ ρ.st m = .own ∧ (hget (d2 ++ d1) m).isSome = true := fun m c1 c2 hm => by
        rcases s1.new m b c1 c2 hm with g | ⟨m', g2, g3, g5⟩
        · exact .inl g
        · exact .inr ⟨m', g2, g3, hget_some_append (.inr g5)⟩
      by_cases hn : n < n1
      · rw [Nm.bl_congr (s2.old n (by omega))] at hb
        exact early n h1 hn hb
      · rcases s2.new n b (by omega) h2 hb with g | ⟨m, g2, g3, g5⟩
        · exact .inl (Nat.le_trans s1.size g)
        · by_cases hm : nx ≤ m ∧ m < n1
          · exact early m hm.1 hm.2 g2
          · exact .inr ⟨m, by rw [← Nm.bl_congr (s1.old m hm)]; exact g2, sold m hm g3, hget_some_append (.inl g5)⟩
    own := fun n hn => by
      rw [hget_append] at hn
      cases hd : hget d2 n with
      | some b =>
        rcases s2.own n (by rw [hd]; rfl) with g | g
        · exact .inl (by omega)
        · by_cases hn1 : nx ≤ n ∧ n < n1
          · exact .inl (by omega)
          · exact .inr (sold n hn1 g)
      | none =>
        rw [hd] at hn
        rcases s1.own n (by simpa using hn) with g | g
        · exact .inl (by omega)
        · exact .inr g
    size := Nat.le_trans s1.size s2.size
    os := s2.os.trans s1.os
    tape := s2.tape.trans s1.tape
    output := s2.output.trans s1.output
    frame := fun b hb hno => by
      have e1 : w1.heap[b]? = w.heap[b]? := s1.frame b hb fun n blk hg => by
        cases hg2 : hget d2 n with
        | none => exact hno n blk (by rw [hget_append, hg2]; simpa using hg)
        | some blk2 => exact hno n blk2 (by rw [hget_append, hg2]; rfl)
      rw [← e1]
      refine s2.frame b (Nat.lt_of_lt_of_le hb s1.size) fun n blk hg hc => ?_
      by_cases hn : nx ≤ n ∧ n < n1
      · rcases s1.new n b hn.1 hn.2 hc with g | ⟨m, g2, _, g5⟩
        · omega
        · cases hd2 : hget d2 m with
          | some blk2 => exact hno m blk2 (by rw [hget_append, hd2]; rfl) g2
          | none =>
            cases hd1 : hget d1 m with
            | some blk1 => exact hno m blk1 (by rw [hget_append, hd2, hd1]; rfl) g2
            | none => rw [hd1] at g5; cases g5
      · rw [Nm.bl_congr (s1.old n hn)] at hc
        exact hno n blk (by rw [hget_append, hg]; rfl) hc
    le := Nat.le_trans s1.le s2.le }

/-- The names of a step that brings a new block under name 'nx'. -/
def Nm.put (ρ : Nm) (n : Nat) (p : Plc) (s : Stat) : Nm := ⟨fun m => if m = n then some p else ρ.pl m, fun m => if m = n then s else ρ.st m⟩

theorem Nm.put_pl (ρ : Nm) (n : Nat) (p : Plc) (s : Stat) : (ρ.put n p s).pl n = some p := if_pos rfl
theorem Nm.put_st (ρ : Nm) (n : Nat) (p : Plc) (s : Stat) : (ρ.put n p s).st n = s := if_pos rfl
theorem Nm.put_pl_ne (ρ : Nm) {n m : Nat} (p : Plc) (s : Stat) (h : m ≠ n) : (ρ.put n p s).pl m = ρ.pl m := if_neg h
theorem Nm.put_st_ne (ρ : Nm) {n m : Nat} (p : Plc) (s : Stat) (h : m ≠ n) : (ρ.put n p s).st m = ρ.st m := if_neg h
theorem Nm.put_knows (ρ : Nm) {n : Nat} (p : Plc) (s : Stat) (h : ρ.pl n = none) : Knows ρ (ρ.put n p s) := fun m q hq => by
  have : m ≠ n := fun e => by subst e; rw [h] at hq; cases hq
  rw [Nm.put_pl_ne ρ p s this]; exact hq

/-- A new block, of any kind. -/
theorem Step.alloc' {ρ : Nm} {w w' : World} {nx : Nat} {h : Heap R} (hH : HR ρ h w) (hI : Inj ρ w) (hF : ρ.pl nx = none) {blk : List (AV R)} {o : Obj} {p : Plc} (hp : p.b = some w.heap.size)
    (hw : w'.heap = w.heap.push o) (h1 : w'.os = w.os) (h2 : w'.tape = w.tape) (h3 : w'.output = w.output)
    (hv : BlkR (ρ.put nx p .own) nx w' blk) : Step ρ (ρ.put nx p .own) w w' nx (nx + 1) [(nx, blk)] h := by
  have hbl : ∀ {n b : Nat}, n ≠ nx → (ρ.put nx p .own) n = some b → ρ n = some b := fun hn hb => by
    rw [Nm.bl_congr (Nm.put_pl_ne ρ p .own hn)] at hb; exact hb
  have hnx : (ρ.put nx p .own) nx = some w.heap.size := Nm.bl_of (Nm.put_pl ρ nx p .own) hp
  exact {
    inj := by
      constructor
      · intro n b hb
        rw [hw, Array.size_push]
        by_cases e : n = nx
        · subst e; rw [hnx] at hb; cases hb; exact Nat.lt_succ_self _
        · have := hI.lt n b (hbl e hb); omega
      · intro n m b hn hm s1 s2
        by_cases e : n = nx
        · subst e
          rw [hnx] at hn; cases hn
          by_cases e' : m = n
          · exact e'.symm
          · have := hI.lt m _ (hbl e' hm); omega
        · have hn' := hbl e hn
          by_cases e' : m = nx
          · subst e'; rw [hnx] at hm; cases hm
            have := hI.lt n _ hn'; omega
          · rw [Nm.put_st_ne ρ p .own e] at s1
            rw [Nm.put_st_ne ρ p .own e'] at s2
            exact hI.inj n m b hn' (hbl e' hm) s1 s2
    hr := by
      intro n b hg
      rw [hget_append] at hg
      simp only [hget] at hg
      by_cases e : nx = n
      · subst e
        simp at hg
        subst hg
        exact hv
      · have hne : (nx == n) = false := by simpa using e
        simp only [hne, Bool.false_eq_true, if_false, Option.none_or] at hg
        refine (hH n b hg).keep (Nm.put_knows ρ p .own hF) (Nm.put_st_ne ρ p .own fun h => e h.symm) fun b hb => ?_
        have := hI.lt n b hb
        rw [hw, Array.getElem?_push, if_neg (by omega)]
    old := fun n hn => Nm.put_pl_ne ρ p .own (by omega)
    st := fun n hn => .inl (Nm.put_st_ne ρ p .own (by omega))
    new := fun n b h1 h2 hb => by
      have : n = nx := by omega
      subst this; rw [hnx] at hb; cases hb; exact .inl (Nat.le_refl _)
    own := fun n hn => by
      simp only [hget] at hn
      by_cases e : nx = n
      · exact .inl (by omega)
      · have hne : (nx == n) = false := by simpa using e
        simp [hne] at hn
    size := by rw [hw]; simp
    os := h1
    tape := h2
    output := h3
    frame := fun b hb _ => by rw [hw, Array.getElem?_push, if_neg (by omega)]
    le := Nat.le_succ _ }

/-- A new block. -/
theorem Step.alloc {ρ : Nm} {w : World} {nx : Nat} {h : Heap R} (hH : HR ρ h w) (hI : Inj ρ w) (hF : ρ.pl nx = none) {blk : List (AV R)} {cs : Array Value} {ty : TypeId} (hv : VRs ρ blk cs.toList) :
    ∃ ρ', VR ρ' (.ptr nx 0) (.pointer (some ⟨w.heap.size, 0, none⟩)) ∧ Step ρ ρ' w { w with heap := w.heap.push (.cells cs ty (0, 0)) } nx (nx + 1) [(nx, blk)] h ∧ ρ' nx = some w.heap.size := by
  have hnx : (ρ.put nx ⟨some w.heap.size, 0, 0, 0⟩ .own) nx = some w.heap.size := Nm.bl_of (Nm.put_pl ρ nx _ .own) rfl
  refine ⟨_, ⟨_, hnx, rfl⟩, Step.alloc' hH hI hF rfl rfl rfl rfl rfl ?_, hnx⟩
  exact BlkR.plain (cs := cs) (ty := ty) hnx (Nm.put_st ..) (by simp) (VRs.mono (Nm.put_knows ρ _ _ hF) _ _ hv)

/-- A block that is there is laid anew. -/
theorem Step.set' {ρ : Nm} {w w' : World} {nx : Nat} {h : Heap R} (hH : HR ρ h w) (hI : Inj ρ w) {n b : Nat} {blk : List (AV R)}
    (hn : ρ n = some b) (ho : ρ.st n = .own) (hv : BlkR ρ n w' blk) (hsz : w'.heap.size = w.heap.size) (hoth : ∀ c, c ≠ b → w'.heap[c]? = w.heap[c]?)
    (h1 : w'.os = w.os) (h2 : w'.tape = w.tape) (h3 : w'.output = w.output) : Step ρ ρ w w' nx nx [(n, blk)] h where
  inj := ⟨fun m c hm => by rw [hsz]; exact hI.lt m c hm, hI.inj⟩
  hr := by
    intro m bl hg
    rw [hget_append] at hg
    simp only [hget] at hg
    by_cases e : n = m
    · subst e
      simp at hg
      subst hg
      exact hv
    · have hne : (n == m) = false := by simpa using e
      simp only [hne, Bool.false_eq_true, if_false, Option.none_or] at hg
      have k := hH m bl hg
      rcases k.deadOr with hnd | hv
      · refine k.keep (.refl ρ) rfl fun c hc => hoth c fun hcb => e ?_
        subst hcb
        exact hI.inj n m c hn hc ho hnd
      · exact hv _ _
  old _ _ := rfl
  st _ _ := .inl rfl
  new m c g1 g2 _ := by omega
  own m hm := by
    simp only [hget] at hm
    by_cases e : n = m
    · subst e; exact .inr ho
    · have hne : (n == m) = false := by simpa using e
      simp [hne] at hm
  size := by rw [hsz]; exact Nat.le_refl _
  os := h1
  tape := h2
  output := h3
  frame c hc hno := hoth c fun e => hno n blk (by simp [hget]) (e ▸ hn)
  le := Nat.le_refl _

theorem Step.set {ρ : Nm} {w w' : World} {nx : Nat} {h : Heap R} (hH : HR ρ h w) (hI : Inj ρ w) {n b : Nat} {blk : List (AV R)} {cs : Array Value} {ty : TypeId}
    (hn : ρ n = some b) (ho : ρ.st n = .own) (hv : VRs ρ blk cs.toList) (hb : w'.heap[b]? = some (.cells cs ty (0, 0))) (hsz : w'.heap.size = w.heap.size) (hoth : ∀ c, c ≠ b → w'.heap[c]? = w.heap[c]?)
    (h1 : w'.os = w.os) (h2 : w'.tape = w.tape) (h3 : w'.output = w.output) : Step ρ ρ w w' nx nx [(n, blk)] h :=
  .set' hH hI hn ho (.plain hn ho hb hv) hsz hoth h1 h2 h3

theorem hget_filter (f : Nat → Bool) (d : Heap R) (n : Nat) : hget (d.filter fun p => f p.1) n = if f n = true then hget d n else none := by
  induction d with
  | nil => simp [hget]
  | cons p r ih =>
    obtain ⟨m, b⟩ := p
    by_cases e : (m == n) = true
    · have e' : m = n := by simpa using e
      subst e'
      cases hf : f m with
      | true => rw [List.filter_cons_of_pos (by simpa using hf)]; simp [hget]
      | false => rw [List.filter_cons_of_neg (by simp [hf]), ih]; simp [hf]
    · cases hf : f m with
      | true => rw [List.filter_cons_of_pos (by simpa using hf)]; simp only [hget, e]; exact ih
      | false => rw [List.filter_cons_of_neg (by simp [hf]), ih]; simp only [hget, e]; rfl

/-- What was laid under new names may be forgotten. -/
theorem Step.forget {ρ ρ' : Nm} {w w' : World} {nx nx' : Nat} {d h : Heap R} (s : Step ρ ρ' w w' nx nx' d h) (hF : Fresh ρ nx nx') (hH : HR ρ h w) :
    Step ρ ρ' w w' nx nx' (d.filter fun p => !(nx ≤ p.1 && p.1 < nx')) h := by
  have hfil : ∀ n, ¬ (nx ≤ n ∧ n < nx') → hget (d.filter fun p => !(nx ≤ p.1 && p.1 < nx')) n = hget d n := by
    intro n hn
    rw [hget_filter (fun m => !(nx ≤ m && m < nx')) d n, if_pos]
    simp; omega
  have hfil0 : ∀ n, (nx ≤ n ∧ n < nx') → hget (d.filter fun p => !(nx ≤ p.1 && p.1 < nx')) n = none := by
    intro n hn
    rw [hget_filter (fun m => !(nx ≤ m && m < nx')) d n, if_neg]
    simp; omega
  have named : ∀ n b, ρ n = some b → ¬ (nx ≤ n ∧ n < nx') := fun n b hb hn => by
    rw [Nm.bl_none (hF n hn.1 hn.2)] at hb; cases hb
  refine { s with hr := ?_, frame := ?_, st := ?_, new := ?_, own := ?_ }
  · intro n blk hg
    rw [hget_append] at hg
    by_cases hn : nx ≤ n ∧ n < nx'
    · rw [hfil0 n hn] at hg
      simp at hg
      exact (hH n blk hg).fresh (hF n hn.1 hn.2) _ _
    · rw [hfil n hn] at hg
      exact s.hr n blk (by rw [hget_append]; exact hg)
  · intro n hn
    rw [hfil n hn]
    exact s.st n hn
  · intro n b h1 h2 hb
    rcases s.new n b h1 h2 hb with g | ⟨m, g1, g2, g3⟩
    · exact .inl g
    · exact .inr ⟨m, g1, g2, by rw [hfil m (named m b g1)]; exact g3⟩
  · intro n hn
    by_cases hn' : nx ≤ n ∧ n < nx'
    · exact .inl hn'
    · rw [hfil n hn'] at hn; exact s.own n hn
  · intro b hb hno
    refine s.frame b hb fun n blk hg => ?_
    by_cases hn : nx ≤ n ∧ n < nx'
    · rw [Nm.bl_none (hF n hn.1 hn.2)]; simp
    · exact hno n blk (by rw [hfil n hn]; exact hg)

end Go.Ev
/- Ways taken together: what is joined fits each of them. -/
namespace Go.Ev

/-- What fits the one fits the other. -/
def Le (a b : AV R) : Prop := ∀ ρ u, VR ρ a u → VR ρ b u
def Les (as bs : List (AV R)) : Prop := ∀ ρ us, VRs ρ as us → VRs ρ bs us

theorem Le.refl (a : AV R) : Le a a := fun _ _ h => h
theorem Les.nil : Les [] [] := fun _ _ h => h
theorem Les.cons {a b : AV R} {as bs : List (AV R)} (h : Le a b) (hs : Les as bs) : Les (a :: as) (b :: bs) := fun ρ us hu => by
  obtain ⟨v, ws, rfl, h1, h2⟩ := hu.cons_inv
  exact ⟨h ρ v h1, hs ρ ws h2⟩
theorem Le.agg {as bs : List (AV R)} (h : Les as bs) : Le (.agg as) (.agg bs) := fun ρ _ ⟨xs, hv, hx⟩ => ⟨xs, hv, h ρ _ hx⟩
theorem Le.tup {as bs : List (AV R)} (h : Les as bs) : Le (.tup as) (.tup bs) := fun ρ _ ⟨xs, hv, hx⟩ => ⟨xs, hv, h ρ _ hx⟩
theorem Le.clo {f : FuncId} {as bs cs ds : List (AV R)} (h : Les as bs) (g : Les cs ds) : Le (.clo f as cs) (.clo f bs ds) := fun ρ _ ⟨xs, ys, hv, hx, hy⟩ => ⟨xs, ys, hv, h ρ _ hx, g ρ _ hy⟩
theorem Le.any (a : AV R) : Le a .any := fun _ _ _ => trivial
theorem Le.trans {a b c : AV R} (h : Le a b) (g : Le b c) : Le a c := fun ρ u hu => g ρ u (h ρ u hu)
theorem Les.refl (a : List (AV R)) : Les a a := fun _ _ h => h
theorem Les.trans {a b c : List (AV R)} (h : Les a b) (g : Les b c) : Les a c := fun ρ u hu => g ρ u (h ρ u hu)

theorem Le.opt {n o : Nat} {c : Bool} (hc : c = true) : Le (.ptr n o) (.optr c n o) := fun _ _ h => .inl ⟨hc, h⟩
theorem Le.non {n o : Nat} {c : Bool} (hc : c = false) : Le .nilp (.optr c n o) := fun _ _ h => .inr ⟨hc, h⟩

mutual
theorem join2_true : ∀ (a b v : AV R), join2 (D := R) true a b = some v → Le a v
  | .any, b, v, h => by cases b <;> simp only [join2] at h <;> first | (cases h; done) | (cases h; exact Le.refl _)
  | .fl x, b, v, h => by cases b <;> simp only [join2] at h <;> first | (cases h; done) | (cases h; exact Le.refl _)
  | .kb x, b, v, h => by
    cases b <;> simp only [join2] at h <;> first | (cases h; done) | skip
    · split at h <;> (cases h; exact Le.refl _)
    · cases h; exact Le.refl _
  | .sb x, b, v, h => by cases b <;> simp only [join2] at h <;> first | (cases h; done) | (cases h; exact Le.refl _)
  | .ki k x, b, v, h => by
    cases b <;> simp only [join2] at h <;> first | (cases h; done) | skip
    · split at h
      · split at h <;> (cases h; exact Le.refl _)
      · cases h
    · split at h <;> (cases h; try exact Le.refl _)
  | .si k x, b, v, h => by
    cases b <;> simp only [join2] at h <;> first | (cases h; done) | skip
    · split at h <;> (cases h; try exact Le.refl _)
    · split at h <;> (cases h; try exact Le.refl _)
  | .nilp, b, v, h => by cases b <;> simp only [join2] at h <;> first | (cases h; done) | (cases h; first | exact Le.refl _ | exact Le.non rfl)
  | .nils, b, v, h => by cases b <;> simp only [join2] at h <;> first | (cases h; done) | (cases h; exact Le.refl _)
  | .nilf, b, v, h => by cases b <;> simp only [join2] at h <;> first | (cases h; done) | (cases h; exact Le.refl _)
  | .undef, b, v, h => by cases b <;> simp only [join2] at h <;> first | (cases h; done) | (cases h; exact Le.refl _)
  | .ptr _ _, b, v, h => by
    cases b <;> simp only [join2] at h <;> first | (cases h; done) | skip
    · split at h
      · rename_i e; obtain ⟨rfl, rfl⟩ := e; cases h; exact Le.refl _
      · cases h
    · cases h; exact Le.opt rfl
    · split at h
      · rename_i e; obtain ⟨rfl, rfl⟩ := e; cases h; exact Le.opt rfl
      · cases h
  | .optr _ _ _, b, v, h => by
    cases b <;> simp only [join2] at h <;> first | (cases h; done) | skip
    · split at h
      · rename_i e; obtain ⟨rfl, rfl⟩ := e; cases h; exact Le.refl _
      · cases h
    · cases h; exact Le.refl _
    · split at h
      · rename_i e; obtain ⟨rfl, rfl⟩ := e; cases h; exact Le.refl _
      · cases h
  | .gh _ _, b, v, h => by cases b <;> simp only [join2] at h <;> cases h
  | .slice _ _ _ _, b, v, h => by
    cases b <;> simp only [join2] at h <;> first | (cases h; done) | skip
    split at h
    · rename_i e; obtain ⟨rfl, rfl, rfl, rfl⟩ := e; cases h; exact Le.refl _
    · cases h
  | .sptr _ _ _ _, b, v, h => by
    cases b <;> simp only [join2] at h <;> first | (cases h; done) | skip
    split at h
    · rename_i e; obtain ⟨rfl, rfl, rfl⟩ := e; cases h; exact Le.refl _
    · cases h
  | .sslice _ _ o _ _, b, v, h => by
    cases b <;> simp only [join2] at h <;> first | (cases h; done) | skip
    split at h
    · rename_i e
      obtain ⟨rfl, rfl, rfl, e1, e2⟩ := e
      rw [Option.isNone_iff_eq_none] at e1 e2
      subst e1
      subst e2
      cases h; exact Le.refl _
    · cases h
  | .row _ _ _, b, v, h => by cases b <;> simp only [join2] at h <;> cases h
  | .arr _ _ _, b, v, h => by
    cases b <;> simp only [join2] at h <;> first | (cases h; done) | skip
    split at h
    · rename_i e; obtain ⟨rfl, rfl⟩ := e; cases h; exact Le.refl _
    · cases h
  | .aptr _ _, b, v, h => by
    cases b <;> simp only [join2] at h <;> first | (cases h; done) | skip
    split at h
    · rename_i e; obtain ⟨rfl, rfl⟩ := e; cases h; exact Le.refl _
    · cases h
  | .clo f xs us, b, v, h => by
    cases b <;> simp only [join2] at h <;> first | (cases h; done) | skip
    split at h
    · rename_i e; subst e
      split at h
      · rename_i l k h1 h2; cases h; exact Le.clo (joins_true _ _ _ h1) (joins_true _ _ _ h2)
      · cases h
    · cases h
  | .agg xs, b, v, h => by
    cases b <;> simp only [join2] at h <;> first | (cases h; done) | skip
    split at h
    · rename_i l hl; cases h; exact Le.agg (joins_true _ _ _ hl)
    · cases h
  | .tup xs, b, v, h => by
    cases b <;> simp only [join2] at h <;> first | (cases h; done) | skip
    split at h
    · rename_i l hl; cases h; exact Le.tup (joins_true _ _ _ hl)
    · cases h
theorem joins_true : ∀ (as bs l : List (AV R)), joins (D := R) true as bs = some l → Les as l
  | [], [], l, h => by simp only [joins] at h; cases h; exact Les.nil
  | [], _ :: _, l, h => by simp only [joins] at h; cases h
  | _ :: _, [], l, h => by simp only [joins] at h; cases h
  | a :: as, b :: bs, l, h => by
    simp only [joins] at h
    split at h
    · rename_i x y h1 h2; cases h; exact Les.cons (join2_true _ _ _ h1) (joins_true _ _ _ h2)
    · cases h
end

mutual
theorem join2_false : ∀ (a b v : AV R), join2 (D := R) false a b = some v → Le b v
  | .any, b, v, h => by cases b <;> simp only [join2] at h <;> first | (cases h; done) | (cases h; exact Le.refl _)
  | .fl x, b, v, h => by cases b <;> simp only [join2] at h <;> first | (cases h; done) | (cases h; exact Le.refl _)
  | .kb x, b, v, h => by
    cases b <;> simp only [join2] at h <;> first | (cases h; done) | skip
    · split at h
      · rename_i e; have e' := eq_of_beq e
        subst e'; cases h; exact Le.refl _
      · cases h; exact Le.refl _
    · cases h; exact Le.refl _
  | .sb x, b, v, h => by cases b <;> simp only [join2] at h <;> first | (cases h; done) | (cases h; exact Le.refl _)
  | .ki k x, b, v, h => by
    cases b <;> simp only [join2] at h <;> first | (cases h; done) | skip
    · split at h
      · rename_i e; subst e
        split at h
        · rename_i e; subst e; cases h; exact Le.refl _
        · cases h; exact Le.refl _
      · cases h
    · split at h
      · rename_i e; subst e; cases h; exact Le.refl _
      · cases h
  | .si k x, b, v, h => by
    cases b <;> simp only [join2] at h <;> first | (cases h; done) | skip
    · split at h
      · rename_i e; subst e; cases h; exact Le.refl _
      · cases h
    · split at h
      · rename_i e; subst e; cases h; exact Le.refl _
      · cases h
  | .nilp, b, v, h => by cases b <;> simp only [join2] at h <;> first | (cases h; done) | (cases h; first | exact Le.refl _ | exact Le.opt rfl)
  | .nils, b, v, h => by cases b <;> simp only [join2] at h <;> first | (cases h; done) | (cases h; exact Le.refl _)
  | .nilf, b, v, h => by cases b <;> simp only [join2] at h <;> first | (cases h; done) | (cases h; exact Le.refl _)
  | .undef, b, v, h => by cases b <;> simp only [join2] at h <;> first | (cases h; done) | (cases h; exact Le.refl _)
  | .ptr _ _, b, v, h => by
    cases b <;> simp only [join2] at h <;> first | (cases h; done) | skip
    · split at h
      · rename_i e; obtain ⟨rfl, rfl⟩ := e; cases h; exact Le.refl _
      · cases h
    · cases h; exact Le.non rfl
    · split at h
      · rename_i e; obtain ⟨rfl, rfl⟩ := e; cases h; exact Le.refl _
      · cases h
  | .optr _ _ _, b, v, h => by
    cases b <;> simp only [join2] at h <;> first | (cases h; done) | skip
    · split at h
      · rename_i e; obtain ⟨rfl, rfl⟩ := e; cases h; exact Le.opt rfl
      · cases h
    · cases h; exact Le.non rfl
    · split at h
      · rename_i e; obtain ⟨rfl, rfl⟩ := e; cases h; exact Le.refl _
      · cases h
  | .gh _ _, b, v, h => by cases b <;> simp only [join2] at h <;> cases h
  | .slice _ _ _ _, b, v, h => by
    cases b <;> simp only [join2] at h <;> first | (cases h; done) | skip
    split at h
    · rename_i e; obtain ⟨rfl, rfl, rfl, rfl⟩ := e; cases h; exact Le.refl _
    · cases h
  | .sptr _ _ _ _, b, v, h => by
    cases b <;> simp only [join2] at h <;> first | (cases h; done) | skip
    split at h
    · rename_i e; obtain ⟨rfl, rfl, rfl⟩ := e; cases h; exact Le.refl _
    · cases h
  | .sslice _ _ o _ _, b, v, h => by
    cases b <;> simp only [join2] at h <;> first | (cases h; done) | skip
    split at h
    · rename_i e
      obtain ⟨rfl, rfl, rfl, e1, e2⟩ := e
      rw [Option.isNone_iff_eq_none] at e1 e2
      subst e1
      subst e2
      cases h; exact Le.refl _
    · cases h
  | .row _ _ _, b, v, h => by cases b <;> simp only [join2] at h <;> cases h
  | .arr _ _ _, b, v, h => by
    cases b <;> simp only [join2] at h <;> first | (cases h; done) | skip
    split at h
    · rename_i e; obtain ⟨rfl, rfl⟩ := e; cases h; exact Le.refl _
    · cases h
  | .aptr _ _, b, v, h => by
    cases b <;> simp only [join2] at h <;> first | (cases h; done) | skip
    split at h
    · rename_i e; obtain ⟨rfl, rfl⟩ := e; cases h; exact Le.refl _
    · cases h
  | .clo f xs us, b, v, h => by
    cases b <;> simp only [join2] at h <;> first | (cases h; done) | skip
    split at h
    · rename_i e; subst e
      split at h
      · rename_i l k h1 h2; cases h; exact Le.clo (joins_false _ _ _ h1) (joins_false _ _ _ h2)
      · cases h
    · cases h
  | .agg xs, b, v, h => by
    cases b <;> simp only [join2] at h <;> first | (cases h; done) | skip
    split at h
    · rename_i l hl; cases h; exact Le.agg (joins_false _ _ _ hl)
    · cases h
  | .tup xs, b, v, h => by
    cases b <;> simp only [join2] at h <;> first | (cases h; done) | skip
    split at h
    · rename_i l hl; cases h; exact Le.tup (joins_false _ _ _ hl)
    · cases h
theorem joins_false : ∀ (as bs l : List (AV R)), joins (D := R) false as bs = some l → Les bs l
  | [], [], l, h => by simp only [joins] at h; cases h; exact Les.nil
  | [], _ :: _, l, h => by simp only [joins] at h; cases h
  | _ :: _, [], l, h => by simp only [joins] at h; cases h
  | a :: as, b :: bs, l, h => by
    simp only [joins] at h
    split at h
    · rename_i x y h1 h2; cases h; exact Les.cons (join2_false _ _ _ h1) (joins_false _ _ _ h2)
    · cases h
end


theorem joinO_true {a b v : AV R} (h : joinO (D := R) true a b = some v) : Le a v := by
  unfold joinO at h
  split at h
  · rename_i hj; cases h; exact join2_true _ _ _ hj
  · split at h <;> cases h <;> exact Le.any _

theorem joinO_false {a b v : AV R} (h : joinO (D := R) false a b = some v) : Le b v := by
  unfold joinO at h
  split at h
  · rename_i hj; cases h; exact join2_false _ _ _ hj
  · split at h <;> cases h <;> exact Le.any _

end Go.Ev
/- A tree with its ways taken together says of each way no more than that way does. -/
namespace Go.Ev

/-- What stands for the one block stands for the other. -/
def BLe (a b : List (AV R)) : Prop := ∀ ρ n w, BlkR ρ n w a → BlkR ρ n w b

theorem BLe.refl (a : List (AV R)) : BLe a a := fun _ _ _ h => h
theorem BLe.trans {a b c : List (AV R)} (h : BLe a b) (g : BLe b c) : BLe a c := fun ρ n w x => g ρ n w (h ρ n w x)

/-- Of cells: one by one. -/
theorem BLe.of {a b : List (AV R)} (h : Les a b) (hr : isRow a = false) (hg : isGh a = false) (hn : a = [] → b = []) : BLe a b := fun ρ n w x => by
  cases x with
  | nothing => rw [hn rfl]; exact .nothing
  | plain h1 h2 h3 h4 => exact .plain h1 h2 h3 (h _ _ h4)
  | row h1 h2 h3 h4 => simp [isRow] at hr
  | gh h1 h2 => simp [isGh] at hg

def HLe (x y : Heap R) : Prop := ∀ n blk, hget y n = some blk → (∃ b0, hget x n = some b0 ∧ BLe b0 blk) ∨ ∀ (ρ : Nm) (w : World), BlkR ρ n w blk

theorem HLe.refl (x : Heap R) : HLe x x := fun _ blk h => .inl ⟨blk, h, BLe.refl _⟩
theorem HLe.trans {x y z : Heap R} (h : HLe x y) (g : HLe y z) : HLe x z := fun n blk hz => by
  rcases g n blk hz with ⟨b1, h1, l1⟩ | hv
  · rcases h n b1 h1 with ⟨b0, h0, l0⟩ | hv
    · exact .inl ⟨b0, h0, l0.trans l1⟩
    · exact .inr fun ρ w => l1 ρ n w (hv ρ w)
  · exact .inr hv

theorem BlkR.opens {ρ : Nm} {n : Nat} {w : World} {c : Bool} {l : List (AV R)} (h : BlkR ρ n w [.gh c l]) (hc : c = true) : BlkR ρ n w l := by
  cases h with
  | plain h1 h2 h3 h4 =>
    obtain ⟨v, ws, _, g, _⟩ := h4.cons_inv
    exact (g : False).elim
  | gh h1 h2 => exact h2 hc

theorem openB_none {a xs : List (AV R)} (h : openB (D := R) a = some (none, xs)) : xs = a := by
  unfold openB at h
  split at h
  · split at h <;> cases h
  · cases h; rfl

theorem openB_some {a xs : List (AV R)} {c : Bool} (h : openB (D := R) a = some (some c, xs)) : a = [.gh c xs] := by
  unfold openB at h
  split at h
  · split at h <;> cases h; rfl
  · cases h

theorem ghB_some {c : Bool} {l r : List (AV R)} (h : ghB (D := R) c l = some r) : l ≠ [] ∧ r = [.gh c l] := by
  unfold ghB at h
  split at h
  · cases h
  · rename_i hne; cases h; exact ⟨fun e => hne (by rw [e]), rfl⟩

theorem BLe.ghost {a xs l : List (AV R)} {p : Option Bool} {c : Bool} (ho : openB (D := R) a = some (p, xs)) (hc : c = true → ghOr (D := R) p = true) (hl : l ≠ []) (hx : BLe xs l) : BLe a [.gh c l] := fun ρ n w h => by
  refine .gh hl fun e => hx ρ n w ?_
  cases p with
  | none => rw [openB_none ho]; exact h
  | some q => rw [openB_some ho] at h; exact h.opens (hc e)

theorem void_gh {c : Bool} {l : List (AV R)} (hc : c = false) (hl : l ≠ []) : ∀ (ρ : Nm) (n : Nat) (w : World), BlkR ρ n w [.gh c l] := fun _ _ _ => .gh hl fun e => by rw [hc] at e; cases e

def Agree (m : Nat) (a b : List (AV R)) : Prop := a.length = b.length ∧ ∀ i, m.testBit i = false → a[i]? = b[i]?

theorem Agree.refl (m : Nat) (a : List (AV R)) : Agree m a a := ⟨rfl, fun _ _ => rfl⟩

theorem testBit_or_false {m k i : Nat} (h : (m ||| k).testBit i = false) : m.testBit i = false ∧ k.testBit i = false := by
  rw [Nat.testBit_or, Bool.or_eq_false_iff] at h; exact h

theorem Agree.mono {m k : Nat} {a b : List (AV R)} (h : Agree m a b) (hs : ∀ i, k.testBit i = false → m.testBit i = false) : Agree k a b := ⟨h.1, fun i hi => h.2 i (hs i hi)⟩
theorem Agree.left {m k : Nat} {a b : List (AV R)} (h : Agree m a b) : Agree (m ||| k) a b := h.mono fun _ hi => (testBit_or_false hi).1
theorem Agree.right {m k : Nat} {a b : List (AV R)} (h : Agree k a b) : Agree (m ||| k) a b := h.mono fun _ hi => (testBit_or_false hi).2
theorem Agree.trans {m : Nat} {a b c : List (AV R)} (h : Agree m a b) (g : Agree m b c) : Agree m a c := ⟨h.1.trans g.1, fun i hi => (h.2 i hi).trans (g.2 i hi)⟩

/-- Of what is joined: it says no more than 's' does, where 's' has laid 'd0' behind 'h0'. -/
structure StLe (m : Nat) (base : List (AV R)) (h0 : Heap R) (n0 : Nat) (s : St R) (d0 : Heap R) (y : St R) : Prop where
  tm : Les s.tm y.tm
  ag : Agree m y.tm base
  nx : s.nx ≤ y.nx
  lay : ∃ d, y.h = d ++ h0 ∧ HLe s.h y.h ∧ ∀ n, (hget d0 n).isSome = true → (hget d n).isSome = true ∨ (n0 ≤ n ∧ n < y.nx)
  mine : ∀ d, y.h = d ++ h0 → ∀ n, (hget d n).isSome = true → (hget d0 n).isSome = true ∨ (n0 ≤ n ∧ n < y.nx) ∨ ∃ blk, hget d n = some blk ∧ ownBlk blk = true

theorem StLe.refl {m : Nat} {base : List (AV R)} {h0 : Heap R} {n0 : Nat} {s : St R} {d0 : Heap R} (h : s.h = d0 ++ h0) (ha : Agree m s.tm base) : StLe m base h0 n0 s d0 s :=
  ⟨Les.refl _, ha, Nat.le_refl _, ⟨d0, h, HLe.refl _, fun _ hn => .inl hn⟩, fun d hd n hn => .inl (by rw [h] at hd; rw [List.append_cancel_right hd]; exact hn)⟩

theorem laidOn_append (d h : Heap R) : laidOn h (d ++ h) = d := by
  unfold laidOn
  simp

theorem joinB_true {b x y v : AV R} (h : joinB (D := R) true b x y = some v) : Le x v := by
  unfold joinB at h
  split at h <;> first | exact joinO_true h | exact join2_true _ _ _ h

theorem joinB_false {b x y v : AV R} (h : joinB (D := R) false b x y = some v) : Le y v := by
  unfold joinB at h
  split at h <;> first | exact joinO_false h | exact join2_false _ _ _ h

theorem joinTm_true {m : Nat} : ∀ {i : Nat} {bs xs ys l : List (AV R)}, joinTm (D := R) true m i bs xs ys = some l → (∀ j, m.testBit (i + j) = false → xs[j]? = bs[j]?) → Les xs l
  | _, [], [], [], l, h, _ => by simp only [joinTm] at h; cases h; exact Les.nil
  | i, b :: bs, x :: xs, y :: ys, l, h, hb => by
    simp only [joinTm] at h
    split at h
    · rename_i l' v hl hv
      cases h
      refine Les.cons ?_ (joinTm_true hl fun j hj => ?_)
      · split at hv
        · exact joinB_true hv
        · rename_i hm
          cases hv
          have := hb 0 (by simpa using hm)
          simp at this
          subst this
          exact Le.refl _
      · have := hb (j + 1) (by rw [← hj]; congr 1; omega)
        simpa using this
    · cases h
  | _, [], _ :: _, _, _, h, _ => by simp [joinTm] at h
  | _, [], [], _ :: _, _, h, _ => by simp [joinTm] at h
  | _, _ :: _, [], _, _, h, _ => by simp [joinTm] at h
  | _, _ :: _, _ :: _, [], _, h, _ => by simp [joinTm] at h

theorem joinTm_false {m : Nat} : ∀ {i : Nat} {bs xs ys l : List (AV R)}, joinTm (D := R) false m i bs xs ys = some l → (∀ j, m.testBit (i + j) = false → ys[j]? = bs[j]?) → Les ys l
  | _, [], [], [], l, h, _ => by simp only [joinTm] at h; cases h; exact Les.nil
  | i, b :: bs, x :: xs, y :: ys, l, h, hb => by
    simp only [joinTm] at h
    split at h
    · rename_i l' v hl hv
      cases h
      refine Les.cons ?_ (joinTm_false hl fun j hj => ?_)
      · split at hv
        · exact joinB_false hv
        · rename_i hm
          cases hv
          have := hb 0 (by simpa using hm)
          simp at this
          subst this
          exact Le.refl _
      · have := hb (j + 1) (by rw [← hj]; congr 1; omega)
        simpa using this
    · cases h
  | _, [], _ :: _, _, _, h, _ => by simp [joinTm] at h
  | _, [], [], _ :: _, _, h, _ => by simp [joinTm] at h
  | _, _ :: _, [], _, _, h, _ => by simp [joinTm] at h
  | _, _ :: _, _ :: _, [], _, h, _ => by simp [joinTm] at h

theorem joinTm_agree {c : Bool} {m : Nat} : ∀ {i : Nat} {bs xs ys l : List (AV R)}, joinTm (D := R) c m i bs xs ys = some l → l.length = bs.length ∧ ∀ j, m.testBit (i + j) = false → l[j]? = bs[j]?
  | _, [], [], [], l, h => by simp only [joinTm] at h; cases h; exact ⟨rfl, fun _ _ => rfl⟩
  | i, b :: bs, x :: xs, y :: ys, l, h => by
    simp only [joinTm] at h
    split at h
    · rename_i l' v hl hv
      cases h
      obtain ⟨h1, h2⟩ := joinTm_agree hl
      refine ⟨by simp [h1], fun j hj => ?_⟩
      cases j with
      | zero =>
        have : m.testBit i = false := by simpa using hj
        rw [this] at hv
        cases hv
        rfl
      | succ j => simpa using h2 j (by rw [← hj]; congr 1; omega)
    · cases h
  | _, [], _ :: _, _, _, h => by simp [joinTm] at h
  | _, [], [], _ :: _, _, h => by simp [joinTm] at h
  | _, _ :: _, [], _, _, h => by simp [joinTm] at h
  | _, _ :: _, _ :: _, [], _, h => by simp [joinTm] at h

theorem joinBlk_les_true : ∀ {xs ys l : List (AV R)}, joinBlk (D := R) true xs ys = some l → Les xs l := by
  intro xs
  induction xs with
  | nil =>
    intro ys l h
    cases ys with
    | nil => simp only [joinBlk] at h; cases h; exact Les.nil
    | cons y ys => cases y <;> simp [joinBlk] at h
  | cons x xs ih =>
    intro ys l h
    cases ys with
    | nil => cases x <;> simp [joinBlk] at h
    | cons y ys =>
      unfold joinBlk at h
      split at h
      · rename_i e1 e2; cases e1
      · rename_i e1 e2
        cases e1; cases e2
        exact fun ρ us hu => by
          obtain ⟨v, ws, rfl, h1, h2⟩ := hu.cons_inv
          exact (h1 : False).elim
      · cases h
      · cases h
      · cases h
      · cases h
      · rename_i e1 e2
        cases e1; cases e2
        split at h
        · rename_i l' v hl hv; cases h; exact Les.cons (joinO_true hv) (ih hl)
        · cases h
      · cases h

theorem joinBlk_true {xs ys l : List (AV R)} (h : joinBlk (D := R) true xs ys = some l) : BLe xs l := by
  have hl := joinBlk_les_true h
  unfold joinBlk at h
  split at h
  · cases h; exact BLe.refl _
  · split at h
    · rename_i e
      obtain ⟨rfl, rfl⟩ := e
      cases h; exact BLe.refl _
    · cases h
  · cases h
  · cases h
  · cases h
  · cases h
  · rename_i hx hy hz hw
    refine BLe.of hl ?_ ?_ (fun e => by cases e)
    · unfold isRow
      split
      · rename_i e; cases e
        first | exact (hx _ _ _ rfl).elim | exact (hy _ _ _ rfl).elim | exact (hz _ _ _ rfl).elim | exact (hw _ _ _ rfl).elim
      · rfl
    · unfold isGh
      split
      · rename_i e; cases e
        first | exact (hx _ _ rfl).elim | exact (hy _ _ rfl).elim | exact (hz _ _ rfl).elim | exact (hw _ _ rfl).elim
      · rfl
  · cases h

theorem joinBlk_les_false : ∀ {xs ys l : List (AV R)}, joinBlk (D := R) false xs ys = some l → Les ys l := by
  intro xs
  induction xs with
  | nil =>
    intro ys l h
    cases ys with
    | nil => simp only [joinBlk] at h; cases h; exact Les.nil
    | cons y ys => cases y <;> simp [joinBlk] at h
  | cons x xs ih =>
    intro ys l h
    cases ys with
    | nil => cases x <;> simp [joinBlk] at h
    | cons y ys =>
      unfold joinBlk at h
      split at h
      · rename_i e1 e2; cases e1
      · rename_i e1 e2
        cases e1; cases e2
        exact fun ρ us hu => by
          obtain ⟨v, ws, rfl, h1, h2⟩ := hu.cons_inv
          exact (h1 : False).elim
      · cases h
      · cases h
      · cases h
      · cases h
      · rename_i e1 e2
        cases e1; cases e2
        split at h
        · rename_i l' v hl hv; cases h; exact Les.cons (joinO_false hv) (ih hl)
        · cases h
      · cases h

theorem joinBlk_false {xs ys l : List (AV R)} (h : joinBlk (D := R) false xs ys = some l) : BLe ys l := by
  have hl := joinBlk_les_false h
  unfold joinBlk at h
  split at h
  · cases h; exact BLe.refl _
  · split at h
    · rename_i e
      obtain ⟨rfl, rfl⟩ := e
      cases h; exact BLe.refl _
    · cases h
  · cases h
  · cases h
  · cases h
  · cases h
  · rename_i hx hy hz hw
    refine BLe.of hl ?_ ?_ (fun e => by cases e)
    · unfold isRow
      split
      · rename_i e; cases e
        first | exact (hx _ _ _ rfl).elim | exact (hy _ _ _ rfl).elim | exact (hz _ _ _ rfl).elim | exact (hw _ _ _ rfl).elim
      · rfl
    · unfold isGh
      split
      · rename_i e; cases e
        first | exact (hx _ _ rfl).elim | exact (hy _ _ rfl).elim | exact (hz _ _ rfl).elim | exact (hw _ _ rfl).elim
      · rfl
  · cases h

theorem namesOf_acc : ∀ (h : Heap R) (acc : List Nat) (n : Nat), n ∈ acc → n ∈ namesOf h acc
  | [], _, _, hn => hn
  | p :: r, acc, n, hn => by
    simp only [namesOf]
    refine namesOf_acc r _ n ?_
    split
    · exact hn
    · exact List.mem_cons_of_mem _ hn

theorem namesOf_mem : ∀ (h : Heap R) (acc : List Nat) (n : Nat), (hget h n).isSome = true → n ∈ namesOf h acc
  | [], _, _, hn => by simp [hget] at hn
  | (k, b) :: r, acc, n, hn => by
    simp only [namesOf]
    simp only [hget] at hn
    by_cases e : (k == n) = true
    · have : k = n := by simpa using e
      subst this
      refine namesOf_acc r _ k ?_
      by_cases hc : acc.contains k = true
      · rw [if_pos hc]; simpa using hc
      · rw [if_neg hc]; exact List.mem_cons_self
    · rw [if_neg e] at hn
      exact namesOf_mem r _ n hn

theorem joinNew_true {k : Bool} {xo yo : Option (List (AV R))} {l : List (AV R)} (h : joinNew (D := R) true k xo yo = some l) : (∃ a, xo = some a ∧ BLe a l) ∨ ∀ (ρ : Nm) (n : Nat) (w : World), BlkR ρ n w l := by
  cases xo with
  | none =>
    cases yo with
    | none => simp only [joinNew] at h; cases h
    | some b =>
      simp only [joinNew] at h
      split at h
      · split at h
        · obtain ⟨g1, rfl⟩ := ghB_some h
          exact .inr (void_gh rfl g1)
        · cases h
      · cases h
  | some a =>
    refine .inl ⟨a, rfl, ?_⟩
    cases yo with
    | none =>
      simp only [joinNew] at h
      split at h
      · split at h
        · rename_i p xs ho
          obtain ⟨g1, rfl⟩ := ghB_some h
          exact BLe.ghost ho (fun e => e) g1 (BLe.refl _)
        · cases h
      · cases h
    | some b =>
      simp only [joinNew] at h
      split at h
      · rename_i xs ys h1 h2
        split at h
        · rename_i l' hl
          split at h
          · cases h; rw [openB_none h1] at hl; exact joinBlk_true hl
          · cases h
        · cases h
      · rename_i p xs q ys _ h1 h2
        split at h
        · rename_i l' hl
          obtain ⟨g1, rfl⟩ := ghB_some h
          exact BLe.ghost h1 (fun e => e) g1 (joinBlk_true hl)
        · cases h
      · cases h

theorem joinNew_false {k : Bool} {xo yo : Option (List (AV R))} {l : List (AV R)} (h : joinNew (D := R) false k xo yo = some l) : (∃ b, yo = some b ∧ BLe b l) ∨ ∀ (ρ : Nm) (n : Nat) (w : World), BlkR ρ n w l := by
  cases yo with
  | none =>
    cases xo with
    | none => simp only [joinNew] at h; cases h
    | some a =>
      simp only [joinNew] at h
      split at h
      · split at h
        · obtain ⟨g1, rfl⟩ := ghB_some h
          exact .inr (void_gh rfl g1)
        · cases h
      · cases h
  | some b =>
    refine .inl ⟨b, rfl, ?_⟩
    cases xo with
    | none =>
      simp only [joinNew] at h
      split at h
      · split at h
        · rename_i p xs ho
          obtain ⟨g1, rfl⟩ := ghB_some h
          exact BLe.ghost ho (fun e => e) g1 (BLe.refl _)
        · cases h
      · cases h
    | some a =>
      simp only [joinNew] at h
      split at h
      · rename_i xs ys h1 h2
        split at h
        · rename_i l' hl
          split at h
          · cases h; rw [openB_none h2] at hl; exact joinBlk_false hl
          · cases h
        · cases h
      · rename_i p xs q ys _ h1 h2
        split at h
        · rename_i l' hl
          obtain ⟨g1, rfl⟩ := ghB_some h
          exact BLe.ghost h2 (fun e => e) g1 (joinBlk_false hl)
        · cases h
      · cases h

theorem joinHp_spec {c : Bool} {n0 n1 : Nat} {hx hy : Heap R} {k : Nat → Bool} : ∀ {ns : List Nat} {d : Heap R}, joinHp (D := R) c n0 n1 hx hy k ns = some d →
    (∀ n blk, hget d n = some blk → (n0 ≤ n ∧ n < n1 ∧ joinNew (D := R) c (k n) (hget hx n) (hget hy n) = some blk) ∨ ∃ a b, hget hx n = some a ∧ hget hy n = some b ∧ joinBlk (D := R) c a b = some blk ∧ ownBlk blk = true) ∧ ∀ n ∈ ns, (hget d n).isSome = true ∨ (n0 ≤ n ∧ n < n1)
  | [], d, h => by simp only [joinHp] at h; cases h; exact ⟨fun n blk h => (nomatch h), fun n h => (nomatch h)⟩
  | n :: r, d, h => by
    simp only [joinHp] at h
    split at h
    · cases h
    · rename_i d' hd
      obtain ⟨ha, hb⟩ := joinHp_spec hd
      have put : ∀ l, ((n0 ≤ n ∧ n < n1 ∧ joinNew (D := R) c (k n) (hget hx n) (hget hy n) = some l) ∨ ∃ a b, hget hx n = some a ∧ hget hy n = some b ∧ joinBlk (D := R) c a b = some l ∧ ownBlk l = true) →
          (∀ m blk, hget ((n, l) :: d') m = some blk → (n0 ≤ m ∧ m < n1 ∧ joinNew (D := R) c (k m) (hget hx m) (hget hy m) = some blk) ∨ ∃ a b, hget hx m = some a ∧ hget hy m = some b ∧ joinBlk (D := R) c a b = some blk ∧ ownBlk blk = true) ∧ ∀ m ∈ n :: r, (hget ((n, l) :: d') m).isSome = true ∨ (n0 ≤ m ∧ m < n1) := by
        intro l hl
        refine ⟨fun m blk hk => ?_, fun m hk => ?_⟩
        · simp only [hget] at hk
          by_cases e : (n == m) = true
          · have : n = m := by simpa using e
            subst this
            rw [if_pos e] at hk
            cases hk
            exact hl
          · rw [if_neg e] at hk; exact ha m blk hk
        · simp only [hget]
          by_cases e : (n == m) = true
          · rw [if_pos e]; exact .inl rfl
          · rw [if_neg e]
            rcases List.mem_cons.1 hk with rfl | hk
            · simp at e
            · exact hb m hk
      split at h
      · rename_i hn
        split at h
        · rename_i l hl
          cases h
          exact put l (.inl ⟨hn.1, hn.2, hl⟩)
        · cases h
          refine ⟨ha, fun m hk => ?_⟩
          rcases List.mem_cons.1 hk with rfl | hk
          · exact .inr hn
          · exact hb m hk
      · split at h
        · rename_i a b hxa hyb
          split at h
          · rename_i l hl
            split at h
            case isFalse => cases h
            rename_i how
            cases h
            exact put l (.inr ⟨a, b, hxa, hyb, hl, how⟩)
          · cases h
        · cases h

def low (h0 : Heap R) (n0 : Nat) : Prop := ∀ n blk, hget h0 n = some blk → n < n0

theorem low_of {h0 : Heap R} {n0 : Nat} (h : (h0.all fun p => decide (p.1 < n0)) = true) : low h0 n0 := by
  induction h0 with
  | nil => intro n blk hn; cases hn
  | cons p r ih =>
    obtain ⟨k, b⟩ := p
    simp only [List.all_cons, Bool.and_eq_true, decide_eq_true_eq] at h
    intro n blk hn
    simp only [hget] at hn
    by_cases e : (k == n) = true
    · have : k = n := by simpa using e
      subst this; exact h.1
    · rw [if_neg e] at hn; exact ih h.2 n blk hn

section
variable {m : Nat} {base : List (AV R)} {h0 : Heap R} {n0 : Nat}

theorem joinSt_true (hl : low h0 n0) {x y z : St R} (h : joinSt (D := R) true m base h0 n0 x y = some z) {s : St R} {d0 : Heap R} (hs : StLe m base h0 n0 s d0 x) : StLe m base h0 n0 s d0 z := by
  unfold joinSt at h
  split at h
  · cases h
  rename_i tm htm
  dsimp only at h
  split at h
  · rename_i d hd
    cases h
    obtain ⟨dx, e1, e2, e3⟩ := hs.lay
    obtain ⟨ha, hb⟩ := joinHp_spec hd
    have hag := joinTm_agree htm
    have hnames : ∀ n, (hget dx n).isSome = true → n ∈ namesOf (laidOn h0 x.h) (namesOf (laidOn h0 y.h) []) := fun n hn => namesOf_mem _ _ _ (by rw [e1, laidOn_append]; exact hn)
    refine ⟨hs.tm.trans (joinTm_true htm fun j hj => hs.ag.2 j (by simpa using hj)), ⟨hag.1, fun j hj => hag.2 j (by simpa using hj)⟩, Nat.le_trans hs.nx (Nat.le_max_left _ _), ⟨d, rfl, e2.trans ?_, fun n hn => ?_⟩, fun d' hd' n hn => ?_⟩
    · intro n blk hn
      have hn' : hget (d ++ h0) n = some blk := hn
      rw [hget_append] at hn'
      cases hdn : hget d n with
      | some b =>
        rw [hdn] at hn'
        cases hn'
        rcases ha n _ hdn with ⟨_, _, g⟩ | ⟨a, b', g1, g2, g3, _⟩
        · exact (joinNew_true g).imp id fun q ρ w => q ρ n w
        · exact .inl ⟨a, g1, joinBlk_true g3⟩
      | none =>
        rw [hdn] at hn'
        have hn'' : hget h0 n = some blk := by simpa using hn'
        refine .inl ⟨blk, ?_, BLe.refl _⟩
        rw [e1, hget_append]
        cases hdx : hget dx n with
        | some b =>
          exfalso
          rcases hb n (hnames n (by rw [hdx]; rfl)) with g | g
          · rw [hdn] at g; cases g
          · have := hl n blk hn''; omega
        | none => simpa using hn''
    · rcases e3 n hn with g | g
      · exact hb n (hnames n g)
      · exact .inr ⟨g.1, Nat.lt_of_lt_of_le g.2 (Nat.le_max_left _ _)⟩
    · have : d = d' := List.append_cancel_right (show d ++ h0 = d' ++ h0 from hd')
      subst this
      cases hdn : hget d n with
      | none => rw [hdn] at hn; cases hn
      | some blk =>
        rcases ha n _ hdn with ⟨q1, q2, _⟩ | ⟨a, b', g1, g2, g3, g4⟩
        · exact .inr (.inl ⟨q1, q2⟩)
        · exact .inr (.inr ⟨blk, rfl, g4⟩)
  · cases h

theorem joinSt_false (hl : low h0 n0) {x y z : St R} (h : joinSt (D := R) false m base h0 n0 x y = some z) {s : St R} {d0 : Heap R} (hs : StLe m base h0 n0 s d0 y) : StLe m base h0 n0 s d0 z := by
  unfold joinSt at h
  split at h
  · cases h
  rename_i tm htm
  dsimp only at h
  split at h
  · rename_i d hd
    cases h
    obtain ⟨dx, e1, e2, e3⟩ := hs.lay
    obtain ⟨ha, hb⟩ := joinHp_spec hd
    have hag := joinTm_agree htm
    have hnames : ∀ n, (hget dx n).isSome = true → n ∈ namesOf (laidOn h0 x.h) (namesOf (laidOn h0 y.h) []) := fun n hn => namesOf_acc _ _ _ (namesOf_mem _ _ _ (by rw [e1, laidOn_append]; exact hn))
    refine ⟨hs.tm.trans (joinTm_false htm fun j hj => hs.ag.2 j (by simpa using hj)), ⟨hag.1, fun j hj => hag.2 j (by simpa using hj)⟩, Nat.le_trans hs.nx (Nat.le_max_right _ _), ⟨d, rfl, e2.trans ?_, fun n hn => ?_⟩, fun d' hd' n hn => ?_⟩
    · intro n blk hn
      have hn' : hget (d ++ h0) n = some blk := hn
      rw [hget_append] at hn'
      cases hdn : hget d n with
      | some b =>
        rw [hdn] at hn'
        cases hn'
        rcases ha n _ hdn with ⟨_, _, g⟩ | ⟨a, b', g1, g2, g3, _⟩
        · exact (joinNew_false g).imp id fun q ρ w => q ρ n w
        · exact .inl ⟨b', g2, joinBlk_false g3⟩
      | none =>
        rw [hdn] at hn'
        have hn'' : hget h0 n = some blk := by simpa using hn'
        refine .inl ⟨blk, ?_, BLe.refl _⟩
        rw [e1, hget_append]
        cases hdx : hget dx n with
        | some b =>
          exfalso
          rcases hb n (hnames n (by rw [hdx]; rfl)) with g | g
          · rw [hdn] at g; cases g
          · have := hl n blk hn''; omega
        | none => simpa using hn''
    · rcases e3 n hn with g | g
      · exact hb n (hnames n g)
      · exact .inr ⟨g.1, Nat.lt_of_lt_of_le g.2 (Nat.le_max_right _ _)⟩
    · have : d = d' := List.append_cancel_right (show d ++ h0 = d' ++ h0 from hd')
      subst this
      cases hdn : hget d n with
      | none => rw [hdn] at hn; cases hn
      | some blk =>
        rcases ha n _ hdn with ⟨q1, q2, _⟩ | ⟨a, b', g1, g2, g3, g4⟩
        · exact .inr (.inl ⟨q1, q2⟩)
        · exact .inr (.inr ⟨blk, rfl, g4⟩)
  · cases h

def holds (c : Option Bool) : Prop := c = none ∨ c = some true

theorem takeJ_some {b : Bool} {x : Ent R} : ∀ {r r' : List (Ent R)} {y : Ent R} {st : St R}, takeJ (D := R) b m base h0 n0 x r = some (y, st, r') → joinSt (D := R) b m base h0 n0 x.st y.st = some st ∧ x.e = y.e ∧ y ∈ r ∧ (∀ z ∈ r', z ∈ r) ∧ ∀ z ∈ r, z = y ∨ z ∈ r'
  | [], _, _, _, h => by cases h
  | w :: r, r', y, st, h => by
    simp only [takeJ] at h
    split at h
    · rename_i st' hs
      cases h
      split at hs
      · rename_i he
        exact ⟨hs, he, List.mem_cons_self, fun z hz => List.mem_cons_of_mem _ hz, fun z hz => List.mem_cons.1 hz⟩
      · cases hs
    · split at h
      · rename_i z st' s' hs
        cases h
        obtain ⟨h1, h2, h3, h4, h5⟩ := takeJ_some hs
        refine ⟨h1, h2, List.mem_cons_of_mem _ h3, fun z hz => ?_, fun z hz => ?_⟩
        · rcases List.mem_cons.1 hz with rfl | hz
          · exact List.mem_cons_self
          · exact List.mem_cons_of_mem _ (h4 z hz)
        · rcases List.mem_cons.1 hz with rfl | hz
          · exact .inr List.mem_cons_self
          · rcases h5 z hz with g | g
            · exact .inl g
            · exact .inr (List.mem_cons_of_mem _ g)
      · cases h

theorem mergeE_true (hl : low h0 n0) : ∀ {l r s : List (Ent R)}, mergeE (D := R) true m base h0 n0 l r = some s →
    (∀ z ∈ s, holds z.c → ∃ x ∈ l, x.e = z.e ∧ holds x.c ∧ ∀ s0 d0, StLe m base h0 n0 s0 d0 x.st → StLe m base h0 n0 s0 d0 z.st) ∧ ∀ x ∈ l, holds x.c → ∃ z ∈ s, holds z.c
  | [], r, s, h => by
    simp only [mergeE] at h
    cases h
    refine ⟨fun z hz hc => ?_, fun x hx => (nomatch hx)⟩
    obtain ⟨y, hy, rfl⟩ := List.mem_map.1 hz
    exfalso
    rcases hc with g | g
    · cases g
    · cases hyc : y.c <;> rw [hyc] at g <;> simp [condR] at g
  | x :: l, r, s, h => by
    simp only [mergeE] at h
    split at h
    · split at h
      · rename_i s' hs'
        cases h
        obtain ⟨ih1, ih2⟩ := mergeE_true hl hs'
        have hcx : holds (condL (D := R) true x.c) ↔ holds x.c := by
          cases hx : x.c with
          | none => exact ⟨fun _ => .inl rfl, fun _ => .inr rfl⟩
          | some o => cases o <;> simp [holds, condL]
        refine ⟨fun z hz hc => ?_, fun y hy hc => ?_⟩
        · rcases List.mem_cons.1 hz with rfl | hz
          · exact ⟨x, List.mem_cons_self, rfl, hcx.1 hc, fun _ _ k => k⟩
          · obtain ⟨y, h1, h2⟩ := ih1 z hz hc
            exact ⟨y, List.mem_cons_of_mem _ h1, h2⟩
        · rcases List.mem_cons.1 hy with rfl | hy
          · exact ⟨_, List.mem_cons_self, hcx.2 hc⟩
          · obtain ⟨z, h1, h2⟩ := ih2 y hy hc
            exact ⟨z, List.mem_cons_of_mem _ h1, h2⟩
      · cases h
    · rename_i y st r' hy
      obtain ⟨hst, t0, t2, t3, t4⟩ := takeJ_some hy
      split at h
      · rename_i s' hs'
        cases h
        obtain ⟨ih1, ih2⟩ := mergeE_true hl hs'
        have hcx : holds (condJ (D := R) true x.c y.c) ↔ holds x.c := by
          cases hx : x.c <;> cases hyc : y.c <;> simp [holds, condJ]
        refine ⟨fun z hz hc => ?_, fun w hw hc => ?_⟩
        · rcases List.mem_cons.1 hz with rfl | hz
          · exact ⟨x, List.mem_cons_self, rfl, hcx.1 hc, fun _ _ k => joinSt_true hl hst k⟩
          · obtain ⟨y, h1, h2⟩ := ih1 z hz hc
            exact ⟨y, List.mem_cons_of_mem _ h1, h2⟩
        · rcases List.mem_cons.1 hw with rfl | hw
          · exact ⟨_, List.mem_cons_self, hcx.2 hc⟩
          · obtain ⟨z, h1, h2⟩ := ih2 w hw hc
            exact ⟨z, List.mem_cons_of_mem _ h1, h2⟩
      · cases h

theorem mergeE_false (hl : low h0 n0) : ∀ {l r s : List (Ent R)}, mergeE (D := R) false m base h0 n0 l r = some s →
    (∀ z ∈ s, holds z.c → ∃ x ∈ r, x.e = z.e ∧ holds x.c ∧ ∀ s0 d0, StLe m base h0 n0 s0 d0 x.st → StLe m base h0 n0 s0 d0 z.st) ∧ ∀ x ∈ r, holds x.c → ∃ z ∈ s, holds z.c
  | [], r, s, h => by
    simp only [mergeE] at h
    cases h
    have hcy : ∀ y : Ent R, holds (condR (D := R) false y.c) ↔ holds y.c := fun y => by
      cases hx : y.c with
      | none => exact ⟨fun _ => .inl rfl, fun _ => .inr rfl⟩
      | some o => cases o <;> simp [holds, condR]
    refine ⟨fun z hz hc => ?_, fun x hx hc => ⟨_, List.mem_map.2 ⟨x, hx, rfl⟩, (hcy x).2 hc⟩⟩
    obtain ⟨y, hy, rfl⟩ := List.mem_map.1 hz
    exact ⟨y, hy, rfl, (hcy y).1 hc, fun _ _ k => k⟩
  | x :: l, r, s, h => by
    simp only [mergeE] at h
    split at h
    · split at h
      · rename_i s' hs'
        cases h
        obtain ⟨ih1, ih2⟩ := mergeE_false hl hs'
        refine ⟨fun z hz hc => ?_, fun y hy hc => ?_⟩
        · rcases List.mem_cons.1 hz with rfl | hz
          · exfalso
            rcases hc with g | g
            · cases g
            · cases hyc : x.c <;> simp [condL, hyc] at g
          · exact ih1 z hz hc
        · obtain ⟨z, h1, h2⟩ := ih2 y hy hc
          exact ⟨z, List.mem_cons_of_mem _ h1, h2⟩
      · cases h
    · rename_i y st r' hy
      obtain ⟨hst, t0, t2, t3, t4⟩ := takeJ_some hy
      split at h
      · rename_i s' hs'
        cases h
        obtain ⟨ih1, ih2⟩ := mergeE_false hl hs'
        have hcx : holds (condJ (D := R) false x.c y.c) ↔ holds y.c := by
          cases hx : x.c <;> cases hyc : y.c <;> simp [holds, condJ]
        refine ⟨fun z hz hc => ?_, fun w hw hc => ?_⟩
        · rcases List.mem_cons.1 hz with rfl | hz
          · exact ⟨y, t2, t0.symm, hcx.1 hc, fun _ _ k => joinSt_false hl hst k⟩
          · obtain ⟨y, h1, h2⟩ := ih1 z hz hc
            exact ⟨y, t3 y h1, h2⟩
        · rcases t4 w hw with rfl | hw
          · exact ⟨_, List.mem_cons_self, hcx.2 hc⟩
          · obtain ⟨z, h1, h2⟩ := ih2 w hw hc
            exact ⟨z, List.mem_cons_of_mem _ h1, h2⟩
      · cases h

/-- What the ways of a tree must show. -/
def Ways (m : Nat) (base : List (AV R)) (h0 : Heap R) (n0 : Nat) (t : T Bool (Ex × St R)) (l : List (Ent R)) : Prop :=
  (∀ z ∈ l, holds z.c → ∃ s, t.run = some (z.e, s) ∧ ∀ d0, s.h = d0 ++ h0 → Agree m s.tm base → StLe m base h0 n0 s d0 z.st) ∧ ∃ z ∈ l, holds z.c

theorem holds_condT {b : Bool} {a : Option Bool} (h : holds (condT (D := R) b a)) : b = true ∧ holds a := by
  cases a with
  | none => rcases h with h | h <;> simp [condT] at h; exact ⟨h, .inl rfl⟩
  | some a => rcases h with h | h <;> simp [condT] at h; exact ⟨h.1, .inr (by rw [h.2])⟩

theorem holds_condF {b : Bool} {a : Option Bool} (h : holds (condF (D := R) b a)) : b = false ∧ holds a := by
  cases a with
  | none => rcases h with h | h <;> simp [condF] at h; exact ⟨h, .inl rfl⟩
  | some a => rcases h with h | h <;> simp [condF] at h; exact ⟨h.1, .inr (by rw [h.2])⟩

theorem holds_condJ {b : Bool} {a a' : Option Bool} (h : holds (condJ (D := R) b a a')) : if b then holds a else holds a' := by
  cases b <;> cases a <;> cases a' <;> simp [holds, condJ] at h ⊢ <;> exact h

theorem nf_sound (hl : low h0 n0) : ∀ {t : T Bool (Ex × St R)} {l : List (Ent R)} {a : Option Bool}, nf (D := R) m base h0 n0 t = some (.ways l a) → holds a → Ways m base h0 n0 t l
  | .fail w, l, a, h, _ => by simp only [nf] at h; cases h
  | .ret (e, st), l, a, h, _ => by
    simp only [nf] at h; cases h
    refine ⟨fun z hz _ => ?_, _, List.mem_cons_self, .inl rfl⟩
    rcases List.mem_cons.1 hz with rfl | hz
    · exact ⟨st, rfl, fun d0 hd ha => StLe.refl hd ha⟩
    · cases hz
  | .node b t e, l, a, h, hc => by
    simp only [nf] at h
    split at h
    · cases h
    · rename_i l1 a1 w ht he
      cases h
      obtain ⟨hb, ha⟩ := holds_condT hc
      subst hb
      obtain ⟨t1, t2⟩ := nf_sound hl ht ha
      exact ⟨fun z hz hzc => by simpa using t1 z hz hzc, t2⟩
    · rename_i w r1 a1 ht he
      cases h
      obtain ⟨hb, ha⟩ := holds_condF hc
      subst hb
      obtain ⟨t1, t2⟩ := nf_sound hl he ha
      exact ⟨fun z hz hzc => by simpa using t1 z hz hzc, t2⟩
    · rename_i l1 a1 r1 a2 ht he
      split at h
      · rename_i s hs
        cases h
        have hj := holds_condJ hc
        cases b with
        | true =>
          obtain ⟨t1, t2⟩ := nf_sound hl ht (by simpa using hj)
          obtain ⟨m1, m2⟩ := mergeE_true hl hs
          refine ⟨fun z hz hzc => ?_, ?_⟩
          · obtain ⟨x, hx, hxe, hxc, hk⟩ := m1 z hz hzc
            obtain ⟨s0, g1, g2⟩ := t1 x hx hxc
            exact ⟨s0, by simpa [hxe] using g1, fun d0 hd ha => hk s0 d0 (g2 d0 hd ha)⟩
          · obtain ⟨x, hx, hxc⟩ := t2
            exact m2 x hx hxc
        | false =>
          obtain ⟨t1, t2⟩ := nf_sound hl he (by simpa using hj)
          obtain ⟨m1, m2⟩ := mergeE_false hl hs
          refine ⟨fun z hz hzc => ?_, ?_⟩
          · obtain ⟨x, hx, hxe, hxc, hk⟩ := m1 z hz hzc
            obtain ⟨s0, g1, g2⟩ := t1 x hx hxc
            exact ⟨s0, by simpa [hxe] using g1, fun d0 hd ha => hk s0 d0 (g2 d0 hd ha)⟩
          · obtain ⟨x, hx, hxc⟩ := t2
            exact m2 x hx hxc
      · cases h
    · cases h

theorem toW_sound : ∀ {l : List (Ent R)} {e : Ex} {st : St R}, (toW (D := R) l).run = some (e, st) → (∃ z ∈ l, holds z.c) → ∃ z ∈ l, holds z.c ∧ z.e = e ∧ z.st = st
  | [], _, _, h, _ => by simp only [toW] at h; cases h
  | [x], e, st, h, hw => by
    simp only [toW] at h; cases h
    obtain ⟨z, hz, hc⟩ := hw
    rcases List.mem_cons.1 hz with rfl | hz
    · exact ⟨z, List.mem_cons_self, hc, rfl, rfl⟩
    · cases hz
  | x :: y :: r, e, st, h, hw => by
    simp only [toW] at h
    split at h
    · rename_i hc
      cases h
      exact ⟨x, List.mem_cons_self, .inl hc, rfl, rfl⟩
    · rename_i c hc
      cases c with
      | true => cases h; exact ⟨x, List.mem_cons_self, .inr hc, rfl, rfl⟩
      | false =>
        have hw' : ∃ z ∈ y :: r, holds z.c := by
          obtain ⟨z, hz, hzc⟩ := hw
          rcases List.mem_cons.1 hz with rfl | hz
          · exfalso
            rcases hzc with g | g <;> rw [hc] at g <;> cases g
          · exact ⟨z, hz, hzc⟩
        obtain ⟨z, hz, g⟩ := toW_sound (l := y :: r) h hw'
        exact ⟨z, List.mem_cons_of_mem _ hz, g⟩

theorem compact_sound {t : T Bool (Ex × St R)} {e : Ex} {st : St R} (h : (compact (D := R) m base h0 n0 t).run = some (e, st)) :
    ∃ s, t.run = some (e, s) ∧ ∀ d0, s.h = d0 ++ h0 → Agree m s.tm base → StLe m base h0 n0 s d0 st := by
  have hself : t.run = some (e, st) → ∃ s, t.run = some (e, s) ∧ ∀ d0, s.h = d0 ++ h0 → Agree m s.tm base → StLe m base h0 n0 s d0 st := fun h => ⟨st, h, fun d0 hd ha => StLe.refl hd ha⟩
  unfold compact at h
  split at h
  · rename_i bb tt ee
    split at h
    · rename_i hlow
      have hl := low_of hlow
      split at h
      · rename_i x hn
        cases x with
        | bot w => cases h
        | ways l a =>
          have go : holds a → (toW (D := R) l).run = some (e, st) → ∃ s, (T.node bb tt ee).run = some (e, s) ∧ ∀ d0, s.h = d0 ++ h0 → Agree m s.tm base → StLe m base h0 n0 s d0 st := fun ha hr => by
            obtain ⟨h1, h2⟩ := nf_sound hl hn ha
            obtain ⟨z, hz, hc, rfl, rfl⟩ := toW_sound hr h2
            exact h1 z hz hc
          cases a with
          | none => exact go (.inl rfl) h
          | some a =>
            cases a with
            | true => exact go (.inr rfl) h
            | false => cases h
      · exact hself h
    · exact hself h
  · exact hself h

/-- A step that laid 'd0' is one that laid what is joined. -/
theorem StLe.step {s y : St R} {d0 : Heap R} (k : StLe m base h0 n0 s d0 y) (hs : s.h = d0 ++ h0) {ρ ρ' : Nm} {w w' : World} (st : Step ρ ρ' w w' n0 s.nx d0 h0) (hF : Fresh ρ n0 y.nx) :
    ∃ d, y.h = d ++ h0 ∧ Step ρ ρ' w w' n0 y.nx d h0 := by
  obtain ⟨d, e1, e2, e3⟩ := k.lay
  refine ⟨d, e1, ?_⟩
  have hnx := k.nx
  exact {
    inj := st.inj
    hr := fun n blk hn => by
      rw [← e1] at hn
      rcases e2 n blk hn with ⟨b0, g1, g2⟩ | hv
      · rw [hs] at g1
        exact g2 _ _ _ (st.hr n b0 g1)
      · exact hv _ _
    old := fun n hn => st.old n (by omega)
    st := fun n hn => by
      rcases st.st n (by omega) with q | ⟨q1, q2, q3⟩
      · exact .inl q
      · refine .inr ⟨q1, q2, ?_⟩
        rcases e3 n q3 with g | g
        · exact g
        · exact absurd ⟨g.1, g.2⟩ hn
    own := fun n hn => by
      by_cases hf : n0 ≤ n ∧ n < y.nx
      · exact .inl hf
      · refine .inr ?_
        have : (hget y.h n).isSome = true := by rw [e1]; exact hget_some_append (.inl hn)
        cases hy : hget y.h n with
        | none => rw [hy] at this; cases this
        | some _ =>
          rcases k.mine d e1 n hn with g | g | ⟨blk, g1, g2⟩
          · rcases st.own n g with q | q
            · exact absurd ⟨q.1, by omega⟩ hf
            · exact q
          · exact absurd g hf
          · have hy' : hget y.h n = some blk := by rw [e1, hget_append, g1]; rfl
            have q2 : BlkR ρ' n w' blk := by
              rcases e2 n blk hy' with ⟨b0, q1, q2⟩ | hv
              · rw [hs] at q1
                exact q2 _ _ _ (st.hr n b0 q1)
              · exact hv _ _
            have q3 : ρ'.st n = .own := by
              cases q2 with
              | nothing => cases g2
              | plain _ h2 _ _ => exact h2
              | row _ _ h3 _ =>
                refine (h3 ?_).2
                simpa [ownBlk] using g2
              | gh _ _ => simp [ownBlk] at g2
            rcases st.st n (by omega) with q | ⟨q, _⟩
            · rw [← q]; exact q3
            · rw [q] at q3; cases q3
    new := fun n b h1 h2 hb => by
      by_cases hn : n < s.nx
      · rcases st.new n b h1 hn hb with g | ⟨m, g1, g2, g3⟩
        · exact .inl g
        · refine .inr ⟨m, g1, g2, ?_⟩
          rcases e3 m g3 with q | q
          · exact q
          · rw [Nm.bl_none (hF m q.1 q.2)] at g1; cases g1
      · rw [Nm.bl_congr (st.old n (by omega)), Nm.bl_none (hF n h1 h2)] at hb; cases hb
    size := st.size
    os := st.os
    tape := st.tape
    output := st.output
    frame := fun b hb hno => st.frame b hb fun n blk hn => by
      rcases e3 n (by rw [hn]; rfl) with g | g
      · cases hd : hget d n with
        | some b' => exact hno n b' hd
        | none => rw [hd] at g; cases g
      · rw [Nm.bl_none (hF n g.1 g.2)]; simp
    le := Nat.le_trans st.le hnx }

end
end Go.Ev
/- Single operations on floats: what the model's word comes to, and that no-numbers are one. -/
namespace Go.Ev

structure SameW (w w' : World) : Prop where
  heap : w'.heap = w.heap
  os : w'.os = w.os
  tape : w'.tape = w.tape
  output : w'.output = w.output

theorem SameW.refl (w : World) : SameW w w := ⟨rfl, rfl, rfl, rfl⟩

theorem SameW.step {ρ : Nm} {w w' : World} {nx : Nat} {h : Heap R} (s : SameW w w') (hH : HR ρ h w) (hI : Inj ρ w) : Step ρ ρ w w' nx nx [] h :=
  .same hH hI s.heap s.os s.tape s.output

theorem nan_cut (t : Nat) : isNaN ((t % 2) * 2 ^ 63 + 0x7ff0000000000000 + 1 + (t / 2) % (2 ^ 52 - 1)) = true ∧ (t % 2) * 2 ^ 63 + 0x7ff0000000000000 + 1 + (t / 2) % (2 ^ 52 - 1) < 2 ^ 64 := by
  have h1 : t % 2 < 2 := Nat.mod_lt _ (by decide)
  have h2 : (t / 2) % (2 ^ 52 - 1) < 2 ^ 52 - 1 := Nat.mod_lt _ (by decide)
  generalize t % 2 = a at *
  generalize (t / 2) % (2 ^ 52 - 1) = c at *
  refine ⟨?_, by omega⟩
  have hs : f64.signWeight = 9223372036854775808 := by decide
  have hb : f64.binade = 4503599627370496 := by decide
  have hi : f64.infRung = 9218868437227405312 := by decide
  unfold isNaN Ieee.Format.read
  rw [hs, hb, hi]
  have hr : (a * 2 ^ 63 + 9218868437227405312 + 1 + c) % 9223372036854775808 = 9218868437227405313 + c := by omega
  simp only [hr]
  rw [if_neg (by omega), if_neg (by omega), if_neg (by omega)]
  rfl

theorem cls_of_nan {b : Nat} (h : isNaN b = true) : cls b = none := if_pos h

/-- A draw of a no-number's bits. -/
theorem run_nan (P : Program) (w : World) (q : Question) (hq : q.forced = false) (hc : ∀ t, q.cut t = (t % 2) * 2 ^ 63 + 0x7ff0000000000000 + 1 + (t / 2) % (2 ^ 52 - 1)) :
    ∃ r w', (choose q).run P w = .ok r w' ∧ r < 2 ^ 64 ∧ cls r = none ∧ SameW w w' := by
  refine ⟨q.cut (w.tape w.drawn q), { w with drawn := w.drawn + 1 }, by simp only [choose, Sem.run, hq]; exact if_neg (by decide), ?_, ?_, ⟨rfl, rfl, rfl, rfl⟩⟩
  · rw [hc]; exact (nan_cut _).2
  · rw [hc]; exact cls_of_nan (nan_cut _).1

theorem read_nan {b : Nat} (h : isNaN b = true) : ∃ s f, f64.read b = .nan s f := by
  unfold isNaN at h
  cases hr : f64.read b with
  | nan s f => exact ⟨s, f, rfl⟩
  | number s m p => rw [hr] at h; simp [Ieee.Datum.isNaN] at h
  | infinity s => rw [hr] at h; simp [Ieee.Datum.isNaN] at h

theorem cls_cases (b : Nat) : (isNaN b = true ∧ cls b = none) ∨ (isNaN b = false ∧ cls b = some b) := by
  unfold cls
  cases h : isNaN b <;> simp

theorem add_nan {x y : Nat} (h : isNaN x = true ∨ isNaN y = true) : f64.add x y = none := by
  unfold Ieee.Format.add
  rcases h with h | h
  · obtain ⟨s, f, e⟩ := read_nan h; rw [e]; rfl
  · obtain ⟨s, f, e⟩ := read_nan h; rw [e]; cases f64.read x <;> rfl
theorem sub_nan {x y : Nat} (h : isNaN x = true ∨ isNaN y = true) : f64.sub x y = none := by
  unfold Ieee.Format.sub
  rcases h with h | h
  · obtain ⟨s, f, e⟩ := read_nan h; rw [e]; rfl
  · obtain ⟨s, f, e⟩ := read_nan h; rw [e]; cases f64.read x <;> rfl
theorem mul_nan {x y : Nat} (h : isNaN x = true ∨ isNaN y = true) : f64.mul x y = none := by
  unfold Ieee.Format.mul
  rcases h with h | h
  · obtain ⟨s, f, e⟩ := read_nan h; rw [e]; rfl
  · obtain ⟨s, f, e⟩ := read_nan h; rw [e]; cases f64.read x <;> rfl
theorem div_nan {x y : Nat} (h : isNaN x = true ∨ isNaN y = true) : f64.div x y = none := by
  unfold Ieee.Format.div
  rcases h with h | h
  · obtain ⟨s, f, e⟩ := read_nan h; rw [e]; rfl
  · obtain ⟨s, f, e⟩ := read_nan h; rw [e]; cases f64.read x <;> rfl
theorem order_nan {x y : Nat} (h : isNaN x = true ∨ isNaN y = true) : f64.order x y = none := by
  unfold Ieee.Format.order
  rcases h with h | h
  · obtain ⟨s, f, e⟩ := read_nan h; rw [e]; rfl
  · obtain ⟨s, f, e⟩ := read_nan h; rw [e]; cases f64.read x <;> rfl
theorem sqrt_nan {x : Nat} (h : isNaN x = true) : f64.sqrt x = none := by
  unfold Ieee.Format.sqrt
  obtain ⟨s, f, e⟩ := read_nan h; rw [e]; rfl

theorem lift2_cls (f : Nat → Nat → Option Nat) (hf : ∀ x y, isNaN x = true ∨ isNaN y = true → f x y = none) (x y : Nat) :
    lift2 f (cls x) (cls y) = match f x y with | some r => cls r | none => none := by
  rcases cls_cases x with ⟨h1, e1⟩ | ⟨h1, e1⟩
  · rw [e1, hf x y (.inl h1)]; rfl
  · rcases cls_cases y with ⟨h2, e2⟩ | ⟨h2, e2⟩
    · rw [e1, e2, hf x y (.inr h2)]; rfl
    · rw [e1, e2]; rfl

theorem ford_cls (x y : Nat) : ford (cls x) (cls y) = f64.order x y := by
  rcases cls_cases x with ⟨h1, e1⟩ | ⟨h1, e1⟩
  · rw [e1, order_nan (.inl h1)]; rfl
  · rcases cls_cases y with ⟨h2, e2⟩ | ⟨h2, e2⟩
    · rw [e1, e2, order_nan (.inr h2)]; rfl
    · rw [e1, e2]; rfl

/-- Arithmetic of two floats. -/
theorem run_arith (P : Program) (w : World) (op : BinOp) (f : Nat → Nat → Option Nat) (hf : ∀ x y, isNaN x = true ∨ isNaN y = true → f x y = none)
    (hlt : ∀ x y r, f x y = some r → r < 2 ^ 64)
    (x y : Nat) (hop : ∀ t, binOp op t (.float .f64 x) (.float .f64 y) = (match f x y with | some r => pure (.float .f64 r) | none => do pure (.float .f64 (← choose (.nanBits .f64 x y)))))
    (t : TypeId) : ∃ r w', (binOp op t (.float .f64 x) (.float .f64 y)).run P w = .ok (.float .f64 r) w' ∧ r < 2 ^ 64 ∧ cls r = lift2 f (cls x) (cls y) ∧ SameW w w' := by
  rw [hop, lift2_cls f hf]
  cases h : f x y with
  | some r => exact ⟨r, w, rfl, hlt x y r h, rfl, .refl w⟩
  | none =>
    obtain ⟨r, w', h1, h2, h3, h4⟩ := run_nan P w (.nanBits .f64 x y) rfl (fun _ => rfl)
    exact ⟨r, w', by rw [Sem.run_bind, h1]; rfl, h2, h3, h4⟩

theorem run_sqrt (P : Program) (w : World) (x : Nat) : ∃ r w', (Extern.MathSqrt.sqrt #[.float .f64 x]).run P w = .ok (.float .f64 r) w' ∧ r < 2 ^ 64 ∧ cls r = flsqrt (cls x) ∧ SameW w w' := by
  have hs : flsqrt (cls x) = match f64.sqrt x with | some r => cls r | none => none := by
    rcases cls_cases x with ⟨h1, e1⟩ | ⟨h1, e1⟩
    · rw [e1, sqrt_nan h1]; rfl
    · rw [e1]; rfl
  rw [hs]
  unfold Extern.MathSqrt.sqrt
  show ∃ r w', (match f64.sqrt x with | some r => (pure (.float .f64 r) : Sem Value) | none => (do pure (.float .f64 (← choose (.nanBits .f64 x x))))).run P w = .ok (.float .f64 r) w' ∧ _
  cases h : f64.sqrt x with
  | some r => exact ⟨r, w, rfl, f64.sqrt_lt h, rfl, .refl w⟩
  | none =>
    obtain ⟨r, w', h1, h2, h3, h4⟩ := run_nan P w (.nanBits .f64 x x) rfl (fun _ => rfl)
    exact ⟨r, w', by rw [Sem.run_bind, h1]; rfl, h2, h3, h4⟩

theorem run_max2 (P : Program) (w : World) (x y : Nat) (hx : x < 2 ^ 64) (hy : y < 2 ^ 64) : ∃ r w', (Builtin.max2 (.float .f64 x) (.float .f64 y)).run P w = .ok (.float .f64 r) w' ∧ r < 2 ^ 64 ∧ cls r = flmax (cls x) (cls y) ∧ SameW w w' := by
  show ∃ r w', (match f64.order x y with
    | none => (do pure (.float .f64 (← choose (.nanMinMax .f64 true x y))) : Sem Value)
    | some .lt => pure (.float .f64 y)
    | some .gt => pure (.float .f64 x)
    | some .eq => pure (.float .f64 (if (f64.read x).neg then y else x))).run P w = .ok (.float .f64 r) w' ∧ _
  have hm : f64.order x y ≠ none → flmax (cls x) (cls y) = flmax (some x) (some y) ∧ cls x = some x ∧ cls y = some y := by
    intro hne
    rcases cls_cases x with ⟨h1, e1⟩ | ⟨h1, e1⟩
    · exact absurd (order_nan (.inl h1)) hne
    · rcases cls_cases y with ⟨h2, e2⟩ | ⟨h2, e2⟩
      · exact absurd (order_nan (.inr h2)) hne
      · exact ⟨by rw [e1, e2], e1, e2⟩
  cases h : f64.order x y with
  | none =>
    obtain ⟨r, w', h1, h2, h3, h4⟩ := run_nan P w (.nanMinMax .f64 true x y) rfl (fun _ => rfl)
    refine ⟨r, w', by rw [Sem.run_bind, h1]; rfl, h2, ?_, h4⟩
    rw [h3]
    rcases cls_cases x with ⟨h1, e1⟩ | ⟨h1, e1⟩
    · rw [e1]; rfl
    · rcases cls_cases y with ⟨h2, e2⟩ | ⟨h2, e2⟩
      · rw [e1, e2]; rfl
      · rw [e1, e2]; simp [flmax, h]
  | some o =>
    obtain ⟨e0, e1, e2⟩ := hm (by rw [h]; simp)
    rw [e0]
    cases o with
    | lt => exact ⟨y, w, rfl, hy, by simp [flmax, h, e2], .refl w⟩
    | gt => exact ⟨x, w, rfl, hx, by simp [flmax, h, e1], .refl w⟩
    | eq => refine ⟨_, w, rfl, by split <;> assumption, ?_, .refl w⟩
            simp only [flmax, h]; split <;> simp [*]

theorem run_min2 (P : Program) (w : World) (x y : Nat) (hx : x < 2 ^ 64) (hy : y < 2 ^ 64) : ∃ r w', (Builtin.min2 (.float .f64 x) (.float .f64 y)).run P w = .ok (.float .f64 r) w' ∧ r < 2 ^ 64 ∧ cls r = flmin (cls x) (cls y) ∧ SameW w w' := by
  show ∃ r w', (match f64.order x y with
    | none => (do pure (.float .f64 (← choose (.nanMinMax .f64 false x y))) : Sem Value)
    | some .lt => pure (.float .f64 x)
    | some .gt => pure (.float .f64 y)
    | some .eq => pure (.float .f64 (if (f64.read x).neg then x else y))).run P w = .ok (.float .f64 r) w' ∧ _
  have hm : f64.order x y ≠ none → flmin (cls x) (cls y) = flmin (some x) (some y) ∧ cls x = some x ∧ cls y = some y := by
    intro hne
    rcases cls_cases x with ⟨h1, e1⟩ | ⟨h1, e1⟩
    · exact absurd (order_nan (.inl h1)) hne
    · rcases cls_cases y with ⟨h2, e2⟩ | ⟨h2, e2⟩
      · exact absurd (order_nan (.inr h2)) hne
      · exact ⟨by rw [e1, e2], e1, e2⟩
  cases h : f64.order x y with
  | none =>
    obtain ⟨r, w', h1, h2, h3, h4⟩ := run_nan P w (.nanMinMax .f64 false x y) rfl (fun _ => rfl)
    refine ⟨r, w', by rw [Sem.run_bind, h1]; rfl, h2, ?_, h4⟩
    rw [h3]
    rcases cls_cases x with ⟨h1, e1⟩ | ⟨h1, e1⟩
    · rw [e1]; rfl
    · rcases cls_cases y with ⟨h2, e2⟩ | ⟨h2, e2⟩
      · rw [e1, e2]; rfl
      · rw [e1, e2]; simp [flmin, h]
  | some o =>
    obtain ⟨e0, e1, e2⟩ := hm (by rw [h]; simp)
    rw [e0]
    cases o with
    | lt => exact ⟨x, w, rfl, hx, by simp [flmin, h, e1], .refl w⟩
    | gt => exact ⟨y, w, rfl, hy, by simp [flmin, h, e2], .refl w⟩
    | eq => refine ⟨_, w, rfl, by split <;> assumption, ?_, .refl w⟩
            simp only [flmin, h]; split <;> simp [*]

theorem xor_sign (b : Nat) (h : b < 2 ^ 64) : b ^^^ 2 ^ 63 < 2 ^ 64 ∧ (b ^^^ 2 ^ 63) % 2 ^ 63 = b % 2 ^ 63 := by
  refine ⟨Nat.xor_lt_two_pow h (by decide), ?_⟩
  rw [Nat.xor_mod_two_pow]
  simp

theorem isNaN_mod {a b : Nat} (h : a % 2 ^ 63 = b % 2 ^ 63) : isNaN a = isNaN b := by
  have hs : f64.signWeight = 2 ^ 63 := by decide
  unfold isNaN Ieee.Format.read
  rw [hs]
  simp only [h]
  split <;> try rfl
  split <;> try rfl
  split <;> rfl

theorem neg_cls (b : Nat) (h : b < 2 ^ 64) : cls (Op.negFloat .f64 b) = flneg (cls b) ∧ Op.negFloat .f64 b < 2 ^ 64 := by
  have hx := xor_sign b h
  have e : Op.negFloat .f64 b = b ^^^ 2 ^ 63 := rfl
  rw [e]
  refine ⟨?_, hx.1⟩
  have hn := isNaN_mod hx.2
  rcases cls_cases b with ⟨h1, e1⟩ | ⟨h1, e1⟩
  · rw [e1, cls_of_nan (by rw [hn]; exact h1)]; rfl
  · rw [e1]; rfl

theorem nearest_lt' (n : Int) : FloatKind.f64.nearest n < 2 ^ 64 := f64.write_lt (.number (n < 0) n.natAbs 0)

theorem flint_cls {b : Nat} : flint (cls b) = (f64.read b).toInt .zero := by
  rcases cls_cases b with ⟨h1, e1⟩ | ⟨h1, e1⟩
  · rw [e1]; obtain ⟨s, f, e⟩ := read_nan h1; rw [e]; rfl
  · rw [e1]; rfl

end Go.Ev
/- What a struct's == comes to: all cells, one by one. -/
namespace Go.Ev

variable {ρ : Nm}

theorem eqCells_length : ∀ {q : List Bool} {a b : List (AV R)} {x : Bool}, eqCells q a b = some x → a.length = q.length ∧ b.length = q.length
  | [], [], [], _, _ => ⟨rfl, rfl⟩
  | [], [], _ :: _, _, h => by simp [eqCells] at h
  | [], _ :: _, _, _, h => by simp [eqCells] at h
  | t :: q, [], _, _, h => by cases t <;> simp [eqCells] at h
  | t :: q, u :: a, [], _, h => by cases t <;> cases u <;> simp [eqCells] at h
  | true :: q, u :: a, v :: b, x, h => by
    cases u <;> cases v <;> simp only [eqCells] at h <;> first | (cases h; done) | skip
    split at h
    · rename_i e; have := eqCells_length e; simp [this.1, this.2]
    · cases h
  | false :: q, u :: a, v :: b, x, h => by
    simp only [eqCells] at h
    split at h
    · split at h
      · split at h
        · rename_i e; have := eqCells_length e; simp [this.1, this.2]
        · cases h
      · cases h
    · cases h

theorem eqCells_append : ∀ {q1 q2 : List Bool} {a b : List (AV R)} {x : Bool}, eqCells (q1 ++ q2) a b = some x →
    ∃ y z : Bool, eqCells q1 (a.take q1.length) (b.take q1.length) = some y ∧ eqCells q2 (a.drop q1.length) (b.drop q1.length) = some z ∧ x = (y && z)
  | [], q2, a, b, x, h => ⟨true, x, rfl, by simpa using h, rfl⟩
  | t :: q1, q2, [], b, x, h => by cases t <;> simp [eqCells] at h
  | t :: q1, q2, u :: a, [], x, h => by cases t <;> cases u <;> simp [eqCells] at h
  | true :: q1, q2, u :: a, v :: b, x, h => by
    cases u <;> cases v <;> simp only [eqCells, List.cons_append] at h <;> first | (cases h; done) | skip
    split at h
    · rename_i e
      obtain ⟨y, z, h1, h2, h3⟩ := eqCells_append e
      cases h
      refine ⟨_, z, by simp only [List.take_succ_cons, List.length_cons, eqCells, h1]; rfl, by simpa using h2, ?_⟩
      rw [h3]; exact (Bool.and_assoc _ _ _).symm
    · cases h
  | false :: q1, q2, u :: a, v :: b, x, h => by
    simp only [eqCells, List.cons_append] at h
    split at h
    · rename_i k1 z1 k2 z2 e1 e2
      split at h
      · rename_i hk
        split at h
        · rename_i e
          obtain ⟨y, z, h1, h2, h3⟩ := eqCells_append e
          cases h
          refine ⟨_, z, by simp only [List.take_succ_cons, List.length_cons, eqCells, h1, e1, e2, hk, if_true]; rfl, by simpa using h2, ?_⟩
          rw [h3]; exact (Bool.and_assoc _ _ _).symm
        · cases h
      · cases h
    · cases h

theorem feq_order {x y : Nat} : R.feq (cls x) (cls y) = Op.floatEq .f64 x y := by
  show (ford (cls x) (cls y) == some .eq) = (f64.order x y == some .eq)
  rw [ford_cls]

theorem run_info {P : Program} {t : TypeId} {i : TypeInfo} (h : P.info? t = some i) (w : World) : (typeInfo t).run P w = .ok i w := by
  simp [typeInfo, h]

theorem run_size {P : Program} {t : TypeId} {i : TypeInfo} (h : P.info? t = some i) (w : World) : (sizeOf t).run P w = .ok i.size w := by
  simp [sizeOf, run_info h w]

def aggD (d : TypeDesc) : Bool := match d with | .struct _ | .array _ _ => true | _ => false

theorem run_isAgg {P : Program} {t : TypeId} {d : TypeDesc} (h : P.underlying t = some d) (w : World) : (isAgg t).run P w = .ok (aggD d) w := by
  unfold isAgg
  rw [Sem.run_bind, run_underlying h w]
  cases d <;> rfl

/-- A value of a type of so many cells. -/
def mkV (d : TypeDesc) (xs : List Value) : Value := if aggD d then .agg xs.toArray else xs.headD undef

theorem run_part {P : Program} {t : TypeId} {d : TypeDesc} {i : TypeInfo} (hd : P.underlying t = some d) (hi : P.info? t = some i) (xs : Array Value) (off : Nat)
    (hl : off + i.size ≤ xs.size) (h1 : aggD d = false → i.size = 1) (w : World) : (part t xs off).run P w = .ok (mkV d ((xs.toList.drop off).take i.size)) w := by
  unfold part
  rw [Sem.run_bind, run_isAgg hd w]
  simp only [Result.andThen_ok, mkV]
  cases ha : aggD d with
  | true =>
    simp only [if_true, Sem.run_bind, run_size hi w, Result.andThen_ok, Sem.run_pure]
    congr 2
    apply Array.ext'
    simp [List.take_drop]
  | false =>
    have e := h1 ha
    have hlt : off < xs.size := by omega
    simp only [Bool.false_eq_true, if_false]
    rw [Array.getElem?_eq_getElem hlt]
    simp only [Sem.run_pure]
    congr 1
    rw [e]
    have : xs.toList.drop off = xs[off] :: xs.toList.drop (off + 1) := by
      rw [List.drop_eq_getElem_cons (by simpa using hlt)]; simp
    rw [this]; rfl

theorem VR.z_inv {a : AV R} {v : Value} {k : IntKind} {n : Int} (h : VR ρ a v) (hz : a.z = some (k, n)) : v = .int k n ∧ okInt k n := by
  cases a <;> simp only [AV.z] at hz <;> first | (cases hz; done) | skip
  · obtain ⟨rfl, h2⟩ := h; cases hz; exact ⟨rfl, h2⟩
  · obtain ⟨rfl, h2⟩ := h; cases hz; exact ⟨rfl, h2⟩

theorem and_true' (k s : Bool) (h : some (R.band k (R.bc true)) = some s) : s = k := by
  have h' : (k && true) = s := Option.some.inj h
  rw [← h', Bool.and_true]

theorem eq_float {P : Program} {t : TypeId} (w : World) (d : Nat) {a b : AV R} {va vb : Value} {r : Bool} (ht : P.underlying t = some (.float .f64))
    (ha : VR ρ a va) (hb : VR ρ b vb) (h : eqCells [true] [a] [b] = some r) : (Op.equalIn (d + 1) t va vb).run P w = .ok r w := by
  cases a <;> cases b <;> simp only [eqCells] at h <;> first | (cases h; done) | skip
  have e := and_true' _ _ h
  obtain ⟨p, rfl, hp, rfl⟩ := ha
  obtain ⟨q, rfl, hq, rfl⟩ := hb
  rw [show r = Op.floatEq .f64 p q from e.trans feq_order]
  simp only [Op.equalIn, Sem.run_bind, run_underlying ht, Result.andThen_ok, if_true, Sem.run_pure]

theorem eq_int {P : Program} {t : TypeId} {k : IntKind} (w : World) (d : Nat) {a b : AV R} {va vb : Value} {r : Bool} (ht : P.underlying t = some (.int k))
    (ha : VR ρ a va) (hb : VR ρ b vb) (h : eqCells [false] [a] [b] = some r) : (Op.equalIn (d + 1) t va vb).run P w = .ok r w := by
  simp only [eqCells] at h
  split at h
  · rename_i k1 z1 k2 z2 e1 e2
    split at h
    · rename_i hk
      subst hk
      have e := and_true' _ _ h
      obtain ⟨rfl, _⟩ := VR.z_inv ha e1
      obtain ⟨rfl, _⟩ := VR.z_inv hb e2
      rw [e]
      simp only [Op.equalIn, Sem.run_bind, run_underlying ht, Result.andThen_ok, if_true, Sem.run_pure]
    · cases h
  · cases h

theorem flatFs_pre {P : Program} {sz : TypeId → Option (List Bool)} : ∀ {fs : List Field} {acc q : List Bool}, flatFs P sz fs acc = some q → ∃ q', q = acc ++ q'
  | [], acc, q, h => ⟨[], by simp only [flatFs] at h; cases h; simp⟩
  | f :: r, acc, q, h => by
    simp only [flatFs] at h
    split at h
    · split at h
      · obtain ⟨q', e⟩ := flatFs_pre h; exact ⟨_ ++ q', e.trans (List.append_assoc _ _ _)⟩
      · cases h
    · cases h

theorem eq_fields {P : Program} (w : World) (d : Nat) (sz : TypeId → Option (List Bool)) (xs ys : Array Value) (as bs : List (AV R)) (ha : VRs ρ as xs.toList) (hb : VRs ρ bs ys.toList)
    (hone : ∀ t q, sz t = some q → ∃ dd, P.underlying t = some dd ∧ (aggD dd = false → q.length = 1) ∧
      ∀ (as bs : List (AV R)) (vs ws : List Value) (r : Bool), VRs ρ as vs → VRs ρ bs ws → eqCells q as bs = some r → (Op.equalIn d t (mkV dd vs) (mkV dd ws)).run P w = .ok r w) :
    ∀ (fs : List Field) (acc q : List Bool) (r : Bool), flatFs P sz fs acc = some (acc ++ q) → eqCells q (as.drop acc.length) (bs.drop acc.length) = some r →
      acc.length + q.length = as.length → as.length = bs.length →
      (Op.eqFields d xs ys fs).run P w = .ok r w
  | [], acc, q, r, hf, he, _, _ => by
    simp only [flatFs] at hf
    have : q = [] := by have := Option.some.inj hf; simpa using this
    subst this
    have hl := eqCells_length he
    have e1 : as.drop acc.length = [] := List.eq_nil_of_length_eq_zero (by simpa using hl.1)
    have e2 : bs.drop acc.length = [] := List.eq_nil_of_length_eq_zero (by simpa using hl.2)
    rw [e1, e2] at he
    have : r = true := (Option.some.inj he).symm
    simp only [Op.eqFields, Sem.run_pure, this]
  | f :: fs, acc, q, r, hf, he, hl1, hl2 => by
    simp only [flatFs] at hf
    split at hf
    · rename_i s i hs hi
      split at hf
      · rename_i hc
        simp only [Bool.and_eq_true, bne_iff_ne, ne_eq, beq_iff_eq] at hc
        obtain ⟨⟨hn, hoff⟩, hsz⟩ := hc
        obtain ⟨q', hq'⟩ := flatFs_pre hf
        have hqq : q = s ++ q' := by rw [List.append_assoc] at hq'; exact List.append_cancel_left hq'
        subst hqq
        obtain ⟨y, z, h1, h2, h3⟩ := eqCells_append he
        obtain ⟨dd, hdd, hd1, hgo⟩ := hone _ _ hs
        have la : as.length = xs.size := by simpa using ha.length
        have lb : bs.length = ys.size := by simpa using hb.length
        have hlen : (s ++ q').length = s.length + q'.length := List.length_append
        have px := run_part hdd hi xs f.offset (by rw [hoff, hsz]; omega) (fun h => by rw [hsz]; exact hd1 h) w
        have py := run_part hdd hi ys f.offset (by rw [hoff, hsz]; omega) (fun h => by rw [hsz]; exact hd1 h) w
        have hr := hgo _ _ _ _ _ (VRs.take s.length (VRs.drop acc.length ha)) (VRs.take s.length (VRs.drop acc.length hb)) h1
        rw [hoff, hsz] at px py
        have ih := eq_fields w d sz xs ys as bs ha hb hone fs (acc ++ s) q' z (by rw [List.append_assoc]; exact hf)
          (by simpa [List.drop_drop] using h2) (by simp; omega) hl2
        simp only [Op.eqFields, ne_eq, hn, not_false_eq_true, if_true, Sem.run_bind, hoff, px, py, Result.andThen_ok, hr]
        cases y with
        | true => simp only [Bool.not_true, Bool.false_eq_true, if_false]; rw [ih, h3]; rfl
        | false => simp only [Bool.not_false, if_true, Sem.run_pure, h3]; rfl
      · cases hf
    · cases hf

theorem eq_flat {P : Program} (w : World) : ∀ (n d : Nat) (t : TypeId) (q : List Bool), flatK P n t = some q → n ≤ d →
    ∃ dd, P.underlying t = some dd ∧ (aggD dd = false → q.length = 1) ∧
      ∀ (as bs : List (AV R)) (vs ws : List Value) (r : Bool), VRs ρ as vs → VRs ρ bs ws → eqCells q as bs = some r → (Op.equalIn d t (mkV dd vs) (mkV dd ws)).run P w = .ok r w
  | 0, _, _, _, h, _ => by simp [flatK] at h
  | n + 1, 0, _, _, _, hd => by omega
  | n + 1, d + 1, t, q, h, hd => by
    simp only [flatK] at h
    split at h
    · rename_i hu
      cases h
      refine ⟨_, hu, fun _ => rfl, ?_⟩
      intro as bs vs ws r h1 h2 he
      have hl := eqCells_length he
      obtain ⟨a, rfl⟩ := List.length_eq_one_iff.1 hl.1
      obtain ⟨b, rfl⟩ := List.length_eq_one_iff.1 hl.2
      obtain ⟨va, _, rfl, ha, h1'⟩ := h1.cons_inv
      obtain ⟨vb, _, rfl, hb, h2'⟩ := h2.cons_inv
      exact eq_float w d hu ha hb he
    · rename_i k hu
      cases h
      refine ⟨_, hu, fun _ => rfl, ?_⟩
      intro as bs vs ws r h1 h2 he
      have hl := eqCells_length he
      obtain ⟨a, rfl⟩ := List.length_eq_one_iff.1 hl.1
      obtain ⟨b, rfl⟩ := List.length_eq_one_iff.1 hl.2
      obtain ⟨va, _, rfl, ha, h1'⟩ := h1.cons_inv
      obtain ⟨vb, _, rfl, hb, h2'⟩ := h2.cons_inv
      exact eq_int w d hu ha hb he
    · rename_i fs hu
      split at h
      · cases h
      · rename_i hst
        refine ⟨_, hu, fun hc => by simp [aggD] at hc, ?_⟩
        intro as bs vs ws r h1 h2 he
        have hfo : P.fieldsOf t = fs := by unfold Program.fieldsOf; rw [hu]
        have hl := eqCells_length he
        show (Op.equalIn (d + 1) t (.agg vs.toArray) (.agg ws.toArray)).run P w = _
        rw [run_equalIn_struct w d t _ _ (by rw [hfo]; exact hu) (by simpa using hst), hfo]
        exact eq_fields w d (flatK P n) vs.toArray ws.toArray as bs (by simpa using h1) (by simpa using h2)
          (fun t' q' h' => eq_flat w n d t' q' h' (by omega)) fs.toList [] q r (by simpa using h) (by simpa using he) (by simp; omega) (by omega)
    · cases h

/-- Such a type asks for no guard at ==. -/
theorem flat_noGuard {P : Program} : ∀ (n d : Nat) (t : TypeId) (q : List Bool), flatK P n t = some q → n ≤ d → P.eqGuardType d t = false
  | 0, _, _, _, h, _ => by simp [flatK] at h
  | n + 1, 0, _, _, _, hd => by omega
  | n + 1, d + 1, t, q, h, hd => by
    simp only [flatK] at h
    unfold Program.eqGuardType
    split at h
    · rename_i hu; rw [hu]
    · rename_i k hu; rw [hu]
    · rename_i fs hu
      rw [hu]
      split at h
      · cases h
      · have key : ∀ (l : List Field) (acc q : List Bool), flatFs P (flatK P n) l acc = some q → ∀ f ∈ l, P.eqGuardType d f.type = false := by
          intro l
          induction l with
          | nil => intro _ _ _ f hf; cases hf
          | cons g r ih =>
            intro acc q hh f hf
            simp only [flatFs] at hh
            split at hh
            · rename_i s i hs hi
              split at hh
              · rcases List.mem_cons.1 hf with rfl | hf
                · exact flat_noGuard n d _ _ hs (by omega)
                · exact ih _ _ hh f hf
              · cases hh
            · cases hh
        have hk := key fs.toList [] q h
        show (fs.any fun f => f.name != "_" && P.eqGuardType d f.type) = false
        rw [← Array.any_toList, List.any_eq_false]
        intro f hf
        simp [hk f hf]
    · cases h

end Go.Ev
/- Great arrays: rows of one cell each, and what they are held against. -/
namespace Go.Ev

theorem rowR_len {k : CK} : ∀ {l : Row} {vs : List Value}, rowR k l vs → l.length = vs.length
  | [], [], _ => rfl
  | [], _ :: _, h => (h : False).elim
  | [] :: _, _, h => by cases h
  | [_] :: _, [], h => (h : False).elim
  | (_ :: _ :: _) :: _, [], h => (h : False).elim
  | (_ :: _ :: _) :: _, _ :: _, h => (h : False).elim
  | [_] :: _, _ :: _, ⟨_, h⟩ => by simp [rowR_len h]

theorem rowR_cons {k : CK} {e : List Cell} {l : Row} {vs : List Value} (h : rowR k (e :: l) vs) : ∃ c v ws, e = [c] ∧ vs = v :: ws ∧ cellR k c v ∧ rowR k l ws := by
  match e, vs, h with
  | [c], v :: ws, ⟨h1, h2⟩ => exact ⟨c, v, ws, rfl, rfl, h1, h2⟩
  | [], _, h => cases h
  | [_], [], h => exact (h : False).elim
  | _ :: _ :: _, [], h => exact (h : False).elim
  | _ :: _ :: _, _ :: _, h => exact (h : False).elim

theorem rowR_get {k : CK} : ∀ {l : Row} {vs : List Value} {i : Nat}, rowR k l vs → i < l.length → ∃ c v, l[i]? = some [c] ∧ vs[i]? = some v ∧ cellR k c v
  | [], _, _, _, hi => by simp at hi
  | e :: l, vs, i, h, hi => by
    obtain ⟨c, v, ws, rfl, rfl, h1, h2⟩ := rowR_cons h
    cases i with
    | zero => exact ⟨c, v, rfl, rfl, h1⟩
    | succ i => simpa using rowR_get (i := i) h2 (by simpa using hi)

theorem cellA_R {ρ : Nm} {k : CK} {c : Cell} {v : Value} (h : cellR k c v) : k.fitC c ∧ VR ρ (cellA k c) v := by
  cases k <;> cases c <;> first | (exact (h : False).elim) | skip
  · exact ⟨trivial, h⟩
  · exact ⟨trivial, h⟩
  · exact ⟨h.2, h⟩

theorem cellR_A {ρ : Nm} {k : CK} {c : Cell} {v : Value} (hf : k.fitC c) (h : VR ρ (cellA k c) v) : cellR k c v := by
  cases k <;> cases c <;> first | (exact (hf : False).elim) | exact h

theorem rowR_rowA {ρ : Nm} {k : CK} : ∀ {l : Row} {vs : List Value}, rowR k l vs → (∀ e ∈ l, fitE [k] e) ∧ VRs ρ (rowA [k] l) vs
  | [], [], _ => ⟨fun _ h => (nomatch h), trivial⟩
  | [], _ :: _, h => (h : False).elim
  | e :: l, vs, h => by
    obtain ⟨c, v, ws, rfl, rfl, h1, h2⟩ := rowR_cons h
    obtain ⟨i1, i2⟩ := rowR_rowA (ρ := ρ) h2
    obtain ⟨j1, j2⟩ := cellA_R (ρ := ρ) h1
    refine ⟨fun e he => ?_, ?_⟩
    · rcases List.mem_cons.1 he with rfl | he
      · exact ⟨j1, trivial⟩
      · exact i1 e he
    · have : rowA [k] ([c] :: l) = cellA k c :: rowA [k] l := by simp [rowA, elemA]
      rw [this]; exact ⟨j2, i2⟩

theorem rowA_rowR {ρ : Nm} {k : CK} : ∀ {l : Row} {vs : List Value}, (∀ e ∈ l, fitE [k] e) → VRs ρ (rowA [k] l) vs → rowR k l vs
  | [], vs, _, h => by
    have := h.nil_inv; subst this; trivial
  | e :: l, vs, hf, h => by
    have he := hf e List.mem_cons_self
    match e, he with
    | [c], ⟨hc, _⟩ =>
      have e1 : rowA [k] ([c] :: l) = cellA k c :: rowA [k] l := by simp [rowA, elemA]
      rw [e1] at h
      obtain ⟨v, ws, rfl, h1, h2⟩ := h.cons_inv
      exact ⟨cellR_A hc h1, rowA_rowR (fun x hx => hf x (List.mem_cons_of_mem _ hx)) h2⟩
    | _ :: _ :: _, ⟨_, h'⟩ => exact (h' : False).elim

theorem toCV_z {ρ : Nm} {k : IntKind} {a : AV R} {c : Cell} {v : Value} (h : toCV (D := R) (.z k) a = some c) (hv : VR ρ a v) : cellR (.z k) c v := by
  cases a <;> simp only [toCV] at h <;> first | (cases h; done) | skip
  all_goals split at h
  all_goals first | (cases h; done) | skip
  all_goals rename_i e
  all_goals subst e
  all_goals cases h
  all_goals exact hv

theorem toEls_rowR {ρ : Nm} {k : IntKind} : ∀ {as : List (AV R)} {es : Row} {vs : List Value}, toEls (D := R) k as = some es → VRs ρ as vs → rowR (.z k) es vs ∧ es.length = as.length
  | [], es, vs, h, hv => by
    simp only [toEls] at h; cases h
    have := hv.nil_inv; subst this; exact ⟨trivial, rfl⟩
  | a :: as, es, vs, h, hv => by
    simp only [toEls] at h
    split at h
    · rename_i c l h1 h2
      cases h
      obtain ⟨v, ws, rfl, k1, k2⟩ := hv.cons_inv
      obtain ⟨i1, i2⟩ := toEls_rowR h2 k2
      exact ⟨⟨toCV_z h1 k1, i1⟩, by simp [i2]⟩
    · cases h

theorem zeros_rowR {ρ : Nm} {k : IntKind} : ∀ {z : List (AV R)} {vs : List Value}, z.all (isZero k) = true → VRs ρ z vs → rowR (.z k) (List.replicate z.length [.z (0 : Int)]) vs
  | [], vs, _, hv => by have := hv.nil_inv; subst this; trivial
  | a :: z, vs, h, hv => by
    simp only [List.all_cons, Bool.and_eq_true] at h
    obtain ⟨v, ws, rfl, k1, k2⟩ := hv.cons_inv
    refine ⟨?_, zeros_rowR h.2 k2⟩
    have h1 := h.1
    unfold isZero at h1
    split at h1
    · simp only [Bool.and_eq_true, beq_iff_eq] at h1
      obtain ⟨rfl, rfl⟩ := h1
      exact k1
    · cases h1

theorem bigT_spec {P : Program} {t : TypeId} {len : Nat} {k : IntKind} (h : bigT P t = some (len, k)) :
    ∃ e j i, P.underlying t = some (.array len e) ∧ P.underlying e = some (.int k) ∧ P.info? e = some j ∧ j.size = 1 ∧ P.info? t = some i ∧ i.size = len ∧ 64 ≤ len := by
  unfold bigT at h
  split at h
  · rename_i len' e hu
    split at h
    · rename_i hl
      split at h
      · rename_i k' j i h1 h2 h3
        split at h
        · rename_i hs
          cases h
          exact ⟨e, j, i, hu, h1, h2, hs.1, h3, hs.2, hl.1⟩
        · cases h
      · cases h
    · cases h
  · cases h

theorem eqUpto_all (l m : Row) : ∀ n, eqUpto (D := R) l m n = (List.range n).all fun i => R.zeq (R.lz l (i : Int) 0) (R.lz m (i : Int) 0)
  | 0 => rfl
  | n + 1 => by
    rw [List.range_succ, List.all_append]
    simp only [eqUpto, eqUpto_all l m n, List.all_cons, List.all_nil, Bool.and_true]

theorem lz_cell {l : Row} {i : Nat} {x : Int} (h : l[i]? = some [.z x]) : R.lz l (i : Int) 0 = x := by
  show Row.int l _ _ = _
  unfold Row.int Row.cell
  rw [Int.toNat_natCast, h]; rfl

/-- Great arrays are held against each other number by number. -/
theorem arr_eq {P : Program} (w : World) (d : Nat) {t e : TypeId} {len : Nat} {k : IntKind} {j : TypeInfo} (hu : P.underlying t = some (.array len e)) (hk : P.underlying e = some (.int k)) (hj : P.info? e = some j) (hs : j.size = 1)
    {l m : Row} {xs ys : Array Value} (hl : l.length = len) (hm : m.length = len) (hx : rowR (.z k) l xs.toList) (hy : rowR (.z k) m ys.toList) :
    (Op.equalIn (d + 1 + 1) t (.agg xs) (.agg ys)).run P w = .ok (eqUpto (D := R) l m len) w := by
  rw [run_equalIn_array w (d + 1) xs ys hu hj, eqUpto_all]
  have hc : P.cellsOf e = 1 := by unfold Program.cellsOf; rw [hj]; exact hs
  rw [hc]
  have hag : aggD (.int k) = false := rfl
  have go : ∀ is : List Nat, (∀ i ∈ is, i < len) → (Op.eqItems (d + 1) e 1 xs ys is).run P w = .ok (is.all fun i => R.zeq (R.lz l (i : Int) 0) (R.lz m (i : Int) 0)) w := by
    intro is
    induction is with
    | nil => intro _; simp [Op.eqItems]
    | cons i is ih =>
      intro hi
      have hi0 := hi i List.mem_cons_self
      obtain ⟨c, v, a1, a2, a3⟩ := rowR_get hx (i := i) (by omega)
      obtain ⟨c', v', b1, b2, b3⟩ := rowR_get hy (i := i) (by omega)
      cases c <;> first | (exact (a3 : False).elim) | skip
      cases c' <;> first | (exact (b3 : False).elim) | skip
      rename_i x y
      obtain ⟨rfl, _⟩ := a3
      obtain ⟨rfl, _⟩ := b3
      have p1 : (part e xs (i * 1)).run P w = .ok (.int k x) w := by
        have hv1' : xs[i * 1]? = some (.int k x) := by rw [Nat.mul_one, ← Array.getElem?_toList]; exact a2
        unfold part
        simp only [Sem.run_bind, run_isAgg hk w, hag, Bool.false_eq_true, if_false, Result.andThen_ok, hv1', Sem.run_pure]
      have p2 : (part e ys (i * 1)).run P w = .ok (.int k y) w := by
        have hv1' : ys[i * 1]? = some (.int k y) := by rw [Nat.mul_one, ← Array.getElem?_toList]; exact b2
        unfold part
        simp only [Sem.run_bind, run_isAgg hk w, hag, Bool.false_eq_true, if_false, Result.andThen_ok, hv1', Sem.run_pure]
      have hall : ((i :: is).all fun i => R.zeq (R.lz l (i : Int) 0) (R.lz m (i : Int) 0)) = ((x == y) && is.all fun i => R.zeq (R.lz l (i : Int) 0) (R.lz m (i : Int) 0)) := by
        rw [List.all_cons, lz_cell a1, lz_cell b1]
      rw [hall]
      simp only [Op.eqItems, Sem.run_bind, p1, p2, Result.andThen_ok, run_equalIn_int w d e k k x y hk]
      cases hxy : (x == y)
      · simp
      · simpa using ih fun i hi' => hi i (List.mem_cons_of_mem _ hi')
  exact go _ fun i hi => List.mem_range.1 hi

end Go.Ev
/- The operations that look at no memory. -/
namespace Go.Ev

variable {ρ : Nm}

/-- The word comes to a value that fits, and memory stays. -/
def Pure1 (P : Program) (s : Sem Value) (w : World) (ρ : Nm) (nx : Nat) (out : Out R) : Prop :=
  out.d = [] ∧ out.nx = nx ∧ ∃ v w', s.run P w = .ok v w' ∧ VR ρ out.v v ∧ SameW w w'

theorem Pure1.mk {P : Program} {s : Sem Value} {w w' : World} {nx : Nat} {a : AV R} {v : Value} {out : Out R} (ho : (val nx a).run = some out) (hr : s.run P w = .ok v w') (hv : VR ρ a v) (hw : SameW w w') :
    Pure1 P s w ρ nx out := by
  have : out = ⟨a, [], nx⟩ := (Option.some.inj ho).symm
  subst this
  exact ⟨rfl, rfl, v, w', hr, hv, hw⟩

theorem Pure1.mkO {P : Program} {s : Sem Value} {w w' : World} {nx : Nat} {why : String} {a : Option (AV R)} {out : Out R} (ho : (valO nx why a).run = some out)
    (hr : ∀ b, a = some b → ∃ v, s.run P w = .ok v w' ∧ VR ρ b v) (hw : SameW w w') : Pure1 P s w ρ nx out := by
  cases a with
  | none => cases ho
  | some b => obtain ⟨v, h1, h2⟩ := hr b rfl; exact .mk ho h1 h2 hw

theorem run_choose_some {α : Type} {t e : T Bool α} {b : Bool} {r : α} (h : (T.node b t e).run = some r) : (b = true ∧ t.run = some r) ∨ (b = false ∧ e.run = some r) := by
  cases b
  · exact .inr ⟨rfl, h⟩
  · exact .inl ⟨rfl, h⟩

theorem okInt_wrap (k : IntKind) (n : Int) : okInt k (k.wrap n) := by
  unfold okInt IntKind.wrap IntKind.min IntKind.max
  cases k <;> simp [IntKind.signed, IntKind.bits] <;> omega

theorem okInt_tmod {k : IntKind} {x y : Int} (h : okInt k x) : okInt k (x.tmod y) := by
  have hz : k.min ≤ 0 ∧ 0 ≤ k.max := by cases k <;> decide
  unfold okInt at *
  have h1 : (x.tmod y).natAbs ≤ x.natAbs := by
    rw [Int.natAbs_tmod]; exact Nat.mod_le _ _
  rcases Int.le_total 0 x with hx | hx
  · have := Int.tmod_nonneg y hx
    omega
  · have : x.tmod y ≤ 0 := by
      have h3 := Int.tmod_nonneg y (a := -x) (by omega)
      rw [Int.neg_tmod] at h3; omega
    omega

theorem binOp_float (P : Program) (w : World) (nx : Nat) (op : BinOp) (t : TypeId) (x y : Nat) (out : Out R) (h : (floatOp (D := R) nx op (cls x) (cls y)).run = some out) :
    Pure1 P (binOp op t (.float .f64 x) (.float .f64 y)) w ρ nx out := by
  have ar : ∀ (f : Nat → Nat → Option Nat), (∀ x y, isNaN x = true ∨ isNaN y = true → f x y = none) → (∀ x y r, f x y = some r → r < 2 ^ 64) →
      (∀ t, binOp op t (.float .f64 x) (.float .f64 y) = (match f x y with | some r => pure (.float .f64 r) | none => do pure (.float .f64 (← choose (.nanBits .f64 x y))))) →
      (val (D := R) nx (.fl (lift2 f (cls x) (cls y)))).run = some out → Pure1 P (binOp op t (.float .f64 x) (.float .f64 y)) w ρ nx out := by
    intro f hf hlt hop ho
    obtain ⟨r, w', h1, h2, h3, h4⟩ := run_arith P w op f hf hlt x y hop t
    exact .mk ho h1 ⟨r, rfl, h2, h3⟩ h4
  have cm : ∀ (b : Bool), (∀ t, binOp op t (.float .f64 x) (.float .f64 y) = pure (.bool b)) → (val (D := R) nx (.sb b)).run = some out → Pure1 P (binOp op t (.float .f64 x) (.float .f64 y)) w ρ nx out := by
    intro b hop ho
    exact .mk ho (by rw [hop]; rfl) rfl (.refl w)
  cases op <;> simp only [floatOp] at h <;> first | (cases h; done) | skip
  case add => exact ar f64.add (fun _ _ => add_nan) (fun _ _ _ h => f64.add_lt h) (fun _ => by show Op.floatArith .add .f64 x y = _; unfold Op.floatArith; simp only [pure_bind]; rfl) h
  case sub => exact ar f64.sub (fun _ _ => sub_nan) (fun _ _ _ h => f64.sub_lt h) (fun _ => by show Op.floatArith .sub .f64 x y = _; unfold Op.floatArith; simp only [pure_bind]; rfl) h
  case mul => exact ar f64.mul (fun _ _ => mul_nan) (fun _ _ _ h => f64.mul_lt h) (fun _ => by show Op.floatArith .mul .f64 x y = _; unfold Op.floatArith; simp only [pure_bind]; rfl) h
  case quo => exact ar f64.div (fun _ _ => div_nan) (fun _ _ _ h => f64.div_lt h) (fun _ => by show Op.floatArith .quo .f64 x y = _; unfold Op.floatArith; simp only [pure_bind]; rfl) h
  all_goals
    refine cm _ (fun _ => ?_) h
    simp only [binOp, ne_eq, not_true_eq_false, if_false, Op.floatCmp, ford_cls]
    rfl

theorem binOp_intK (P : Program) (w : World) (nx : Nat) (op : BinOp) (t : TypeId) (k : IntKind) (x y : Int) (hx : okInt k x) (out : Out R) (h : (intOpK (D := R) nx op k x y).run = some out) :
    Pure1 P (binOp op t (.int k x) (.int k y)) w ρ nx out := by
  cases op <;> simp only [intOpK] at h <;> first | (cases h; done) | skip
  case add => exact .mk h (by simp only [binOp, ne_eq, not_true_eq_false, if_false, Op.intArith]; rfl) ⟨rfl, okInt_wrap _ _⟩ (.refl w)
  case sub => exact .mk h (by simp only [binOp, ne_eq, not_true_eq_false, if_false, Op.intArith]; rfl) ⟨rfl, okInt_wrap _ _⟩ (.refl w)
  case mul => exact .mk h (by simp only [binOp, ne_eq, not_true_eq_false, if_false, Op.intArith]; rfl) ⟨rfl, okInt_wrap _ _⟩ (.refl w)
  all_goals try exact .mk h (by simp only [binOp, ne_eq, not_true_eq_false, if_false, Op.intCmp]; rfl) rfl (.refl w)
  all_goals
    split at h
    · cases h
    · rename_i hy
      refine .mk h (v := .int k _) (w' := w) ?_ ⟨rfl, ?_⟩ (.refl w)
      rotate_left
      first | exact okInt_wrap _ _ | exact okInt_tmod hx
      simp [binOp, Op.intDiv, hy]

theorem binOp_intS (P : Program) (w : World) (nx : Nat) (op : BinOp) (t : TypeId) (k : IntKind) (x y : Int) (hx : okInt k x) (out : Out R) (h : (intOpS (D := R) nx op k x y).run = some out) :
    Pure1 P (binOp op t (.int k x) (.int k y)) w ρ nx out := by
  cases op <;> simp only [intOpS] at h <;> first | (cases h; done) | skip
  case add => exact .mk h (by simp only [binOp, ne_eq, not_true_eq_false, if_false, Op.intArith]; rfl) ⟨rfl, okInt_wrap _ _⟩ (.refl w)
  case sub => exact .mk h (by simp only [binOp, ne_eq, not_true_eq_false, if_false, Op.intArith]; rfl) ⟨rfl, okInt_wrap _ _⟩ (.refl w)
  case mul => exact .mk h (by simp only [binOp, ne_eq, not_true_eq_false, if_false, Op.intArith]; rfl) ⟨rfl, okInt_wrap _ _⟩ (.refl w)
  all_goals try exact .mk h (by simp only [binOp, ne_eq, not_true_eq_false, if_false, Op.intCmp]; rfl) rfl (.refl w)
  all_goals
    rcases run_choose_some h with ⟨hb, h⟩ | ⟨hb, h⟩
    · cases h
    · have hy : y ≠ 0 := by
        intro e; subst e; cases hb
      refine .mk h (v := .int k _) (w' := w) ?_ ⟨rfl, ?_⟩ (.refl w)
      rotate_left
      first | exact okInt_wrap _ _ | exact okInt_tmod hx
      simp [binOp, Op.intDiv, hy]

theorem eqGuard_free (P : Program) (w : World) (op : BinOp) (t : TypeId) (x y : Operand) (a b : Value) (h1 : ¬ (a = .nilIface ∧ b = .nilIface)) (h2 : (∃ xs ys, a = .agg xs ∧ b = .agg ys) → P.eqGuardType P.depth t = false) :
    (eqGuard op t x y a b).run P w = .ok () w := by
  unfold eqGuard
  cases hop : !(op matches .eql | .neq) with
  | true => simp
  | false =>
    simp only [Bool.false_eq_true, if_false]
    cases a <;> cases b <;> first
      | (exfalso; exact h1 ⟨rfl, rfl⟩)
      | (simp [h2 ⟨_, _, rfl, rfl⟩]; done)
      | rfl

theorem depth_le (P : Program) : 5 ≤ P.depth := by unfold Program.depth Made.depth; omega

theorem run_eql {P : Program} (w : World) {t : TypeId} {vx vy : Value} {r : Bool} (hb : binOp .eql t vx vy = (do pure (.bool (← Op.equal t vx vy)))) (h : (Op.equalIn (9999 + 1) t vx vy).run P w = .ok r w) :
    (binOp .eql t vx vy).run P w = .ok (.bool r) w := by
  have h' : (Op.equal t vx vy).run P w = .ok r w := h
  rw [hb, Sem.run_bind, h']; rfl

theorem run_neq {P : Program} (w : World) {t : TypeId} {vx vy : Value} {r : Bool} (hb : binOp .neq t vx vy = (do pure (.bool (!(← Op.equal t vx vy))))) (h : (Op.equalIn (9999 + 1) t vx vy).run P w = .ok r w) :
    (binOp .neq t vx vy).run P w = .ok (.bool (!r)) w := by
  have h' : (Op.equal t vx vy).run P w = .ok r w := h
  rw [hb, Sem.run_bind, h']; rfl

theorem equalIn_bool {P : Program} (w : World) (d : Nat) {t : TypeId} (a b : Bool) (hu : P.underlying t = some .bool) : (Op.equalIn (d + 1) t (.bool a) (.bool b)).run P w = .ok (a == b) w := by
  simp only [Op.equalIn, Sem.run_bind, run_underlying hu, Result.andThen_ok, Sem.run_pure]

theorem equalIn_nil {P : Program} (w : World) (d : Nat) {t e : TypeId} (b : Option Addr) (hu : P.underlying t = some (.pointer e)) : (Op.equalIn (d + 1) t (.pointer none) (.pointer b)).run P w = .ok b.isNone w := by
  simp only [Op.equalIn, Sem.run_bind, run_underlying hu, Result.andThen_ok, Sem.run_pure]

theorem equalIn_nil' {P : Program} (w : World) (d : Nat) {t e : TypeId} (a : Addr) (hu : P.underlying t = some (.pointer e)) : (Op.equalIn (d + 1) t (.pointer (some a)) (.pointer none)).run P w = .ok false w := by
  simp only [Op.equalIn, Sem.run_bind, run_underlying hu, Result.andThen_ok, Sem.run_pure]

theorem under_slice {P : Program} {t : TypeId} (h : isSliceT P t = true) : ∃ e, P.underlying t = some (.slice e) := by
  revert h
  unfold isSliceT
  cases P.underlying t with
  | none => simp
  | some d => cases d <;> simp

theorem equalIn_sl {P : Program} (w : World) (d : Nat) {t e : TypeId} (a : Addr) (n c : Nat) (hu : P.underlying t = some (.slice e)) : (Op.equalIn (d + 1) t (.slice (some a) n c) (.slice none 0 0)).run P w = .ok false w := by
  simp only [Op.equalIn, Sem.run_bind, run_underlying hu, Result.andThen_ok, Sem.run_pure]

theorem equalIn_sl' {P : Program} (w : World) (d : Nat) {t e : TypeId} (hu : P.underlying t = some (.slice e)) : (Op.equalIn (d + 1) t (.slice none 0 0) (.slice none 0 0)).run P w = .ok true w := by
  simp only [Op.equalIn, Sem.run_bind, run_underlying hu, Result.andThen_ok, Sem.run_pure]
  rfl

theorem under_bool {P : Program} {t : TypeId} (h : isBoolT P t = true) : P.underlying t = some .bool := by
  revert h
  unfold isBoolT
  cases P.underlying t with
  | none => simp
  | some d => cases d <;> simp

theorem under_ptr {P : Program} {t : TypeId} (h : isPtrT P t = true) : ∃ e, P.underlying t = some (.pointer e) := by
  revert h
  unfold isPtrT
  cases P.underlying t with
  | none => simp
  | some d => cases d <;> simp

section
variable (P : Program) (w : World) (nx : Nat) (op : BinOp) (t : TypeId) (xo yo : Operand)

theorem strip_guard {vx vy : Value} {out : Out R} (g1 : ¬ (vx = .nilIface ∧ vy = .nilIface)) (g2 : (∃ xs ys, vx = .agg xs ∧ vy = .agg ys) → P.eqGuardType P.depth t = false)
    (h : Pure1 P (binOp op t vx vy) w ρ nx out) : Pure1 P (do eqGuard op t xo yo vx vy; binOp op t vx vy) w ρ nx out := by
  obtain ⟨p1, p2, v, w', p3, p4, p5⟩ := h
  refine ⟨p1, p2, v, w', ?_, p4, p5⟩
  rw [Sem.run_bind, eqGuard_free P w op t xo yo vx vy g1 g2]; exact p3

theorem binOp_bools (a b : Bool) (out : Out R) {r s : AV R} (hr : VR ρ r (.bool (a == b))) (hs : VR ρ s (.bool (!(a == b)))) (hu : isBoolT P t = true)
    (h : (match op with | .eql => val nx r | .neq => val nx s | _ => (.fail "bool op" : TO R)).run = some out) : Pure1 P (binOp op t (.bool a) (.bool b)) w ρ nx out := by
  have hu' := under_bool hu
  split at h
  · exact .mk h (run_eql w rfl (equalIn_bool w _ a b hu')) hr (.refl w)
  · exact .mk h (run_neq w rfl (equalIn_bool w _ a b hu')) hs (.refl w)
  · cases h

theorem binOp_ptrs {vx vy : Value} (c : Bool) (h1 : binOp .eql t vx vy = (do pure (.bool (← Op.equal t vx vy)))) (h2 : binOp .neq t vx vy = (do pure (.bool (!(← Op.equal t vx vy)))))
    (he : (Op.equalIn (9999 + 1) t vx vy).run P w = .ok c w) (out : Out R)
    (h : (match op with | .eql => val nx (.kb c) | .neq => val nx (.kb (!c)) | _ => (.fail "ptr op" : TO R)).run = some out) : Pure1 P (binOp op t vx vy) w ρ nx out := by
  split at h
  · exact .mk h (run_eql w h1 he) rfl (.refl w)
  · exact .mk h (run_neq w h2 he) rfl (.refl w)
  · cases h

theorem binOp_ptrsS (c : Bool) {vx vy : Value} (h1 : binOp .eql t vx vy = Op.equal t vx vy >>= fun b => pure (.bool b)) (h2 : binOp .neq t vx vy = Op.equal t vx vy >>= fun b => pure (.bool !b))
    (he : (Op.equalIn (9999 + 1) t vx vy).run P w = .ok c w) (out : Out R)
    (h : (match op with | .eql => val nx (.sb c) | .neq => val nx (.sb (!c)) | _ => (.fail "ptr op" : TO R)).run = some out) : Pure1 P (binOp op t vx vy) w ρ nx out := by
  split at h
  · exact .mk h (run_eql w h1 he) rfl (.refl w)
  · exact .mk h (run_neq w h2 he) rfl (.refl w)
  · cases h

theorem binOp_aggs {xs ys : List (AV R)} {cx cy : Array Value} (hcx : VRs ρ xs cx.toList) (hcy : VRs ρ ys cy.toList) {fs : Array Field} (hu : P.underlying t = some (.struct fs)) {q : List Bool} (hq : flatK P 5 t = some q) (out : Out R)
    (h : (match op with | .eql => valO nx "eqCells" ((eqCells q xs ys).map .sb) | .neq => valO nx "eqCells" ((eqCells q xs ys).map fun b => .sb (R.bnot b)) | _ => (.fail "agg op" : TO R)).run = some out) :
    Pure1 P (binOp op t (.agg cx) (.agg cy)) w ρ nx out := by
  obtain ⟨dd, hdd, _, heq⟩ := eq_flat (ρ := ρ) (P := P) w 5 (9999 + 1) t q hq (by decide)
  rw [hu] at hdd
  cases hdd
  have run : ∀ r, eqCells q xs ys = some r → (Op.equalIn (9999 + 1) t (.agg cx) (.agg cy)).run P w = .ok r w := fun r hr => heq xs ys cx.toList cy.toList r hcx hcy hr
  clear heq
  split at h
  · cases he : eqCells q xs ys with
    | none => rw [he] at h; cases h
    | some r => rw [he] at h; exact .mk h (run_eql w rfl (run r he)) rfl (.refl w)
  · cases he : eqCells q xs ys with
    | none => rw [he] at h; cases h
    | some r => rw [he] at h; exact .mk h (run_neq w rfl (run r he)) rfl (.refl w)
  · cases h

theorem VR.b_inv {a : AV R} {v : Value} {b : Bool} (h : VR ρ a v) (hb : a.b = some b) : v = .bool b := by
  cases a <;> simp only [AV.b] at hb <;> first | (cases hb; done) | (cases hb; exact h)

theorem binOp_sound {x y : AV R} {vx vy : Value} (hx : VR ρ x vx) (hy : VR ρ y vy) (out : Out R)
    (h : (binOpV P nx op t x y).run = some out) : Pure1 P (do eqGuard op t xo yo vx vy; binOp op t vx vy) w ρ nx out := by
  unfold binOpV at h
  split at h
  · obtain ⟨a, rfl, _, rfl⟩ := hx
    obtain ⟨b, rfl, _, rfl⟩ := hy
    exact strip_guard P w nx op t xo yo (by simp) (by simp) (binOp_float P w nx op t a b out h)
  · obtain ⟨rfl, ha⟩ := hx
    obtain ⟨rfl, _⟩ := hy
    split at h
    · rename_i hk; subst hk
      exact strip_guard P w nx op t xo yo (by simp) (by simp) (binOp_intK P w nx op t _ _ _ ha out h)
    · cases h
  · rename_i a b
    cases hx; cases hy
    refine strip_guard P w nx op t xo yo (by simp) (by simp) ?_
    split at h
    · rename_i hu
      exact binOp_bools P w nx op t a b out (r := .kb (a == b)) (s := .kb (!(a == b))) rfl rfl hu h
    · cases h
  · rename_i xs ys
    obtain ⟨cx, rfl, hcx⟩ := hx
    obtain ⟨cy, rfl, hcy⟩ := hy
    split at h
    · rename_i fs hu
      split at h
      · rename_i q hq
        exact strip_guard P w nx op t xo yo (by simp) (fun _ => flat_noGuard 5 P.depth t q hq (depth_le P)) (binOp_aggs P w nx op t hcx hcy hu hq out h)
      · cases h
    · cases h
  · obtain ⟨b, _, rfl⟩ := hx
    cases hy
    refine strip_guard P w nx op t xo yo (by simp) (by simp) ?_
    split at h
    · rename_i hu
      obtain ⟨e, hu'⟩ := under_ptr hu
      exact binOp_ptrs P w nx op t false rfl rfl (equalIn_nil' w _ _ hu') out h
    · cases h
  · obtain ⟨b, _, rfl⟩ := hy
    cases hx
    refine strip_guard P w nx op t xo yo (by simp) (by simp) ?_
    split at h
    · rename_i hu
      obtain ⟨e, hu'⟩ := under_ptr hu
      exact binOp_ptrs P w nx op t false rfl rfl (equalIn_nil w _ _ hu') out h
    · cases h
  · cases hy
    rcases hx with ⟨rfl, b, _, rfl⟩ | ⟨rfl, rfl⟩
    · refine strip_guard P w nx op t xo yo (by simp) (by simp) ?_
      split at h
      · rename_i hu
        obtain ⟨e, hu'⟩ := under_ptr hu
        exact binOp_ptrsS P w nx op t false rfl rfl (equalIn_nil' w _ _ hu') out h
      · cases h
    · refine strip_guard P w nx op t xo yo (by simp) (by simp) ?_
      split at h
      · rename_i hu
        obtain ⟨e, hu'⟩ := under_ptr hu
        exact binOp_ptrsS P w nx op t true rfl rfl (equalIn_nil w _ _ hu') out h
      · cases h
  · cases hx
    rcases hy with ⟨rfl, b, _, rfl⟩ | ⟨rfl, rfl⟩
    · refine strip_guard P w nx op t xo yo (by simp) (by simp) ?_
      split at h
      · rename_i hu
        obtain ⟨e, hu'⟩ := under_ptr hu
        exact binOp_ptrsS P w nx op t false rfl rfl (equalIn_nil w _ _ hu') out h
      · cases h
    · refine strip_guard P w nx op t xo yo (by simp) (by simp) ?_
      split at h
      · rename_i hu
        obtain ⟨e, hu'⟩ := under_ptr hu
        exact binOp_ptrsS P w nx op t true rfl rfl (equalIn_nil w _ _ hu') out h
      · cases h
  · obtain ⟨p, b, _, _, _, _, rfl⟩ := hx
    cases hy
    refine strip_guard P w nx op t xo yo (by simp) (by simp) ?_
    split at h
    · rename_i hu
      obtain ⟨e, hu'⟩ := under_ptr hu
      exact binOp_ptrs P w nx op t false rfl rfl (equalIn_nil' w _ _ hu') out h
    · cases h
  · obtain ⟨p, b, _, _, _, _, rfl⟩ := hy
    cases hx
    refine strip_guard P w nx op t xo yo (by simp) (by simp) ?_
    split at h
    · rename_i hu
      obtain ⟨e, hu'⟩ := under_ptr hu
      exact binOp_ptrs P w nx op t false rfl rfl (equalIn_nil w _ _ hu') out h
    · cases h
  · cases hx; cases hy
    refine strip_guard P w nx op t xo yo (by simp) (by simp) ?_
    split at h
    · rename_i hu
      obtain ⟨e, hu'⟩ := under_ptr hu
      exact binOp_ptrs P w nx op t true rfl rfl (equalIn_nil w _ _ hu') out h
    · cases h
  · rename_i n k l m j r
    obtain ⟨h1, xs, rfl, h2⟩ := hx
    obtain ⟨h3, ys, rfl, h4⟩ := hy
    split at h
    · rename_i len k' hb
      obtain ⟨e, ji, i, q1, q2, q3, q4, q5, q6, q7⟩ := bigT_spec hb
      split at h
      · rename_i hc
        obtain ⟨rfl, rfl, rfl, rfl⟩ := hc
        have hrun := arr_eq w 9998 q1 q2 q3 q4 h1 h3 h2 h4
        refine strip_guard P w nx op t xo yo (by simp) (fun _ => ?_) ?_
        · have hd : ∃ m, P.depth = m + 2 := ⟨P.depth - 2, by have := depth_le P; omega⟩
          obtain ⟨m, hm⟩ := hd
          rw [hm]
          simp only [Program.eqGuardType, q1, q2]
        · split at h
          · exact .mk h (run_eql w rfl hrun) rfl (.refl w)
          · exact .mk h (run_neq w rfl hrun) rfl (.refl w)
          · cases h
      · cases h
    · cases h
  · obtain ⟨b, _, rfl⟩ := hx
    cases hy
    refine strip_guard P w nx op t xo yo (by simp) (by simp) ?_
    unfold nilCmp at h
    split at h
    · rename_i hu
      obtain ⟨e, hu'⟩ := under_slice hu
      exact binOp_ptrs P w nx op t false rfl rfl (equalIn_sl w _ _ _ _ hu') out h
    · cases h
  · obtain ⟨p, base, cap, _, rfl, hs⟩ := hx
    cases hy
    refine strip_guard P w nx op t xo yo (by simp) (by simp) ?_
    have hl := hs.live rfl
    cases base with
    | none => exact absurd rfl hl
    | some a =>
      unfold nilCmp at h
      split at h
      · rename_i hu
        obtain ⟨e, hu'⟩ := under_slice hu
        exact binOp_ptrs P w nx op t false rfl rfl (equalIn_sl w _ _ _ _ hu') out h
      · cases h
  · cases hx; cases hy
    refine strip_guard P w nx op t xo yo (by simp) (by simp) ?_
    unfold nilCmp at h
    split at h
    · rename_i hu
      obtain ⟨e, hu'⟩ := under_slice hu
      exact binOp_ptrs P w nx op t true rfl rfl (equalIn_sl' w _ hu') out h
    · cases h
  · split at h
    · rename_i k a j b e1 e2
      split at h
      · rename_i hk
        subst hk
        obtain ⟨rfl, ha⟩ := VR.z_inv hx e1
        obtain ⟨rfl, _⟩ := VR.z_inv hy e2
        exact strip_guard P w nx op t xo yo (by simp) (by simp) (binOp_intS P w nx op t k a b ha out h)
      · cases h
    · split at h
      · rename_i a b e1 e2
        obtain rfl := VR.b_inv hx e1
        obtain rfl := VR.b_inv hy e2
        refine strip_guard P w nx op t xo yo (by simp) (by simp) ?_
        split at h
        · rename_i hu
          exact binOp_bools P w nx op t a b out (r := .sb (R.beq a b)) (s := .sb (R.bnot (R.beq a b))) rfl rfl hu h
        · cases h
      · cases h
end

end Go.Ev
