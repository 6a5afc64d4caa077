/- The value evaluator: what a Go function's code computes, on plain values. No proof here but definitions. -/
import Derived.Calls
import Derived.Orders
import Derived.KernelRfl
namespace Go.Proofs.YthgnfidnmnkeaaaGreatEv
open Go

inductive Ty where
  | int (k : IntKind) | bool | str | unit
  | pair (a b : Ty)
  | list (E : TypeId) (e : Ty)
  deriving DecidableEq

@[reducible] def Ty.den : Ty → Type
  | .int _ => Int
  | .bool => Bool
  | .str => ByteArray
  | .unit => Unit
  | .pair a b => a.den × b.den
  | .list _ e => List e.den

def Ty.cells : Ty → Nat
  | .unit => 0
  | .pair a b => a.cells + b.cells
  | _ => 1

def Ty.zero : (a : Ty) → a.den
  | .int _ => (0 : Int)
  | .bool => false
  | .str => ByteArray.empty
  | .unit => ()
  | .pair a b => (a.zero, b.zero)
  | .list _ e => ([] : List e.den)

/-- No list within. -/
def Ty.flat : Ty → Bool
  | .list _ _ => false
  | .pair a b => a.flat && b.flat
  | _ => true

def Ty.eqv : (a : Ty) → a.den → a.den → Bool
  | .int _, x, y => decide ((x : Int) = y)
  | .bool, x, y => (x : Bool) == y
  | .str, x, y => decide ((x : ByteArray) = y)
  | .unit, _, _ => true
  | .pair a b, x, y => a.eqv x.1 y.1 && b.eqv x.2 y.2
  | .list _ _, _, _ => false

@[reducible] def Tup : List Ty → Type
  | [] => Unit
  | a :: as => a.den × Tup as

/-- What one cell holds. The flag of a list: it may reach memory that came in. -/
inductive Leaf where
  | int (k : IntKind) (n : Int)
  | bool (b : Bool)
  | str (s : ByteArray)
  | nil
  | ro (p : Bool) (E : TypeId) (e : Ty) (xs : List e.den)
  | own (p : Bool) (E : TypeId) (e : Ty) (xs : List e.den)
  | al (r j v : Nat)
  | ep (r j v : Nat) (i sz off : Nat)
  | rp (p : Bool) (a : Ty) (x : a.den) (off : Nat)
  | rpp (p : Bool) (a : Ty) (x : a.den)
  | bp (b off : Nat)
  | clo (f : FuncId) (caps : List Nat)
  | fn (As : List Ty) (B : Ty) (φ : Tup As → Option B.den)
  | dead

inductive Shape where
  | off | und | one | agg
  | tup (ps : List (Bool × Nat))
  deriving DecidableEq

structure Cont where
  ver : Nat
  sh : Shape
  ls : List Leaf

abbrev St := Nat → Cont

def Cont.none : Cont := ⟨0, .off, []⟩

/-- Boxes stand behind the slots. -/
def B0 : Nat := 100000

abbrev Upd := List (Nat × Cont)

def look (U : Upd) (st : St) (q : Nat) : Cont :=
  match U with
  | [] => st q
  | (r, c) :: rest => bif Nat.beq q r then c else look rest st q

/-- A type as the evaluator knows it. -/
inductive TI where
  | int (k : IntKind) | bool | str
  | slice (E : TypeId) (e : Ty) (bytes : Nat)
  | struct (a : Ty) (flds : List (Nat × Nat × Bool))     -- of each field: where it begins, how many cells, whether it is an aggregate
  | ptr | fn
  | none

def tlook : List (TypeId × TI) → TypeId → TI
  | [], _ => .none
  | (t, i) :: l, u => bif Nat.beq t u then i else tlook l u

def TI.ty : TI → Option Ty
  | .int k => some (.int k)
  | .bool => some .bool
  | .str => some .str
  | .slice E e _ => some (.list E e)
  | .struct a _ => some a
  | _ => Option.none

def TI.cells : TI → Nat
  | .struct a _ => a.cells
  | .none => 0
  | _ => 1

def TI.agg : TI → Bool
  | .struct _ _ => true
  | _ => false

def zeroLeaves : Ty → List Leaf
  | .int k => [.int k 0]
  | .bool => [.bool false]
  | .str => [.str ByteArray.empty]
  | .unit => []
  | .pair a b => zeroLeaves a ++ zeroLeaves b
  | .list _ _ => [.nil]

def TI.zero : TI → List Leaf
  | .int k => [.int k 0]
  | .bool => [.bool false]
  | .str => [.str ByteArray.empty]
  | .slice _ _ _ => [.nil]
  | .struct a _ => zeroLeaves a
  | .ptr => [.dead]
  | .fn => [.dead]
  | .none => []

/-- The leaves of a value; ow: its lists are owned. -/
def leaves (ow p : Bool) : (a : Ty) → a.den → List Leaf
  | .int k, n => [.int k n]
  | .bool, b => [.bool b]
  | .str, s => [.str s]
  | .unit, _ => []
  | .pair a b, x => leaves ow p a x.1 ++ leaves ow p b x.2
  | .list E e, xs => [bif ow then .own p E e xs else .ro p E e xs]

def shOf (agg : Bool) : Shape := bif agg then .agg else .one

/-- What an alias stands for. -/
def deref (st : St) : Leaf → Leaf
  | .al r j v => bif Nat.beq (st r).ver v then (st r).ls.getD j .dead else .dead
  | l => l

def viewLeaf (t j ver : Nat) : Leaf → Leaf
  | .own _ _ _ _ => .al t j ver
  | l => l

def viewFrom (t ver : Nat) : Nat → List Leaf → List Leaf
  | _, [] => []
  | j, l :: ls => viewLeaf t j ver l :: viewFrom t ver (j + 1) ls

def constLeaf : Value → Option Leaf
  | .int k n => some (.int k n)
  | .bool b => some (.bool b)
  | .string s => some (.str s)
  | .slice Option.none 0 0 => some .nil
  | _ => Option.none

/-- An operand's shape and leaves; what is owned there as an alias. -/
def opnd (st : St) : Operand → Shape × List Leaf
  | .tmp t => bif Nat.blt t B0 then ((st t).sh, viewFrom t (st t).ver 0 (st t).ls) else (.off, [])
  | .const v => match constLeaf v with
    | some l => (.one, [l])
    | Option.none => (.off, [])
  | .func f => (.one, [.clo f []])
  | .global _ => (.off, [])

def one (st : St) (x : Operand) : Leaf :=
  match opnd st x with
  | (.one, [l]) => l
  | _ => .dead

def castList (E : TypeId) (e : Ty) (E' : TypeId) (e' : Ty) (xs : List e'.den) : Option (List e.den) :=
  if h : E' = E ∧ e' = e then some (h.2 ▸ xs) else Option.none

/-- A leaf as a list of such elements, and its flag. -/
def asList (E : TypeId) (e : Ty) : Leaf → Option (Bool × List e.den)
  | .ro p E' e' xs | .own p E' e' xs => (castList E e E' e' xs).map (p, ·)
  | .nil => some (false, [])
  | _ => Option.none

/-- The typed value of leaves from the first on; the flag; what is left. Aliases have been followed. -/
def gather (st : St) : (a : Ty) → List Leaf → Option (Bool × a.den × List Leaf)
  | .int k, ls => match ls with
    | .int k' n :: ls => if k = k' then some (false, (n : Int), ls) else Option.none
    | _ => Option.none
  | .bool, ls => match ls with
    | .bool b :: ls => some (false, b, ls)
    | _ => Option.none
  | .str, ls => match ls with
    | .str s :: ls => some (false, s, ls)
    | _ => Option.none
  | .unit, ls => some (false, (), ls)
  | .pair a b, ls => match gather st a ls with
    | some (p, x, ls) => match gather st b ls with
      | some (q, y, ls) => some (p || q, (x, y), ls)
      | Option.none => Option.none
    | Option.none => Option.none
  | .list E e, ls => match ls with
    | l :: ls => match asList E e (deref st l) with
      | some (p, xs) => some (p, xs, ls)
      | Option.none => Option.none
    | _ => Option.none

def gatherAll (st : St) (a : Ty) (ls : List Leaf) : Option (Bool × a.den) :=
  match gather st a ls with
  | some (p, x, []) => some (p, x)
  | _ => Option.none

/-- Which owned places the leaves stand for. -/
def owned (st : St) : List Leaf → List (Nat × Nat)
  | [] => []
  | .al r j v :: ls => (match deref st (.al r j v) with | .own _ _ _ _ => [(r, j)] | _ => []) ++ owned st ls
  | _ :: ls => owned st ls

/-- The places that leaves stand for, or point into. -/
def alps : List Leaf → List Nat
  | [] => []
  | .al r _ _ :: ls => r :: alps ls
  | .ep r _ _ _ _ _ :: ls => r :: alps ls
  | _ :: ls => alps ls

def setL (ls : List Leaf) (j : Nat) (l : Leaf) : List Leaf := ls.set j l

def killC (c : Cont) (j : Nat) : Cont := ⟨c.ver + 1, c.sh, setL c.ls j .dead⟩

/-- What is owned at these places is dropped. -/
def killU (st : St) : List (Nat × Nat) → Upd
  | [] => []
  | (r, j) :: ks => let U := killU st ks; let c := look U st r; (r, killC c j) :: U

def frzLeaf : Leaf → Leaf
  | .own p E e xs => .ro p E e xs
  | l => l

def frzC (c : Cont) (j : Nat) : Cont := ⟨c.ver + 1, c.sh, setL c.ls j (frzLeaf (c.ls.getD j .dead))⟩

/-- What is owned at these places is owned no longer, but read by all. -/
def frzU (st : St) : List (Nat × Nat) → Upd
  | [] => []
  | (r, j) :: ks => let U := frzU st ks; let c := look U st r; (r, frzC c j) :: U

/-- The leaves as they are moved: what is owned goes along. -/
def taken (st : St) (ls : List Leaf) : List Leaf := ls.map (deref st)
def frozen' (st : St) (ls : List Leaf) : List Leaf := ls.map fun l => frzLeaf (deref st l)

/-- No place twice. -/
def distinct : List (Nat × Nat) → Bool
  | [] => true
  | x :: xs => !(xs.any fun y => Nat.beq x.1 y.1 && Nat.beq x.2 y.2) && distinct xs

def Leaf.movable : Leaf → Bool
  | .al _ _ _ | .dead => false
  | _ => true

def idx {α : Type} (xs : List α) (i : Int) : Option α := if i < 0 then Option.none else xs[i.toNat]?

/-- An element owns a cell's new leaves. -/
def splice (old new : List Leaf) (off : Nat) : List Leaf := old.take off ++ new ++ old.drop (off + new.length)

def binInt (op : BinOp) (k : IntKind) (x y : Int) : Option Leaf :=
  match op with
  | .add => some (.int k (k.wrap (x + y)))
  | .sub => some (.int k (k.wrap (x - y)))
  | .mul => some (.int k (k.wrap (x * y)))
  | .eql => some (.bool (x == y))
  | .neq => some (.bool (x != y))
  | .lss => some (.bool (decide (x < y)))
  | .leq => some (.bool (decide (x ≤ y)))
  | .gtr => some (.bool (decide (x > y)))
  | .geq => some (.bool (decide (x ≥ y)))
  | _ => Option.none

/-! ### What is known of other functions -/
inductive PK where
  | rd (a : Ty)               -- read (and perhaps handed on)
  | own (E : TypeId) (e : Ty)              -- a list that is given away
  | io (E : TypeId) (e : Ty)               -- a list that is written in place
  | rref (a : Ty)             -- a pointer, read through
  | rref2 (a : Ty)            -- a pointer to a pointer, read through
  | iop (a : Ty)              -- a pointer, written through
  | fn (As : List Ty) (B : Ty)         -- a function
  deriving DecidableEq
inductive RK where
  | v (ow : Bool) (a : Ty)
  | box (a : Ty)              -- a pointer to new memory
  deriving DecidableEq

@[reducible] def PK.den : PK → Type
  | .rd a | .rref a | .rref2 a | .iop a => a.den
  | .own _ e | .io _ e => List e.den
  | .fn As B => Tup As → Option B.den
@[reducible] def Args : List PK → Type
  | [] => Unit
  | p :: ps => p.den × Args ps
@[reducible] def Outs : List PK → Type
  | [] => Unit
  | .io _ e :: ps => List e.den × Outs ps
  | .iop a :: ps => a.den × Outs ps
  | _ :: ps => Outs ps
@[reducible] def RK.den : RK → Type
  | .v _ a | .box a => a.den
@[reducible] def Ress : List RK → Type
  | [] => Unit
  | r :: rs => r.den × Ress rs

structure Ctr where
  f : FuncId
  ps : List PK
  rs : List RK
  fresh : Bool
  den : Args ps → Option (Ress rs × Outs ps)

def Ty.isAgg : Ty → Bool
  | .pair _ _ | .unit => true
  | _ => false

/-- A pointer's target, as leaves. -/
def target (st : St) : Leaf → Option (List Leaf)
  | .bp b 0 => bif decide ((st b).sh = .agg) then some (viewFrom b (st b).ver 0 (st b).ls) else none
  | .rp p a x 0 => some (leaves false p a x)
  | .rpp p a x => some [.rp p a x 0]
  | _ => none

structure Got (α : Type) where
  p : Bool
  val : α
  frz : List (Nat × Nat)
  kill : List (Nat × Nat)

def findC (Γ : List Ctr) (f : FuncId) : Option Ctr := match Γ with
  | [] => none
  | c :: cs => bif Nat.beq c.f f then some c else findC cs f

def oneLeaf (x : Shape × List Leaf) : Leaf :=
  match x with
  | (.one, [l]) => l
  | _ => .dead

/-- One argument. -/
def getArg (st : St) : (pk : PK) → Shape × List Leaf → Option (Got pk.den)
  | .rd a, x => bif decide (x.1 = shOf a.isAgg) then (gatherAll st a x.2).map fun y => ⟨y.1, y.2, owned st x.2, []⟩ else none
  | .own E e, x => match oneLeaf x with
    | .al r j v => match deref st (.al r j v) with
      | .own p E' e' xs => (castList E e E' e' xs).map fun xs => ⟨p, xs, [], [(r, j)]⟩
      | _ => none
    | .nil => some ⟨false, ([] : List e.den), [], []⟩
    | _ => none
  | .io E e, x => match oneLeaf x with
    | .al r j v => match deref st (.al r j v) with
      | .own p E' e' xs => (castList E e E' e' xs).map fun xs => ⟨p, xs, [], []⟩
      | _ => none
    | _ => none
  | .rref a, x => match target st (oneLeaf x) with
    | some ls => (gatherAll st a ls).map fun y => ⟨y.1, y.2, owned st ls, []⟩
    | none => none
  | .rref2 a, x => match target st (oneLeaf x) with
    | some [l'] => match target st l' with
      | some ls => (gatherAll st a ls).map fun y => ⟨y.1, y.2, owned st ls, []⟩
      | none => none
    | _ => none
  | .iop a, x => match oneLeaf x with
    | .bp b 0 => bif decide ((st b).sh = .agg) then (gatherAll st a (viewFrom b (st b).ver 0 (st b).ls)).map fun y => ⟨y.1, y.2, owned st (viewFrom b (st b).ver 0 (st b).ls), []⟩ else none
    | _ => none
  | .fn As B, x => match oneLeaf x with
    | .fn As' B' φ => if h : As' = As ∧ B' = B then some ⟨false, (h.1 ▸ h.2 ▸ φ : Tup As → Option B.den), [], []⟩ else none
    | _ => none

/-- The arguments, one by one. -/
def getArgsBy (ga : (pk : PK) → Shape × List Leaf → Option (Got pk.den)) : (ps : List PK) → List (Shape × List Leaf) → Option (Got (Args ps))
  | [], [] => some ⟨false, (), [], []⟩
  | p :: ps, x :: xs => match ga p x with
    | some g => match getArgsBy ga ps xs with
      | some h => some ⟨g.p || h.p, (g.val, h.val), g.frz ++ h.frz, g.kill ++ h.kill⟩
      | none => none
    | none => none
  | _, _ => none

def getArgs (st : St) : (ps : List PK) → List (Shape × List Leaf) → Option (Got (Args ps)) := getArgsBy (getArg st)

def lone : List Leaf → Leaf
  | [l] => l
  | _ => .dead

/-- What is written behind the call: the places of lists written in place, the boxes written through pointers. -/
def putOuts (st : St) : (ps : List PK) → List (Shape × List Leaf) → Outs ps → Upd
  | [], _, _ => []
  | .io E e :: ps, x :: xs, o => let U := putOuts st ps xs o.2; (match lone x.2 with
    | .al r j _ => let c := look U st r; [(r, ⟨c.ver, c.sh, setL c.ls j (match c.ls.getD j .dead with | .own p _ _ _ => .own p E e o.1 | l => l)⟩)]
    | _ => []) ++ U
  | .iop a :: ps, x :: xs, o => let U := putOuts st ps xs o.2; (match lone x.2 with
    | .bp b _ => let c := look U st b; [(b, ⟨c.ver + 1, c.sh, leaves false true a o.1⟩)]
    | _ => []) ++ U
  | .rd _ :: ps, _ :: xs, o => putOuts st ps xs o
  | .own _ _ :: ps, _ :: xs, o => putOuts st ps xs o
  | .rref _ :: ps, _ :: xs, o => putOuts st ps xs o
  | .rref2 _ :: ps, _ :: xs, o => putOuts st ps xs o
  | .fn _ _ :: ps, _ :: xs, o => putOuts st ps xs o
  | _ :: _, [], _ => []

/-- A result's shape, leaves; the box that it points to. -/
def putRes (d v : Nat) (p : Bool) : (r : RK) → r.den → (Bool × List Leaf) × Upd
  | .v ow a, y => ((a.isAgg, leaves ow p a y), [])
  | .box a, y => ((false, [.bp (B0 + d) 0]), [(B0 + d, ⟨v + 1, .agg, leaves false p a y⟩)])

def putRess (d v : Nat) (p : Bool) : (rs : List RK) → Ress rs → List (Bool × List Leaf) × Upd
  | [], _ => ([], [])
  | r :: rs, y => let a := putRes d v p r y.1; let b := putRess d v p rs y.2; (a.1 :: b.1, a.2 ++ b.2)

/-- The slot of a call's results. -/
def resCont (ver : Nat) (l : List (Bool × List Leaf)) : Cont :=
  match l with
  | [(agg, ls)] => ⟨ver, shOf agg, ls⟩
  | l => ⟨ver, .tup (l.map fun x => (x.1, x.2.length)), (l.map (·.2)).flatten⟩

/-- A slot is written. -/
def putU (st : St) (U : Upd) (d : Nat) (sh : Shape) (ls : List Leaf) : Upd := (d, ⟨(look U st d).ver + 1, sh, ls⟩) :: U

def PK.reads : PK → Bool
  | .rd _ | .rref _ | .rref2 _ => true
  | _ => false

/-- What is captured stands behind the arguments. -/
def tupArgs (caps : List PK) (z : Args caps) : (As : List Ty) → Tup As → Args (As.map .rd ++ caps)
  | [], _ => z
  | _ :: as, x => (x.1, tupArgs caps z as x.2)

/-- The function that a closure is; q: what stands behind the arguments. -/
def cloGo (st : St) (As : List Ty) (B : Ty) (caps : List Nat) (ps : List PK) (rs : List RK) (fresh : Bool) (den : Args ps → Option (Ress rs × Outs ps)) (q : List PK) : Option (Got (Tup As → Option B.den)) :=
  if h : ps = As.map .rd ++ q ∧ rs = [.v false B] then
    bif q.all PK.reads && B.flat && fresh then
      match getArgs st q (caps.map fun b => (.one, [.bp b 0])) with
      | some g => some ⟨g.p, fun x => (den (h.1 ▸ tupArgs _ g.val As x)).map fun y => (h.2 ▸ y.1 : Ress [.v false B]).1, g.frz, []⟩
      | none => none
    else none
  else none

def cloFn (Γ : List Ctr) (st : St) (As : List Ty) (B : Ty) (f : FuncId) (caps : List Nat) : Option (Got (Tup As → Option B.den)) :=
  match findC Γ f with
  | some c => cloGo st As B caps c.ps c.rs c.fresh c.den (c.ps.drop As.length)
  | none => none

def cloOf : Leaf → Option (FuncId × List Nat)
  | .clo f caps => some (f, caps)
  | _ => none

/-- One argument, where a function may be handed over. -/
def getArgF (Γ : List Ctr) (st : St) : (pk : PK) → Shape × List Leaf → Option (Got pk.den)
  | .fn As B, x => match cloOf (oneLeaf x) with
    | some fc => cloFn Γ st As B fc.1 fc.2
    | none => getArg st (.fn As B) x
  | .rd a, x => getArg st (.rd a) x
  | .own E e, x => getArg st (.own E e) x
  | .io E e, x => getArg st (.io E e) x
  | .rref a, x => getArg st (.rref a) x
  | .rref2 a, x => getArg st (.rref2 a) x
  | .iop a, x => getArg st (.iop a) x

def getArgsF (Γ : List Ctr) (st : St) : (ps : List PK) → List (Shape × List Leaf) → Option (Got (Args ps)) := getArgsBy (getArgF Γ st)

/-! ### One operation -/
section
variable {R : Type}

/-- A function value's arguments. -/
def getTup (st : St) : (As : List Ty) → List (Shape × List Leaf) → Option (Tup As)
  | [], [] => some ()
  | a :: as, x :: xs => bif decide (x.1 = shOf a.isAgg) then match gatherAll st a x.2 with
      | some (_, y) => (getTup st as xs).map (y, ·)
      | none => none
    else none
  | _, _ => none

def RK.isV : RK → Bool
  | .v _ _ => true
  | .box _ => false

def boxOk (st : St) (d : Nat) : List RK → Bool
  | [.box _] => decide ((st (B0 + d)).sh = .off)
  | rs => rs.all RK.isV

def samePlace (a b : Nat × Nat) : Bool := Nat.beq a.1 b.1 && Nat.beq a.2 b.2

/-- A call of a function with a contract. -/
def callK (Γ : List Ctr) (st : St) (d : Nat) (f : FuncId) (xs : List (Shape × List Leaf)) (κ : Upd → Option R) : Option R :=
  match findC Γ f with
  | some c => match getArgsF Γ st c.ps xs with
    | some g => bif distinct g.kill && !(g.frz.any fun k => g.kill.any (samePlace k)) && boxOk st d c.rs then
      (c.den g.val).bind fun y =>
        let U1 := (let U := (bif c.fresh then [] else frzU st g.frz); killU (look U st) g.kill ++ U)
        let U2 := putOuts (look U1 st) c.ps xs y.2 ++ U1
        let r := putRess d (look U2 st (B0 + d)).ver (g.p && !c.fresh) c.rs y.1
        let U3 := r.2 ++ U2
        κ ((d, resCont ((look U3 st d).ver + 1) r.1) :: U3)
      else none
    | none => none
  | none => none

def sizeK : Nat := 140737488355328

def appendK (st : St) (d : Nat) (E : TypeId) (e : Ty) (bytes : Nat) (x y : Leaf) (κ : Upd → Option R) : Option R :=
  let base : Option (Bool × List e.den × List (Nat × Nat)) := match x with
    | .al r j v => match deref st (.al r j v) with
      | .own p E' e' xs => (castList E e E' e' xs).map fun xs => (p, xs, [(r, j)])
      | _ => none
    | .nil => some (false, [], [])
    | _ => none
  match base with
  | some (p, xs, ks) => match asList E e (deref st y) with
    | some (q, ys) =>
      let fz := bif e.flat then [] else owned st [y]
      bif !(fz.any fun k => ks.any fun k' => Nat.beq k.1 k'.1) && decide ((xs.length + ys.length) * bytes ≤ sizeK) then
        let U := frzU st fz
        κ (putU st (killU (look U st) ks ++ U) d .one [.own (p || (q && !e.flat)) E e (xs ++ ys)])
      else none
    | none => none
  | none => none

/-- A bound of a cut. -/
def boundK (st : St) (x : Option Operand) (dflt : Int) : Option Int :=
  match x with
  | none => some dflt
  | some l => match one st l with
    | .int _ n => some n
    | _ => none

/-- A struct's leaves, its parts filled in. -/
def buildLs (st : St) (flds : List (Nat × Nat × Bool)) : List (Nat × Operand) → List Leaf → Option (List Leaf)
  | [], ls => some ls
  | (i, x) :: ps, ls => match flds[i]? with
    | some (off, n, agg) => bif Nat.beq (opnd st x).2.length n && decide ((opnd st x).1 = shOf agg) && decide (off + n ≤ ls.length) then buildLs st flds ps (splice ls (opnd st x).2 off) else none
    | none => none

/-- A list's elements. -/
def buildEls (st : St) (e : Ty) : Nat → List (Nat × Operand) → Option (Bool × List e.den × List (Nat × Nat))
  | _, [] => some (false, [], [])
  | k, (i, x) :: ps => bif Nat.beq i k && decide ((opnd st x).1 = shOf e.isAgg) then
      match gatherAll st e (opnd st x).2, buildEls st e (k + 1) ps with
      | some (p, y), some (q, ys, ks) => some (p || q, y :: ys, owned st (opnd st x).2 ++ ks)
      | _, _ => none
    else none

/-- The boxes that are captured. -/
def capsOf (st : St) (xs : List Operand) : Option (List Nat) :=
  xs.foldl (fun (acc : Option (List Nat)) x => acc.bind fun l => match one st x with
    | .bp b 0 => some (l ++ [b])
    | _ => none) (some [])

/-- A value goes into the operation's slot. -/
def wrU (o : Oper) (st : St) (κ : Upd → Option R) (sh : Shape) (ls : List Leaf) : Option R := match o.dst with
  | some d => κ (putU st [] d sh ls)
  | none => none

def act (Γ : List Ctr) (T : TypeId → TI) (o : Oper) (st : St) (κ : Upd → Option R) : Option R :=
  let w (sh : Shape) (ls : List Leaf) : Option R := wrU o st κ sh ls
  let w1 (l : Leaf) : Option R := w .one [l]
  match o.op with
  | .move x => let v := opnd st x; w v.1 v.2
  | .assign x => match o.dst with
    | some d => let v := opnd st x; bif distinct (owned st v.2) then κ (putU st (killU st (owned st v.2)) d v.1 (taken st v.2)) else none
    | none => none
  | .pick c a b => match one st c with
    | .bool t => bif t then (let v := opnd st a; w v.1 v.2) else (let v := opnd st b; w v.1 v.2)
    | _ => none
  | .alloc t => match o.dst with
    | some d => bif decide ((st (B0 + d)).sh = .off) && !decide ((T t).cells = 0) then κ ((B0 + d, ⟨(st (B0 + d)).ver + 1, .agg, (T t).zero⟩) :: putU st [] d .one [.bp (B0 + d) 0]) else none
    | none => none
  | .box t x => match o.dst with
    | some d => let v := opnd st x
      bif decide ((st (B0 + d)).sh = .off) && decide (v.2.length = (T t).cells) && decide (v.1 = shOf (T t).agg) && distinct (owned st v.2) then
        let U := killU st (owned st v.2)
        κ ((B0 + d, ⟨(look U st (B0 + d)).ver + 1, .agg, taken st v.2⟩) :: putU st U d .one [.bp (B0 + d) 0])
      else none
    | none => none
  | .build t parts => match T t with
    | .struct a flds => match buildLs st flds parts.toList (zeroLeaves a) with
      | some ls => w .agg ls
      | none => none
    | _ => none
  | .buildSlice t n parts => match T t with
    | .slice E e _ => match buildEls st e 0 parts.toList with
      | some (p, xs, ks) => bif Nat.beq xs.length n && decide (n * e.cells ≤ 16777216) then (match o.dst with
          | some d => κ (putU st (frzU st ks) d .one [.own p E e xs])
          | none => none) else none
      | none => none
    | _ => none
  | .load t x =>
    bif decide ((T t).cells = 0) then none else
    match one st x with
    | .rp p a y off => bif decide (off + (T t).cells ≤ a.cells) then w (shOf (T t).agg) (((leaves false p a y).drop off).take (T t).cells) else none
    | .bp b off => bif decide ((st b).sh = .agg) && decide (off + (T t).cells ≤ (st b).ls.length) then w (shOf (T t).agg) (((viewFrom b (st b).ver 0 (st b).ls).drop off).take (T t).cells) else none
    | .rpp p a y => bif Nat.beq (T t).cells 1 && !(T t).agg then w1 (.rp p a y 0) else none
    | .ep r j v i sz off => match deref st (.al r j v) with
      | .own p _ e xs => bif Nat.beq sz e.cells && decide (off + (T t).cells ≤ e.cells) then (idx xs (i : Int)).bind fun y => w (shOf (T t).agg) (((leaves false p e y).drop off).take (T t).cells) else none
      | _ => none
    | _ => none
  | .store t x y => match o.dst with
    | some _ => none
    | none =>
    let v := (opnd st y).2
    bif Nat.beq v.length (T t).cells && decide ((opnd st y).1 = shOf (T t).agg) && !decide ((T t).cells = 0) then
      match one st x with
      | .bp b off => bif decide ((st b).sh = .agg) && decide (off + v.length ≤ (st b).ls.length) && distinct (owned st v) then
          let U := killU st (owned st v)
          let c := look U st b
          κ ((b, ⟨c.ver + 1, .agg, splice c.ls (taken st v) off⟩) :: U)
        else none
      | .ep r j ver i sz off => match deref st (.al r j ver) with
        | .own p E e xs =>
          bif Nat.beq sz e.cells && decide (off + v.length ≤ e.cells) && !((owned st v).any fun k => Nat.beq k.1 r) then
            let U := frzU st (owned st v)
            (idx xs (i : Int)).bind fun old =>
              let ls := splice (leaves false p e old) (frozen' st v) off
              (gatherAll (look U st) e ls).bind fun qz =>
                bif (alps ls).isEmpty then κ ((r, ⟨(st r).ver, (st r).sh, setL (st r).ls j (.own (p || qz.1) E e (xs.set i qz.2))⟩) :: U) else none
          else none
        | _ => none
      | _ => none
    else none
  | .nilCheck x => match one st x with
    | .rp p a y off => w1 (.rp p a y off)
    | .bp b off => w1 (.bp b off)
    | .ep r j v i sz off => bif Nat.beq (st r).ver v then w1 (.ep r j v i sz off) else none
    | .rpp p a y => w1 (.rpp p a y)
    | _ => none
  | .binOp op t x y _ => match one st x, one st y with
    | .int k a, .int k' b =>
      match op with
      | .shl => bif decide (b < 0) then none else w1 (.int k (k.wrap (a * 2 ^ (min b.toNat k.bits))))
      | .shr => bif decide (b < 0) then none else w1 (.int k (a.fdiv (2 ^ (min b.toNat k.bits))))
      | .quo => bif decide (b = 0) then none else bif decide (k = k') then w1 (.int k (k.wrap (a.tdiv b))) else none
      | .rem => bif decide (b = 0) then none else bif decide (k = k') then w1 (.int k (a.tmod b)) else none
      | .and => bif decide (k = k') then w1 (.int k (k.wrap ((BitVec.ofInt k.bits a &&& BitVec.ofInt k.bits b).toNat))) else none
      | .xor => bif decide (k = k') then w1 (.int k (k.wrap ((BitVec.ofInt k.bits a ^^^ BitVec.ofInt k.bits b).toNat))) else none
      | _ => bif decide (k = k') then (match binInt op k a b with | some l => w1 l | none => none) else none
    | .bool a, .bool b => match T t with
      | .bool => match op with
        | .eql => w1 (.bool (a == b))
        | .neq => w1 (.bool (a != b))
        | _ => none
      | _ => none
    | .str a, .str b => match op with
      | .eql => w1 (.bool (a.toList == b.toList))
      | .neq => w1 (.bool (a.toList != b.toList))
      | _ => none
    | _, _ => match T t with
      | .struct a _ => bif a.flat && decide ((opnd st x).1 = .agg) && decide ((opnd st y).1 = .agg) then
          match gatherAll st a (opnd st x).2, gatherAll st a (opnd st y).2 with
          | some (_, u), some (_, v) => match op with
            | .eql => w1 (.bool (a.eqv u v))
            | .neq => w1 (.bool (!a.eqv u v))
            | _ => none
          | _, _ => none
        else none
      | _ => none
  | .unOp op _ x => match op, one st x with
    | .not, .bool b => w1 (.bool (!b))
    | .neg, .int k n => w1 (.int k (k.wrap (0 - n)))
    | _, _ => none
  | .convert s t x => match T s, T t, one st x with
    | .int _, .int k, .int _ n => w1 (.int k (k.wrap n))
    | _, _, _ => none
  | .makeSlice t n c => match T t, one st n, one st c with
    | .slice E e bytes, .int _ a, .int _ b =>
      bif decide (0 ≤ a) && decide (a = b) && decide (a * bytes ≤ sizeK) then w1 (.own false E e (List.replicate a.toNat e.zero)) else none
    | _, _, _ => none
  | .slice t x lo hi mx => match mx, o.dst with
    | none, some d => match boundK st lo 0 with
      | none => none
      | some i => match T t, deref st (one st x) with
        | .str, .str s => (match boundK st hi s.size with
          | some h => bif decide (0 ≤ i) && decide (i ≤ h) && decide (h ≤ (s.size : Int)) then κ (putU st [] d .one [.str (s.extract i.toNat h.toNat)]) else none
          | none => none)
        | .slice _ e' _, .ro p E e xs | .slice _ e' _, .own p E e xs => (match boundK st hi xs.length with
          | some h => bif decide (0 ≤ i) && decide (i ≤ h) && decide (h ≤ (xs.length : Int)) && decide (e' = e) then
              κ (putU st (frzU st (owned st [one st x])) d .one [.ro p E e ((xs.take h.toNat).drop i.toNat)]) else none
          | none => none)
        | _, _ => none
    | _, _ => none
  | .fieldAddr t x f => match T t with
    | .struct _ flds => match flds[f]? with
      | some (off, _, _) => match one st x with
        | .rp p a y o' => w1 (.rp p a y (o' + off))
        | .bp b o' => w1 (.bp b (o' + off))
        | .ep r j v i sz o' => bif Nat.beq (st r).ver v then w1 (.ep r j v i sz (o' + off)) else none
        | _ => none
      | none => none
    | _ => none
  | .field t x f => match T t with
    | .struct a flds => match flds[f]? with
      | some (off, n, agg) => bif decide ((opnd st x).1 = .agg) && decide ((opnd st x).2.length = a.cells) then w (shOf agg) (((opnd st x).2.drop off).take n) else none
      | none => none
    | _ => none
  | .indexAddr t x i => match one st i with
    | .int _ n => match T t with
      | .slice _ e _ => match one st x with
        | .al r j v => match deref st (.al r j v) with
          | .own _ _ e' xs => bif decide (e' = e) then (idx xs n).bind fun _ => w1 (.ep r j v n.toNat e'.cells 0) else none
          | _ => none
        | .ro p _ e' xs => bif decide (e' = e) then (idx xs n).bind fun y => w1 (.rp p e' y 0) else none
        | _ => none
      | _ => none
    | _ => none
  | .index t x i => match one st i, one st x with
    | .int _ n, .str s => match T t with
      | .str => (idx s.data.toList n).bind fun y => w1 (.int .u8 y.toNat)
      | _ => none
    | _, _ => none
  | .extract x i => match opnd st x with
    | (.tup ps, ls) => match ps[i]? with
      | some (agg, n) => w (shOf agg) ((ls.drop ((ps.take i).foldl (fun a b => a + b.2) 0)).take n)
      | none => none
    | _ => none
  | .makeFunc (.func f) first caps => bif Nat.beq first.size 0 then
      match capsOf st caps.toList with
      | some l => w1 (.clo f l)
      | none => none
    else none
  | .call c => match o.dst with
    | none => none
    | some d => match c.callee with
      | .value f =>
        let xs := c.args.toList.map (opnd st)
        match one st f with
        | .clo g caps => callK Γ st d g (xs ++ caps.map fun b => (.one, [.bp b 0])) κ
        | .fn As B φ => bif B.flat then match getTup st As xs with
            | some x => (φ x).bind fun y => w (shOf B.isAgg) (leaves false false B y)
            | none => none
          else none
        | _ => none
      | .builtin .len => match c.args.toList with
        | [x] => match c.argTypes.toList with
          | [t] => match T t, deref st (one st x) with
            | .slice _ _ _, .ro _ _ _ xs | .slice _ _ _, .own _ _ _ xs => w1 (.int .i64 xs.length)
            | .slice _ _ _, .nil => w1 (.int .i64 0)
            | .str, .str s => w1 (.int .i64 s.size)
            | _, _ => none
          | _ => none
        | _ => none
      | .builtin .append => match c.args.toList, c.argTypes.toList with
        | [x, y], [t, u] => match T t with
          | .slice E e bytes => bif Nat.beq t u then appendK st d E e bytes (one st x) (one st y) κ else none
          | _ => none
        | _, _ => none
      | .builtin .min => match c.args.toList with
        | [x, y] => match one st x, one st y with
          | .int k a, .int _ b => w1 (.int k (bif decide (b < a) then b else a))
          | _, _ => none
        | _ => none
      | .builtin .max => match c.args.toList with
        | [x, y] => match one st x, one st y with
          | .int k a, .int _ b => w1 (.int k (bif decide (a < b) then b else a))
          | _, _ => none
        | _ => none
      | _ => none
  | _ => none

/-! ### Regions -/
def refs : List Leaf → List Nat
  | [] => []
  | .al r _ _ :: ls => r :: refs ls
  | .ep r _ _ _ _ _ :: ls => r :: refs ls
  | .bp b _ :: ls => b :: refs ls
  | .clo _ caps :: ls => caps ++ refs ls
  | _ :: ls => refs ls

def slotsOf (xs : List Operand) : List Nat :=
  match xs with
  | [] => []
  | .tmp t :: xs => t :: slotsOf xs
  | _ :: xs => slotsOf xs

/-- What an operation looks at: its operands' slots, what these refer to, what that refers to. -/
def looks (st : St) (ts : List Nat) : List Nat :=
  let a := ts.flatMap fun t => refs (st t).ls
  let b := a.flatMap fun t => refs (st t).ls
  let c := b.flatMap fun t => refs (st t).ls
  ts ++ a ++ b ++ c

def opLooks (st : St) (op : Op) : List Nat :=
  let ts := slotsOf op.operands.toList
  match op with
  | .move _ | .pick _ _ _ | .build _ _ | .field _ _ _ | .extract _ _ | .makeFunc _ _ _ | .unOp _ _ _ | .convert _ _ _
  | .binOp _ _ _ _ _ | .index _ _ _ | .makeSlice _ _ _ | .alloc _ => ts
  | .assign _ | .box _ _ | .buildSlice _ _ _ | .slice _ _ _ _ _ | .indexAddr _ _ _ | .nilCheck _ | .fieldAddr _ _ _ => ts ++ ts.flatMap fun t => alps (st t).ls
  | .load _ _ | .store _ _ _ => ts ++ ts.flatMap fun t => refs (st t).ls
  | .call c => match c.callee with
    | .builtin _ => ts ++ ts.flatMap fun t => alps (st t).ls
    | _ => looks st ts
  | _ => looks st ts

def looksOf (st : St) (o : Oper) : List Nat := opLooks st o.op ++ match o.dst with
  | some d => [d, B0 + d]
  | none => []

structure Trace where
  rd : List Nat
  wr : List Nat

def meets (a b : List Nat) : Bool := a.any fun x => b.any fun y => Nat.beq x y

def Trace.apart (x y : Trace) : Bool := !meets x.wr y.wr && !meets x.wr y.rd && !meets x.rd y.wr

/-- Of each operation: the operations that are surely done before it, as bits. -/
def befs : List Oper → List Nat → List Nat
  | [], acc => acc
  | o :: rest, acc => befs rest (acc ++ [o.after.toList.foldl (fun s e => bif Region.binds .any e then s ||| 2 ^ e.on ||| acc.getD e.on 0 else s) 0])

/-- Operations that are not ordered do not meet. -/
def unmet (before : List Nat) (ts : List Trace) : Bool :=
  (List.range ts.length).all fun j => (List.range j).all fun i =>
    (before.getD j 0).testBit i || (match ts[i]?, ts[j]? with
      | some x, some y => x.apart y
      | _, _ => false)

def lit (st : St) (t : Nat) (b : Bool) : St := look [(t, ⟨(st t).ver, .one, [.bool b]⟩)] st

def skipU (st : St) (o : Oper) : Upd :=
  match o.dst with
  | some d => [(d, ⟨(st d).ver + 1, .und, []⟩)]
  | none => []

/-- One operation, its guard looked at; κ is handed the state and what was looked at and written. -/
def opK (Γ : List Ctr) (T : TypeId → TI) (all : Array Oper) (o : Oper) (st : St) (κ : St → Trace → Option R) : Option R :=
  let go (st : St) (more : List Nat) : Option R := act Γ T o st (fun U => κ (look U st) ⟨more ++ looksOf st o, U.map (·.1)⟩)
  let no (st : St) (more : List Nat) : Option R := κ (look (skipU st o) st) ⟨more, o.dst.toList⟩
  match o.guard with
  | none => go st []
  | some (j, want) => match (all[j]?).bind (·.dst) with
    | some t => match (st t).sh, (st t).ls with
      | .one, [.bool b] => bif b then (bif want then go (lit st t true) [t] else no (lit st t true) [t]) else (bif want then no (lit st t false) [t] else go (lit st t false) [t])
      | .und, _ => no st [t]
      | _, _ => none
    | none => none

def opsK (Γ : List Ctr) (T : TypeId → TI) (all : Array Oper) : List Oper → St → List Trace → (St → List Trace → Option R) → Option R
  | [], st, ts, κ => κ st ts
  | o :: rest, st, ts, κ => opK Γ T all o st (fun st' t => opsK Γ T all rest st' (ts ++ [t]) κ)

def textual (ops : Array Oper) : Bool := (List.range ops.size).all fun i => match ops[i]? with
  | some o => o.after.toList.all fun e => !Region.binds .any e || decide (e.on < i)
  | none => true

def regK (Γ : List Ctr) (T : TypeId → TI) (ops : Array Oper) (draw : Bool) (st : St) (κ : St → Option R) : Option R :=
  bif draw then
    opsK Γ T ops ops.toList st [] (fun st' ts => bif textual ops && unmet (befs ops.toList []) ts then κ st' else none)
  else opsK Γ T ops ops.toList st [] (fun st' _ => κ st')

/-! ### Code -/
inductive Ex where
  | normal | exit (id : Nat) | ret

def kSeq (ev : St → (Ex → St → Option R) → Option R) (κ : Ex → St → Option R) : Ex → St → Option R
  | .normal, st => ev st κ
  | e, st => κ e st

def kBlock (id : Nat) (κ : Ex → St → Option R) : Ex → St → Option R
  | .exit id', st => bif Nat.beq id' id then κ .normal st else κ (.exit id') st
  | e, st => κ e st

def mkSt (L : List (Nat × Cont)) : St := fun q => look L (fun _ => Cont.none) q

/-- What becomes of a leaf at a loop's head. -/
inductive Coe where
  | keep | kill
  | own (p : Bool) (E : TypeId) (e : Ty) | ro (p : Bool) (E : TypeId) (e : Ty) | rp (p : Bool)

def cleanLeaf (live : List Nat) : Coe → Leaf → Leaf
  | .kill, _ => .dead
  | .own p E e, .nil => .own p E e []
  | .own p _ _, .own q E e xs => bif !q || p then .own p E e xs else .dead
  | .ro p E e, .nil => .ro p E e []
  | .ro p _ _, .ro q E e xs => bif !q || p then .ro p E e xs else .dead
  | .ro p _ _, .own q E e xs => bif !q || p then .ro p E e xs else .dead
  | .rp p, .rpp q a x => bif !q || p then .rpp p a x else .dead
  | .rp p, .rp q a x off => bif !q || p then .rp p a x off else .dead
  | .keep, .int k n => .int k n
  | .keep, .bool b => .bool b
  | .keep, .str s => .str s
  | .keep, .nil => .nil
  | .keep, .fn As B φ => .fn As B φ
  | .keep, .bp b off => bif live.any (Nat.beq b) then .bp b off else .dead
  | .keep, .clo f caps => bif caps.all (fun b => live.any (Nat.beq b)) then .clo f caps else .dead
  | _, _ => .dead

def cleanLs (live : List Nat) : List Coe → List Leaf → List Leaf
  | c :: cs, l :: ls => cleanLeaf live c l :: cleanLs live cs ls
  | [], _ :: ls => .dead :: cleanLs live [] ls
  | _, [] => []

/-- At a loop's head: what is live, all else forgotten. -/
def norm (live : List (Nat × List Coe)) (st : St) : St := mkSt (live.map fun r => (r.1, ⟨0, (st r.1).sh, cleanLs (live.map (·.1)) r.2 (st r.1).ls⟩))

def kLoop (live : List (Nat × List Coe)) (rec : St → Option R) (κ : Ex → St → Option R) : Ex → St → Option R
  | .normal, st => rec (norm live st)
  | e, st => κ e st

def evLoop (live : List (Nat × List Coe)) (ev : St → (Ex → St → Option R) → Option R) : Nat → St → (Ex → St → Option R) → Option R
  | 0, _, _ => none
  | k + 1, st, κ => ev st (kLoop live (fun st' => evLoop live ev k st' κ) κ)

/-- A loop's name: its first region. -/
def loopKey : Code → Nat
  | .region id _ _ => id + 1
  | .seq a b => match loopKey a with
    | 0 => loopKey b
    | n => n
  | .cond _ a b => match loopKey a with
    | 0 => loopKey b
    | n => n
  | .block _ c => loopKey c
  | .loop c => loopKey c
  | .scope c => loopKey c
  | _ => 0

def liveOf (L : List (Nat × List (Nat × List Coe))) (k : Nat) : List (Nat × List Coe) := match L with
  | [] => []
  | (n, l) :: rest => bif Nat.beq n k then l else liveOf rest k

def condK (st : St) (c : Operand) (yes no : St → Option R) : Option R :=
  match c with
  | .tmp t => match (st t).sh, (st t).ls with
    | .one, [.bool b] => bif b then yes (lit st t true) else no (lit st t false)
    | _, _ => none
  | .const (.bool b) => bif b then yes st else no st
  | _ => none

def evK (Γ : List Ctr) (T : TypeId → TI) (L : List (Nat × List (Nat × List Coe))) (fuel : Nat) : Code → St → (Ex → St → Option R) → Option R
  | .skip, st, κ => κ .normal st
  | .region _ ops draw, st, κ => regK Γ T ops draw st (κ .normal)
  | .seq a b, st, κ => evK Γ T L fuel a st (kSeq (evK Γ T L fuel b) κ)
  | .cond c x y, st, κ => condK st c (fun st => evK Γ T L fuel x st κ) (fun st => evK Γ T L fuel y st κ)
  | .block id c, st, κ => evK Γ T L fuel c st (kBlock id κ)
  | .loop c, st, κ => evLoop (liveOf L (loopKey c)) (evK Γ T L fuel c) fuel (norm (liveOf L (loopKey c)) st) κ
  | .exit id, st, κ => κ (.exit id) st
  | .ret, st, κ => κ .ret st
  | _, _, _ => none

/-- The code at a place of a code. -/
def sub : Code → List Nat → Code
  | .seq a _, 0 :: p => sub a p
  | .seq _ b, 1 :: p => sub b p
  | .cond _ x _, 0 :: p => sub x p
  | .cond _ _ y, 1 :: p => sub y p
  | .block _ c, 0 :: p => sub c p
  | .loop c, 0 :: p => sub c p
  | c, _ => c

/-- What follows behind that place. -/
def kAt (ev : Code → St → (Ex → St → Option R) → Option R) : Code → List Nat → (Ex → St → Option R) → Ex → St → Option R
  | .seq a b, 0 :: p, κ => kAt ev a p (kSeq (ev b) κ)
  | .seq _ b, 1 :: p, κ => kAt ev b p κ
  | .cond _ x _, 0 :: p, κ => kAt ev x p κ
  | .cond _ _ y, 1 :: p, κ => kAt ev y p κ
  | .block id c, 0 :: p, κ => kAt ev c p (kBlock id κ)
  | _, _, κ => κ

def bodyOf (fn : Func) : Code := match fn.body with
  | some c => c
  | none => .skip

def iterate {A : Type} (step : (A → Option R) → A → Option R) : Nat → A → Option R
  | 0, _ => none
  | k + 1, a => step (iterate step k) a

theorem evLoop_iter {A : Type} (live : List (Nat × List Coe)) (ev : St → (Ex → St → Option R) → Option R) (κ : Ex → St → Option R) (S : A → St)
    (step : (A → Option R) → A → Option R) (h : ∀ (rec : St → Option R) (a : A), ev (S a) (kLoop live rec κ) = step (fun a => rec (S a)) a) :
    ∀ (k : Nat) (a : A), evLoop live ev k (S a) κ = iterate step k a
  | 0, _ => rfl
  | k + 1, a => by
    have ih := evLoop_iter live ev κ S step h k
    simp only [evLoop, iterate]
    rw [h]
    exact congrArg (fun g => step g a) (funext ih)

@[reducible] def wr (k : IntKind) (n : Int) : Int := k.wrap n
def andI (k : IntKind) (a b : Int) : Int := k.wrap ((BitVec.ofInt k.bits a &&& BitVec.ofInt k.bits b).toNat)
def xorI (k : IntKind) (a b : Int) : Int := k.wrap ((BitVec.ofInt k.bits a ^^^ BitVec.ofInt k.bits b).toNat)

/-! ### A function -/
/-- The slots of the parameters, and the boxes behind them. -/
def parsSt (t : Nat) : (ps : List PK) → Args ps → Upd
  | [], _ => []
  | .rd a :: ps, x => (t, ⟨0, shOf a.isAgg, leaves false true a x.1⟩) :: parsSt (t + 1) ps x.2
  | .own E e :: ps, x => (t, ⟨0, .one, [.own (!e.flat) E e x.1]⟩) :: parsSt (t + 1) ps x.2
  | .io E e :: ps, x => (t, ⟨0, .one, [.own (!e.flat) E e x.1]⟩) :: parsSt (t + 1) ps x.2
  | .rref a :: ps, x => (t, ⟨0, .one, [.rp true a x.1 0]⟩) :: parsSt (t + 1) ps x.2
  | .rref2 a :: ps, x => (t, ⟨0, .one, [.rpp true a x.1]⟩) :: parsSt (t + 1) ps x.2
  | .iop a :: ps, x => (t, ⟨0, .one, [.bp (B0 + t) 0]⟩) :: (B0 + t, ⟨0, .agg, leaves false true a x.1⟩) :: parsSt (t + 1) ps x.2
  | .fn As B :: ps, x => (t, ⟨0, .one, [.fn As B x.1]⟩) :: parsSt (t + 1) ps x.2

/-- What stands in the parameters' slots at the end, of what was written. -/
def outsSt (st : St) (t : Nat) : (ps : List PK) → Option (Outs ps)
  | [] => some ()
  | .io E e :: ps => match (st t).ls with
    | [.own _ E' e' xs] => match castList E e E' e' xs with
      | some xs => (outsSt st (t + 1) ps).map (xs, ·)
      | none => none
    | _ => none
  | .iop a :: ps => match gatherAll st a (viewFrom (B0 + t) (st (B0 + t)).ver 0 (st (B0 + t)).ls) with
    | some (_, x) => (outsSt st (t + 1) ps).map (x, ·)
    | none => none
  | .rd _ :: ps => outsSt st (t + 1) ps
  | .own _ _ :: ps => outsSt st (t + 1) ps
  | .rref _ :: ps => outsSt st (t + 1) ps
  | .rref2 _ :: ps => outsSt st (t + 1) ps
  | .fn _ _ :: ps => outsSt st (t + 1) ps

/-- A result variable's leaves. -/
def resLs (st : St) (T : TypeId → TI) : ResultVar → List Leaf
  | .tmp t => (opnd st (.tmp t)).2
  | .cell t ty => match one st (.tmp t) with
    | .bp b off => ((viewFrom b (st b).ver 0 (st b).ls).drop off).take (T ty).cells
    | _ => []

/-- All lists are owned, and reach nothing that came in. -/
def allOwn (fresh : Bool) (st : St) (ls : List Leaf) : Bool := ls.all fun l => match deref st l with
  | .ro _ _ _ _ => false
  | .own p _ _ _ => !fresh || !p
  | _ => true
def allNew (st : St) (ls : List Leaf) : Bool := ls.all fun l => match deref st l with
  | .ro p _ _ _ => !p
  | .own p _ _ _ => !p
  | _ => true

/-- A result. -/
def resOf (st : St) (fresh : Bool) : (r : RK) → List Leaf → Option r.den
  | .v ow a, ls => bif (!ow || allOwn fresh st ls) && (!fresh || allNew st ls) then (gatherAll st a ls).map (·.2) else none
  | .box a, ls => match ls with
    | [.bp b 0] => bif !fresh || allNew st (viewFrom b (st b).ver 0 (st b).ls) then (gatherAll st a (viewFrom b (st b).ver 0 (st b).ls)).map (·.2) else none
    | _ => none

/-- A result variable's shape. -/
def resSh (st : St) (T : TypeId → TI) : ResultVar → Shape
  | .tmp t => (opnd st (.tmp t)).1
  | .cell t ty => match one st (.tmp t) with
    | .bp b off => bif decide ((st b).sh = .agg) && Nat.ble (off + (T ty).cells) (st b).ls.length && !Nat.beq (T ty).cells 0 then shOf (T ty).agg else .off
    | _ => .off

def RK.sh : RK → Shape
  | .v _ a => shOf a.isAgg
  | .box _ => .one

def ressOf (st : St) (T : TypeId → TI) (fresh : Bool) : (rs : List RK) → List ResultVar → Option (Ress rs)
  | [], [] => some ()
  | r :: rs, x :: xs => bif decide (resSh st T x = r.sh) then match resOf st fresh r (resLs st T x) with
    | some y => (ressOf st T fresh rs xs).map (y, ·)
    | none => none else none
  | _, _ => none

def finR (T : TypeId → TI) (ps : List PK) (rs : List RK) (fresh : Bool) (vars : List ResultVar) (st : St) : Option (Ress rs × Outs ps) :=
  bif distinct (owned st (vars.flatMap (resLs st T))) then
      match ressOf st T fresh rs vars, outsSt st 0 ps with
      | some y, some o => some (y, o)
      | _, _ => none
    else none

def finK (T : TypeId → TI) (ps : List PK) (rs : List RK) (fresh : Bool) (vars : List ResultVar) : Ex → St → Option (Ress rs × Outs ps)
  | .exit _, _ => none
  | _, st => finR T ps rs fresh vars st

/-- What is asked of an operation's slots, checked. -/
def operOk (nt : Nat) (fix : List Nat) (all : Array Oper) (o : Oper) : Bool :=
  (match o.dst with
    | some d => Nat.blt d nt && !(fix.any (Nat.beq d))
    | none => true) &&
  (match o.guard with
    | some (j, _) => match (all[j]?).bind (·.dst) with
      | some s => Nat.blt s nt
      | none => true
    | none => true)

def codeOk (nt : Nat) (fix : List Nat) : Code → Bool
  | .region _ ops _ => ops.toList.all (operOk nt fix ops)
  | .seq a b => codeOk nt fix a && codeOk nt fix b
  | .cond _ a b => codeOk nt fix a && codeOk nt fix b
  | .block _ c => codeOk nt fix c
  | .loop c => codeOk nt fix c
  | _ => true

/-- The slots that stay as they came. -/
def fixSlots (t : Nat) : List PK → List Nat
  | [] => []
  | .io _ _ :: ps => t :: fixSlots (t + 1) ps
  | .iop _ :: ps => t :: fixSlots (t + 1) ps
  | _ :: ps => fixSlots (t + 1) ps

def rsOk : List RK → Bool
  | [.box _] => true
  | rs => rs.all RK.isV

/-- What a function comes to. -/
def evF (Γ : List Ctr) (T : TypeId → TI) (L : List (Nat × List (Nat × List Coe))) (fuel : Nat) (fn : Func) (ps : List PK) (rs : List RK) (fresh : Bool) (x : Args ps) : Option (Ress rs × Outs ps) :=
  match fn.body with
  | some c => bif codeOk fn.ntmps (fixSlots 0 ps) c && Nat.ble ps.length fn.ntmps && Nat.ble fn.ntmps B0 && rsOk rs then
      evK Γ T L fuel c (mkSt (parsSt 0 ps x)) (finK T ps rs fresh fn.results.toList) else none
  | none => none

end

end Go.Proofs.YthgnfidnmnkeaaaGreatEv
