/- The value evaluator, second form: what a Go function's code computes, on plain values. No proof here but definitions. -/
import Derived.Calls
import Derived.Orders
import Derived.KernelRfl
import Derived.Below
import Derived.Maps.AppendAt
import Derived.Laws.OwnMore
import Derived.Lib.ConvBytes
import Derived.WalkKit
import Derived.Great.BuildSlice
set_option linter.unusedVariables false
set_option linter.unusedSimpArgs false
open Array renaming getD_eq_getD_getElem?->GB,toList_map->GL,toArray_toList->GR
open Bool renaming and_eq_true->FM,not_eq_true'->GF,or_eq_false_iff->GP,not_eq_true->Gc
open ByteArray renaming empty->F4
open Go.Act renaming put->Gl
open Go.Builtin renaming len_->Gb
open Go.Instr renaming sliceAt->GJ,sureAddr->GO,slice->GQ,sliceBounds->Ga,index->Ge,indexAt->Gj,field->Gn
open Go.Program renaming built->Gk
open Go.Result renaming andThen_ok->FV
open Go.Sem renaming run_bind->FZ,run_pure->F3
open Go.Value renaming oneCell'->FT,ownBlock->F7
open Go.World renaming cell?->Gm
open List renaming getElem?_eq_some_iff->FL,getElem?_eq_getElem->FN,mem_append_right->FO,mem_append_left->FP,mem_append->FW,getElem?_take->FY,replicate->F0,getD_eq_getElem?_getD->F1,getElem?_append_right->F2,mem_singleton_self->F6,append_assoc->F8,range->F9,getElem?_drop->GC,getElem?_append_left->GD,any_eq_false->GG,mem_cons_of_mem->GN,replicate_succ->GS,mem_cons->GT,length_append->GU,mem_cons_self->GV,mem_singleton->GW,getElem?_map->GY,flatten_cons->GZ,cons_append->Gd,drop_drop->Gg,map_cons->Gi
open Nat renaming beq->FJ,eq_of_beq_eq_true->FK,le_refl->FR,le_trans->FU,lt_of_lt_of_le->F5,blt->GA,ble->GE,add_assoc->GI,lt_succ_self->GK,zero_add->GX
open Option renaming bind_eq_some_iff->FS,map_eq_some_iff->FX,map_none->GM,map_some->Gf
open Option.some renaming injEq->FQ
open Prod.mk renaming injEq->Gh
namespace Go.Proofs.YtmibehbhnkeaiaaGreatEv
open Go
inductive Ty where
 |int (k:IntKind)|bool|str|unit
 |hdr
 |pair (a b:Ty)
 |list (m:Bool) (E:TypeId) (e:Ty)
 deriving DecidableEq
abbrev Ty.den:Ty->Type
 |.int _=>Int
 |.bool=>Bool
 |.str=>ByteArray
 |.unit=>Unit
 |.hdr=>Nat
 |.pair a b=>a.den×b.den
 |.list _ _ e=>List e.den
def Ty.cells:Ty->Nat
 |.unit=>0
 |.pair a b=>a.cells+b.cells
 |_=>1
def Ty.zero:(a:Ty)->a.den
 |.int _=>(0:Int)
 |.bool=>false
 |.str=>F4
 |.unit=>()
 |.hdr=>(0:Nat)
 |.pair a b=>(a.zero,b.zero)
 |.list _ _ e=>([]:List e.den)
def Ty.flat:Ty->Bool
 |.list _ _ _=>false
 |.pair a b=>a.flat&&b.flat
 |_=>true
def Ty.sh:Ty->Ty
 |.pair a b=>.pair a.sh b.sh
 |.list _ E e=>.list false E e.sh
 |a=>a
def Ty.shy:Ty->Bool
 |.list m _ e=>!m||e.shy
 |.pair a b=>a.shy||b.shy
 |_=>false
theorem nJ:∀ a:Ty,a.sh.den=a.den
 |.int _|.bool|.str|.unit|.hdr=>rfl
 |.pair a b=>by
  show (a.sh.den×b.sh.den)=(a.den×b.den);rw[nJ a,nJ b]
 |.list _ _ e=>congrArg List (nJ e)
theorem ke {a b:Ty}(h:a.sh=b.sh):a.den=b.den:=(nJ a).symm.trans ((congrArg Ty.den h).trans (nJ b))
def Ty.eqv:(a:Ty)->a.den->a.den->Bool
 |.int _,x,y=>decide ((x:Int)=y)
 |.bool,x,y=>(x:Bool)==y
 |.str,x,y=>decide ((x:ByteArray)=y)
 |.unit,_,_=>true
 |.hdr,_,_=>false
 |.pair a b,x,y=>a.eqv x.1 y.1&&b.eqv x.2 y.2
 |.list _ _ _,_,_=>false
abbrev Tup:List Ty->Type
 |[]=>Unit
 |a::as=>a.den×Tup as
inductive Leaf where
 |int (k:IntKind) (n:Int)
 |bool (b:Bool)
 |str (s:ByteArray)
 |nil
 |hdr (n:Nat)
 |ro (p:Bool) (E:TypeId) (e:Ty) (xs:List e.den)
 |own (p:Bool) (h:Option (Nat×Nat)) (E:TypeId) (e:Ty) (xs:List e.den)
 |al (r j v:Nat)
 |nal (p:Bool) (ks:List (Nat×Nat×Nat)) (ep:Nat) (loc:Option (Nat×Nat×Nat)) (E:TypeId) (e:Ty) (xs:List e.den)
 |ep (r j v:Nat) (i sz off:Nat)
 |np (p:Bool) (ks:List (Nat×Nat×Nat)) (ep:Nat) (a:Ty) (x:a.den) (off:Nat)
 |rp (p:Bool) (a:Ty) (x:a.den) (off:Nat)
 |rpp (p:Bool) (a:Ty) (x:a.den)
 |bp (b off:Nat)
 |clo (f:FuncId) (caps:List Nat)
 |clr (f:FuncId) (caps:List (Bool×Bool×(a:Ty)×a.den))
 |fn (As:List Ty) (B:Ty) (φ:Tup As->Option B.den)
 |dead
inductive aK where
 |off|und|one|agg
 |tup (ps:List (Bool×Nat))
 deriving DecidableEq
structure b7 where
 ver:Nat
 sh:aK
 ls:List Leaf
abbrev St:=Nat->b7
def b7.none:b7:=⟨0,.off,[]⟩
def GH:Nat:=99000
def TMP:Nat:=99998
def EPO:Nat:=99999
def B0:Nat:=100000
abbrev Upd:=List (Nat×b7)
def ac (U:Upd)(st:St)(q:Nat):b7 :=
 match U with
 |[]=>st q
 |(r,c)::u=>bif FJ q r then c else ac u st q
inductive TI where
 |int (k:IntKind)|bool|str
 |slice (E:TypeId) (e:Ty) (bytes:Nat)
 |struct (a:Ty) (flds:List (Nat×Nat×Bool))
 |arr (e:Ty) (n:Nat)
 |ptr|fn
 |none
def gJ:List (TypeId×TI)->TypeId->TI
 |[],_=>.none
 |(t,i)::l,u=>bif FJ t u then i else gJ l u
def TI.cells:TI->Nat
 |.struct a _=>a.cells
 |.arr e n=>n*e.cells
 |.none=>0
 |_=>1
def TI.agg:TI->Bool
 |.struct _ _=>true
 |.arr _ _=>true
 |_=>false
def fy:Ty->List Leaf
 |.int k=>[.int k 0]
 |.bool=>[.bool false]
 |.str=>[.str F4]
 |.unit=>[]
 |.hdr=>[.nil]
 |.pair a b=>fy a++fy b
 |.list _ _ _=>[.nil]
def TI.zero:TI->List Leaf
 |.int k=>[.int k 0]
 |.bool=>[.bool false]
 |.str=>[.str F4]
 |.slice _ _ _=>[.nil]
 |.struct a _=>fy a
 |.arr e n=>(F0 n (fy e)).flatten
 |.ptr=>[.dead]
 |.fn=>[.dead]
 |.none=>[]
def aq (p:Bool):(a:Ty)->a.den->List Leaf
 |.int k,n=>[.int k n]
 |.bool,b=>[.bool b]
 |.str,s=>[.str s]
 |.unit,_=>[]
 |.hdr,n=>[.hdr n]
 |.pair a b,x=>aq p a x.1++aq p b x.2
 |.list m E e,r=>[bif m then .own (p&&e.shy) none E e r else .ro p E e r]
def cS (p:Bool):(a:Ty)->a.den->List Leaf
 |.int k,n=>[.int k n]
 |.bool,b=>[.bool b]
 |.str,s=>[.str s]
 |.unit,_=>[]
 |.hdr,n=>[.hdr n]
 |.pair a b,x=>cS p a x.1++cS p b x.2
 |.list _ E e,r=>[.ro p E e r]
def l9 (p:Bool)(ks:List (Nat×Nat×Nat))(ep:Nat):(a:Ty)->a.den->List Leaf
 |.int k,n=>[.int k n]
 |.bool,b=>[.bool b]
 |.str,s=>[.str s]
 |.unit,_=>[]
 |.hdr,n=>[.hdr n]
 |.pair a b,x=>l9 p ks ep a x.1++l9 p ks ep b x.2
 |.list _ E e,r=>[.nal p ks ep none E e r]
def ik (p:Bool)(r j v ep i u:Nat)(h:Option Nat):(a:Ty)->Nat->a.den->List Leaf
 |.int k,_,n=>[.int k n]
 |.bool,_,b=>[.bool b]
 |.str,_,s=>[.str s]
 |.unit,_,_=>[]
 |.hdr,_,n=>[.hdr n]
 |.pair a b,off,x=>ik p r j v ep i u h a off x.1++ik p r j v ep i u h b (off+a.cells) x.2
 |.list m E e,off,y=>[bif decide (h=some off) then .dead else bif m then .nal (p&&e.shy) [(r,j,v)] ep (some (i,u,off)) E e y else .ro p E e y]
def ma (p:Bool)(r j v ep i u:Nat)(h:Option (Bool×Nat)):(a:Ty)->Nat->a.den->List Leaf
 |.int k,_,n=>[.int k n]
 |.bool,_,b=>[.bool b]
 |.str,_,s=>[.str s]
 |.unit,_,_=>[]
 |.hdr,_,n=>[.hdr n]
 |.pair a b,off,x=>ma p r j v ep i u h a off x.1++ma p r j v ep i u h b (off+a.cells) x.2
 |.list m E e,off,y=>[bif (match h with|some (b,o)=>FJ o off&&b|Option.none=>false) then .dead else bif m then .nal (p&&e.shy) [(r,j,v)] ep (some (i,u,off)) E e y else .ro p E e y]
def bk (agg:Bool):aK:=bif agg then .agg else .one
def mb:Leaf->Bool
 |.own _ _ _ _ _=>true
 |_=>false
def bu (st:St)(ks:List (Nat×Nat×Nat))(ep:Nat):Bool:=FJ (st EPO).ver ep&&ks.all λk=>FJ (st k.1).ver k.2.2&&mb ((st k.1).ls.getD k.2.1 .dead)
def qw:Leaf->Leaf
 |.nal _ _ _ _ _ _ _=>.dead
 |l=>l
def aH (st:St):Leaf->Leaf
 |.al r j v=>bif FJ (st r).ver v then qw ((st r).ls.getD j .dead) else .dead
 |.nal p y ep u E e z=>bif bu st y ep then .nal p y ep u E e z else .dead
 |l=>l
def mA (t j r:Nat):Leaf->Leaf
 |.own _ _ _ _ _=>.al t j r
 |l=>l
def bL (t r:Nat):Nat->List Leaf->List Leaf
 |_,[]=>[]
 |j,l::u=>mA t j r l::bL t r (j+1) u
def jb:Value->Option Leaf
 |.int k n=>some (.int k n)
 |.bool b=>some (.bool b)
 |.string s=>some (.str s)
 |.slice Option.none 0 0=>some .nil
 |_=>Option.none
def au (st:St):Operand->aK×List Leaf
 |.tmp t=>bif GA t GH then ((st t).sh,bL t (st t).ver 0 (st t).ls) else (.off,[])
 |.const v=>match jb v with
  |some l=>(.one,[l])
  |Option.none=>(.off,[])
 |.func f=>(.one,[.clo f []])
 |.global _=>(.off,[])
def one (st:St)(x:Operand):Leaf :=
 match au st x with
 |(.one,[l])=>l
 |_=>.dead
def castSh (e e':Ty)(xs:List e'.den):Option (List e.den) :=
 if h:e'.sh=e.sh then some (cast (congrArg List (ke h)) xs) else Option.none
def mB (E:TypeId)(e:Ty)(E':TypeId)(e':Ty)(xs:List e'.den):Option (List e.den) :=
 if h:E'=E/\e'=e then some (h.2 ▸ xs) else Option.none
def dw (e:Ty):Leaf->Option (Bool×List e.den)
 |.ro p _ r u=>(castSh e r u).map (p,·)
 |.own p none _ r u=>(castSh e r u).map (p,·)
 |.nal p _ _ _ _ r u=>(castSh e r u).map (p,·)
 |.nil=>some (false,[])
 |_=>Option.none
def gK:Leaf->Option Nat
 |.ro _ _ _ r=>some r.length
 |.own _ _ _ _ r=>some r.length
 |.nal _ _ _ _ _ _ r=>some r.length
 |.nil=>some 0
 |.hdr n=>some n
 |_=>Option.none
def be (st:St):(a:Ty)->List Leaf->Option (Bool×a.den×List Leaf)
 |.int k,r=>match r with
  |.int u n::r=>if k=u then some (false,(n:Int),r) else Option.none
  |_=>Option.none
 |.bool,r=>match r with
  |.bool b::r=>some (false,b,r)
  |_=>Option.none
 |.str,r=>match r with
  |.str s::r=>some (false,s,r)
  |_=>Option.none
 |.unit,r=>some (false,(),r)
 |.hdr,r=>match r with
  |l::r=>match gK (aH st l) with
   |some n=>some (false,(n:Nat),r)
   |Option.none=>Option.none
  |_=>Option.none
 |.pair a b,r=>match be st a r with
  |some (p,x,r)=>match be st b r with
   |some (q,y,r)=>some (p||q,(x,y),r)
   |Option.none=>Option.none
  |Option.none=>Option.none
 |.list _ _ e,r=>match r with
  |l::r=>match dw e (aH st l) with
   |some (p,z)=>some (p,z,r)
   |Option.none=>Option.none
  |_=>Option.none
def c8 (st:St)(a:Ty)(ls:List Leaf):Option (Bool×a.den) :=
 match be st a ls with
 |some (p,x,[])=>some (p,x)
 |_=>Option.none
structure cU (α:Type) where
 p:Bool
 val:α
 frz:List (Nat×Nat)
 kill:List (Nat×Nat)
 rest:List Leaf
def bE (st:St):List Leaf->List (Nat×Nat)
 |[]=>[]
 |.al r j v::u=>(match aH st (.al r j v) with|.own _ _ _ _ _=>[(r,j)]|_=>[])++bE st u
 |.nal p z ep y E e H::u=>(match aH st (.nal p z ep y E e H) with|.nal _ _ _ _ _ _ _=>z.map (λk=>(k.1,k.2.1))|_=>[])++bE st u
 |_::u=>bE st u
def ck (st:St):List Leaf->List (Nat×Nat)
 |[]=>[]
 |.al r j v::u=>(match aH st (.al r j v) with|.own _ _ _ _ _=>[(r,j)]|_=>[])++ck st u
 |_::u=>ck st u
def take (st : St) : (a : Ty) -> List Leaf -> Option (cU a.den)
  |.int k,u=>(be st (.int k) u).map λx=>⟨false,x.2.1,[],[],x.2.2⟩
  |.bool,u=>(be st .bool u).map λx=>⟨false,x.2.1,[],[],x.2.2⟩
  |.str,u=>(be st .str u).map λx=>⟨false,x.2.1,[],[],x.2.2⟩
  |.unit,u=>some ⟨false,(),[],[],u⟩
  |.hdr,u=>(be st .hdr u).map λx=>⟨false,x.2.1,[],[],x.2.2⟩
  |.pair a b,u=>match take st a u with
    |some x=>match take st b x.rest with
      |some y=>some ⟨x.p||y.p,(x.val,y.val),x.frz++y.frz,x.kill++y.kill,y.rest⟩
      |Option.none=>Option.none
    |Option.none=>Option.none
  |.list m E e,u=>match u with
    |[]=>Option.none
    |l::u=>bif m then (match l with
        |.al r j v=>match aH st (.al r j v) with
          |.own p none H I z=>(mB E e H I z).map λz=>⟨p,z,[],[(r,j)],u⟩
          |_=>Option.none
        |.nil=>some ⟨false,([]:List e.den),[],[],u⟩
        |_=>Option.none)
      else match dw e (aH st l) with
        |some (p,z)=>some ⟨p,z,bE st [l],[],u⟩
        |Option.none=>Option.none
def cr (st:St)(a:Ty)(ls:List Leaf):Option (cU a.den) :=
 match take st a ls with
 |some ⟨p,x,f,k,[]⟩=>some ⟨p,x,f,k,[]⟩
 |_=>Option.none
def dq (st:St)(off n:Nat):(a:Ty)->Nat->a.den->List Leaf->Option (cU a.den)
 |.pair a b,pos,x,r=>match dq st off n a pos x.1 r with
  |some u=>match dq st off n b (pos+a.cells) x.2 u.rest with
   |some v=>some ⟨u.p||v.p,(u.val,v.val),u.frz++v.frz,u.kill++v.kill,v.rest⟩
   |Option.none=>Option.none
  |Option.none=>Option.none
 |.int k,pos,x,r=>bif GE off pos&&GA pos (off+n) then take st (.int k) r else some ⟨false,x,[],[],r⟩
 |.bool,pos,x,r=>bif GE off pos&&GA pos (off+n) then take st .bool r else some ⟨false,x,[],[],r⟩
 |.str,pos,x,r=>bif GE off pos&&GA pos (off+n) then take st .str r else some ⟨false,x,[],[],r⟩
 |.unit,_,x,r=>some ⟨false,x,[],[],r⟩
 |.hdr,_,_,_=>Option.none
 |.list m E e,pos,x,r=>bif GE off pos&&GA pos (off+n) then take st (.list m E e) r else some ⟨false,x,[],[],r⟩
def bT (off:Nat)(E:TypeId)(e:Ty)(r:List e.den):(a:Ty)->Nat->a.den->Option a.den
 |.pair a b,pos,x=>match bT off E e r a pos x.1 with
  |some u=>some (u,x.2)
  |Option.none=>(bT off E e r b (pos+a.cells) x.2).map λv=>(x.1,v)
 |.list m y z,pos,_=>bif m&&FJ pos off then mB y z E e r else Option.none
 |.int _,_,_|.bool,_,_|.str,_,_|.unit,_,_|.hdr,_,_=>Option.none
def ax:List Leaf->List Nat
 |[]=>[]
 |.al r _ _::u=>r::ax u
 |.ep r _ _ _ _ _::u=>r::ax u
 |.nal _ y _ _ _ _ _::u=>EPO::y.map (·.1)++ax u
 |.np _ y _ _ _ _::u=>EPO::y.map (·.1)++ax u
 |_::u=>ax u
def aV (ls:List Leaf)(j:Nat)(l:Leaf):List Leaf:=ls.set j l
def gL (c:b7)(j:Nat):b7:=⟨c.ver,c.sh,aV c.ls j .dead⟩
def aP (st:St):List (Nat×Nat)->Upd
 |[]=>[]
 |(r,j)::u=>let U:=aP st u;let c:=ac U st r;(r,gL c j)::U
def vZ:Leaf->Leaf
 |.own p none E e r=>.ro p E e r
 |.own _ (some _) _ _ _=>.dead
 |l=>l
def gF (c:b7)(j:Nat):b7:=⟨c.ver,c.sh,aV c.ls j (vZ (c.ls.getD j .dead))⟩
def aI (st:St):List (Nat×Nat)->Upd
 |[]=>[]
 |(r,j)::u=>let U:=aI st u;let c:=ac U st r;(r,gF c j)::U
def ca (c:b7):b7:=⟨c.ver+1,c.sh,c.ls⟩
def epoU (st:St):Upd:=[(EPO,ca (st EPO))]
def dL (st:St):List Leaf->List (Nat×Nat)
 |[]=>[]
 |.nal p u ep none E e y::r=>(match aH st (.nal p u ep none E e y) with|.nal _ _ _ _ _ _ _=>u.map (λk=>(k.1,k.2.1))|_=>[])++dL st r
 |_::r=>dL st r
def gQ (st:St)(l:Leaf):Leaf:=match aH st l with
 |.nal p _ _ none E e r=>.ro p E e r
 |l=>l
def dU (st:St)(ls:List Leaf):List Leaf:=ls.map (gQ st)
def mvU (st:St)(ls:List Leaf):Upd:=let U:=aI st (dL st ls);aP (ac U st) (ck st ls)++U
def bc:List (Nat×Nat)->Bool
 |[]=>true
 |x::r=>!(r.any λy=>FJ x.1 y.1&&FJ x.2 y.2)&&bc r
def jc (a b:Nat×Nat):Bool:=FJ a.1 b.1&&FJ a.2 b.2
def dO (a b:List (Nat×Nat)):Bool:=!(a.any λk=>b.any (jc k))
def iN (st:St)(ls:List Leaf):Bool:=bc (ck st ls)&&dO (dL st ls) (ck st ls)
def tI (st:St):Operand->Bool
 |.tmp q=>FJ (st q).ver 7
 |_=>false
def idx {α:Type}(xs:List α)(i:Int):Option α:=if i<0 then Option.none else xs[i.toNat]?
def kf (u r:List Leaf)(off:Nat):List Leaf:=u.take off++r++u.drop (off+r.length)
def tJ (op:BinOp)(k:IntKind)(x y:Int):Option Leaf :=
 match op with
 |.add=>some (.int k (k.wrap (x+y)))
 |.sub=>some (.int k (k.wrap (x-y)))
 |.mul=>some (.int k (k.wrap (x*y)))
 |.eql=>some (.bool (x==y))
 |.neq=>some (.bool (x != y))
 |.lss=>some (.bool (decide (x<y)))
 |.leq=>some (.bool (decide (x<=y)))
 |.gtr=>some (.bool (decide (x>y)))
 |.geq=>some (.bool (decide (x>=y)))
 |_=>Option.none
def bh (off:Nat):(a:Ty)->Nat->a.den->Option ((E:TypeId)×(e:Ty)×List e.den)
 |.pair a b,pos,x=>match bh off a pos x.1 with
  |some u=>some u
  |Option.none=>bh off b (pos+a.cells) x.2
 |.list m E e,pos,r=>bif m&&FJ pos off then some ⟨E,e,r⟩ else Option.none
 |.int _,_,_|.bool,_,_|.str,_,_|.unit,_,_|.hdr,_,_=>Option.none
def cC (st:St):Leaf->Option (Upd×Leaf)
  |.nal p I ep H E e X=>bif bu st I ep then (match I,H with
      | [(r, j, _)], some (i, O, off) => (match (st r).ls.getD j .dead with
        |.own J none M z u=>bif !FJ r TMP&&!FJ r EPO&&FJ O z.cells then
            (match u[i]? with
            |some y=>match bh off z 0 y with
              |some ⟨E,e,R⟩=>some ([(r,⟨(st r).ver,(st r).sh,aV (st r).ls j (.own J (some (i,off)) M z u)⟩),(TMP,⟨(st TMP).ver+1,.one,[.own (J&&z.shy) none E e R]⟩),(EPO,ca (st EPO))],.al TMP 0 ((st TMP).ver+1))
              |Option.none=>Option.none
            |Option.none=>Option.none)
          else Option.none
        |_=>Option.none)
      |_,_=>Option.none)
    else Option.none
  |_=>Option.none
def jZ:Leaf->Bool
 |.nal _ _ _ _ _ _ _=>true
 |_=>false
inductive PK where
 |rd (a:Ty)
 |own (a:Ty)
 |io (a:Ty)
 |rref (a:Ty)
 |rref2 (a:Ty)
 |iop (a:Ty)
 |fn (As:List Ty) (B:Ty)
 |clo (f:FuncId) (cs:List (Bool×Ty))
 |hol (a:Ty) (c off:Nat)
 deriving DecidableEq
inductive RK where
 |v (a:Ty)
 |bv (a:Ty)
 |box (a:Ty)
 deriving DecidableEq
abbrev mC:List (Bool×Ty)->Type
 |[]=>Unit
 |c::r=>c.2.den×mC r
abbrev PK.den:PK->Type
 |.rd a|.own a|.io a|.rref a|.rref2 a|.iop a=>a.den
 |.fn r B=>Tup r->Option B.den
 |.clo _ u=>mC u
 |.hol a _ _=>a.den×Nat
abbrev ab:List PK->Type
 |[]=>Unit
 |p::r=>p.den×ab r
abbrev ag:List PK->Type
 |[]=>Unit
 |.io a::r=>a.den×ag r
 |.iop a::r=>a.den×ag r
 |_::r=>ag r
abbrev RK.den:RK->Type
 |.v a|.bv a|.box a=>a.den
abbrev ai:List RK->Type
 |[]=>Unit
 |r::u=>r.den×ai u
structure Ctr where
 f:FuncId
 ps:List PK
 rs:List RK
 fresh:Bool
 den:ab ps->Option (ai rs×ag ps)
def Ty.isAgg:Ty->Bool
 |.pair _ _|.unit=>true
 |_=>false
def target (st:St):Leaf->Option (List Leaf)
 |.bp b 0=>bif decide ((st b).sh=.agg) then some (bL b (st b).ver 0 (st b).ls) else none
 |.rp p a x 0=>some (cS p a x)
 |.rpp p a x=>some [.rp p a x 0]
 |_=>none
structure Got (α:Type) where
 p:Bool
 val:α
 frz:List (Nat×Nat)
 kill:List (Nat×Nat)
 see:List Nat
 lend:List Nat
def Got.ofRd {α:Type}(r:List Nat)(x:Bool×α)(frz:List (Nat×Nat)):Got α:=⟨x.1,x.2,frz,[],r,[]⟩
def mD (Γ:List Ctr)(f:FuncId):Option Ctr:=match Γ with
 |[]=>none
 |c::r=>bif FJ c.f f then some c else mD r f
def cD (x:aK×List Leaf):Leaf :=
 match x with
 |(.one,[l])=>l
 |_=>.dead
def fK:List Leaf->List Nat
 |[]=>[]
 |.bp b _::r=>b::fK r
 |_::r=>fK r
def fN (st:St)(c:Bool×Ty)(l:Leaf):Option (Got c.2.den) :=
 bif c.1 then (match target st l with
  |some [u]=>match target st u with
   |some r=>(c8 st c.2 r).map λy=>.ofRd (fK [l,u]) y (bE st r)
   |none=>none
  |_=>none)
 else match target st l with
  |some r=>(c8 st c.2 r).map λy=>.ofRd (fK [l]) y (bE st r)
  |none=>none
def cM (st:St):(cs:List (Bool×Ty))->List Leaf->Option (Got (mC cs))
 |[],[]=>some ⟨false,(),[],[],[],[]⟩
 |c::cs,l::r=>match fN st c l with
  |some g=>match cM st cs r with
   |some h=>some ⟨g.p||h.p,(g.val,h.val),g.frz++h.frz,[],g.see++h.see,[]⟩
   |none=>none
  |none=>none
 |_,_=>none
def fm (c:Bool×Bool×(a:Ty)×a.den):Leaf:=bif c.2.1 then .rpp c.1 c.2.2.1 c.2.2.2 else .rp c.1 c.2.2.1 c.2.2.2 0
def bj (st : St) : (pk : PK) -> aK × List Leaf -> Option (Got pk.den)
  |.rd a,x=>bif decide (x.1=bk a.isAgg) then (c8 st a x.2).map λy=>.ofRd [] y (bE st x.2) else none
  |.own a,x=>bif decide (x.1=bk a.isAgg) then (cr st a x.2).map λt=>⟨t.p,t.val,t.frz,t.kill,[],[]⟩ else none
  |.io a,x=>bif decide (x.1=bk a.isAgg) then (cr st a x.2).map λt=>⟨t.p,t.val,t.frz,t.kill,[],[]⟩ else none
  |.rref a,x=>fN st (false,a) (cD x)
  |.rref2 a,x=>fN st (true,a) (cD x)
  |.iop a,x=>match cD x with
    |.bp b 0=>bif decide ((st b).sh=.agg) then (cr st a (bL b (st b).ver 0 (st b).ls)).map λt=>⟨t.p,t.val,t.frz,t.kill,[],[b]⟩ else none
    |_=>none
  |.fn I B,x=>match cD x with
    |.fn z M R=>if h:z=I/\M=B then some ⟨false,(h.1 ▸ h.2 ▸ R:Tup I->Option B.den),[],[],[],[]⟩ else none
    |_=>none
  |.clo f J,x=>match cD x with
    |.clo H u=>bif FJ H f then cM st J (u.map λb=>.bp b 0) else none
    |.clr H u=>bif FJ H f then cM st J (u.map fm) else none
    |_=>none
  |.hol a c off,x=>bif decide (x.1=bk a.isAgg) then (match x.2.getD c .dead with
      |.al r j v=>(match aH st (.al r j v) with
        |.own p (some (i,o)) E e O=>bif FJ o off then (match cr st a (aV x.2 c .nil) with
            |some t=>(match bT c E e O a 0 t.val with
              |some y=>some ⟨p||t.p,(y,i),t.frz,(r,j)::t.kill,[],[]⟩
              |none=>none)
            |none=>none) else none
        |_=>none)
      |_=>none) else none
def bf (ga:(pk:PK)->aK×List Leaf->Option (Got pk.den)):(ps:List PK)->List (aK×List Leaf)->Option (Got (ab ps))
 |[],[]=>some ⟨false,(),[],[],[],[]⟩
 |p::ps,x::r=>match ga p x with
  |some g=>match bf ga ps r with
   |some h=>some ⟨g.p||h.p,(g.val,h.val),g.frz++h.frz,g.kill++h.kill,g.see++h.see,g.lend++h.lend⟩
   |none=>none
  |none=>none
 |_,_=>none
def wa (st:St):(ps:List PK)->List (aK×List Leaf)->Option (Got (ab ps)):=bf (bj st)
def cl (st:St):List Leaf->List Leaf->Upd
 |.al r j _::y,l::u=>let U:=cl st y u;(match l with|.own p h E e ys=>let c:=ac U st r;[(r,⟨c.ver,c.sh,aV c.ls j (.own p h E e ys)⟩),(EPO,ca (ac U st EPO))]|_=>[])++U
 |_::y,_::u=>cl st y u
 |_,_=>[]
def aJ (st:St)(p:Bool):(ps:List PK)->List (aK×List Leaf)->ag ps->Upd
 |[],_,_=>[]
 |.io a::ps,x::r,o=>let U:=aJ st p ps r o.2;cl (ac U st) x.2 (aq p a o.1)++U
 |.iop a::ps,x::r,o=>let U:=aJ st p ps r o.2;(match cD x with
  |.bp b _=>let c:=ac U st b;[(b,⟨c.ver+2,.agg,aq p a o.1⟩)]
  |_=>[])++U
 |.rd _::ps,_::r,o=>aJ st p ps r o
 |.own _::ps,_::r,o=>aJ st p ps r o
 |.rref _::ps,_::r,o=>aJ st p ps r o
 |.rref2 _::ps,_::r,o=>aJ st p ps r o
 |.fn _ _::ps,_::r,o=>aJ st p ps r o
 |.clo _ _::ps,_::r,o=>aJ st p ps r o
 |.hol _ _ _::ps,_::r,o=>aJ st p ps r o
 |_::_,[],_=>[]
def qx (d v:Nat)(p q:Bool)(ks:List (Nat×Nat×Nat))(ep:Nat):(r:RK)->r.den->(Bool×List Leaf)×Upd
 |.v a,y=>((a.isAgg,aq p a y),[])
 |.bv a,y=>((a.isAgg,l9 q ks ep a y),[])
 |.box a,y=>((false,[.bp (B0+d) 0]),[(B0+d,⟨v+1,.agg,aq p a y⟩)])
def bJ (d v:Nat)(p q:Bool)(ks:List (Nat×Nat×Nat))(ep:Nat):(u:List RK)->ai u->List (Bool×List Leaf)×Upd
 |[],_=>([],[])
 |r::u,y=>let a:=qx d v p q ks ep r y.1;let b:=bJ d v p q ks ep u y.2;(a.1::b.1,a.2++b.2)
def fp (r:Nat)(l:List (Bool×List Leaf)):b7 :=
 match l with
 |[(agg,u)]=>⟨r,bk agg,u⟩
 |l=>⟨r,.tup (l.map λx=>(x.1,x.2.length)),(l.map (·.2)).flatten⟩
def cB (st:St)(U:Upd)(d:Nat)(sh:aK)(ls:List Leaf):Upd:=(d,⟨(ac U st d).ver+1,sh,ls⟩)::U
def PK.reads:PK->Bool
 |.rd _|.rref _|.rref2 _=>true
 |_=>false
def oS (caps:List PK)(z:ab caps):(r:List Ty)->Tup r->ab (r.map .rd++caps)
 |[],_=>z
 |_::as,x=>(x.1,oS caps z as x.2)
def tu (st:St)(u:List Ty)(B:Ty)(ls:List Leaf)(ps:List PK)(z:List RK)(r:Bool)(den:ab ps->Option (ai z×ag ps))(q:List PK):Option (Got (Tup u->Option B.den)) :=
 if h:ps=u.map .rd++q/\z=[.v B] then
  bif q.all PK.reads&&B.flat&&r then
   match wa st q (ls.map λl=>(.one,[l])) with
   |some g=>some ⟨g.p,λx=>(den (h.1 ▸ oS _ g.val u x)).map λy=>(h.2 ▸ y.1:ai [.v B]).1,g.frz,[],g.see,[]⟩
   |none=>none
  else none
 else none
def lm (Γ:List Ctr)(st:St)(r:List Ty)(B:Ty)(f:FuncId)(ls:List Leaf):Option (Got (Tup r->Option B.den)) :=
 match mD Γ f with
 |some c=>tu st r B ls c.ps c.rs c.fresh c.den (c.ps.drop r.length)
 |none=>none
def wQ:Leaf->Option (FuncId×List Leaf)
 |.clo f r=>some (f,r.map λb=>.bp b 0)
 |.clr f r=>some (f,r.map fm)
 |_=>none
def co (Γ:List Ctr)(st:St):(pk:PK)->aK×List Leaf->Option (Got pk.den)
 |.fn r B,x=>match wQ (cD x) with
  |some u=>lm Γ st r B u.1 u.2
  |none=>bj st (.fn r B) x
 |.rd a,x=>bj st (.rd a) x
 |.own a,x=>bj st (.own a) x
 |.io a,x=>bj st (.io a) x
 |.rref a,x=>bj st (.rref a) x
 |.rref2 a,x=>bj st (.rref2 a) x
 |.iop a,x=>bj st (.iop a) x
 |.clo f y,x=>bj st (.clo f y) x
 |.hol a c off,x=>bj st (.hol a c off) x
def pP (Γ:List Ctr)(st:St):(ps:List PK)->List (aK×List Leaf)->Option (Got (ab ps)):=bf (co Γ st)
def PK.takes:PK->Bool
 |.own _|.io _=>true
 |_=>false
def PK.isIo:PK->Bool
 |.io _=>true
 |_=>false
def qy:Ty->Nat->Bool
 |.pair a b,j=>bif GA j a.cells then qy a j else qy b (j-a.cells)
 |.list m _ _,j=>m&&FJ j 0
 |_,_=>false
def mc (a:Ty):Nat->List Leaf->Option Nat
 |_,[]=>none
 |j,l::r=>bif jZ l&&qy a j then some j else mc a (j+1) r
def PK.nest:PK->List Leaf->Option Nat
 |.own a,r=>mc a 0 r
 |.io a,r=>mc a 0 r
 |_,_=>none
def kP:Leaf->Nat×Nat
 |.nal _ ((r,j,_)::_) _ _ _ _ _=>(r,j)
 |_=>(0,0)
def dj (st:St):List PK->List (aK×List Leaf)->Option (Upd×List (aK×List Leaf)×Option (Bool×Nat×Nat))
 |p::y,x::r=>match p.nest x.2 with
  |some k=>(cC st (x.2.getD k .dead)).map λu=>(u.1,(x.1,aV x.2 k u.2)::r,some (p.isIo,kP (x.2.getD k .dead)))
  |none=>(dj st y r).map λu=>(u.1,x::u.2.1,u.2.2)
 |_,r=>some ([],r,none)
section
variable {R:Type}
def mE (st : St) (l : Leaf) (Y : Upd -> Leaf -> Option R) : Option R :=
  match l with
  |.nal _ I ep H _ _ _=>bif bu st I ep then (match I,H with
      | [(r, j, _)], some (i, O, off) => (match (st r).ls.getD j .dead with
        |.own J none M z u=>bif !FJ r TMP&&!FJ r EPO&&FJ O z.cells then
            (idx u (i:Int)).bind λy=>match bh off z 0 y with
              |some ⟨E,e,X⟩=>Y [(r,⟨(st r).ver,(st r).sh,aV (st r).ls j (.own J (some (i,off)) M z u)⟩),(TMP,⟨(st TMP).ver+1,.one,[.own (J&&z.shy) none E e X]⟩),(EPO,ca (st EPO))] (.al TMP 0 ((st TMP).ver+1))
              |Option.none=>Option.none
          else Option.none
        |_=>Option.none)
      |_,_=>Option.none)
    else Option.none
  |_=>Option.none
def ln (st:St):List PK->List (aK×List Leaf)->(Upd->List (aK×List Leaf)->Option (Bool×Nat×Nat)->Option R)->Option R
 |p::y,x::r,u=>match p.nest x.2 with
  |some k=>mE st (x.2.getD k .dead) λU l=>u U ((x.1,aV x.2 k l)::r) (some (p.isIo,kP (x.2.getD k .dead)))
  |none=>ln st y r λU z b=>u U (x::z) b
 |_,r,u=>u [] r none
def js (st:St):(r:List Ty)->List (aK×List Leaf)->Option (Tup r)
 |[],[]=>some ()
 |a::as,x::u=>bif decide (x.1=bk a.isAgg) then match c8 st a x.2 with
   |some (_,y)=>(js st as u).map (y,·)
   |none=>none
  else none
 |_,_=>none
def RK.isV:RK->Bool
 |.v _|.bv _=>true
 |.box _=>false
def RK.isBv:RK->Bool
 |.bv _=>true
 |_=>false
def il (st:St)(d:Nat):List RK->Bool
 |[.box _]=>decide ((st (B0+d)).sh=.off)
 |rs=>rs.all RK.isV
def pQ (b:Option (Bool×Nat×Nat))(frz kill:List (Nat×Nat))(d:Nat):Bool :=
 match b with
 |some (true,r,j)=>!(kill.any (jc (r,j)))&&!(frz.any (jc (r,j)))&&!FJ r d&&!FJ r (B0+d)
 |_=>true
def kD (st:St)(b:Option (Bool×Nat×Nat))(U:Upd)(I:Upd->Option R):Option R :=
 match b with
 |some (true,r,j) =>
  match (ac U st r).ls.getD j .dead,(ac U st TMP).ls with
  |.own p (some (i,off)) J u H,[.own q none E e M]=>(idx H (i:Int)).bind λy=>match bT off E e M u 0 y with
   |some z=>I ((r,⟨(ac U st r).ver,(ac U st r).sh,aV (ac U st r).ls j (.own (p||q) none J u (H.set i z))⟩)::(TMP,⟨(ac U st TMP).ver+1,.off,[]⟩)::(EPO,ca (ac U st EPO))::U)
   |none=>none
  |_,_=>none
 |_=>I U
def j0 (Γ:List Ctr)(st:St)(d:Nat)(f:FuncId)(xs:List (aK×List Leaf))(J:Upd->Option R):Option R :=
 match mD Γ f with
 |some c=>ln st c.ps xs λu xs b =>
  match pP Γ (ac u st) c.ps xs with
  |some g=>bif bc g.kill&&dO g.frz g.kill&&il st d c.rs&&!(g.see.any λq=>g.lend.any (FJ q))&&GE g.lend.length 1&&(g.lend.isEmpty||!(c.ps.any PK.isIo))&&((c.fresh&&g.lend.isEmpty)||!(c.rs.any RK.isBv))&&(g.kill.all λk=>!FJ k.1 EPO)&&pQ b g.frz g.kill d then
   (c.den g.val).bind λy =>
    let H:=(let U:=(bif c.fresh then [] else aI (ac u st) g.frz);aP (ac U (ac u st)) g.kill++U)++u;let z:=aJ (ac H st) (g.p&&!c.fresh) c.ps xs y.2++H;let r:=bJ d (ac z st (B0+d)).ver (g.p&&!c.fresh) g.p (g.frz.map λk=>(k.1,k.2,(ac z st k.1).ver)) (ac z st EPO).ver c.rs y.1;let I:=r.2++z
    kD st b ((d,fp ((ac I st d).ver+1) r.1)::I) J
   else none
  |none=>none
 |none=>none
def am:Nat:=140737488355328
def gA (st:St)(E:TypeId)(e:Ty)(y:Leaf):Option (cU (List e.den)) :=
 bif e.flat then (dw e (aH st y)).map λx=>⟨false,x.2,[],[],[]⟩
 else bif decide (e.sh=e) then (dw e (aH st y)).map λx=>⟨x.1,x.2,bE st [y],[],[]⟩
 else (cr st (.list true E e) [y]).map λt=>⟨t.p,t.val,t.frz,t.kill,[]⟩
def eh (st u:St)(z:Upd)(d:Nat)(E:TypeId)(e:Ty)(r:Nat)(p:Bool)(xs:List e.den)(ks:List (Nat×Nat))(y:Leaf)(H:Upd->Option R):Option R :=
 match gA u E e y with
 |some t=>bif bc (t.kill++ks)&&dO t.frz (t.kill++ks)&&decide ((xs.length+t.val.length)*r<=am) then
   let U:=aI u t.frz
   H (cB st (aP (ac U u) (t.kill++ks)++U++z) d .one [.own (p||t.p) none E e (xs++t.val)])
  else none
 |none=>none
def eR (st:St)(z:Upd)(d:Nat)(E:TypeId)(e:Ty)(u:Nat)(x y:Leaf)(J:Upd->Option R):Option R :=
 match x with
 |.al r j v=>match aH (ac z st) (.al r j v) with
  |.own p none H I M=>bif FJ H E&&decide (I.sh=e.sh) then eh st (ac z st) z d H I u p M [(r,j)] y J else none
  |_=>none
 |.nil=>eh st (ac z st) z d E e u false [] [] y J
 |_=>none
def jd (st:St)(d:Nat)(E:TypeId)(e:Ty)(r:Nat)(x y:Leaf)(u:Upd->Option R):Option R :=
 bif jZ x then mE st x λz x=>eR st z d E e r x y u else eR st [] d E e r x y u
def dx (st:St)(x:Option Operand)(r:Int):Option Int :=
 match x with
 |none=>some r
 |some l=>match one st l with
  |.int _ n=>some n
  |_=>none
def fO (st:St)(r:List (Nat×Nat×Bool)):List (Nat×Operand)->List Leaf->Option (List Leaf)
 |[],u=>some u
 |(i,x)::y,u=>match r[i]? with
  |some (off,n,agg)=>bif FJ (au st x).2.length n&&decide ((au st x).1=bk agg)&&decide (off+n<=u.length) then fO st r y (kf u (au st x).2 off) else none
  |none=>none
def eV (st:St)(e:Ty):Nat->List (Nat×Operand)->Option (cU (List e.den))
  |_,[]=>some ⟨false,[],[],[],[]⟩
  |k,(i,x)::r=>bif FJ i k&&decide ((au st x).1=bk e.isAgg) then
      match cr st e (au st x).2,eV st e (k+1) r with
      |some t,some u=>some ⟨t.p||u.p,t.val::u.val,t.frz++u.frz,t.kill++u.kill,[]⟩
      |_,_=>none
    else none
def gh (st:St)(e:Ty):Nat->List Leaf->Option (List e.den)
 |0,_=>some []
 |n+1,r=>match c8 st e (r.take e.cells),gh st e n (r.drop e.cells) with
  |some (_,x),some u=>some (x::u)
  |_,_=>none
def tK (st:St)(xs:List Operand):Option (List Nat) :=
 xs.foldl (λ (r:Option (List Nat)) x=>r.bind λl=>match one st x with
  |.bp b 0=>some (l++[b])
  |_=>none) (some [])
def wrU (o:Oper)(st:St)(r:Upd->Option R)(sh:aK)(ls:List Leaf):Option R:=match o.dst with
 |some d=>r (cB st [] d sh ls)
 |none=>none
def c9 (h:Option (Nat×Nat))(i:Nat):Option Nat:=match h with
 |some (r,u)=>bif FJ r i then some u else none
 |none=>none
def holB (h:Option (Nat×Nat))(i:Nat):Option (Bool×Nat):=match h with
 |some (r,u)=>some (FJ r i,u)
 |none=>none
theorem mF (p:Bool)(r j v ep i u:Nat)(h:Option (Nat×Nat))(n:Nat):∀ (a:Ty) (off:Nat) (x:a.den),ma p r j v ep i u (holB h n) a off x=ik p r j v ep i u (c9 h n) a off x
 |.int _,_,_|.bool,_,_|.str,_,_|.unit,_,_|.hdr,_,_=>rfl
 |.pair a b,off,x=>by
  show _++_=_++_;rw[mF p r j v ep i u h n a,mF p r j v ep i u h n b]
 |.list m E e,off,I=>by
  simp only[ma,ik];congr 2;cases h with
  |none=>rfl
  |some q =>
   obtain⟨z,H⟩:=q;simp only[holB,c9];by_cases y:FJ z n=true
   ·simp only[y,Bool.and_true,cond_true,FQ];rw[Bool.eq_iff_iff,Nat.beq_eq,decide_eq_true_eq]
   ·simp only[Gc]at y;simp[y]
def im (st:St)(r j i off:Nat)(n:Nat)(p:Bool)(E:TypeId)(e:Ty)(xs:List e.den)(h:Option (Nat×Nat))(ls:List Leaf)(M:Upd->Option R):Option R :=
 (idx xs (i:Int)).bind λz =>
  match dq st off n e 0 z ls with
  |some t=>bif t.rest.isEmpty&&bc t.kill&&dO t.frz t.kill&&!((t.kill++t.frz).any λk=>FJ k.1 r) then
    let H:=aI st t.frz;let I:=aP (ac H st) t.kill++H;let u (l:Leaf):Option R:=M ((r,⟨(st r).ver,(st r).sh,aV (st r).ls j l⟩)::(EPO,ca (ac I st EPO))::I)
    match h with
    |none=>u (.own (p||t.p) none E e (xs.set i t.val))
    |some (J,y)=>bif GE off y&&GA y (off+n) then (bif FJ i J then u (.own (p||t.p) none E e (xs.set i t.val)) else none)
     else u (.own (p||t.p) (some (J,y)) E e (xs.set i t.val))
   else none
  |none=>none
def tv (r:Nat):Bool:=!FJ r TMP&&!FJ r EPO
def eS (s:ByteArray):List Int:=s.data.toList.map λb=>(b.toNat:Int)
def ip (xs:List Int):ByteArray:=ByteArray.mk (xs.map λn=>UInt8.ofNat n.toNat).toArray
def act (Γ:List Ctr)(T:TypeId->TI)(o:Oper)(st:St)(O:Upd->Option R):Option R :=
 let w (sh:aK) (ls:List Leaf):Option R:=wrU o st O sh ls;let w1 (l:Leaf):Option R:=w .one [l]
 match o.op with
 |.move x=>let v:=au st x;w v.1 v.2
 |.assign x=>match o.dst with
  |some d=>let v:=au st x;bif iN st v.2 then O (cB st (mvU st v.2) d v.1 (dU st v.2)) else none
  |none=>none
 |.pick c a b=>match one st c with
  |.bool t=>bif t then (let v:=au st a;w v.1 v.2) else (let v:=au st b;w v.1 v.2)
  |_=>none
 |.alloc t=>match o.dst with
  |some d=>bif decide ((st (B0+d)).sh=.off)&&!decide ((T t).cells=0) then O ((B0+d,⟨(st (B0+d)).ver+1,.agg,(T t).zero⟩)::cB st [] d .one [.bp (B0+d) 0]) else none
  |none=>none
 |.box t x=>match o.dst with
  |some d=>let v:=au st x
   bif decide ((st (B0+d)).sh=.off)&&decide (v.2.length=(T t).cells)&&decide (v.1=bk (T t).agg)&&iN st v.2 then
    (bif tI st x then O ((B0+d,⟨(st (B0+d)).ver+1,.agg,v.2⟩)::cB st [] d .one [.bp (B0+d) 0])
    else (let U:=mvU st v.2
     O ((B0+d,⟨(ac U st (B0+d)).ver+1,.agg,dU st v.2⟩)::cB st U d .one [.bp (B0+d) 0])))
   else none
  |none=>none
 |.build t H=>match T t with
  |.struct a J=>match fO st J H.toList (fy a) with
   |some ls=>w .agg ls
   |none=>none
  |.arr e n=>match fO st ((F9 n).map λi=>(i*e.cells,e.cells,e.isAgg)) H.toList (F0 n (fy e)).flatten with
   |some ls=>w .agg ls
   |none=>none
  |_=>none
 |.buildSlice t n H=>match T t with
  |.slice E e _=>match eV st e 0 H.toList with
   |some u=>bif FJ u.val.length n&&decide (n*e.cells<=16777216)&&bc u.kill&&dO u.frz u.kill then (match o.dst with
     |some d=>let U:=aI st u.frz;O (cB st (aP (ac U st) u.kill++U) d .one [.own u.p none E e u.val])
     |none=>none) else none
   |none=>none
  |_=>none
 |.load t x =>
  bif decide ((T t).cells=0) then none else
  match one st x with
  |.rp p a y off=>bif decide (off+(T t).cells<=a.cells) then w (bk (T t).agg) (((cS p a y).drop off).take (T t).cells) else none
  |.bp b off=>bif decide ((st b).sh=.agg)&&decide (off+(T t).cells<=(st b).ls.length) then w (bk (T t).agg) (((bL b (st b).ver 0 (st b).ls).drop off).take (T t).cells) else none
  |.rpp p a y=>bif FJ (T t).cells 1&&!(T t).agg then w1 (.rp p a y 0) else none
  |.np p Y ep a y off=>bif bu st Y ep&&decide (off+(T t).cells<=a.cells) then w (bk (T t).agg) (((l9 p Y ep a y).drop off).take (T t).cells) else none
  |.ep r j v i sz off=>match aH st (.al r j v) with
   |.own p h _ e z=>bif FJ sz e.cells&&decide (off+(T t).cells<=e.cells) then (idx z (i:Int)).bind λy=>w (bk (T t).agg) (((ma p r j v (st EPO).ver i sz (holB h i) e 0 y).drop off).take (T t).cells) else none
   |_=>none
  |_=>none
 |.store t x y=>match o.dst with
  |some _=>none
  |none =>
  let v:=(au st y).2
  bif FJ v.length (T t).cells&&decide ((au st y).1=bk (T t).agg)&&!decide ((T t).cells=0) then
   match one st x with
   |.bp b off=>bif decide ((st b).sh=.agg)&&decide (off+v.length<=(st b).ls.length)&&iN st v then
     let U:=mvU st v;let c:=ac U st b
     O ((b,⟨c.ver+1,.agg,kf c.ls (dU st v) off⟩)::U)
    else none
   |.ep r j a0 i sz off=>match aH st (.al r j a0) with
    |.own p h E e z=>bif FJ sz e.cells&&decide (off+v.length<=e.cells)&&tv r then im st r j i off v.length p E e z h v O else none
    |_=>none
   |_=>none
  else none
 |.nilCheck x=>match one st x with
  |.rp p a y off=>w1 (.rp p a y off)
  |.bp b off=>w1 (.bp b off)
  |.ep r j v i sz off=>bif FJ (st r).ver v then w1 (.ep r j v i sz off) else none
  |.rpp p a y=>w1 (.rpp p a y)
  |.np p Y ep a y off=>bif bu st Y ep then w1 (.np p Y ep a y off) else none
  |_=>none
 |.binOp op t x y _=>match one st x,one st y with
  |.int k a,.int k' b =>
   match op with
   |.shl=>bif decide (b<0) then none else w1 (.int k (k.wrap (a*2 ^ (min b.toNat k.bits))))
   |.shr=>bif decide (b<0) then none else w1 (.int k (a.fdiv (2 ^ (min b.toNat k.bits))))
   |.quo=>bif decide (b=0) then none else bif decide (k=k') then w1 (.int k (k.wrap (a.tdiv b))) else none
   |.rem=>bif decide (b=0) then none else bif decide (k=k') then w1 (.int k (a.tmod b)) else none
   |.and=>bif decide (k=k') then w1 (.int k (k.wrap ((BitVec.ofInt k.bits a &&& BitVec.ofInt k.bits b).toNat))) else none
   |.xor=>bif decide (k=k') then w1 (.int k (k.wrap ((BitVec.ofInt k.bits a ^^^ BitVec.ofInt k.bits b).toNat))) else none
   |_=>bif decide (k=k') then (match tJ op k a b with|some l=>w1 l|none=>none) else none
  |.bool a,.bool b=>match T t with
   |.bool=>match op with
    |.eql=>w1 (.bool (a==b))
    |.neq=>w1 (.bool (a != b))
    |_=>none
   |_=>none
  |.str a,.str b=>match op with
   |.eql=>w1 (.bool (a.toList==b.toList))
   |.neq=>w1 (.bool (a.toList != b.toList))
   |.add=>bif decide (a.size+b.size<=9223372036854775807) then w1 (.str (a++b)) else none
   |_=>none
  |_,_=>match T t with
   |.struct a _=>bif a.flat&&decide ((au st x).1=.agg)&&decide ((au st y).1=.agg) then
     match c8 st a (au st x).2,c8 st a (au st y).2 with
     |some (_,u),some (_,v)=>match op with
      |.eql=>w1 (.bool (a.eqv u v))
      |.neq=>w1 (.bool (!a.eqv u v))
      |_=>none
     |_,_=>none
    else none
   |_=>none
 |.unOp op _ x=>match op,one st x with
  |.not,.bool b=>w1 (.bool (!b))
  |.neg,.int k n=>w1 (.int k (k.wrap (0-n)))
  |_,_=>none
 |.convert s t x=>match T s,T t,one st x with
  |.int _,.int k,.int _ n=>w1 (.int k (k.wrap n))
  |.slice _ (.int .u8) _,.str,l=>match dw (.int .u8) (aH st l) with
   |some (_,z)=>w1 (.str (ip z))
   |none=>none
  |.str,.slice E (.int .u8) _,.str s=>bif FJ E 5 then w1 (.own false none E (.int .u8) (eS s)) else none
  |_,_,_=>none
 |.makeSlice t n c=>match T t,one st n,one st c with
  |.slice E e X,.int _ a,.int _ b =>
   bif decide (0<=a)&&decide (a=b)&&decide (a*X<=am) then w1 (.own false none E e (F0 a.toNat e.zero)) else none
  |_,_,_=>none
 |.slice t x lo hi mx=>match mx,o.dst with
  |none,some d=>match dx st lo 0 with
   |none=>none
   |some i=>match T t,aH st (one st x) with
    |.str,.str s=>(match dx st hi s.size with
     |some h=>bif decide (0<=i)&&decide (i<=h)&&decide (h<=(s.size:Int)) then O (cB st [] d .one [.str (s.extract i.toNat h.toNat)]) else none
     |none=>none)
    |.slice _ M _,.nal p Y ep _ E e z=>(match dx st hi z.length with
     |some h=>bif decide (0<=i)&&decide (i<=h)&&decide (h<=(z.length:Int))&&FJ M.cells e.cells then
       O (cB st [] d .one [.nal p Y ep none E e ((z.take h.toNat).drop i.toNat)]) else none
     |none=>none)
    |.slice _ M _,.ro p E e z=>(match dx st hi z.length with
     |some h=>bif decide (0<=i)&&decide (i<=h)&&decide (h<=(z.length:Int))&&FJ M.cells e.cells then
       O (cB st [] d .one [.ro p E e ((z.take h.toNat).drop i.toNat)]) else none
     |none=>none)
    |.slice _ M _,.own p none E e z=>(match dx st hi z.length with
     |some h=>bif decide (0<=i)&&decide (i<=h)&&decide (h<=(z.length:Int))&&FJ M.cells e.cells then
       (match one st x with
       |.al r j v=>O (cB st [] d .one [.nal p [(r,j,v)] (st EPO).ver none E e ((z.take h.toNat).drop i.toNat)])
       |_=>none) else none
     |none=>none)
    |_,_=>none
  |some m,some d=>match lo,T t,one st x with
   |none,.slice _ M _,.al r j v=>(match aH st (.al r j v) with
    |.own p none E e z=>(match dx st hi z.length,dx st (some m) 0 with
     |some h,some k=>bif hi.isSome&&decide (h=(z.length:Int))&&decide (k=(z.length:Int))&&FJ M.cells e.cells then O (cB st (aP st [(r,j)]) d .one [.own p none E e z]) else none
     |_,_=>none)
    |_=>none)
   |_,_,_=>none
  |_,_=>none
 |.fieldAddr t x f=>match T t with
  |.struct _ J=>match J[f]? with
   |some (off,_,_)=>match one st x with
    |.rp p a y o'=>w1 (.rp p a y (o'+off))
    |.bp b o'=>w1 (.bp b (o'+off))
    |.ep r j v i sz o'=>bif FJ (st r).ver v then w1 (.ep r j v i sz (o'+off)) else none
    |.np p Y ep a y o'=>bif bu st Y ep then w1 (.np p Y ep a y (o'+off)) else none
    |_=>none
   |none=>none
  |_=>none
 |.field t x f=>match T t with
  |.struct a J=>match J[f]? with
   |some (off,n,agg)=>bif decide ((au st x).1=.agg)&&decide ((au st x).2.length=a.cells) then w (bk agg) (((au st x).2.drop off).take n) else none
   |none=>none
  |_=>none
 |.indexAddr t x i=>match one st i with
  |.int _ n=>match T t with
   |.arr e Z=>match one st x with
    |.bp b off=>bif decide (0<=n)&&decide (n<(Z:Int)) then w1 (.bp b (off+n.toNat*e.cells)) else none
    |_=>none
   |.slice _ e _=>match one st x with
    |.al r j v=>match aH st (.al r j v) with
     |.own _ _ _ M z=>bif FJ M.cells e.cells then (idx z n).bind λ_=>w1 (.ep r j v n.toNat M.cells 0) else none
     |_=>none
    |.ro p _ M z=>bif FJ M.cells e.cells then (idx z n).bind λy=>w1 (.rp p M y 0) else none
    |.nal p Y ep _ _ M z=>bif FJ M.cells e.cells&&bu st Y ep then (idx z n).bind λy=>w1 (.np p Y ep M y 0) else none
    |_=>none
   |_=>none
  |_=>none
 |.index t x i=>match one st i with
  |.int _ n=>match T t with
   |.str=>match one st x with
    |.str s=>(idx s.data.toList n).bind λy=>w1 (.int .u8 y.toNat)
    |_=>none
   |.arr e Z=>bif e.flat&&decide ((au st x).1=.agg)&&FJ (au st x).2.length (Z*e.cells)&&!FJ e.cells 0 then (match gh st e Z (au st x).2 with
     |some vs=>(idx vs n).bind λy=>w (bk e.isAgg) (cS false e y)
     |none=>none) else none
   |_=>none
  |_=>none
 |.extract x i=>match au st x with
  |(.tup ps,ls)=>match ps[i]? with
   |some (agg,n)=>w (bk agg) ((ls.drop ((ps.take i).foldl (λa b=>a+b.2) 0)).take n)
   |none=>none
  |_=>none
 |.makeFunc (.func f) first I=>bif FJ first.size 0 then
   match tK st I.toList with
   |some l=>w1 (.clo f l)
   |none=>none
  else none
 |.call c=>match o.dst with
  |none=>none
  |some d=>match c.callee with
   |.value f =>
    let z:=c.args.toList.map (au st)
    match one st f with
    |.clo g I=>j0 Γ st d g (z++I.map λb=>(.one,[.bp b 0])) O
    |.clr g I=>j0 Γ st d g (z++I.map λc=>(.one,[fm c])) O
    |.fn As B φ=>bif B.flat then match js st As z with
      |some x=>(φ x).bind λy=>w (bk B.isAgg) (aq false B y)
      |none=>none
     else none
    |_=>none
   |.builtin .len=>match c.args.toList with
    |[x]=>match c.argTypes.toList with
     |[t]=>match T t,aH st (one st x) with
      |.slice _ _ _,l=>(match gK l with
       |some n=>w1 (.int .i64 n)
       |none=>none)
      |.str,.str s=>w1 (.int .i64 s.size)
      |_,_=>none
     |_=>none
    |_=>none
   |.builtin .append=>match c.args.toList,c.argTypes.toList with
    |[x,y],[t,u]=>match T t with
     |.slice E e X=>bif FJ t u then jd st d E e X (one st x) (one st y) O else none
     |_=>none
    |_,_=>none
   |.builtin .min=>match c.args.toList with
    |[x,y]=>match one st x,one st y with
     |.int k a,.int _ b=>w1 (.int k (bif decide (b<a) then b else a))
     |_,_=>none
    |_=>none
   |.builtin .max=>match c.args.toList with
    |[x,y]=>match one st x,one st y with
     |.int k a,.int _ b=>w1 (.int k (bif decide (a<b) then b else a))
     |_,_=>none
    |_=>none
   |_=>none
 |_=>none
def aB:List Leaf->List Nat
 |[]=>[]
 |.al r _ _::u=>r::aB u
 |.ep r _ _ _ _ _::u=>EPO::r::aB u
 |.nal _ z _ _ _ _ _::u=>EPO::z.map (·.1)++aB u
 |.np _ z _ _ _ _::u=>EPO::z.map (·.1)++aB u
 |.bp b _::u=>b::aB u
 |.clo _ y::u=>y++aB u
 |_::u=>aB u
def je (xs:List Operand):List Nat :=
 match xs with
 |[]=>[]
 |.tmp t::xs=>t::je xs
 |_::xs=>je xs
def lp (st:St)(r:List Nat):List Nat :=
 let a:=r.flatMap λt=>aB (st t).ls
 let b:=a.flatMap λt=>aB (st t).ls
 let c:=b.flatMap λt=>aB (st t).ls
 r++a++b++c
def cE (st:St)(op:Op):List Nat :=
 let r:=je op.operands.toList
 match op with
 |.move _|.pick _ _ _|.build _ _|.field _ _ _|.extract _ _|.makeFunc _ _ _|.unOp _ _ _|.makeSlice _ _ _|.alloc _=>r
 |.slice _ _ _ _ _=>EPO::(r++r.flatMap λt=>ax (st t).ls)
 |.assign _|.box _ _|.buildSlice _ _ _|.indexAddr _ _ _|.nilCheck _|.fieldAddr _ _ _|.convert _ _ _|.binOp _ _ _ _ _|.index _ _ _=>r++r.flatMap λt=>ax (st t).ls
 |.load _ _|.store _ _ _=>r++r.flatMap λt=>aB (st t).ls
 |.call c=>match c.callee with
  |.builtin _=>TMP::(r++r.flatMap λt=>ax (st t).ls)
  |_=>TMP::EPO::lp st r
 |_=>lp st r
def AV (o:Oper):List Nat:=match o.dst with
 |some d=>[d,B0+d]
 |none=>[]
def fA (st:St)(op:Op):List Nat :=
 let r:=je op.operands.toList
 match op with
 |.move _=>r
 |.indexAddr _ _ _=>r++r.flatMap λt=>ax (st t).ls
 |_=>[]
def fP (st:St)(o:Oper):List Nat:=(match o.op with|.move _|.indexAddr _ _ _=>[]|op=>cE st op)++AV o
def ew (st:St)(o:Oper):List Nat:=match o.op with
 |.store _ x _=>match one st x with
  |.ep r _ _ _ _ _=>[r]
  |_=>[]
 |_=>[]
structure cV where
 rd:List Nat
 hd:List Nat
 wr:List Nat
 cw:List Nat
def mG (a b:List Nat):Bool:=a.any λx=>b.any λy=>FJ x y
def cV.apart (x y:cV):Bool:=!mG (x.wr++x.cw) (y.wr++y.cw)&&!mG (x.wr++x.cw) y.rd&&!mG x.rd (y.wr++y.cw)&&!mG x.wr y.hd&&!mG x.hd y.wr
def kp:List Oper->List Nat->List Nat
 |[],r=>r
 |o::u,r=>kp u (r++[o.after.toList.foldl (λs e=>bif Region.binds .any e then s ||| 2 ^ e.on ||| r.getD e.on 0 else s) 0])
def qz (r:List Nat)(u:List cV):Bool :=
 (F9 u.length).all λj=>(F9 j).all λi =>
  (r.getD j 0).testBit i||(match u[i]?,u[j]? with
   |some x,some y=>x.apart y
   |_,_=>false)
def lit (st:St)(t:Nat)(b:Bool):St:=ac [(t,⟨(st t).ver,.one,[.bool b]⟩)] st
def fe (st:St)(o:Oper):Upd :=
 match o.dst with
 |some d=>[(d,⟨(st d).ver+1,.und,[]⟩)]
 |none=>[]
def opK (Γ:List Ctr)(T:TypeId->TI)(y:Array Oper)(o:Oper)(st:St)(H:St->cV->Option R):Option R :=
 let z (st:St) (r:List Nat):Option R:=act Γ T o st (λU=>H (ac U st) ⟨r++fP st o,fA st o.op,(U.map (·.1)).filter (λq=>!((ew st o).any (FJ q))),ew st o⟩);let no (st:St) (r:List Nat):Option R:=H (ac (fe st o) st) ⟨r,[],o.dst.toList,[]⟩
 match o.guard with
 |none=>z st []
 |some (j,u)=>match (y[j]?).bind (·.dst) with
  |some t=>match (st t).sh,(st t).ls with
   |.one,[.bool b]=>bif b then (bif u then z (lit st t true) [t] else no (lit st t true) [t]) else (bif u then no (lit st t false) [t] else z (lit st t false) [t])
   |.und,_=>no st [t]
   |_,_=>none
  |none=>none
def rA (Γ:List Ctr)(T:TypeId->TI)(r:Array Oper):List Oper->St->List cV->(St->List cV->Option R)->Option R
 |[],y,H,I=>I y H
 |o::u,y,H,I=>opK Γ T r o y (λz t=>rA Γ T r u z (H++[t]) I)
def oT (ops:Array Oper):Bool:=(F9 ops.size).all λi=>match ops[i]? with
 |some o=>o.after.toList.all λe=>!Region.binds .any e||decide (e.on<i)
 |none=>true
def regK (Γ:List Ctr)(T:TypeId->TI)(ops:Array Oper)(u:Bool)(st:St)(y:St->Option R):Option R :=
 bif u then
  rA Γ T ops ops.toList st [] (λr z=>bif oT ops&&qz (kp ops.toList []) z then y r else none)
 else rA Γ T ops ops.toList st [] (λr _=>y r)
inductive Ex where
 |normal|exit (id:Nat)|ret
def rB (y:St->(Ex->St->Option R)->Option R)(u:Ex->St->Option R):Ex->St->Option R
 |.normal,r=>y r u
 |e,r=>u e r
def tL (id:Nat)(y:Ex->St->Option R):Ex->St->Option R
 |.exit r,u=>bif FJ r id then y .normal u else y (.exit r) u
 |e,u=>y e u
def av (L:List (Nat×b7)):St:=λq=>ac L (λ_=>b7.none) q
inductive Coe where
 |keep|kill
 |own (p:Bool) (E:TypeId) (e:Ty)|ro (p:Bool) (E:TypeId) (e:Ty)|rp (p:Bool)
def bC (st:St)(live:List Nat):Coe->Leaf->Leaf
 |.kill,_=>.dead
 |.own p E e,.nil=>.own p none E e []
 |.own p _ _,.own q none E e y=>bif !q||p then .own p none E e y else .dead
 |.ro p E e,.nil=>.ro p E e []
 |.ro p E e,.ro q _ z y=>bif !q||p then (match castSh e z y with | some H=>.ro p E e H | none=>.dead) else .dead
 |.ro p E e,.own q none _ z y=>bif !q||p then (match castSh e z y with | some H=>.ro p E e H | none=>.dead) else .dead
 |.rp p,.rpp q a x=>bif !q||p then .rpp p a x else .dead
 |.rp p,.rp q a x off=>bif !q||p then .rp p a x off else .dead
 |.keep,.int k n=>.int k n
 |.keep,.bool b=>.bool b
 |.keep,.str s=>.str s
 |.keep,.nil=>.nil
 |.keep,.hdr n=>.hdr n
 |.keep,.fn I B M=>.fn I B M
 |.keep,.clr f J=>.clr f J
 |.keep,.bp b off=>bif live.any (FJ b) then .bp b off else .dead
 |.keep,.clo f u=>bif u.all (λb=>live.any (FJ b)) then .clo f u else .dead
 |.keep,.al r j v=>bif live.any (FJ r)&&FJ (st r).ver v then .al r j 0 else .dead
 |_,_=>.dead
def dl (st:St)(live:List Nat):List Coe->List Leaf->List Leaf
 |c::u,l::r=>bC st live c l::dl st live u r
 |[],_::r=>.dead::dl st live [] r
 |_,[]=>[]
def mH (live:List (Nat×List Coe))(st:St):St:=av (live.map λr=>(r.1,⟨0,(st r.1).sh,dl st (live.map (·.1)) r.2 (st r.1).ls⟩))
def iq (live:List (Nat×List Coe))(rec:St->Option R)(u:Ex->St->Option R):Ex->St->Option R
 |.normal,r=>rec (mH live r)
 |e,r=>u e r
def aY (live:List (Nat×List Coe))(u:St->(Ex->St->Option R)->Option R):Nat->St->(Ex->St->Option R)->Option R
 |0,_,_=>none
 |k+1,z,y=>u z (iq live (λr=>aY live u k r y) y)
def fq:Code->Nat
 |.region id _ _=>id+1
 |.seq a b=>match fq a with
  |0=>fq b
  |n=>n
 |.cond _ a b=>match fq a with
  |0=>fq b
  |n=>n
 |.block _ c=>fq c
 |.loop c=>fq c
 |.scope c=>fq c
 |_=>0
def md (L:List (Nat×List (Nat×List Coe)))(k:Nat):List (Nat×List Coe):=match L with
 |[]=>[]
 |(n,l)::r=>bif FJ n k then l else md r k
def AW (st:St)(c:Operand)(r no:St->Option R):Option R :=
 match c with
 |.tmp t=>match (st t).sh,(st t).ls with
  |.one,[.bool b]=>bif b then r (lit st t true) else no (lit st t false)
  |_,_=>none
 |.const (.bool b)=>bif b then r st else no st
 |_=>none
def evK (Γ:List Ctr)(T:TypeId->TI)(L:List (Nat×List (Nat×List Coe)))(r:Nat):Code->St->(Ex->St->Option R)->Option R
 |.skip,u,z=>z .normal u
 |.region _ I H,u,z=>regK Γ T I H u (z .normal)
 |.seq a b,u,z=>evK Γ T L r a u (rB (evK Γ T L r b) z)
 |.cond c x y,u,z=>AW u c (λu=>evK Γ T L r x u z) (λu=>evK Γ T L r y u z)
 |.block id c,u,z=>evK Γ T L r c u (tL id z)
 |.loop c,u,z=>aY (md L (fq c)) (evK Γ T L r c) r (mH (md L (fq c)) u) z
 |.exit id,u,z=>z (.exit id) u
 |.ret,u,z=>z .ret u
 |_,_,_=>none
def sub:Code->List Nat->Code
 |.seq a _,0::p=>sub a p
 |.seq _ b,1::p=>sub b p
 |.cond _ x _,0::p=>sub x p
 |.cond _ _ y,1::p=>sub y p
 |.block _ c,0::p=>sub c p
 |.loop c,0::p=>sub c p
 |c,_=>c
def kAt (u:Code->St->(Ex->St->Option R)->Option R):Code->List Nat->(Ex->St->Option R)->Ex->St->Option R
 |.seq a b,0::p,r=>kAt u a p (rB (u b) r)
 |.seq _ b,1::p,r=>kAt u b p r
 |.cond _ x _,0::p,r=>kAt u x p r
 |.cond _ _ y,1::p,r=>kAt u y p r
 |.block id c,0::p,r=>kAt u c p (tL id r)
 |_,_,r=>r
def cY (fn:Func):Code:=match fn.body with
 |some c=>c
 |none=>.skip
def ae {A:Type}(step:(A->Option R)->A->Option R):Nat->A->Option R
 |0,_=>none
 |k+1,a=>step (ae step k) a
theorem lK {A:Type}(live:List (Nat×List Coe))(r:St->(Ex->St->Option R)->Option R)(u:Ex->St->Option R)(S:A->St)
  (step:(A->Option R)->A->Option R) (h:∀ (rec:St->Option R) (a:A),r (S a) (iq live rec u)=step (λa=>rec (S a)) a) :
  ∀ (k:Nat) (a:A),aY live r k (S a) u=ae step k a
 |0,_=>rfl
 |k+1,a=>by
  have y:=lK live r u S step h k;simp only[aY,ae];rw[h];exact congrArg (λg=>step g a) (funext y)
abbrev wr (k:IntKind)(n:Int):Int:=k.wrap n
def bz (k:IntKind)(a b:Int):Int:=k.wrap ((BitVec.ofInt k.bits a &&& BitVec.ofInt k.bits b).toNat)
def rD (k:IntKind)(a b:Int):Int:=k.wrap ((BitVec.ofInt k.bits a ^^^ BitVec.ofInt k.bits b).toNat)
def kE (p:Bool):(cs:List (Bool×Ty))->mC cs->List (Bool×Bool×(a:Ty)×a.den)
 |[],_=>[]
 |c::cs,x=>(p,c.1,⟨c.2,x.1⟩)::kE p cs x.2
def wb (i off:Nat):Leaf->Leaf
 |.own p _ E e r=>.own p (some (i,off)) E e r
 |l=>l
def dy (t:Nat):(ps:List PK)->ab ps->Upd
 |[],_=>[]
 |.rd a::ps,x=>(t,⟨0,bk a.isAgg,cS true a x.1⟩)::dy (t+1) ps x.2
 |.own a::ps,x=>(t,⟨0,bk a.isAgg,aq true a x.1⟩)::dy (t+1) ps x.2
 |.io a::ps,x=>(t,⟨7,bk a.isAgg,aq true a x.1⟩)::dy (t+1) ps x.2
 |.rref a::ps,x=>(t,⟨0,.one,[.rp true a x.1 0]⟩)::dy (t+1) ps x.2
 |.rref2 a::ps,x=>(t,⟨0,.one,[.rpp true a x.1]⟩)::dy (t+1) ps x.2
 |.iop a::ps,x=>(t,⟨0,.one,[.bp (B0+t) 0]⟩)::(B0+t,⟨0,.agg,aq true a x.1⟩)::dy (t+1) ps x.2
 |.fn r B::ps,x=>(t,⟨0,.one,[.fn r B x.1]⟩)::dy (t+1) ps x.2
 |.clo f u::ps,x=>(t,⟨0,.one,[.clr f (kE true u x.1)]⟩)::dy (t+1) ps x.2
 |.hol a c off::ps,x=>(t,⟨0,bk a.isAgg,aV (aq true a x.1.1) c (wb x.1.2 off ((aq true a x.1.1).getD c .dead))⟩)::dy (t+1) ps x.2
def iO (st:St)(t:Nat):(ps:List PK)->Option (cU (ag ps))
 |[]=>some ⟨false,(),[],[],[]⟩
 |.io a::ps=>match (bif decide ((au st (.tmp t)).1=bk a.isAgg) then cr st a (au st (.tmp t)).2 else none),iO st (t+1) ps with
  |some x,some y=>some ⟨x.p||y.p,(x.val,y.val),x.frz++y.frz,x.kill++y.kill,[]⟩
  |_,_=>none
 |.iop a::ps=>match cr st a (bL (B0+t) (st (B0+t)).ver 0 (st (B0+t)).ls),iO st (t+1) ps with
  |some x,some y=>some ⟨x.p||y.p,(x.val,y.val),x.frz++y.frz,x.kill++y.kill,[]⟩
  |_,_=>none
 |.rd _::ps=>iO st (t+1) ps
 |.own _::ps=>iO st (t+1) ps
 |.rref _::ps=>iO st (t+1) ps
 |.rref2 _::ps=>iO st (t+1) ps
 |.fn _ _::ps=>iO st (t+1) ps
 |.clo _ _::ps=>iO st (t+1) ps
 |.hol _ _ _::ps=>iO st (t+1) ps
def wR (st:St)(T:TypeId->TI):ResultVar->List Leaf
 |.tmp t=>(au st (.tmp t)).2
 |.cell t r=>match one st (.tmp t) with
  |.bp b off=>((bL b (st b).ver 0 (st b).ls).drop off).take (T r).cells
  |_=>[]
def qA (st:St)(T:TypeId->TI):ResultVar->aK
 |.tmp t=>(au st (.tmp t)).1
 |.cell t r=>match one st (.tmp t) with
  |.bp b off=>bif decide ((st b).sh=.agg)&&GE (off+(T r).cells) (st b).ls.length&&!FJ (T r).cells 0 then bk (T r).agg else .off
  |_=>.off
def RK.sh:RK->aK
 |.v a=>bk a.isAgg
 |.bv a=>bk a.isAgg
 |.box _=>.one
def bM (t:Nat):List PK->List Nat
 |[]=>[]
 |.iop _::r=>(B0+t)::bM (t+1) r
 |_::r=>bM (t+1) r
def gR (t:Nat):List PK->List Nat
 |[]=>[]
 |.io _::r=>t::gR (t+1) r
 |.iop _::r=>t::gR (t+1) r
 |_::r=>gR (t+1) r
def tx (st:St)(z:List Nat):(r:RK)->List Leaf->Option (cU r.den)
 |.v a,u=>cr st a u
 |.bv a,u=>(c8 st a u).map λy=>⟨false,y.2,bE st u,[],[]⟩
 |.box a,u=>match u with
  |[.bp b 0]=>bif !(z.any (FJ b)) then cr st a (bL b (st b).ver 0 (st b).ls) else none
  |_=>none
def kW (st:St)(T:TypeId->TI)(H:List Nat):(u:List RK)->List ResultVar->Option (cU (ai u))
 |[],[]=>some ⟨false,(),[],[],[]⟩
 |r::u,x::I=>bif decide (qA st T x=r.sh) then match tx st H r (wR st T x),kW st T H u I with
  |some y,some z=>some ⟨y.p||z.p,(y.val,z.val),y.frz++z.frz,y.kill++z.kill,[]⟩
  |_,_=>none else none
 |_,_=>none
def finR (T:TypeId->TI)(ps:List PK)(z:List RK)(r:Bool)(u:List ResultVar)(st:St):Option (ai z×ag ps) :=
 match kW st T (bM 0 ps) z u,iO st 0 ps with
 |some y,some o=>bif bc (y.kill++o.kill)&&dO (y.frz++o.frz) (y.kill++o.kill)&&(!r||!(y.p||o.p)) then some (y.val,o.val) else none
 |_,_=>none
def du (T:TypeId->TI)(ps:List PK)(y:List RK)(r:Bool)(u:List ResultVar):Ex->St->Option (ai y×ag ps)
 |.exit _,_=>none
 |_,z=>finR T ps y r u z
def mf (nt:Nat)(fix:List Nat)(r:Array Oper)(o:Oper):Bool :=
 (match o.dst with
  |some d=>GA d nt&&!(fix.any (FJ d))
  |none=>true) &&
 (match o.guard with
  |some (j,_)=>match (r[j]?).bind (·.dst) with
   |some s=>GA s nt
   |none=>true
  |none=>true)
def yd (nt:Nat):Operand->Bool
 |.tmp t=>GA t nt
 |_=>true
def d7 (nt:Nat)(fix:List Nat):Code->Bool
 |.region _ r _=>r.toList.all (mf nt fix r)
 |.seq a b=>d7 nt fix a&&d7 nt fix b
 |.cond c a b=>yd nt c&&d7 nt fix a&&d7 nt fix b
 |.block _ c=>d7 nt fix c
 |.loop c=>d7 nt fix c
 |_=>true
def rE:List RK->Bool
 |[.box _]=>true
 |rs=>rs.all RK.isV
def dD (L:List (Nat×List (Nat×List Coe)))(u:List Nat):Code->Bool
 |.seq a b=>dD L u a&&dD L u b
 |.cond _ a b=>dD L u a&&dD L u b
 |.block _ c=>dD L u c
 |.loop c=>(u.all λb=>(md L (fq c)).any λr=>FJ r.1 b)&&dD L u c
 |_=>true
def evF (Γ:List Ctr)(T:TypeId->TI)(L:List (Nat×List (Nat×List Coe)))(u:Nat)(fn:Func)(ps:List PK)(y:List RK)(r:Bool)(x:ab ps):Option (ai y×ag ps) :=
 match fn.body with
 |some c=>bif d7 fn.ntmps (gR 0 ps) c&&GE ps.length fn.ntmps&&GE fn.ntmps GH&&rE y&&dD L (bM 0 ps) c then
  evK Γ T L u c (av (dy 0 ps x)) (du T ps y r fn.results.toList) else none
 |none=>none
end
def gx (e:Ty)(r:Nat)(xs:List e.den):Option ((List e.den×Unit)×Unit):=bif decide ((0+xs.length)*r<=am) then some ((xs,()),()) else none
theorem mI (e:Ty)(r:Nat):gx e r []=some (([],()),()):=by
 unfold gx;simp[am]
def mJ:Code->Nat->Oper
 |.region _ r _,i=>(r[i]?).getD ⟨none,.move (.tmp 0),0,"",#[],none⟩
 |_,_=>⟨none,.move (.tmp 0),0,"",#[],none⟩
def fQ (e:Ty)(r:Nat)(xs:List e.den)(i:Int)(u:List e.den):Option ((List e.den×Unit)×Unit) :=
 if 0<=i/\i<=(xs.length:Int)/\0<u.length/\(xs.length+u.length)*r<=am then some ((xs.take i.toNat++u++xs.drop i.toNat,()),()) else none
def mK {α:Type}(u:α×Unit->Option Bool):List α->Option (List α)
 |[]=>some []
 |x::y=>(u (x,())).bind λb=>(mK u y).map λr=>bif b then r else x::r
def ir (e:Ty)(xs:List e.den)(u:e.den×Unit->Option Bool):Option ((List e.den×Unit)×Unit):=if xs.length<=1048576 then (mK u xs).map λr=>((r,()),()) else none
abbrev Ty.hd:Ty->Ty
 |.pair a b=>.pair a.hd b.hd
 |.list _ _ _=>.hdr
 |a=>a
abbrev hdD:(a:Ty)->a.den->a.hd.den
 |.pair a b,x=>(hdD a x.1,hdD b x.2)
 |.list _ _ e,r=>List.length (α:=e.den) r
 |.int _,x=>x
 |.bool,x=>x
 |.str,x=>x
 |.unit,x=>x
 |.hdr,x=>x
noncomputable def Bl (e:Ty)(r:Nat)(xs:List e.den):Option ((List e.hd.den×Unit)×Unit):=(gx e r xs).map λy=>((y.1.1.map (hdD e),()),())
def insI (n:Int):List Int->List Int
 |[]=>[n]
 |m::r=>if n<=m then n::m::r else m::insI n r
def AX:List Int->List Int
 |[]=>[]
 |n::r=>insI n (AX r)
def medianM (xs:List Int):Option ((Int×Unit)×Unit) :=
 let l:=AX (xs.drop (xs.length-3))
 some ((l.getD ((l.length-1) / 2) 0,()),())
def aX {R:Type}(x y:ByteArray)(k:ByteArray->Option R):Option R:=bif decide (x.size+y.size<=9223372036854775807) then k (x++y) else none
open Go.RowKit
def dg (w:World)(g off:Nat)(cs:List Value):Prop:=∀ i v,cs[i]?=some v->w.cell? ⟨g,off+i,none⟩=some v
theorem dg.same {w w':World}{g off:Nat}{cs:List Value}(h:dg w g off cs)(r:w'.heap[g]?=w.heap[g]?):dg w' g off cs:=by
 intro i v u;have:=h i v u;simpa[Gm,r]using this
def Rd (w:World)(G:Nat->Prop):(a:Ty)->a.den->List Value->Prop
 |.int k,n,r=>r=[.int k n]
 |.bool,b,r=>r=[.bool b]
 |.str,s,r=>r=[.string s]
 |.unit,_,r=>r=[]
 |.hdr,n,r=>∃ A u,r=[.slice A n u]
 |.pair a b,x,r=>∃ z H,r=z++H/\Rd w G a x.1 z/\Rd w G b x.2 H
 |.list _ _ e,y,r=>∃ A u,r=[.slice A y.length u]/\y.length<=u /\
  (0<y.length->∃ g o,A=some ⟨g,o,none⟩/\G g/\∀ j (x:e.den),y[j]?=some x->∃ c,Rd w G e x c/\dg w g (o+j*e.cells) c)
theorem Rd.carry {w w':World}{G G':Nat->Prop}(r:∀ k,G k->G' k)(u:∀ k,G k->w'.heap[k]?=w.heap[k]?) :
  ∀ {a:Ty} {x:a.den} {cs:List Value},Rd w G a x cs->Rd w' G' a x cs
 |.int _,_,_,h=>h
 |.bool,_,_,h=>h
 |.str,_,_,h=>h
 |.unit,_,_,h=>h
 |.hdr,_,_,h=>h
 |.pair _ _,_,_,⟨I,J,e,M,O⟩=>⟨I,J,e,Rd.carry r u M,Rd.carry r u O⟩
 |.list _ _ _,_,_,⟨A,y,e,X,h⟩=>⟨A,y,e,X,λZ=>by
   obtain⟨g,o,R,H,hx⟩:=h Z;exact⟨g,o,R,r g H,λj x Y=>by
    obtain⟨c,hr,z⟩:=hx j x Y;exact⟨c,Rd.carry r u hr,z.same (u g H)⟩⟩⟩
theorem Rd.mono {w:World}{G G':Nat->Prop}(r:∀ k,G k->G' k){a:Ty}{x:a.den}{cs:List Value}(h:Rd w G a x cs):Rd w G' a x cs :=
 Rd.carry r (λ_ _=>rfl) h
theorem Rd.len {w:World}{G:Nat->Prop}:∀ {a:Ty} {x:a.den} {cs:List Value},Rd w G a x cs->cs.length=a.cells
 |.int _,_,_,h=>by rw[show _=_ from h];rfl
 |.bool,_,_,h=>by rw[show _=_ from h];rfl
 |.str,_,_,h=>by rw[show _=_ from h];rfl
 |.unit,_,_,h=>by rw[show _=_ from h];rfl
 |.hdr,_,_,⟨A,r,e⟩=>by rw[e];rfl
 |.pair _ _,_,_,⟨z,H,e,u,y⟩=>by rw[e,GU,Rd.len u,Rd.len y];rfl
 |.list _ _ _,_,_,⟨A,r,e,_,_⟩=>by rw[e];rfl
theorem Rd.one {w:World}{G:Nat->Prop}:∀ {a:Ty} {x:a.den} {cs:List Value},Rd w G a x cs->∀ v∈cs,v.oneCell'=true
 |.int _,_,_,h=>by rw[show _=_ from h];simp[FT]
 |.bool,_,_,h=>by rw[show _=_ from h];simp[FT]
 |.str,_,_,h=>by rw[show _=_ from h];simp[FT]
 |.unit,_,_,h=>by rw[show _=_ from h];simp
 |.hdr,_,_,⟨A,u,e⟩=>by rw[e];simp[FT]
 |.pair _ _,_,_,⟨H,I,e,y,z⟩=>by
  rw[e];intro v r;rcases FW.1 r with r|r
  ·exact Rd.one y v r
  ·exact Rd.one z v r
 |.list _ _ _,_,_,⟨A,u,e,_,_⟩=>by rw[e];simp[FT]
theorem Rd.flat {w w':World}{G G':Nat->Prop}:∀ {a:Ty} {x:a.den} {cs:List Value},a.flat=true->Rd w G a x cs->Rd w' G' a x cs
 |.int _,_,_,_,h=>h
 |.bool,_,_,_,h=>h
 |.str,_,_,_,h=>h
 |.unit,_,_,_,h=>h
 |.hdr,_,_,_,h=>h
 |.pair _ _,_,_,r,⟨u,y,e,z,H⟩=>by
  simp only[Ty.flat,FM]at r;exact⟨u,y,e,Rd.flat r.1 z,Rd.flat r.2 H⟩
theorem iP:∀ {a b:Ty},a.sh=b.sh->a.cells=b.cells
 |.pair a b,.pair c d,h=>by
  simp only[Ty.sh,Ty.pair.injEq]at h;simp only[Ty.cells,iP h.1,iP h.2]
 |.int _,.int _,_|.int _,.bool,_|.int _,.str,_|.int _,.hdr,_|.int _,.list _ _ _,_=>rfl
 |.bool,.int _,_|.bool,.bool,_|.bool,.str,_|.bool,.hdr,_|.bool,.list _ _ _,_=>rfl
 |.str,.int _,_|.str,.bool,_|.str,.str,_|.str,.hdr,_|.str,.list _ _ _,_=>rfl
 |.hdr,.int _,_|.hdr,.bool,_|.hdr,.str,_|.hdr,.hdr,_|.hdr,.list _ _ _,_=>rfl
 |.list _ _ _,.int _,_|.list _ _ _,.bool,_|.list _ _ _,.str,_|.list _ _ _,.hdr,_|.list _ _ _,.list _ _ _,_=>rfl
 |.unit,.unit,_=>rfl
theorem tM {A r B u:Type}(z:A=r)(H:B=u){x:A×B}{y:r×u}(h:HEq x y):HEq x.1 y.1/\HEq x.2 y.2:=by
 subst z;subst H;cases h;exact⟨HEq.rfl,HEq.rfl⟩
theorem tN {A r:Type}(z:A=r){xs:List A}{u:List r}(h:HEq xs u):xs.length=u.length/\∀ (j:Nat) (y:r),u[j]?=some y->∃ x:A,xs[j]?=some x/\HEq x y:=by
 subst z;cases h;exact⟨rfl,λj y H=>⟨y,H,HEq.rfl⟩⟩
theorem Rd.flags {w:World}{G:Nat->Prop}:∀ {a b:Ty} {x:a.den} {y:b.den} {cs:List Value},a.sh=b.sh->HEq x y->Rd w G a x cs->Rd w G b y cs
 |.pair a b,.pair c d,x,y,cs,h,r,⟨M,O,e,u,I⟩=>by
  simp only[Ty.sh,Ty.pair.injEq]at h;obtain⟨J,z⟩:=tM (ke h.1) (ke h.2) r;exact⟨M,O,e,Rd.flags h.1 J u,Rd.flags h.2 z I⟩
 |.list _ _ e,.list _ _ e',xs,ys,cs,h,r,⟨A,H,u,I,J⟩=>by
  simp only[Ty.sh,Ty.list.injEq,true_and]at h;obtain⟨z,R⟩:=tN (ke h.2) r;refine⟨A,H,by rw[<- z];exact u,by rw[<- z];exact I,λhp=>?_⟩;obtain⟨g,o,hA,hg,hx⟩:=J (by rw[z];exact hp);refine⟨g,o,hA,hg,λj y hj=>?_⟩;obtain⟨x,X,Y⟩:=R j y hj;obtain⟨c,Z,h9⟩:=hx j x X;rw[<- iP h.2];exact⟨c,Rd.flags h.2 Y Z,h9⟩
 |.int k,.int k',x,y,cs,h,r,u=>by
  simp only[Ty.sh]at h
  grind
 |.bool,.bool,x,y,cs,h,r,u=>by cases r;exact u
 |.str,.str,x,y,cs,h,r,u=>by cases r;exact u
 |.unit,.unit,x,y,cs,h,r,u=>u
 |.hdr,.hdr,x,y,cs,h,r,u=>by cases r;exact u
def Row (w:World)(E:TypeId)(s:Nat)(v:Value)(n:Nat)(flat:List Value):Prop :=
 flat.length=n*s/\((v=.slice none 0 0/\n=0) \/
  ∃ g r u mk,v=.slice (some ⟨g,0,none⟩) n r/\w.heap[g]?=some (.cells u E mk)/\n<=r/\(mk=(0,0)/\r<=maxLen\/E=5/\u.size<=mk.1)/\r*s<=u.size/\u.toList.take (n*s)=flat)
theorem Row.of {w:World}{b:Nat}{E:TypeId}{s n:Nat}{v:Value}{flat:List Value}(h:w.ownsRow b E s v n flat):Row w E s v n flat:=by
 refine⟨h.1,h.2.imp id ?_⟩
 grind
theorem Row.same {w w':World}{E:TypeId}{s n:Nat}{v:Value}{flat:List Value}(h:Row w E s v n flat)(z:∀ k∈v.ownBlock.toList,w'.heap[k]?=w.heap[k]?):Row w' E s v n flat:=by
 refine⟨h.1,?_⟩;rcases h.2 with I|⟨g,u,y,mk,rfl,H,r⟩
 ·grind
 ·exact .inr ⟨g,u,y,mk,rfl,by rw[z g (by simp[F7])];exact H,r⟩
theorem Row.lt {w:World}{E:TypeId}{s n:Nat}{v:Value}{flat:List Value}(h:Row w E s v n flat):∀ k∈v.ownBlock.toList,k<w.heap.size:=by
 intro k r;rcases h.2 with ⟨rfl,_⟩|⟨g,u,y,_,rfl,z,_⟩
 ·simp[F7]at r
 ·simp[F7]at r
  grind
theorem Row.slice {w:World}{E:TypeId}{s n:Nat}{v:Value}{flat:List Value}(h:Row w E s v n flat):∃ A r,v=.slice A n r/\n<=r:=by
 rcases h.2 with ⟨rfl,z⟩|⟨g,r,u,_,rfl,_,y,_⟩
 ·grind
 ·grind
theorem Row.nil (w:World)(E:TypeId)(s:Nat):Row w E s (.slice none 0 0) 0 []:=⟨by simp,.inl ⟨rfl,rfl⟩⟩
theorem Row.cellAt {w:World}{E:TypeId}{s n g u:Nat}{flat:List Value}(h:Row w E s (.slice (some ⟨g,0,none⟩) n u) n flat)(j:Nat)(J:j<n*s):w.cell? ⟨g,j,none⟩=flat[j]?:=by
 rcases h.2 with ⟨z,_⟩|⟨M,H,y,mk,z,I,_,_,_,r⟩
 ·grind
 ·simp at z;obtain⟨rfl,rfl⟩:=z;rw[cell_of_row w g j y E mk I,<- r,FY,if_pos J];simp
theorem AY {mk:Nat×Nat}{E z c:Nat}(h:mk=(0,0)/\c<=maxLen\/E=5/\z<=mk.1):mk.2=0\/z<=mk.1:=h.imp (λh=>by rw[h.1]) (·.2)
theorem sl {w:World}{g j:Nat}{cs:Array Value}{E:TypeId}{mk:Nat×Nat}(r:w.heap[g]?=some (.cells cs E mk))(y:mk.2=0\/cs.size<=mk.1)(u:j<cs.size):w.frozen? ⟨g,j,none⟩=false:=by
 simp only[World.frozen?,r,Bool.and_eq_false_iff,decide_eq_false_iff_not];omega
def Mx (w:World)(G:Nat->Prop):(a:Ty)->Option Nat->Nat->a.den->List Value->List Nat->Prop
 |.int k,_,_,n,y,r=>y=[.int k n]/\r=[]
 |.bool,_,_,b,y,r=>y=[.bool b]/\r=[]
 |.str,_,_,s,y,r=>y=[.string s]/\r=[]
 |.unit,_,_,_,y,r=>y=[]/\r=[]
 |.hdr,_,_,n,y,r=>(∃ A J,y=[.slice A n J])/\r=[]
 |.pair a b,h,pos,x,y,r=>∃ R X M O,y=R++X/\r=M++O/\Mx w G a h pos x.1 R M/\Mx w G b h (pos+a.cells) x.2 X O
 |.list m E e,h,pos,I,y,r=>∃ v,y=[v]/\v.oneCell'=true /\
  (if m=true then (if h=some pos then r=[] else ∃ z H,Row w E e.cells v I.length z/\r=v.ownBlock.toList++(F9 I.length).flatMap H /\
    ∀ j (x:e.den),I[j]?=some x->∃ c,Mx w G e none 0 x c (H j)/\∀ i u,c[i]?=some u->z[j*e.cells+i]?=some u)
   else r=[]/\Rd w G (.list m E e) I [v])
def OwB (w:World)(G:Nat->Prop)(h:Option (Nat×Nat))(E:TypeId)(e:Ty)(xs:List e.den)(v:Value)(bs:List Nat):Prop :=
 ∃ r y,Row w E e.cells v xs.length r/\bs=v.ownBlock.toList++(F9 xs.length).flatMap y /\
  ∀ j (x:e.den),xs[j]?=some x->∃ c,Mx w G e (c9 h j) 0 x c (y j)/\∀ i u,c[i]?=some u->r[j*e.cells+i]?=some u
def OwH (w:World)(G:Nat->Prop)(h:Option (Nat×Nat))(E:TypeId)(e:Ty)(xs:List e.den)(v:Value)(bs:List Nat):Prop:=bs.Nodup/\OwB w G h E e xs v bs
abbrev Ow (w:World)(G:Nat->Prop)(E:TypeId)(e:Ty)(xs:List e.den)(v:Value)(bs:List Nat):Prop:=OwH w G none E e xs v bs
theorem OwB.one {w:World}{G:Nat->Prop}{h:Option (Nat×Nat)}{E:TypeId}{e:Ty}{xs:List e.den}{v:Value}{bs:List Nat}(H:OwB w G h E e xs v bs):v.oneCell'=true:=by
 obtain⟨r,u,z,_⟩:=H;obtain⟨A,y,rfl,_⟩:=z.slice;rfl
theorem bF {w:World}{G:Nat->Prop}{h:Option Nat}{E:TypeId}{e:Ty}{pos:Nat}{xs:List e.den}{cs:List Value}{bs:List Nat}(r:h≠some pos) :
  Mx w G (.list true E e) h pos xs cs bs<->∃ v,cs=[v]/\OwB w G none E e xs v bs:=by
 simp only[Mx,if_neg r];constructor
 ·rintro⟨v,h1,h2,h3⟩;exact⟨v,h1,h3⟩
 ·rintro⟨v,h1,h3⟩;exact⟨v,h1,h3.one,h3⟩
theorem jJ {w:World}{G:Nat->Prop}{E:TypeId}{e:Ty}{pos:Nat}{xs:List e.den}{cs:List Value}{bs:List Nat} :
  Mx w G (.list true E e) (some pos) pos xs cs bs<->∃ v,cs=[v]/\v.oneCell'=true/\bs=[]:=by
 simp only[Mx,if_true]
theorem cF {w:World}{G:Nat->Prop}{h:Option Nat}{E:TypeId}{e:Ty}{pos:Nat}{xs:List e.den}{cs:List Value}{bs:List Nat} :
  Mx w G (.list false E e) h pos xs cs bs<->bs=[]/\Rd w G (.list false E e) xs cs:=by
 simp only[Mx];constructor
 ·grind
 ·rintro⟨h1,h2⟩;obtain⟨A,r,u,y⟩:=h2;exact⟨_,u,rfl,h1,A,r,rfl,y⟩
theorem ei {n:Nat}{r:Nat->List Nat}{k:Nat}:k∈(F9 n).flatMap r<->∃ j,j<n/\k∈r j:=by simp
theorem Mx.carry {w w':World}{G G':Nat->Prop}(I:∀ k,G k->G' k)(J:∀ k,G k->w'.heap[k]?=w.heap[k]?) :
  ∀ {a:Ty} {h:Option Nat} {pos:Nat} {x:a.den} {cs:List Value} {bs:List Nat},(∀ k∈bs,w'.heap[k]?=w.heap[k]?)->Mx w G a h pos x cs bs->Mx w' G' a h pos x cs bs
 |.int _,_,_,_,_,_,_,h=>h
 |.bool,_,_,_,_,_,_,h=>h
 |.str,_,_,_,_,_,_,h=>h
 |.unit,_,_,_,_,_,_,h=>h
 |.hdr,_,_,_,_,_,_,h=>h
 |.pair _ _,_,_,_,_,_,z,⟨c1,c2,b1,b2,O,R,X,y⟩=>⟨c1,c2,b1,b2,O,R,Mx.carry I J (λk r=>z k (by rw[R];exact FP _ r)) X,Mx.carry I J (λk r=>z k (by rw[R];exact FO _ r)) y⟩
 |.list m E e,h,pos,xs,cs,bs,z,H=>by
  cases m with
  |false =>
   rw[cF]at H ⊢;exact⟨H.1,H.2.carry I J⟩
  |true =>
   by_cases Z:h=some pos
   ·subst Z;rw[jJ]at H ⊢;exact H
   ·rw[bF Z]at H ⊢;obtain⟨v,O,u,M,X,y,h3⟩:=H;refine⟨v,O,u,M,X.same (λk r=>z k (by rw[y];exact FP _ r)),y,λj x Y=>?_⟩;obtain⟨c,h4,h5⟩:=h3 j x Y;refine⟨c,?_,h5⟩;exact Mx.carry I J (λk r=>z k (by rw[y];exact FO _ (ei.2 ⟨j,(FL.1 Y).1,r⟩))) h4
theorem Mx.mono {w:World}{G G':Nat->Prop}(r:∀ k,G k->G' k){a:Ty}{h:Option Nat}{pos:Nat}{x:a.den}{cs:List Value}{bs:List Nat}(H:Mx w G a h pos x cs bs):Mx w G' a h pos x cs bs :=
 Mx.carry r (λ_ _=>rfl) (λ_ _=>rfl) H
theorem OwB.carry {w w':World}{G G':Nat->Prop}{h:Option (Nat×Nat)}{E:TypeId}{e:Ty}{xs:List e.den}{v:Value}{bs:List Nat}(H:OwB w G h E e xs v bs)
  (Y:∀ k,G k->G' k) (Z:∀ k,G k->w'.heap[k]?=w.heap[k]?) (I:∀ k∈bs,w'.heap[k]?=w.heap[k]?):OwB w' G' h E e xs v bs:=by
 obtain⟨r,u,M,y,O⟩:=H;refine⟨r,u,M.same (λk z=>I k (by rw[y];exact FP _ z)),y,λj x J=>?_⟩;obtain⟨c,R,X⟩:=O j x J;exact⟨c,Mx.carry Y Z (λk z=>I k (by rw[y];exact FO _ (ei.2 ⟨j,(FL.1 J).1,z⟩))) R,X⟩
theorem OwH.carry {w w':World}{G G':Nat->Prop}{h:Option (Nat×Nat)}{E:TypeId}{e:Ty}{xs:List e.den}{v:Value}{bs:List Nat}(H:OwH w G h E e xs v bs)
 (r:∀ k,G k->G' k) (y:∀ k,G k->w'.heap[k]?=w.heap[k]?) (u:∀ k∈bs,w'.heap[k]?=w.heap[k]?):OwH w' G' h E e xs v bs:=⟨H.1,H.2.carry r y u⟩
theorem Mx.len {w:World}{G:Nat->Prop}:∀ {a:Ty} {h:Option Nat} {pos:Nat} {x:a.den} {cs:List Value} {bs:List Nat},Mx w G a h pos x cs bs->cs.length=a.cells
 |.int _,_,_,_,_,_,h=>by rw[h.1];rfl
 |.bool,_,_,_,_,_,h=>by rw[h.1];rfl
 |.str,_,_,_,_,_,h=>by rw[h.1];rfl
 |.unit,_,_,_,_,_,h=>by rw[h.1];rfl
 |.hdr,_,_,_,_,_,⟨⟨A,r,e⟩,_⟩=>by rw[e];rfl
 |.pair _ _,_,_,_,_,_,⟨J,M,H,I,u,O,y,z⟩=>by rw[u,GU,y.len,z.len];rfl
 |.list _ _ _,_,_,_,_,_,⟨v,e,_⟩=>by rw[e];rfl
theorem Mx.one {w:World}{G:Nat->Prop}:∀ {a:Ty} {h:Option Nat} {pos:Nat} {x:a.den} {cs:List Value} {bs:List Nat},Mx w G a h pos x cs bs->∀ v∈cs,v.oneCell'=true
 |.int _,_,_,_,_,_,h=>by rw[h.1];simp[FT]
 |.bool,_,_,_,_,_,h=>by rw[h.1];simp[FT]
 |.str,_,_,_,_,_,h=>by rw[h.1];simp[FT]
 |.unit,_,_,_,_,_,h=>by rw[h.1];simp
 |.hdr,_,_,_,_,_,⟨⟨A,y,e⟩,_⟩=>by rw[e];simp[FT]
 |.pair _ _,_,_,_,_,_,⟨M,O,I,J,z,R,u,H⟩=>by
  rw[z];intro v r;rcases FW.1 r with r|r
  ·exact u.one v r
  ·exact H.one v r
 |.list _ _ _,_,_,_,_,_,⟨v,e,u,_⟩=>by rw[e];simpa using u
theorem Mx.lt {w:World}{G:Nat->Prop}:∀ {a:Ty} {h:Option Nat} {pos:Nat} {x:a.den} {cs:List Value} {bs:List Nat},Mx w G a h pos x cs bs->∀ k∈bs,k<w.heap.size
 |.int _,_,_,_,_,_,h=>by rw[h.2];simp
 |.bool,_,_,_,_,_,h=>by rw[h.2];simp
 |.str,_,_,_,_,_,h=>by rw[h.2];simp
 |.unit,_,_,_,_,_,h=>by rw[h.2];simp
 |.hdr,_,_,_,_,_,h=>by rw[h.2];simp
 |.pair _ _,_,_,_,_,_,⟨c1,c2,Z,b2,M,O,u,y⟩=>by
  rw[O];intro k r;rcases FW.1 r with r|r
  ·exact u.lt k r
  ·exact y.lt k r
 |.list m E e,h,pos,xs,cs,bs,H=>by
  cases m with
  |false=>rw[cF]at H;rw[H.1];simp
  |true =>
   by_cases I:h=some pos
   ·subst I;rw[jJ]at H
    grind
   ·rw[bF I]at H;obtain⟨v,M,z,J,u,y,R⟩:=H;rw[y];intro k r;rcases FW.1 r with r|r
    ·exact u.lt k r
    ·obtain⟨j,Y,r⟩:=ei.1 r;obtain⟨c,X,_⟩:=R j _ (FN Y);exact X.lt k r
theorem OwB.lt {w:World}{G:Nat->Prop}{h:Option (Nat×Nat)}{E:TypeId}{e:Ty}{xs:List e.den}{v:Value}{bs:List Nat}(H:OwB w G h E e xs v bs):∀ k∈bs,k<w.heap.size:=by
 obtain⟨u,y,z,I,J⟩:=H;rw[I];intro k r;rcases FW.1 r with r|r
 ·exact z.lt k r
 ·obtain⟨j,O,r⟩:=ei.1 r;obtain⟨c,M,_⟩:=J j _ (FN O);exact M.lt k r
theorem OwH.lt {w:World}{G:Nat->Prop}{h:Option (Nat×Nat)}{E:TypeId}{e:Ty}{xs:List e.den}{v:Value}{bs:List Nat}(H:OwH w G h E e xs v bs):∀ k∈bs,k<w.heap.size:=H.2.lt
theorem OwH.nodup {w:World}{G:Nat->Prop}{h:Option (Nat×Nat)}{E:TypeId}{e:Ty}{xs:List e.den}{v:Value}{bs:List Nat}(H:OwH w G h E e xs v bs):bs.Nodup:=H.1
theorem OwH.slice {w:World}{G:Nat->Prop}{h:Option (Nat×Nat)}{E:TypeId}{e:Ty}{xs:List e.den}{v:Value}{bs:List Nat}(H:OwH w G h E e xs v bs) :
  ∃ A r,v=.slice A xs.length r/\xs.length<=r:=by
 obtain⟨_,u,y,z,_⟩:=H;exact z.slice
theorem OwH.one {w:World}{G:Nat->Prop}{h:Option (Nat×Nat)}{E:TypeId}{e:Ty}{xs:List e.den}{v:Value}{bs:List Nat}(H:OwH w G h E e xs v bs):v.oneCell'=true:=H.2.one
theorem tO {w:World}{m:Bool}{E E':TypeId}{e:Ty}{xs:List e.den}{v:Value}{flat:List Value}{S:Nat->Prop}(H:Row w E e.cells v xs.length flat)(J:∀ k∈v.ownBlock.toList,S k)
  (I:∀ j (x:e.den),xs[j]?=some x->∃ c,Rd w S e x c/\∀ i u,c[i]?=some u->flat[j*e.cells+i]?=some u):Rd w S (.list m E' e) xs [v]:=by
 rcases H.2 with ⟨rfl,X⟩|⟨g,r,y,mk,rfl,O,M,hm,hs,Z⟩
 ·exact⟨none,0,by rw[X],by omega,λhp=>by omega⟩
 ·refine⟨some ⟨g,0,none⟩,r,rfl,M,λ_=>⟨g,0,rfl,J g (by simp[F7]),λj x R=>?_⟩⟩;obtain⟨c,Y,z⟩:=I j x R;refine⟨c,Y,λi u hu=>?_⟩;have:=z i u hu;rw[<- Z,FY]at this;split at this
  ·rw[GX,cell_of_row w g _ y E mk O]
   simp_all
  ·grind
theorem Mx.rd {w:World}{G S:Nat->Prop}(z:∀ k,G k->S k):∀ {a:Ty} {pos:Nat} {x:a.den} {cs:List Value} {bs:List Nat},(∀ k∈bs,S k)->Mx w G a none pos x cs bs->Rd w S a x cs
 |.int _,_,_,_,_,_,h=>h.1
 |.bool,_,_,_,_,_,h=>h.1
 |.str,_,_,_,_,_,h=>h.1
 |.unit,_,_,_,_,_,h=>h.1
 |.hdr,_,_,_,_,_,h=>h.1
 |.pair _ _,_,_,_,_,u,⟨Z,c2,b1,b2,J,R,M,y⟩=>⟨Z,c2,J,Mx.rd z (λk r=>u k (by rw[R];exact FP _ r)) M,Mx.rd z (λk r=>u k (by rw[R];exact FO _ r)) y⟩
 |.list m E e,pos,xs,cs,bs,u,H=>by
  cases m with
  |false=>rw[cF]at H;exact H.2.mono z
  |true =>
   rw[bF (by simp)]at H;obtain⟨v,J,X,I,M,y,h3⟩:=H;rw[J];refine tO M (λk r=>u k (by rw[y];exact FP _ r)) λj x Y=>?_
   obtain⟨c,h4,h5⟩:=h3 j x Y;have O:Mx w G e none 0 x c (I j):=h4;exact⟨c,Mx.rd z (λk r=>u k (by rw[y];exact FO _ (ei.2 ⟨j,(FL.1 Y).1,r⟩))) O,h5⟩
theorem OwH.rd {w:World}{G:Nat->Prop}{m:Bool}{E E':TypeId}{e:Ty}{xs:List e.den}{v:Value}{bs:List Nat}(H:Ow w G E e xs v bs) :
  Rd w (λk=>G k\/k∈bs) (.list m E' e) xs [v]:=by
 obtain⟨_,z,u,M,I,O⟩:=H;refine tO M (λk r=>.inr (by rw[I];exact FP _ r)) λj x J=>?_
 obtain⟨c,R,X⟩:=O j x J;have y:Mx w G e none 0 x c (u j):=R;exact⟨c,y.rd (λk r=>.inl r) (λk r=>.inr (by rw[I];exact FO _ (ei.2 ⟨j,(FL.1 J).1,r⟩))),X⟩
theorem OwH.nil (w:World)(G:Nat->Prop)(E:TypeId)(e:Ty):Ow w G E e [] (.slice none 0 0) [] :=
 ⟨List.nodup_nil,[],λ_=>[],Row.nil w E e.cells,rfl,λj x r=>by simp at r⟩
theorem Rd.nil (w:World)(G:Nat->Prop)(m:Bool)(E:TypeId)(e:Ty):Rd w G (.list m E e) [] [.slice none 0 0] :=
 ⟨none,0,rfl,FR _,λh=>by simp at h⟩
theorem Mx.flat {w w':World}{G G':Nat->Prop}:∀ {a:Ty} {h:Option Nat} {pos:Nat} {x:a.den} {cs:List Value},a.flat=true->Rd w G a x cs->Mx w' G' a h pos x cs []
 |.int _,_,_,_,_,_,h=>⟨h,rfl⟩
 |.bool,_,_,_,_,_,h=>⟨h,rfl⟩
 |.str,_,_,_,_,_,h=>⟨h,rfl⟩
 |.unit,_,_,_,_,_,h=>⟨h,rfl⟩
 |.hdr,_,_,_,_,_,h=>⟨h,rfl⟩
 |.pair _ _,_,_,_,_,r,⟨u,y,e,z,H⟩=>by
  simp only[Ty.flat,FM]at r;exact⟨u,y,[],[],e,rfl,Mx.flat r.1 z,Mx.flat r.2 H⟩
theorem Mx.shared {w:World}{G:Nat->Prop}:∀ {a:Ty} {h:Option Nat} {pos:Nat} {x:a.den} {cs:List Value},a.sh=a->Rd w G a x cs->Mx w G a h pos x cs []
 |.int _,_,_,_,_,_,h=>⟨h,rfl⟩
 |.bool,_,_,_,_,_,h=>⟨h,rfl⟩
 |.str,_,_,_,_,_,h=>⟨h,rfl⟩
 |.unit,_,_,_,_,_,h=>⟨h,rfl⟩
 |.hdr,_,_,_,_,_,h=>⟨h,rfl⟩
 |.pair _ _,_,_,_,_,r,⟨u,y,e,z,H⟩=>by
  simp only[Ty.sh,Ty.pair.injEq]at r;exact⟨u,y,[],[],e,rfl,Mx.shared r.1 z,Mx.shared r.2 H⟩
 |.list m E e,_,_,_,_,r,h=>by
  simp only[Ty.sh,Ty.list.injEq]at r;obtain⟨rfl,_⟩:=r;exact cF.2 ⟨rfl,h⟩
def dr (agg:Bool)(v:Value)(cs:List Value):Prop:=if agg then v=.agg cs.toArray else cs=[v]
def tz (w:World)(G:Nat->Prop):(y:List Ty)->Tup y->List Value->Prop
 |[],_,u=>u=[]
 |a::as,x,u=>∃ v c r,u=v::r/\dr a.isAgg v c/\Rd w G a x.1 c/\tz w G as x.2 r
def fR (P:Program)(f:FuncId):Prop:=∀ (r:Array Value) (w:World),(callFunc f r).run P w=.ok (.enter f r) w
def iQ (P:Program)(w0:World)(S:Nat->Prop)(H:List Ty)(B:Ty)(I:Tup H->Option B.den)(v:Value):Prop :=
 ∃ f z,v=.func (.func f) #[] z/\fR P f /\
  ∀ w1:World,w0.heap.size<=w1.heap.size->(∀ k,S k->w1.heap[k]?=w0.heap[k]?) ->
   ∀ (x:Tup H) (r:List Value) (y:B.den),tz w1 (λk=>k<w1.heap.size) H x r->I x=some y ->
    Calls P f (r.toArray++z) w1 (λe w2=>∃ u c,e=.returned u/\dr B.isAgg u c/\Rd w2 (λ_=>False) B y c/\Below w1.heap.size w1 w2)
structure Env where
 w0:World
 ro0:Nat->Prop
 own0:List Nat
 nt:Nat
 fixb:List (Nat×Nat)
 fixt:List (Nat×Value)
def Env.prot (V:Env)(k:Nat):Prop:=k<V.w0.heap.size/\k∉V.own0
structure Wit where
 β:Nat->Nat
 cs:Nat->List Value
 bs:Nat->Nat->List Nat
 nw:Nat->Prop
def gd (V:Env)(W:Wit)(p:Bool)(k:Nat):Prop:=W.nw k\/(p=true/\V.ro0 k)
def ao:Leaf->Prop
 |.own _ _ _ _ _=>True
 |_=>False
def RpOk (V:Env)(W:Wit)(w:World)(p:Bool)(a:Ty)(x:a.den)(off:Nat)(v:Value):Prop :=
 ∃ g o c,v=.pointer (some ⟨g,o+off,none⟩)/\(W.nw g\/V.prot g)/\Rd w (gd V W p) a x c/\dg w g o c
def tA (V:Env)(W:Wit)(w:World)(p:Bool)(a:Ty)(x:a.den)(v:Value):Prop :=
 ∃ b r g o c,v=.pointer (some ⟨b,r,none⟩)/\(W.nw b\/V.prot b)/\w.cell? ⟨b,r,none⟩=some (.pointer (some ⟨g,o,none⟩)) /\
  (W.nw g\/V.prot g)/\Rd w (gd V W p) a x c/\dg w g o c
def jt (V:Env)(W:Wit)(w:World)(c:Bool×Bool×(a:Ty)×a.den)(v:Value):Prop :=
 if c.2.1=true then tA V W w c.1 c.2.2.1 c.2.2.2 v else RpOk V W w c.1 c.2.2.1 c.2.2.2 0 v
def tB (st:St)(ks:List (Nat×Nat×Nat)):Prop:=∀ k∈ks,∃ l,(st k.1).ls[k.2.1]?=some l/\ao l
structure tC (V:Env) (W:Wit) (w:World) (p:Bool) (ks:List (Nat×Nat×Nat)) (loc:Option (Nat×Nat×Nat)) (E:TypeId) (e:Ty) (xs:List e.den) (v:Value):Prop where
 rd:Rd w (λb=>gd V W p b\/∃ k∈ks,b∈W.bs k.1 k.2.1) (.list false E e) xs [v]
 at_:∀ i sz off,loc=some (i,sz,off)->∃ r j n,ks=[(r,j,n)]/\∃ g len cap,(W.cs r)[j]?=some (.slice (some ⟨g,0,none⟩) len cap)/\i<len/\g∈W.bs r j/\w.cell? ⟨g,i*sz+off,none⟩=some v
structure NpOk (V:Env) (W:Wit) (w:World) (p:Bool) (ks:List (Nat×Nat×Nat)) (a:Ty) (x:a.den) (off:Nat) (v:Value):Prop where
 rd:∃ g o c,v=.pointer (some ⟨g,o+off,none⟩)/\(gd V W p g\/∃ k∈ks,g∈W.bs k.1 k.2.1)/\Rd w (λb=>gd V W p b\/∃ k∈ks,b∈W.bs k.1 k.2.1) a x c/\dg w g o c
def aM (P:Program)(V:Env)(W:Wit)(st:St)(w:World)(bs:List Nat):Leaf->Value->Prop
 |.int k n,v=>v=.int k n
 |.bool b,v=>v=.bool b
 |.str s,v=>v=.string s
 |.nil,v=>v=.slice none 0 0
 |.hdr n,v=>∃ A H,v=.slice A n H
 |.ro p E e J,v=>Rd w (gd V W p) (.list false E e) J [v]
 |.own p h E e J,v=>OwH w (gd V W p) h E e J v bs
 |.al r j n,v=>n<=(st r).ver/\((st r).ver=n->(W.cs r)[j]?=some v)
 |.nal p z ep M E e J,v=>ep<=(st EPO).ver/\(∀ k∈z,k.2.2<=(st k.1).ver)/\((st EPO).ver=ep->(∀ k∈z,(st k.1).ver=k.2.2)->tB st z->tC V W w p z M E e J v)
 |.ep r j n i X off,v=>n<=(st r).ver/\((st r).ver=n->∃ g I H,(W.cs r)[j]?=some (.slice (some ⟨g,0,none⟩) I H)/\i<I/\v=.pointer (some ⟨g,i*X+off,none⟩))
 |.np p z ep a x off,v=>ep<=(st EPO).ver/\(∀ k∈z,k.2.2<=(st k.1).ver)/\((st EPO).ver=ep->(∀ k∈z,(st k.1).ver=k.2.2)->tB st z->NpOk V W w p z a x off v)
 |.rp p a x off,v=>RpOk V W w p a x off v
 |.rpp p a x,v=>tA V W w p a x v
 |.bp b off,v=>B0<=b/\(st b).sh=.agg/\v=.pointer (some ⟨W.β b,off,none⟩)
 |.clo f y,v=>v=.func (.func f) #[] (y.map λb=>Value.pointer (some ⟨W.β b,0,none⟩)).toArray/\∀ b∈y,B0<=b/\(st b).sh=.agg
 |.clr f y,v=>∃ O:List Value,v=.func (.func f) #[] O.toArray/\O.length=y.length/\∀ (i:Nat) (c:Bool×Bool×(a:Ty)×a.den) (u:Value),y[i]?=some c->O[i]?=some u->jt V W w c u
 |.fn R B Y,v=>iQ P V.w0 V.prot R B Y v
 |.dead,_=>True
def qB:List (Bool×Nat)->List Value->List Value->Prop
 |[],z,y=>z=[]/\y=[]
 |(agg,n)::H,z,y=>∃ v u c r,z=v::u/\y=c++r/\c.length=n/\dr agg v c/\qB H u r
def eK:aK->Value->List Value->Prop
 |.off,_,r=>r=[]
 |.und,v,r=>v=undef/\r=[]
 |.one,v,r=>r=[v]
 |.agg,v,r=>v=.agg r.toArray
 |.tup y,v,r=>∃ u,v=.tuple u.toArray/\qB y u r
def live (st:St)(b:Nat):Prop:=B0<=b/\(st b).sh=.agg
structure ap (P:Program) (V:Env) (W:Wit) (st:St) (a:Act) (w:World):Prop where
 nt:a.tmps.size=V.nt
 df:a.defers=[]
 slots:∀ t,t<GH->eK (st t).sh (a.tmps.getD t undef) (W.cs t)
 boxes:∀ b,B0<=b->((st b).sh=.off/\(st b).ls=[])\/((st b).sh=.agg/\∃ E,w.heap[W.β b]?=some (.cells (W.cs b).toArray E (0,0)))
 len:∀ r,(st r).ls.length=(W.cs r).length
 one:∀ r,∀ v∈W.cs r,v.oneCell'=true
 leaf:∀ r j l v,(st r).ls[j]?=some l->(W.cs r)[j]?=some v->aM P V W st w (W.bs r j) l v
 ownb:∀ r j l,(st r).ls[j]?=some l->ao l->∀ k∈W.bs r j,¬ W.nw k/\¬ V.prot k/\∀ b,live st b->W.β b≠k
 sep:∀ r j l r' j' l',(st r).ls[j]?=some l->ao l->(st r').ls[j']?=some l'->ao l'->∀ k,k∈W.bs r j->k∈W.bs r' j'->r=r'/\j=j'
 box:∀ b,live st b->¬ W.nw (W.β b)/\¬ V.prot (W.β b)
 inj:∀ b b',live st b->live st b'->W.β b=W.β b'->b=b'
 nwlt:∀ k,W.nw k->k<w.heap.size/\¬ V.prot k
 os:w.os=V.w0.os
 tape:w.tape=V.w0.tape
 output:w.output=V.w0.output
 size:V.w0.heap.size<=w.heap.size
 keep:∀ k,V.prot k->w.heap[k]?=V.w0.heap[k]?
 fixb:∀ x∈V.fixb,live st x.1/\W.β x.1=x.2
 fixt:∀ x∈V.fixt,a.tmps.getD x.1 undef=x.2
def Rel (P:Program)(V:Env)(st:St)(a:Act)(w:World):Prop:=∃ W,ap P V W st a w
structure aA (V:Env):Prop where
 ro:∀ k,V.ro0 k->V.prot k
 nt:V.nt<=GH
theorem aA.ntB {V:Env}(h:aA V):V.nt<=B0:=FU h.nt (by decide)
section
variable {P:Program} {V:Env} {W W':Wit} {st st':St} {w w':World}
theorem b8 {p q:Bool}(y:p=true->q=true)(u:∀ k,W.nw k->W'.nw k):∀ k,gd V W p k->gd V W' q k:=by
 intro k r;rcases r with r|⟨z,r⟩
 ·exact .inl (u k r)
 ·exact .inr ⟨y z,r⟩
structure cP (V:Env) (W W':Wit) (st st':St) (w w':World):Prop where
 ver:∀ r,(st r).ver<=(st' r).ver/\((st' r).ver=(st r).ver->W'.cs r=W.cs r)
 box:∀ b,live st b->live st' b/\W'.β b=W.β b
 nw:∀ k,W.nw k->W'.nw k
 heap:∀ k,(W.nw k\/V.prot k)->w'.heap[k]?=w.heap[k]?
 epo:(st' EPO).ver=(st EPO).ver->∀ (r j:Nat) (l:Leaf),(st' r).ls[j]?=some l->ao l->(st' r).ver=(st r).ver ->
  (∃ l',(st r).ls[j]?=some l'/\ao l')/\W'.bs r j=W.bs r j/\∀ k∈W.bs r j,w'.heap[k]?=w.heap[k]?
theorem cP.refl (V:Env)(W:Wit)(st:St)(w:World):cP V W W st st w w :=
 ⟨λ_=>⟨FR _,λ_=>rfl⟩,λ_ y=>⟨y,rfl⟩,λ_ h=>h,λ_ _=>rfl,λ_ _ _ l r u _=>⟨⟨l,r,u⟩,rfl,λ_ _=>rfl⟩⟩
theorem lq {w w':World}{a:Addr}(h:w'.heap[a.block]?=w.heap[a.block]?):w'.cell? a=w.cell? a:=by simp[Gm,h]
theorem cP.gdheap (u:∀ k,V.ro0 k->V.prot k)(h:cP V W W' st st' w w')(p:Bool):∀ k,gd V W p k->w'.heap[k]?=w.heap[k]?:=by
 intro k r;rcases r with r|⟨_,r⟩
 ·exact h.heap k (.inl r)
 ·exact h.heap k (.inr (u k r))
theorem ye {ks:List (Nat×Nat×Nat)}{ep:Nat}(u:cP V W W' st st' w w')(H:ep<=(st EPO).ver)(y:∀ k∈ks,k.2.2<=(st k.1).ver)(I:(st' EPO).ver=ep)(z:∀ k∈ks,(st' k.1).ver=k.2.2) :
  (st EPO).ver=ep/\∀ k∈ks,(st k.1).ver=k.2.2 :=
 ⟨by have:=(u.ver EPO).1;omega,λk r=>by have:=(u.ver k.1).1;have:=y k r;have:=z k r;omega⟩
theorem cP.places {ks:List (Nat×Nat×Nat)}{ep:Nat}(M:cP V W W' st st' w w')(J:tB st' ks)(O:(st EPO).ver=ep)(y:∀ k∈ks,(st k.1).ver=k.2.2)
  (R:(st' EPO).ver=ep) (I:∀ k∈ks,(st' k.1).ver=k.2.2) :
  ∀ k∈ks,(∃ u,(st k.1).ls[k.2.1]?=some u/\ao u)/\W'.bs k.1 k.2.1=W.bs k.1 k.2.1/\∀ b∈W.bs k.1 k.2.1,w'.heap[b]?=w.heap[b]?:=λk r=>by
 obtain⟨l,z,H⟩:=J k r;exact M.epo (by omega) k.1 k.2.1 l z H (by rw[I k r,y k r])
theorem aM.carry (J:∀ k,V.ro0 k->V.prot k){bs bs':List Nat}{l:Leaf}{v:Value}(h:aM P V W st w bs l v)(y:cP V W W' st st' w w')
  (a2:ao l->bs'=bs/\∀ k∈bs,w'.heap[k]?=w.heap[k]?):aM P V W' st' w' bs' l v:=by
 have hG:∀ p k,gd V W p k->gd V W' p k:=λp=>b8 (λh=>h) y.nw
 have hP:∀ k,(W.nw k\/V.prot k)->(W'.nw k\/V.prot k):=λk M=>M.imp (y.nw k) id
 have hR:∀ {p:Bool} {a:Ty} {x:a.den} {off:Nat} {v:Value},RpOk V W w p a x off v->RpOk V W' w' p a x off v:=by
  rintro p a x off v ⟨g,o,c,hv,Y,hr,hc⟩;exact⟨g,o,c,hv,hP g Y,Rd.carry (hG p) (y.gdheap J p) hr,hc.same (y.heap g Y)⟩
 have a5:∀ {p:Bool} {a:Ty} {x:a.den} {v:Value},tA V W w p a x v->tA V W' w' p a x v:=by
  rintro p a x v ⟨b,ob,g,o,c,hv,I,a0,Y,hr,hc⟩;exact⟨b,ob,g,o,c,hv,hP b I,by rw[lq (y.heap b I)];exact a0,hP g Y,Rd.carry (hG p) (y.gdheap J p) hr,hc.same (y.heap g Y)⟩
 cases l with
 |int k n=>exact h
 |bool b=>exact h
 |str s=>exact h
 |nil=>exact h
 |hdr n=>exact h
 |ro p E e xs=>exact Rd.carry (hG p) (y.gdheap J p) h
 |own p hh E e xs =>
  obtain⟨rfl,I⟩:=a2 trivial;exact OwH.carry h (hG p) (y.gdheap J p) I
 |nal p ks ep a7 E e xs =>
  obtain⟨z,H,O⟩:=h;refine⟨FU z (y.ver EPO).1,λk M=>FU (H k M) (y.ver k.1).1,λhe M ho=>?_⟩;obtain⟨e1,e2⟩:=ye y z H he M;have Z:=y.places ho e1 e2 he M;have R:=O e1 e2 (λk X=>(Z k X).1);refine⟨Rd.carry ?_ ?_ R.rd,λi sz off hl=>?_⟩
  ·grind
  ·rintro b (I|⟨k,X,I⟩)
   ·exact y.gdheap J p b I
   ·grind
  ·obtain⟨r,j,n,rfl,g,a6,a3,h6,h7,h8,h9⟩:=R.at_ i sz off hl;have X:(r,j,n)∈[(r,j,n)]:=GV ..;have a4:(st' r).ver=(st r).ver:=(M _ X).trans (e2 _ X).symm;refine⟨r,j,n,rfl,g,a6,a3,by rw[(y.ver r).2 a4];exact h6,h7,by rw[(Z _ X).2.1];exact h8,?_⟩;rw[lq ((Z _ X).2.2 g h8)];exact h9
 |np p ks ep a x off =>
  obtain⟨z,H,O⟩:=h;refine⟨FU z (y.ver EPO).1,λk M=>FU (H k M) (y.ver k.1).1,λhe M ho=>?_⟩;obtain⟨e1,e2⟩:=ye y z H he M;have Z:=y.places ho e1 e2 he M;have R:=O e1 e2 (λk X=>(Z k X).1);have hS:∀ b,(gd V W p b\/∃ k∈ks,b∈W.bs k.1 k.2.1)->(gd V W' p b\/∃ k∈ks,b∈W'.bs k.1 k.2.1):=by
   grind
  have hW:∀ b,(gd V W p b\/∃ k∈ks,b∈W.bs k.1 k.2.1)->w'.heap[b]?=w.heap[b]?:=by
   rintro b (I|⟨k,X,I⟩)
   ·exact y.gdheap J p b I
   ·grind
  obtain⟨g,o,c,hv,Y,hr,hc⟩:=R.rd;exact⟨g,o,c,hv,hS g Y,Rd.carry hS hW hr,hc.same (hW g Y)⟩
 |al r j n =>
  obtain⟨z,H⟩:=h;obtain⟨O,R⟩:=y.ver r;refine⟨FU z O,λhv=>?_⟩
  grind
 |ep r j n i sz off =>
  obtain⟨z,H⟩:=h;obtain⟨O,R⟩:=y.ver r;refine⟨FU z O,λhv=>?_⟩
  grind
 |rp p a x off=>exact hR h
 |rpp p a x=>exact a5 h
 |clr f a1 =>
  obtain⟨us,z,H,O⟩:=h;refine⟨us,z,H,λi c u hc hu=>?_⟩;have R:=O i c u hc hu;unfold jt at R ⊢
  grind
 |bp b off =>
  obtain⟨z,H,O⟩:=h;obtain⟨R,Z⟩:=y.box b ⟨z,H⟩;exact⟨z,R.2,by rw[Z];exact O⟩
 |clo f a1 =>
  obtain⟨z,H⟩:=h;refine⟨?_,λb I=>(y.box b (H b I)).1⟩;rw[z];congr 2;refine List.map_congr_left λb I=>?_
  rw[(y.box b (H b I)).2]
 |fn As B φ=>exact h
 |dead=>trivial
def aG (P:Program)(V:Env)(W:Wit)(st:St)(w:World):List Leaf->List Value->Prop
 |[],[]=>True
 |l::u,v::r=>(aM P V W st w [] l v/\¬ ao l/\v.oneCell'=true)/\aG P V W st w u r
 |_,_=>False
theorem aG.length:∀ {ls:List Leaf} {cs:List Value},aG P V W st w ls cs->ls.length=cs.length
 |[],[],_=>rfl
 |_::_,_::_,h=>by simp[aG.length h.2]
theorem aG.at_:∀ {ls:List Leaf} {cs:List Value},aG P V W st w ls cs->∀ (j:Nat) (l:Leaf) (v:Value),ls[j]?=some l->cs[j]?=some v->aM P V W st w [] l v/\¬ ao l/\v.oneCell'=true
 |_::_,_::_,h,0,l,v,r,u=>by
  simp at r u;subst r;subst u;exact h.1
 |_::_,_::_,h,j+1,l,v,r,u=>aG.at_ h.2 j l v (by simpa using r) (by simpa using u)
theorem aG.one':∀ {ls:List Leaf} {cs:List Value},aG P V W st w ls cs->∀ v∈cs,v.oneCell'=true
 |[],[],_,_,r=>by simp at r
 |_::_,_::_,h,v,r=>by
  rcases GT.1 r with rfl|r
  ·exact h.1.2.2
  ·exact aG.one' h.2 v r
theorem aG.mk:∀ {ls:List Leaf} {cs:List Value},ls.length=cs.length->(∀ (j:Nat) (l:Leaf) (v:Value),ls[j]?=some l->cs[j]?=some v->aM P V W st w [] l v/\¬ ao l/\v.oneCell'=true)->aG P V W st w ls cs
 |[],[],_,_=>trivial
 |_::_,_::_,h,H=>⟨H 0 _ _ rfl rfl,aG.mk (by simpa using h) λj l v r u=>H (j+1) l v (by simpa using r) (by simpa using u)⟩
theorem aG.drop {ls:List Leaf}{cs:List Value}(h:aG P V W st w ls cs)(n:Nat):aG P V W st w (ls.drop n) (cs.drop n) :=
 aG.mk (by simp[h.length]) λj l v r u=>h.at_ (n+j) l v (by simpa using r) (by simpa using u)
theorem aG.take {ls:List Leaf}{cs:List Value}(h:aG P V W st w ls cs)(n:Nat):aG P V W st w (ls.take n) (cs.take n) :=
 aG.mk (by simp[h.length]) λj l v r u=>by
  rw[FY]at r u;split at r
  ·rename_i y;rw[if_pos y]at u;exact h.at_ j l v r u
  ·grind
theorem aG.append {y H:List Leaf}{r z:List Value}(u:aG P V W st w y r)(I:aG P V W st w H z):aG P V W st w (y++H) (r++z):=by
 induction y generalizing r with
 |nil =>
  cases r with
  |nil=>simpa using I
  |cons=>simp[aG]at u
 |cons l O J =>
  cases r with
  |nil=>simp[aG]at u
  |cons v M=>exact⟨u.1,J u.2⟩
theorem aG.carry (r:∀ k,V.ro0 k->V.prot k)(u:cP V W W' st st' w w'):∀ {ls:List Leaf} {cs:List Value},aG P V W st w ls cs->aG P V W' st' w' ls cs
 |[],[],_=>trivial
 |_::_,_::_,h=>⟨⟨h.1.1.carry r u (λy=>absurd y h.1.2.1),h.1.2⟩,aG.carry r u h.2⟩
theorem fC {G:Nat->Prop}{p:Bool}(y:∀ k,G k->gd V W p k):∀ {a:Ty} {x:a.den} {cs:List Value},Rd w G a x cs->aG P V W st w (cS p a x) cs
 |.int _,_,_,h=>by rw[show _=_ from h];exact⟨⟨rfl,id,rfl⟩,trivial⟩
 |.bool,_,_,h=>by rw[show _=_ from h];exact⟨⟨rfl,id,rfl⟩,trivial⟩
 |.str,_,_,h=>by rw[show _=_ from h];exact⟨⟨rfl,id,rfl⟩,trivial⟩
 |.unit,_,_,h=>by rw[show _=_ from h];trivial
 |.hdr,_,_,⟨A,r,e⟩=>by rw[e];exact⟨⟨⟨A,r,rfl⟩,id,rfl⟩,trivial⟩
 |.pair _ _,_,_,⟨J,M,e,z,u⟩=>by rw[e];exact (fC y z).append (fC y u)
 |.list m E e,I,_,h=>by
  obtain⟨A,r,rfl,u,H⟩:=h;exact⟨⟨Rd.mono y (⟨A,r,rfl,u,H⟩:Rd w _ (.list false E e) I _),id,rfl⟩,trivial⟩
theorem is (p:Bool):∀ (a:Ty) (x:a.den),(cS p a x).length=a.cells
 |.int _,_=>rfl
 |.bool,_=>rfl
 |.str,_=>rfl
 |.unit,_=>rfl
 |.hdr,_=>rfl
 |.pair a b,x=>by simp[cS,Ty.cells,is p a,is p b]
 |.list _ _ _,_=>rfl
theorem cR (p:Bool):∀ (a:Ty) (x:a.den),(aq p a x).length=a.cells
 |.int _,_=>rfl
 |.bool,_=>rfl
 |.str,_=>rfl
 |.unit,_=>rfl
 |.hdr,_=>rfl
 |.pair a b,x=>by simp[aq,Ty.cells,cR p a,cR p b]
 |.list _ _ _,_=>rfl
theorem ju (t n:Nat):∀ (j:Nat) (ls:List Leaf),(bL t n j ls).length=ls.length
 |_,[]=>rfl
 |j,_::ls=>by simp[bL,ju t n (j+1) ls]
theorem pg (t n:Nat):∀ (j:Nat) (ls:List Leaf) (i:Nat) (l:Leaf),ls[i]?=some l->(bL t n j ls)[i]?=some (mA t (j+i) n l)
 |j,r::ls,0,l,h=>by
  simp at h;subst h;simp[bL]
 |j,r::ls,i+1,l,h=>by
  have:=pg t n (j+1) ls i l (by simpa using h);simp only[bL]
  grind
theorem jf {a:Act}(h:ap P V W st a w)(r:Nat):aG P V W st w (bL r (st r).ver 0 (st r).ls) (W.cs r):=by
 refine aG.mk (by rw[ju,h.len]) λj l v u y=>?_
 have M:j<(st r).ls.length:=by
  have:=(FL.1 u).1;simpa[ju]using this
 have z:(st r).ls[j]?=some (st r).ls[j]:=FN M;have J:=pg r (st r).ver 0 (st r).ls j _ z;rw[J]at u;have H:=h.leaf r j _ v z y;have I:=h.one r v (List.mem_of_getElem? y);simp at u;subst u;generalize R:(st r).ls[j]=q at H;cases q with
 |own p O E e X=>exact⟨⟨FR _,λ_=>by simpa using y⟩,id,I⟩
 |_=>exact⟨H,id,I⟩
theorem tP {v:Value}{l:Leaf}(h:jb v=some l):aM P V W st w [] l v/\¬ ao l/\v.oneCell'=true:=by
 unfold jb at h;split at h <;> simp at h <;> subst h <;> exact⟨rfl,id,rfl⟩
theorem db {a:Act}(h:ap P V W st a w)(x:Operand) :
  ∃ r,eK (au st x).1 (a.eval x) r/\aG P V W st w (au st x).2 r:=by
 cases x with
 |tmp t =>
  simp only[au];cases z:GA t GH with
  |false=>exact⟨[],rfl,trivial⟩
  |true=>exact⟨W.cs t,h.slots t (by simpa using z),jf h t⟩
 |const v =>
  simp only[au];cases y:jb v with
  |none=>exact⟨[],rfl,trivial⟩
  |some l=>exact⟨[v],rfl,⟨tP y,trivial⟩⟩
 |func f=>exact⟨[.func (.func f) #[] #[]],rfl,⟨⟨⟨rfl,λb u=>by simp at u⟩,id,rfl⟩,trivial⟩⟩
 |global g=>exact⟨[],rfl,trivial⟩
theorem bA {a:Act}(h:ap P V W st a w)(x:Operand)(z:one st x≠.dead) :
  aM P V W st w [] (one st x) (a.eval x)/\¬ ao (one st x)/\(a.eval x).oneCell'=true/\(au st x).1=.one/\(au st x).2=[one st x]:=by
 obtain⟨H,y,r⟩:=db h x;unfold one at z ⊢;split at z
 ·rename_i l I;simp only[I]at y r ⊢;have u:H=[a.eval x]:=y;subst u;exact⟨r.1.1,r.1.2.1,r.1.2.2,by simp,by simp⟩
 ·grind
theorem fH {r j n:Nat}{l:Leaf}(u:aH st (.al r j n)=l)(z:l≠.dead):(st r).ver=n/\(st r).ls[j]?=some l:=by
 simp only[aH]at u;cases y:FJ (st r).ver n with
 |false=>simp only[y]at u;exact absurd u.symm z
 |true =>
  simp only[y,cond_true]at u;refine⟨FK y,?_⟩;rw[F1]at u;cases H:(st r).ls[j]? with
  |none=>simp only[H]at u;exact absurd u.symm z
  |some I =>
   simp only[H,Option.getD_some]at u;cases I with
   |nal=>simp only[qw]at u;exact absurd u.symm z
   |_=>simp only[qw]at u;rw[u]
theorem jv {r j n:Nat}{p:Bool}{ks:List (Nat×Nat×Nat)}{ep:Nat}{u:Option (Nat×Nat×Nat)}{E:TypeId}{e:Ty}{xs:List e.den}:aH st (.al r j n)≠.nal p ks ep u E e xs:=by
 simp only[aH];cases FJ (st r).ver n with
 |false=>simp
 |true =>
  cases (st r).ls.getD j .dead <;> simp[qw]
theorem kX {a:Act}(h:ap P V W st a w){r j n:Nat}{p:Bool}{u:Option (Nat×Nat)}{E:TypeId}{e:Ty}{xs:List e.den}{v:Value}(I:aH st (.al r j n)=.own p u E e xs)
  (J:aM P V W st w [] (.al r j n) v):(W.cs r)[j]?=some v/\OwH w (gd V W p) u E e xs v (W.bs r j)/\(st r).ls[j]?=some (.own p u E e xs)/\(st r).ver=n:=by
 obtain⟨y,z⟩:=fH I (by simp);have H:=J.2 y;exact⟨H,h.leaf r j _ v z H,z,y⟩
theorem wS {ls:List Leaf}{j:Nat}(h:mb (ls.getD j .dead)=true):∃ l,ls[j]?=some l/\ao l:=by
 rw[F1]at h;cases r:ls[j]? with
 |none=>rw[r]at h;simp[mb]at h
 |some l =>
  rw[r]at h;refine⟨l,rfl,?_⟩;cases l <;> simp[mb]at h;trivial
theorem cN {ks:List (Nat×Nat×Nat)}{ep:Nat}(h:bu st ks ep=true):(st EPO).ver=ep/\(∀ k∈ks,(st k.1).ver=k.2.2)/\tB st ks:=by
 simp only[bu,FM,List.all_eq_true]at h;exact⟨FK h.1,λk r=>FK (h.2 k r).1,λk r=>wS (h.2 k r).2⟩
theorem qC {p:Bool}{ks:List (Nat×Nat×Nat)}{ep:Nat}{r:Option (Nat×Nat×Nat)}{E:TypeId}{e:Ty}{xs:List e.den}{v:Value}(u:bu st ks ep=true)
 (y:aM P V W st w [] (.nal p ks ep r E e xs) v):tC V W w p ks r E e xs v:=y.2.2 (cN u).1 (cN u).2.1 (cN u).2.2
def br (V:Env)(W:Wit)(p:Bool)(ks:List (Nat×Nat))(k:Nat):Prop:=gd V W p k\/∃ x∈ks,k∈W.bs x.1 x.2
theorem kq {E:TypeId}{e:Ty}{E':TypeId}{e':Ty}{xs:List e'.den}{r:List e.den}(h:mB E e E' e' xs=some r) :
  ∃ (y:E'=E) (u:e'=e),u ▸ xs=r:=by
 unfold mB at h
 grind
theorem vv {e e':Ty}{xs:List e'.den}{r:List e.den}(h:castSh e e' xs=some r):e'.sh=e.sh/\HEq xs r:=by
 unfold castSh at h
 grind
theorem Rd.castSh {G:Nat->Prop}{m m':Bool}{E E':TypeId}{e e':Ty}{xs:List e'.den}{H:List e.den}{cs:List Value}(h:castSh e e' xs=some H)(O:Rd w G (.list m E' e') xs cs):Rd w G (.list m' E e) H cs:=by
 obtain⟨I,J⟩:=vv h;have M:Rd w G (.list m E e) H cs:=by
  refine Rd.flags (a:=.list m E e') (x:=xs) (by simp only[Ty.sh,I]) J ?_;obtain⟨A,r,u,y,z⟩:=O;exact⟨A,r,u,y,z⟩
 obtain⟨A,r,u,y,z⟩:=M;exact⟨A,r,u,y,z⟩
theorem kY (st:St):∀ (r u:List Leaf),bE st (r++u)=bE st r++bE st u
 |[],_=>rfl
 |l::r,u=>by
  have:=kY st r u;cases l <;> simp[bE,this]
theorem tQ (st:St):∀ (r u:List Leaf),ck st (r++u)=ck st r++ck st u
 |[],_=>rfl
 |l::r,u=>by
  have:=tQ st r u;cases l <;> simp[ck,this]
theorem lr {a:Act}(h:ap P V W st a w){m:Bool}{E:TypeId}{e:Ty}{l:Leaf}{v:Value}{p:Bool}{xs:List e.den}
  (hl:aM P V W st w [] l v) (a1:¬ ao l) (u:dw e (aH st l)=some (p,xs)):Rd w (br V W p (bE st [l])) (.list m E e) xs [v]:=by
 have I:∀ (q:Leaf) (bs:List Nat) (S:Nat->Prop),aM P V W st w bs q v->dw e q=some (p,xs)->(∀ k,gd V W p k->S k)->(ao q->∀ k∈bs,S k) ->
   (∀ q' J ep z E' H X,q=.nal q' J ep z E' H X->bu st J ep=true/\∀ k∈J,∀ b∈W.bs k.1 k.2.1,S b)->Rd w S (.list m E e) xs [v]:=by
  intro q bs S O u hS hb hn;cases q with
  |ro q E' H Y =>
   simp only[dw,FX]at u;obtain⟨zs,Z,rfl,rfl⟩:=u;exact Rd.castSh Z (Rd.mono hS O)
  |nil =>
   obtain⟨rfl,rfl⟩:=u;rw[show v=_ from O];exact Rd.nil w _ m E e
  |own q hh E' H Y =>
   cases hh with
   |some _=>simp[dw]at u
   |none =>
    simp only[dw,FX]at u;obtain⟨zs,Z,rfl,rfl⟩:=u;refine Rd.castSh Z (Rd.mono (λk y=>?_) (OwH.rd (m:=false) (E':=E') O));exact y.elim (hS k) (hb trivial k)
  |nal q J ep z E' H Y =>
   simp only[dw,FX,Gh]at u;obtain⟨zs,Z,rfl,rfl⟩:=u;obtain⟨R,hn⟩:=hn _ _ _ _ _ _ _ rfl;have h1:tC V W w q J z E' H Y v:=O.2.2 (cN R).1 (cN R).2.1 (cN R).2.2;refine Rd.castSh Z (Rd.mono (λk y=>?_) h1.rd);rcases y with y|⟨x,hx,y⟩
   ·grind
   ·grind
  |_=>simp[dw]at u
 cases l with
 |al r j n =>
  by_cases hd:aH st (.al r j n)=.dead
  ·rw[hd]at u;simp[dw]at u
  ·obtain⟨h1,h2⟩:=fH rfl hd;have h3:=h.leaf r j _ v h2 (hl.2 h1);generalize O:aH st (.al r j n)=q at u h2 h3;refine I q (W.bs r j) _ h3 u (λk y=>.inl y) (λM k y=>.inr ⟨(r,j),?_,y⟩) ?_
   ·cases q <;> first|exact M.elim|simp[bE,O]
   ·rintro q' J ep z E' H X rfl;exact absurd O jv
 |own q hh E' H Y=>exact absurd trivial a1
 |nal q J ep z E' H Y =>
  simp only[aH]at u;cases R:bu st J ep with
  |false=>simp[R,dw]at u
  |true =>
   simp only[R]at u;refine I _ [] _ hl u (λk y=>.inl y) (λM=>M.elim) ?_;intro q' a6 a5 a2 a3 a4 X a0;cases a0;refine⟨R,λk y b hb=>.inr ⟨(k.1,k.2.1),?_,hb⟩⟩;simp only[bE,aH]
   grind
 |ro q E' H Y=>exact I _ [] _ hl u (λk y=>.inl y) (λM=>M.elim) (λ_ _ _ _ _ _ _ h=>by cases h)
 |nil=>exact I _ [] _ hl u (λk y=>.inl y) (λM=>M.elim) (λ_ _ _ _ _ _ _ h=>by cases h)
 |_=>simp[aH,dw]at u
theorem yf {a:Act}(h:ap P V W st a w){l:Leaf}{v:Value}{n:Nat}(X:aM P V W st w [] l v)(Y:¬ ao l)(u:gK (aH st l)=some n):Rd w (λ_=>False) .hdr n [v]:=by
 have H:∀ (q:Leaf) (bs:List Nat),aM P V W st w bs q v->gK q=some n->(∀ p M ep z E e O,q=.nal p M ep z E e O->bu st M ep=true)->Rd w (λ_=>False) .hdr n [v]:=by
  intro q bs J u hn;cases q with
  |ro p E e O =>
   simp only[gK,FQ]at u;subst u;obtain⟨A,y,I,_⟩:=J;exact⟨A,y,I⟩
  |own p hh E e O =>
   simp only[gK,FQ]at u;subst u;obtain⟨A,y,I,_⟩:=OwH.slice J;exact⟨A,y,by rw[I]⟩
  |nal p M ep z E e O =>
   simp only[gK,FQ]at u;subst u;have R:=hn _ _ _ _ _ _ _ rfl;obtain⟨A,y,I,_⟩:=(J.2.2 (cN R).1 (cN R).2.1 (cN R).2.2:tC V W w p M z E e O v).rd;exact⟨A,y,I⟩
  |nil =>
   simp only[gK,FQ]at u;subst u;exact⟨none,0,by rw[show v=_ from J]⟩
  |hdr m =>
   simp only[gK,FQ]at u;subst u;obtain⟨A,y,I⟩:=J;exact⟨A,y,by rw[I]⟩
  |_=>simp[gK]at u
 cases l with
 |al r j m =>
  by_cases hd:aH st (.al r j m)=.dead
  ·rw[hd]at u;simp[gK]at u
  ·obtain⟨h1,h2⟩:=fH rfl hd;have h3:=h.leaf r j _ v h2 (X.2 h1);refine H _ _ h3 u λp M ep z E e O J=>absurd J jv
 |own q hh Z e' ys=>exact absurd trivial Y
 |nal q M ep z Z e' ys =>
  simp only[aH]at u;cases R:bu st M ep with
  |false=>simp[R,gK]at u
  |true =>
   grind
 |ro q Z e' ys=>exact H _ [] X u (λ_ _ _ _ _ _ _ h=>by cases h)
 |nil=>exact H _ [] X u (λ_ _ _ _ _ _ _ h=>by cases h)
 |hdr m=>exact H _ [] X u (λ_ _ _ _ _ _ _ h=>by cases h)
 |_=>simp[aH,gK]at u
theorem lu {a:Act}(h:ap P V W st a w):∀ (b:Ty) (ls:List Leaf) (cs:List Value) (p:Bool) (x:b.den) (u:List Leaf),aG P V W st w ls cs ->
  be st b ls=some (p,x,u)->∃ M R O,cs=M++R/\ls=O++u/\aG P V W st w O M/\aG P V W st w u R/\Rd w (br V W p (bE st O)) b x M
 |.int k,ls,cs,p,x,u,H,r=>by
  simp only[be]at r;split at r
  ·rename_i k' n ls;split at r
   ·rename_i I;obtain⟨rfl,rfl,rfl⟩:=r;cases cs with
    |nil=>exact H.elim
    |cons v cs=>exact⟨[v],cs,[_],rfl,rfl,⟨H.1,trivial⟩,H.2,by rw[show v=_ from H.1.1,I];rfl⟩
   ·grind
  ·grind
 |.bool,ls,cs,p,x,u,H,r=>by
  simp only[be]at r;split at r
  ·simp at r;obtain⟨rfl,rfl,rfl⟩:=r;cases cs with
   |nil=>exact H.elim
   |cons v cs=>exact⟨[v],cs,[_],rfl,rfl,⟨H.1,trivial⟩,H.2,by rw[show v=_ from H.1.1];rfl⟩
  ·grind
 |.str,ls,cs,p,x,u,H,r=>by
  simp only[be]at r;split at r
  ·simp at r;obtain⟨rfl,rfl,rfl⟩:=r;cases cs with
   |nil=>exact H.elim
   |cons v cs=>exact⟨[v],cs,[_],rfl,rfl,⟨H.1,trivial⟩,H.2,by rw[show v=_ from H.1.1];rfl⟩
  ·grind
 |.unit,ls,cs,p,x,u,H,r=>by
  obtain⟨rfl,_,rfl⟩:=r;exact⟨[],cs,[],rfl,rfl,trivial,H,rfl⟩
 |.hdr,ls,cs,p,x,u,H,r=>by
  simp only[be]at r;split at r
  ·rename_i l J;split at r
   ·rename_i n hn;obtain⟨rfl,rfl,rfl⟩:=r;cases cs with
    |nil=>exact H.elim
    |cons v cs=>exact⟨[v],cs,[l],rfl,rfl,⟨H.1,trivial⟩,H.2,yf h H.1.1 H.1.2.1 hn⟩
   ·grind
  ·grind
 |.pair b c,ls,cs,p,x,u,H,r=>by
  simp only[be]at r;split at r
  ·rename_i q y J hb;split at r
   ·rename_i q' z Y hc;simp at r;obtain⟨rfl,rfl,rfl⟩:=r;obtain⟨M,R,O,e1,e2,h1,h2,h3⟩:=lu h b ls cs q y J H hb;obtain⟨Z,c4,l2,e3,e4,h4,h5,h6⟩:=lu h c J R q' z Y h2 hc;refine⟨M++Z,c4,O++l2,by rw[e1,e3,F8],by rw[e2,e4,F8],h1.append h4,h5,M,Z,rfl,?_,?_⟩
    ·refine Rd.mono (λk I=>?_) h3;rcases I with I|⟨y,X,I⟩
     ·exact .inl (b8 (by simp_all) (λ_ h=>h) k I)
     ·exact .inr ⟨y,by rw[kY];exact FP _ X,I⟩
    ·refine Rd.mono (λk I=>?_) h6;rcases I with I|⟨y,X,I⟩
     ·exact .inl (b8 (by simp_all) (λ_ h=>h) k I)
     ·exact .inr ⟨y,by rw[kY];exact FO _ X,I⟩
   ·grind
  ·grind
 |.list m E e,ls,cs,p,x,u,H,r=>by
  simp only[be]at r;split at r
  ·rename_i l J;split at r
   ·rename_i q ys ha;obtain⟨rfl,rfl,rfl⟩:=r;cases cs with
    |nil=>exact H.elim
    |cons v cs=>exact⟨[v],cs,[l],rfl,rfl,⟨H.1,trivial⟩,H.2,lr h H.1.1 H.1.2.1 ha⟩
   ·grind
  ·grind
theorem eX {a:Act}(h:ap P V W st a w){b:Ty}{ls:List Leaf}{cs:List Value}{p:Bool}{x:b.den}(H:aG P V W st w ls cs)
  (u:c8 st b ls=some (p,x)):Rd w (br V W p (bE st ls)) b x cs:=by
 unfold c8 at u;split at u
 ·rename_i q y I;obtain⟨J,r,Y,M,O,R,z,X⟩:=lu h b ls cs _ _ _ H I;have:r=[]:=by
   cases r with
   |nil=>rfl
   |cons=>exact z.elim
  simp_all
 ·grind
end
section
variable {P:Program} {V:Env} {W W':Wit} {st st':St} {w w':World} {a:Act}
theorem bH (A B:Upd)(st:St):ac (A++B) st=ac A (ac B st):=by
 funext q;induction A with
 |nil=>rfl
 |cons x A u=>obtain⟨r,c⟩:=x;simp only[Gd,ac,u]
theorem aR (r:Nat)(c:b7)(U:Upd)(st:St):ac ((r,c)::U) st=ac [(r,c)] (ac U st):=bH [(r,c)] U st
theorem bm (r:Nat)(c:b7)(st:St):ac [(r,c)] st r=c:=by simp[ac]
theorem aL {r q:Nat}(h:q≠r)(c:b7)(st:St):ac [(r,c)] st q=st q:=by
 have:FJ q r=false:=by
  cases u:FJ q r with
  |false=>rfl
  |true=>exact absurd (FK u) h
 simp[ac,this]
theorem an (r q:Nat)(c:b7)(st:St):(q=r/\ac [(r,c)] st q=c)\/(q≠r/\ac [(r,c)] st q=st q):=by
 by_cases h:q=r
 ·subst h;exact .inl ⟨rfl,bm q c st⟩
 ·exact .inr ⟨h,aL h c st⟩
def cq (V:Env)(W:Wit)(st:St)(k:Nat):Prop :=
 W.nw k\/V.prot k\/(∃ b,live st b/\W.β b=k)\/∃ r j l,(st r).ls[j]?=some l/\ao l/\k∈W.bs r j
theorem ap.own_lt (h:ap P V W st a w){r j:Nat}{l:Leaf}(u:(st r).ls[j]?=some l)(z:ao l):∀ k∈W.bs r j,k<w.heap.size:=by
 have y:j<(W.cs r).length:=by rw[<- h.len];exact (FL.1 u).1
 have:=h.leaf r j l _ u (FN y);cases l <;> simp only[ao]at z;exact OwH.lt this
theorem ap.box_lt (h:ap P V W st a w){b:Nat}(r:live st b):W.β b<w.heap.size:=by
 rcases h.boxes b r.1 with ⟨u,_⟩|⟨_,E,y⟩
 ·exact absurd (u.symm.trans r.2) (by simp)
 ·grind
theorem ap.used_lt (h:ap P V W st a w):∀ k,cq V W st k->k<w.heap.size:=by
 intro k u;rcases u with u|u|⟨b,I,rfl⟩|⟨r,j,l,y,z,H⟩
 ·exact (h.nwlt k u).1
 ·exact F5 u.1 h.size
 ·exact h.box_lt I
 ·exact h.own_lt y z k H
theorem ap.world (Y:aA V)(h:ap P V W st a w)(X:w.heap.size<=w'.heap.size)(O:w'.os=w.os)(Z:w'.tape=w.tape)(M:w'.output=w.output)
  (y:∀ k,cq V W st k->w'.heap[k]?=w.heap[k]?):ap P V W st a w':=by
 have H:cP V W W st st w w':=⟨λr=>⟨FR _,λ_=>rfl⟩,λb J=>⟨J,rfl⟩,λ_ h=>h,λk h=>y k (h.elim .inl (λh=>.inr (.inl h))),
  λ_ r j l u I _=>⟨⟨l,u,I⟩,rfl,λk z=>y k (.inr (.inr (.inr ⟨r,j,l,u,I,z⟩)))⟩⟩
 exact {
  nt:=h.nt,df:=h.df,slots:=h.slots,
  boxes:=λb J=>(h.boxes b J).imp id λ⟨u,E,I⟩=>⟨u,E,by rw[y _ (.inr (.inr (.inl ⟨b,⟨J,u⟩,rfl⟩)))];exact I⟩
  len:=h.len,one:=h.one,
  leaf:=λr j l v u I=>(h.leaf r j l v u I).carry Y.ro H (λM=>⟨rfl,λk z=>y k (.inr (.inr (.inr ⟨r,j,l,u,M,z⟩)))⟩)
  ownb:=h.ownb,sep:=h.sep,box:=h.box,inj:=h.inj,
  nwlt:=λk y=>⟨F5 (h.nwlt k y).1 X,(h.nwlt k y).2⟩
  os:=O.trans h.os,tape:=Z.trans h.tape,output:=M.trans h.output,size:=FU h.size X,
  keep:=λk R=>(y k (.inr (.inl R))).trans (h.keep k R)
  fixb:=h.fixb,fixt:=h.fixt }
theorem ap.below (u:aA V)(h:ap P V W st a w)(r:Below w.heap.size w w'):ap P V W st a w' :=
 h.world u r.size r.os r.tape r.output λk y=>r.block k (h.used_lt k y)
theorem ap.relabel (hV:aA V)(h:ap P V W st a w)(r:Nat)(c:b7)(nw':Nat->Prop)(a3:(st r).ver<=c.ver)(R:c.sh=(st r).sh)
    (Y:c.ls.length=(st r).ls.length) (a1:∀ k,W.nw k->nw' k) (O:∀ k,nw' k->k<w.heap.size/\¬ V.prot k)
    (a0:∀ (j:Nat) (l:Leaf) (v:Value),c.ls[j]?=some l->(W.cs r)[j]?=some v->aM P V { W with nw:=nw' } (ac [(r,c)] st) w (W.bs r j) l v)
    (a2:∀ (j:Nat) (l:Leaf),c.ls[j]?=some l->ao l->(st r).ls[j]?=some l)
    (J:∀ (q j:Nat) (l:Leaf),(ac [(r,c)] st q).ls[j]?=some l->ao l->∀ k∈W.bs q j,¬ nw' k)
    (I:∀ b,live st b->¬ nw' (W.β b)):ap P V { W with nw:=nw' } (ac [(r,c)] st) a w:=by
  have M:∀ b,live (ac [(r,c)] st) b<->live st b:=by
    intro b;rcases an r b c st with ⟨rfl,e⟩|⟨_,e⟩
    · simp[live,e,R]
    · simp[live,e]
  have u:∀ (q j:Nat) (l:Leaf),(ac [(r,c)] st q).ls[j]?=some l->ao l->(st q).ls[j]?=some l:=by
    intro q j l z y;rcases an r q c st with ⟨rfl,e⟩|⟨_,e⟩
    · grind
    · grind
  have X:cP V W { W with nw:=nw' } st (ac [(r,c)] st) w w :=
    ⟨λq=>by
      rcases an r q c st with ⟨rfl,e⟩|⟨_,e⟩
      · grind
      · rw[e];exact⟨FR _,λ_=>rfl⟩,
     λb H=>⟨(M b).2 H,rfl⟩,a1,λ_ _=>rfl,λ_ q j l z y h3=>⟨⟨l,u q j l z y,y⟩,rfl,λ_ _=>rfl⟩⟩
  exact {
    nt:=h.nt,df:=h.df,
    slots:=λt ht=>by
      rcases an r t c st with ⟨rfl,e⟩|⟨_,e⟩
      · rw[e,R];exact h.slots t ht
      · rw[e];exact h.slots t ht
    boxes:=λb H=>by
      rcases an r b c st with ⟨rfl,e⟩|⟨_,e⟩
      · rw[e,R]
        rcases h.boxes b H with ⟨z,y⟩|z
        · grind
        · grind
      · rw[e];exact h.boxes b H
    len:=λq=>by
      rcases an r q c st with ⟨rfl,e⟩|⟨_,e⟩
      · rw[e,Y];exact h.len q
      · rw[e];exact h.len q
    one:=h.one
    leaf:=λq j l v z y=>by
      rcases an r q c st with ⟨rfl,e⟩|⟨_,e⟩
      · grind
      · rw[e]at z
        exact (h.leaf q j l v z y).carry hV.ro X (λ_=>⟨rfl,λ_ _=>rfl⟩)
    ownb:=λq j l z y k hk=>⟨J q j l z y k hk,(h.ownb q j l (u q j l z y) y k hk).2.1,λb H=>(h.ownb q j l (u q j l z y) y k hk).2.2 b ((M b).1 H)⟩
    sep:=λq j l q' j' l' z y h3 h4=>h.sep q j l q' j' l' (u q j l z y) y (u q' j' l' h3 h4) h4
    box:=λb H=>⟨I b ((M b).1 H),(h.box b ((M b).1 H)).2⟩
    inj:=λb b' H Z=>h.inj b b' ((M b).1 H) ((M b').1 Z)
    nwlt:=O
    os:=h.os,tape:=h.tape,output:=h.output,size:=h.size,keep:=h.keep,
    fixb:=λx hx=>⟨(M _).2 (h.fixb x hx).1,(h.fixb x hx).2⟩,fixt:=h.fixt }
theorem aU {α:Type}(ls:List α)(j i:Nat)(x y:α)(h:(ls.set j x)[i]?=some y):(i=j/\y=x/\j<ls.length)\/(i≠j/\ls[i]?=some y):=by
 grind
theorem ap.kill1 (J:aA V)(h:ap P V W st a w)(r j:Nat):ap P V W (ac [(r,gL (st r) j)] st) a w:=by
 refine h.relabel J r _ W.nw (FR _) rfl (by simp[gL,aV]) (λ_ h=>h) h.nwlt ?_ ?_ ?_ λb z=>(h.box b z).1
 ·intro i l v u y;rcases aU _ _ _ _ _ u with ⟨_,rfl,_⟩|⟨H,u⟩
  ·trivial
  ·refine (h.leaf r i l v u y).carry J.ro ⟨λq=>?_,λb z=>?_,λ_ h=>h,λ_ _=>rfl,λ_ q X Y I M R=>?_⟩ (λ_=>⟨rfl,λ_ _=>rfl⟩)
   ·rcases an r q (gL (st r) j) st with ⟨rfl,e⟩|⟨_,e⟩
    ·rw[e];exact⟨FR _,λ_=>rfl⟩
    ·grind
   ·refine⟨⟨z.1,?_⟩,rfl⟩;rcases an r b (gL (st r) j) st with ⟨rfl,e⟩|⟨_,e⟩
    ·rw[e];exact z.2
    ·rw[e];exact z.2
   ·rcases an r q (gL (st r) j) st with ⟨rfl,e⟩|⟨_,e⟩
    ·rw[e]at I;rcases aU _ _ _ _ _ I with ⟨_,rfl,_⟩|⟨_,I⟩
     ·exact M.elim
     ·grind
    ·grind
 ·intro i l u y;rcases aU _ _ _ _ _ u with ⟨_,rfl,_⟩|⟨H,u⟩
  ·exact y.elim
  ·omega
 ·intro q i l u y;have:(st q).ls[i]?=some l:=by
   rcases an r q (gL (st r) j) st with ⟨rfl,e⟩|⟨_,e⟩
   ·rw[e]at u;rcases aU _ _ _ _ _ u with ⟨_,rfl,_⟩|⟨H,u⟩
    ·exact y.elim
    ·omega
   ·grind
  exact λk O=>(h.ownb q i l this y k O).1
theorem ap.frz1 (hV:aA V)(h:ap P V W st a w)(r j:Nat) :
  ap P V { W with nw:=λk=>W.nw k\/((∃ l,(st r).ls[j]?=some l/\ao l)/\k∈W.bs r j) } (ac [(r,gF (st r) j)] st) a w:=by
 have O:∀ l,(st r).ls[j]?=some l->(st r).ls.getD j .dead=l:=λl hl=>by rw[F1,hl];rfl
 have u:∀ (i:Nat) (l:Leaf),(aV (st r).ls j (vZ ((st r).ls.getD j .dead)))[i]?=some l->ao l->(st r).ls[i]?=some l/\i≠j:=by
  intro i l z y;rcases aU _ _ _ _ _ z with ⟨rfl,rfl,hj⟩|⟨Z,z⟩
  ·rw[O _ (FN hj)]at y;generalize (st r).ls[i]=l at y;cases l with
   |own p hh E e xs=>cases hh <;> exact y.elim
   |_=>exact y.elim
  ·grind
 have I:cP V W { W with nw:=λk=>W.nw k\/((∃ l,(st r).ls[j]?=some l/\ao l)/\k∈W.bs r j) } st (ac [(r,gF (st r) j)] st) w w:=by
  refine⟨λq=>?_,λb X=>?_,λ_ h=>.inl h,λ_ _=>rfl,λ_ q j' Y J M h5=>?_⟩
  ·rcases an r q (gF (st r) j) st with ⟨rfl,e⟩|⟨_,e⟩
   ·rw[e];exact⟨FR _,λ_=>rfl⟩
   ·grind
  ·refine⟨⟨X.1,?_⟩,rfl⟩;rcases an r b (gF (st r) j) st with ⟨rfl,e⟩|⟨_,e⟩
   ·rw[e];exact X.2
   ·rw[e];exact X.2
  ·rcases an r q (gF (st r) j) st with ⟨rfl,e⟩|⟨_,e⟩
   ·rw[e]at J;exact⟨⟨Y,(u j' Y J M).1,M⟩,rfl,λ_ _=>rfl⟩
   ·grind
 refine h.relabel hV r _ _ (FR _) rfl (by simp[gF,aV]) (λ_ h=>.inl h) ?_ ?_ (λi l z y=>(u i l z y).1) ?_ ?_
 ·rintro k (H|⟨⟨l,z,y⟩,H⟩)
  ·exact h.nwlt k H
  ·exact⟨h.own_lt z y k H,(h.ownb r j l z y k H).2.1⟩
 ·intro i l v z y;rcases aU _ _ _ _ _ z with ⟨rfl,rfl,hj⟩|⟨Z,z⟩
  ·have J:(st r).ls[i]?=some (st r).ls[i]:=FN hj;have M:=h.leaf r i _ v J y;rw[O _ J];generalize hq:(st r).ls[i]=q at J M;cases q with
   |own p hh E e xs =>
    cases hh with
    |some _=>trivial
    |none =>
     refine Rd.mono (λk H=>?_) (OwH.rd (m:=false) (E':=E) M);rcases H with H|H
     ·exact b8 (W':={ W with nw:=_ }) (λh=>h) (λ_ h=>.inl h) k H
     ·exact .inl (.inr ⟨⟨_,J,trivial⟩,H⟩)
   |_=>exact M.carry hV.ro I (λho=>ho.elim)
  ·exact (h.leaf r i l v z y).carry hV.ro I (λ_=>⟨rfl,λ_ _=>rfl⟩)
 ·intro q i l z y k H;have J:(st q).ls[i]?=some l/\(q,i)≠(r,j):=by
   rcases an r q (gF (st r) j) st with ⟨rfl,e⟩|⟨Z,e⟩
   ·rw[e]at z;have:=u i l z y
    simp_all
   ·grind
  rintro (R|⟨⟨Y,M,h5⟩,R⟩)
  ·exact (h.ownb q i l J.1 y k H).1 R
  ·obtain⟨rfl,rfl⟩:=h.sep q i l r j Y J.1 y M h5 k H R
   simp_all
 ·rintro b X (R|⟨⟨Y,M,h5⟩,R⟩)
  ·exact (h.box b X).1 R
  ·exact (h.ownb r j Y M h5 _ R).2.2 b X rfl
theorem mL (I:aA V):∀ (ks:List (Nat×Nat)),ap P V W st a w->ap P V W (ac (aP st ks) st) a w /\
  (∀ (q i:Nat) (l:Leaf),(ac (aP st ks) st q).ls[i]?=some l->ao l->(st q).ls[i]?=some l/\(q,i)∉ks) /\
  (∀ q,(ac (aP st ks) st q).sh=(st q).sh/\(st q).ver<=(ac (aP st ks) st q).ver)
 |[],h=>⟨h,λ_ _ _ y _=>⟨y,by simp⟩,λ_=>⟨rfl,FR _⟩⟩
 |(r,j)::ks,h=>by
  obtain⟨y,M,H⟩:=mL I ks h;have e:ac (aP st ((r,j)::ks)) st=ac [(r,gL (ac (aP st ks) st r) j)] (ac (aP st ks) st):=aR _ _ _ _;rw[e];refine⟨y.kill1 I r j,λq i l z J=>?_,λq=>?_⟩
  ·have O:(ac (aP st ks) st q).ls[i]?=some l/\(q,i)≠(r,j):=by
    rcases an r q (gL (ac (aP st ks) st r) j) (ac (aP st ks) st) with ⟨rfl,e⟩|⟨u,e⟩
    ·rw[e]at z;rcases aU _ _ _ _ _ z with ⟨_,rfl,_⟩|⟨u,z⟩
     ·exact J.elim
     ·grind
    ·grind
   simp_all
  ·rcases an r q (gL (ac (aP st ks) st r) j) (ac (aP st ks) st) with ⟨rfl,e⟩|⟨u,e⟩
   ·rw[e];exact⟨(H q).1,(H q).2⟩
   ·grind
def Wit.frz (W:Wit)(st:St)(ks:List (Nat×Nat)):Wit :=
 { W with nw:=λk=>W.nw k\/∃ x∈ks,(∃ l,(st x.1).ls[x.2]?=some l/\ao l)/\k∈W.bs x.1 x.2 }
theorem ap.nw_congr (h:ap P V W st a w){nw':Nat->Prop}(e:∀ k,W.nw k<->nw' k):ap P V { W with nw:=nw' } st a w:=by
 have:nw'=W.nw:=funext λk=>propext (e k).symm
 subst this;exact h
theorem mg (Y:aA V):∀ (ks:List (Nat×Nat)),ap P V W st a w->ap P V (W.frz st ks) (ac (aI st ks) st) a w /\
  (∀ (q i:Nat) (l:Leaf),(ac (aI st ks) st q).ls[i]?=some l->ao l->(st q).ls[i]?=some l/\(q,i)∉ks) /\
  (∀ q,(ac (aI st ks) st q).sh=(st q).sh/\(st q).ver<=(ac (aI st ks) st q).ver)
 |[],h=>⟨h.nw_congr (λk=>by simp),λ_ _ _ I _=>⟨I,by simp⟩,λ_=>⟨rfl,FR _⟩⟩
 |(r,j)::ks,h=>by
  obtain⟨I,Z,X⟩:=mg Y ks h;have e:ac (aI st ((r,j)::ks)) st=ac [(r,gF (ac (aI st ks) st r) j)] (ac (aI st ks) st):=aR _ _ _ _;rw[e];refine⟨?_,λq i l M O=>?_,λq=>?_⟩
  ·have h7:=I.frz1 Y r j;have h8:=h7.nw_congr (nw':=(W.frz st ((r,j)::ks)).nw) (λk=>?_)
   ·exact h8
   ·simp only[Wit.frz];constructor
    ·rintro ((y|⟨x,R,y⟩)|⟨⟨l,u,H⟩,y⟩)
     ·grind
     ·grind
     ·exact .inr ⟨(r,j),GV ..,⟨l,(Z r j l u H).1,H⟩,y⟩
    ·rintro (y|⟨x,R,⟨l,u,H⟩,y⟩)
     ·grind
     ·rcases GT.1 R with rfl|R
      ·by_cases J:(r,j)∈ks
       ·exact .inl (.inr ⟨(r,j),J,⟨l,u,H⟩,y⟩)
       ·refine .inr ⟨⟨l,?_,H⟩,y⟩;exact jq ks J u
      ·grind
  ·have h6:(ac (aI st ks) st q).ls[i]?=some l/\(q,i)≠(r,j):=by
    rcases an r q (gF (ac (aI st ks) st r) j) (ac (aI st ks) st) with ⟨rfl,e⟩|⟨z,e⟩
    ·rw[e]at M;rcases aU _ _ _ _ _ M with ⟨rfl,rfl,hj⟩|⟨z,M⟩
     ·exfalso;generalize (ac (aI st ks) st q).ls.getD i .dead=l' at O;cases l' with
      |own p hh E e xs=>cases hh <;> exact O.elim
      |_=>exact O.elim
     ·grind
    ·grind
   simp_all
  ·rcases an r q (gF (ac (aI st ks) st r) j) (ac (aI st ks) st) with ⟨rfl,e⟩|⟨z,e⟩
   ·rw[e];exact⟨(X q).1,(X q).2⟩
   ·grind
where
 jq:∀ (ks:List (Nat×Nat)) {r j:Nat} {l:Leaf},(r,j)∉ks->(st r).ls[j]?=some l->(ac (aI st ks) st r).ls[j]?=some l
  |[],_,_,_,_,u=>u
  |(q,i)::ks,r,j,l,hn,u=>by
   have I:=jq ks (λJ=>hn (GN _ J)) u;have e:ac (aI st ((q,i)::ks)) st=ac [(q,gF (ac (aI st ks) st q) i)] (ac (aI st ks) st):=aR _ _ _ _;rw[e];rcases an q r (gF (ac (aI st ks) st q) i) (ac (aI st ks) st) with ⟨rfl,e⟩|⟨z,e⟩
   ·rw[e];simp only[gF,aV]
    grind
   ·grind
theorem ap.put (hV:aA V)(h:ap P V W st a w)(d:Nat)(hd:d<V.nt)(a3:∀ x∈V.fixt,x.1≠d)(n:Nat)(sh:aK)(ls:List Leaf)(v:Value)
  (J:List Value) (I:Nat->List Nat) (hn:(st d).ver<n) (hs:eK sh v J) (hl:ls.length=J.length) (h1:∀ u∈J,u.oneCell'=true)
  (a2:∀ (j:Nat) (l:Leaf) (u:Value),ls[j]?=some l->J[j]?=some u->aM P V W st w (I j) l u)
  (a0:∀ (j:Nat) (l:Leaf),ls[j]?=some l->ao l->∀ k∈I j,¬ W.nw k/\¬ V.prot k/\(∀ b,live st b->W.β b≠k) /\
   ∀ (r1 j1:Nat) (l1:Leaf),r1≠d->(st r1).ls[j1]?=some l1->ao l1->k∉W.bs r1 j1)
  (a4:∀ (j j':Nat) (l l':Leaf),ls[j]?=some l->ao l->ls[j']?=some l'->ao l'->∀ k,k∈I j->k∈I j'->j=j') :
  ap P V { W with cs:=λr=>if r=d then J else W.cs r,bs:=λr j=>if r=d then I j else W.bs r j } (ac [(d,⟨n,sh,ls⟩)] st) (a.put (some d) v) w:=by
 have a6:d<B0:=F5 hd hV.ntB;have R:∀ b,live (ac [(d,⟨n,sh,ls⟩)] st) b<->live st b:=by
  intro b;by_cases hb:B0<=b
  ·rw[live,live,aL (by omega)]
  ·simp[live,hb]
 have Y:cP V W { W with cs:=λr=>if r=d then J else W.cs r,bs:=λr j=>if r=d then I j else W.bs r j } st (ac [(d,⟨n,sh,ls⟩)] st) w w:=by
  refine⟨λq=>?_,λb hb=>⟨(R b).2 hb,rfl⟩,λ_ h=>h,λ_ _=>rfl,λ_ q j' l' M Z h5=>?_⟩;rcases an d q ⟨n,sh,ls⟩ st with ⟨rfl,e⟩|⟨y,e⟩
  ·grind
  ·grind
  rcases an d q ⟨n,sh,ls⟩ st with ⟨rfl,e⟩|⟨y,e⟩
  ·grind
  ·grind
 have a1:∀ t,(a.put (some d) v).tmps.getD t undef=if t=d then v else a.tmps.getD t undef:=by
  intro t;by_cases ht:t=d
  ·subst ht;have:t<a.tmps.size:=by rw[h.nt];exact hd
   simp[Gl,this]
  ·simp only[Gl,if_neg ht];rw[GB,GB,Array.getElem?_setIfInBounds_ne (λe=>ht e.symm)]
 exact {
  nt:=by simp[Gl,h.nt],df:=by simp[Gl,h.df]
  slots:=λt ht=>by
   rw[a1];rcases an d t ⟨n,sh,ls⟩ st with ⟨rfl,e⟩|⟨y,e⟩
   ·grind
   ·rw[e];simpa[y]using h.slots t ht
  boxes:=λb hb=>by
   have:b≠d:=by omega
   rw[aL this];simpa[this]using h.boxes b hb
  len:=λq=>by
   rcases an d q ⟨n,sh,ls⟩ st with ⟨rfl,e⟩|⟨y,e⟩
   ·grind
   ·rw[e];simpa[y]using h.len q
  one:=λq u hu=>by
   by_cases hq:q=d
   ·grind
   ·simp only[hq]at hu;exact h.one q u hu
  leaf:=λq j l u H M=>by
   rcases an d q ⟨n,sh,ls⟩ st with ⟨rfl,e⟩|⟨y,e⟩
   ·rw[e]at H;simp at M;exact (a2 j l u H M).carry hV.ro Y (λ_=>⟨by simp,λ_ _=>rfl⟩)
   ·rw[e]at H;simp only[y]at M;exact (h.leaf q j l u H M).carry hV.ro Y (λ_=>⟨by simp[y],λ_ _=>rfl⟩)
  ownb:=λq j l H M k O=>by
   rcases an d q ⟨n,sh,ls⟩ st with ⟨rfl,e⟩|⟨y,e⟩
   ·grind
   ·rw[e]at H;simp only[y]at O;have:=h.ownb q j l H M k O
    grind
  sep:=λq j l q' j' l' H M Z h5 k O z=>by
   rcases an d q ⟨n,sh,ls⟩ st with ⟨e0,e⟩|⟨y,e⟩ <;> rcases an d q' ⟨n,sh,ls⟩ st with ⟨e1,e'⟩|⟨X,e'⟩
   ·rw[e]at H;rw[e']at Z;simp only[e0]at O;simp only[e1]at z;exact⟨e0.trans e1.symm,a4 j j' l l' H M Z h5 k O z⟩
   ·rw[e]at H;rw[e']at Z;simp only[e0]at O;simp only[X]at z;exact absurd z ((a0 j l H M k O).2.2.2 q' j' l' X Z h5)
   ·rw[e]at H;rw[e']at Z;simp only[y]at O;simp only[e1]at z;exact absurd O ((a0 j' l' Z h5 k z).2.2.2 q j l y H M)
   ·rw[e]at H;rw[e']at Z;simp only[y]at O;simp only[X]at z;exact h.sep q j l q' j' l' H M Z h5 k O z
  box:=λb hb=>h.box b ((R b).1 hb)
  inj:=λb b' hb a5=>h.inj b b' ((R b).1 hb) ((R b').1 a5)
  nwlt:=h.nwlt
  os:=h.os,tape:=h.tape,output:=h.output,size:=h.size,keep:=h.keep
  fixb:=λx hx=>⟨(R _).2 (h.fixb x hx).1,(h.fixb x hx).2⟩
  fixt:=λx hx=>by rw[a1,if_neg (a3 x hx)];exact h.fixt x hx }
theorem ap.putLs (M:aA V)(h:ap P V W st a w)(d:Nat)(O:d<V.nt)(y:∀ x∈V.fixt,x.1≠d)(n:Nat)(sh:aK)(ls:List Leaf)(v:Value)
  (r:List Value) (R:(st d).ver<n) (X:eK sh v r) (H:aG P V W st w ls r) :
  Rel P V (ac [(d,⟨n,sh,ls⟩)] st) (a.put (some d) v) w :=
 ⟨_,h.put M d O y n sh ls v r (λ_=>[]) R X H.length H.one' (λj l u I J=>(H.at_ j l u I J).1) (λ_ _ _ _ k z=>by simp at z)
  (λ_ _ _ _ _ _ _ _ k z=>by simp at z)⟩
end
def zeroCells:Ty->List Value
 |.int k=>[.int k 0]
 |.bool=>[.bool false]
 |.str=>[.string F4]
 |.unit=>[]
 |.pair a b=>zeroCells a++zeroCells b
 |.hdr=>[.slice none 0 0]
 |.list _ _ _=>[.slice none 0 0]
def bW (P:Program)(t:TypeId)(n:Nat):Prop:=(P.info? t).map (·.size)=some n
def ez (P:Program)(t:TypeId)(z:Value):Prop:=(P.info? t).map (·.zero)=some (some z)
def EqAt (P:Program)(t:TypeId)(a:Ty):Prop:=a.flat=true->∀ (w:World) (G:Nat->Prop) (x y:a.den) (r u:List Value),Rd w G a x r->Rd w G a y u ->
 (Op.equal t (.agg r.toArray) (.agg u.toArray)).run P w=.ok (a.eqv x y) w
def pR (P:Program)(t:TypeId):TI->Prop
 |.int k=>P.underlying t=some (.int k)/\bW P t 1/\ez P t (.int k 0)
 |.bool=>P.underlying t=some .bool/\bW P t 1/\ez P t (.bool false)
 |.str=>P.underlying t=some .string/\bW P t 1/\ez P t (.string F4)
 |.slice E e r=>P.underlying t=some (.slice E)/\bW P t 1/\ez P t (.slice none 0 0)/\0<e.cells/\(0<r/\(e=.int .u8->P.underlying E=some (.int .u8))) /\
  ∃ i z,P.info? E=some i/\i.size=e.cells/\i.bytes=r/\i.zero=some z/\z.cells.toList=zeroCells e
 |.struct a u=>(∃ H,P.underlying t=some (.struct H)/\H.toList.mapM (λf=>(P.info? f.type).map λi=>(f.offset,i.size))=some (u.map λx=>(x.1,x.2.1)) /\
  ∀ (i off n:Nat) (agg:Bool),u[i]?=some (off,n,agg)->(agg=false->n=1)/\∃ f:Field,H[i]?=some f/\f.offset=off/\0<n/\off+n<=a.cells/\bW P f.type n /\
   (P.underlying f.type).map (λd=>match d with|.struct _|.array _ _=>true|_=>false)=some agg) /\
  bW P t a.cells/\ez P t (.agg (zeroCells a).toArray)/\EqAt P t a/\P.eqGuardType P.depth t=false
 |.arr e n=>(∃ E,P.underlying t=some (.array n E)/\bW P E e.cells/\(P.underlying E).map (λd=>match d with|.struct _|.array _ _=>true|_=>false)=some e.isAgg)/\0<e.cells /\
  bW P t (n*e.cells)/\ez P t (.agg ((F0 n (zeroCells e)).flatten).toArray)
 |.ptr=>(∃ e,P.underlying t=some (.pointer e))/\bW P t 1/\ez P t (.pointer none)
 |.fn=>(∃ x y z,P.underlying t=some (.func x y z))/\bW P t 1/\ez P t .nilFunc
 |.none=>True
def TOk (P:Program)(T:TypeId->TI):Prop:=∀ t,pR P t (T t)
theorem tR {P:Program}:∀ {l:List (TypeId×TI)},(∀ x∈l,pR P x.1 x.2)->TOk P (gJ l)
 |[],_,_=>trivial
 |(t,i)::l,h,u=>by
  simp only[gJ];cases y:FJ t u with
  |false=>exact tR (λx r=>h x (GN _ r)) u
  |true =>
   simp_all
section
variable {P:Program} {V:Env} {W:Wit} {st:St} {w:World} {a:Act} {o:Oper}
def nK (P:Program)(V:Env)(o:Oper)(st:St)(U:Upd)(a:Act)(w:World):Prop :=
 ∀ (next:Act->World->Prop) (Q:Exit->Act->World->Prop),(∀ r u,Rel P V (ac U st) r u->next r u)->o.wp P a w next Q
theorem ek {v:Value}{w':World}{next:Act->World->Prop}{Q:Exit->Act->World->Prop}(h:(execOp a.eval o).run P w=.ok (.value v) w')(r:next (a.put o.dst v) w'):o.wp P a w next Q:=by
 unfold Oper.wp;rw[h];exact r
theorem qD {w':World}{next:Act->World->Prop}{Q:Exit->Act->World->Prop}(h:(execOp a.eval o).run P w=.ok .skip w')(r:next (a.put o.dst undef) w'):o.wp P a w next Q:=by
 unfold Oper.wp;rw[h];exact r
def bU (V:Env)(o:Oper):Prop:=∀ d,o.dst=some d->d<V.nt/\∀ x∈V.fixt,x.1≠d
theorem el (z:aA V)(h:ap P V W st a w){d:Nat}(y:o.dst=some d)(r:bU V o){v:Value}{sh:aK}{ls:List Leaf}{cs:List Value}
  (u:(execOp a.eval o).run P w=.ok (.value v) w) (J:eK sh v cs) (H:aG P V W st w ls cs):nK P V o st (cB st [] d sh ls) a w:=by
 intro next Q I;refine ek u ?_;rw[y];exact I _ _ (h.putLs z d (r d y).1 (r d y).2 _ sh ls v cs (GK _) J H)
theorem aQ (H:aA V)(h:ap P V W st a w){d:Nat}(I:o.dst=some d)(y:bU V o){v:Value}{l:Leaf}
  (r:(execOp a.eval o).run P w=.ok (.value v) w) (J:aM P V W st w [] l v) (u:¬ ao l) (z:v.oneCell'=true):nK P V o st (cB st [] d .one [l]) a w :=
 el H h I y r (cs:=[v]) rfl ⟨⟨J,u,z⟩,trivial⟩
theorem kQ {agg:Bool}{v:Value}{cs:List Value}(h:dr agg v cs):eK (bk agg) v cs:=by
 cases agg <;> exact h
theorem bK (h:ap P V W st a w){x:Operand}{k:IntKind}{n:Int}(r:one st x=.int k n):a.eval x=.int k n:=by
 have:=(bA h x (by rw[r];simp)).1;rw[r]at this;exact this
theorem iR (h:ap P V W st a w){x:Operand}{b:Bool}(r:one st x=.bool b):a.eval x=.bool b:=by
 have:=(bA h x (by rw[r];simp)).1;rw[r]at this;exact this
theorem jg (h:ap P V W st a w){x:Operand}{b:ByteArray}(r:one st x=.str b):a.eval x=.string b:=by
 have:=(bA h x (by rw[r];simp)).1;rw[r]at this;exact this
theorem wT (op:BinOp)(k:IntKind)(t t':TypeId)(x y:Operand)(m n:Int)(l:Leaf)(r:tJ op k m n=some l)(z:a.eval x=.int k m)(H:a.eval y=.int k n)(u:o.op=.binOp op t x y t') :
  ∃ v,(execOp a.eval o).run P w=.ok (.value v) w/\aM P V W st w [] l v/\¬ ao l/\v.oneCell'=true:=by
 cases op <;> simp only[tJ,FQ,reduceCtorEq]at r <;> subst r <;>
  exact⟨_,by simp[execOp,u,z,H,eqGuard,Go.binOp,Op.intArith,Op.intCmp],rfl,id,rfl⟩
theorem Db (I:aA V)(h:ap P V W st a w)(ks:List (Nat×Nat)):cP V W W st (ac (aP st ks) st) w w:=by
 obtain⟨_,z,r⟩:=mL I ks h;exact⟨λq=>⟨(r q).2,λ_=>rfl⟩,λb y=>⟨⟨y.1,by rw[(r b).1];exact y.2⟩,rfl⟩,λ_ h=>h,λ_ _=>rfl,λ_ q j l H u _=>⟨⟨l,(z q j l H u).1,u⟩,rfl,λ_ _=>rfl⟩⟩
theorem step_frz (I:aA V)(h:ap P V W st a w)(ks:List (Nat×Nat)):cP V W (W.frz st ks) st (ac (aI st ks) st) w w:=by
 obtain⟨_,z,r⟩:=mg I ks h;exact⟨λq=>⟨(r q).2,λ_=>rfl⟩,λb y=>⟨⟨y.1,by rw[(r b).1];exact y.2⟩,rfl⟩,λ_ h=>.inl h,λ_ _=>rfl,λ_ q j l H u _=>⟨⟨l,(z q j l H u).1,u⟩,rfl,λ_ _=>rfl⟩⟩
def dE (W:Wit)(ls:List Leaf)(j:Nat):List Nat :=
 match ls[j]? with
 |some (.al r i _)=>W.bs r i
 |_=>[]
theorem yg:∀ {ls:List Leaf} {j r i n:Nat},ls[j]?=some (.al r i n)->ao (aH st (.al r i n))->(r,i)∈bE st ls
 |l::ls,0,r,i,n,h,u=>by
  simp at h;subst h;generalize y:aH st (.al r i n)=q at u;cases q <;> first|exact u.elim|simp[bE,y]
 |l::ls,j+1,r,i,n,h,u=>by
  have:=yg (ls:=ls) (by simpa using h) u;cases l <;> simp[bE,this]
theorem nL:∀ {ls:List Leaf} {j r i n:Nat},ls[j]?=some (.al r i n)->ao (aH st (.al r i n))->(r,i)∈ck st ls
 |l::ls,0,r,i,n,h,u=>by
  simp at h;subst h;generalize y:aH st (.al r i n)=q at u;cases q <;> first|exact u.elim|simp[ck,y]
 |l::ls,j+1,r,i,n,h,u=>by
  have:=nL (ls:=ls) (by simpa using h) u;cases l <;> simp[ck,this]
theorem ph:∀ {ls:List Leaf} {j y r i n I:Nat},bc (ck st ls)=true->ls[j]?=some (.al r i n)->ao (aH st (.al r i n)) ->
    ls[y]?=some (.al r i I)->ao (aH st (.al r i I))->j=y
  |l::ls,j,y,r,i,n,I,u,M,O,R,X=>by
    have a0:∀ (m:Nat) (k:Nat),l=.al r i m->ao (aH st (.al r i m))->(∃ z,ls[k]?=some (.al r i z)/\ao (aH st (.al r i z)))->False:=by
      rintro m k rfl J ⟨z,Y,Z⟩;have h7:=nL Y Z;have h8:ck st (.al r i m::ls)=(r,i)::ck st ls:=by
        generalize hq:aH st (.al r i m)=q at J;cases q <;> first|exact J.elim|simp[ck,hq]
      rw[h8]at u;simp only[bc,FM,GF]at u;have:=u.1;rw[GG]at this;have:=this _ h7;simp at this
    have H:bc (ck st ls)=true:=by
      cases l <;> first
        |exact u
        | (rename_i r' y v'
           simp only[ck]at u;split at u
           · simp only[Gd,bc]at u
             grind
           · simpa using u)
    cases j with
    |zero =>
      cases y with
      |zero=>rfl
      |succ y =>
        grind
    |succ j =>
      cases y with
      |zero =>
        grind
      |succ y =>
        have:=ph (ls:=ls) H (by simpa using M) O (by simpa using R) X;omega
theorem mM (O:aA V)(h:ap P V W st a w){l:Leaf}{v:Value}(u:aM P V W st w [] l v)(y:¬ ao l) :
  (∃ r i n,l=.al r i n/\ao (aH st l)/\aM P V W st w (W.bs r i) (aH st l) v/\(st r).ls[i]?=some (aH st l)) \/
  (¬ ao (aH st l)/\aM P V W st w [] (aH st l) v):=by
 cases l with
 |al r j n =>
  by_cases z:aH st (.al r j n)=.dead
  ·rw[z];exact .inr ⟨id,trivial⟩
  ·obtain⟨I,J⟩:=fH rfl z;have R:=u.2 I;have M:=h.leaf r j _ v J R;by_cases H:ao (aH st (.al r j n))
   ·grind
   ·exact .inr ⟨H,M.carry O.ro (cP.refl V W st w) (λh=>absurd h H)⟩
 |own p hh E e Z=>exact absurd trivial y
 |nal p X ep Y E e Z =>
  simp only[aH];cases bu st X ep with
  |false=>exact .inr ⟨id,trivial⟩
  |true=>exact .inr ⟨id,u⟩
 |_=>exact .inr ⟨id,u⟩
end
section
variable {P:Program} {V:Env} {W:Wit} {st:St} {w w':World} {a:Act} {o:Oper} {ls:List Leaf} {cs:List Value}
theorem jh {st st':St}(h:∀ q,(st' q).sh=(st q).sh)(b:Nat):live st' b<->live st b:=by simp[live,h]
def aF (st:St)(x:Nat×Nat):Prop:=∃ l,(st x.1).ls[x.2]?=some l/\ao l
def aZ (W:Wit)(ks:List (Nat×Nat)):List Nat:=ks.flatMap λx=>W.bs x.1 x.2
theorem dV (W:Wit)(a b:List (Nat×Nat)):aZ W (a++b)=aZ W a++aZ W b:=List.flatMap_append
theorem gS {W:Wit}{ks:List (Nat×Nat)}{k:Nat}:k∈aZ W ks<->∃ x∈ks,k∈W.bs x.1 x.2:=List.mem_flatMap
theorem kZ {W:Wit}{p:Bool}{ks:List (Nat×Nat)}(u:∀ x∈ks,aF st x):∀ k,br V W p ks k->gd V (W.frz st ks) p k:=by
 rintro k (r|⟨x,y,r⟩)
 ·exact b8 (W':=W.frz st ks) (λh=>h) (λ_ h=>Or.inl h) k r
 ·exact .inl (.inr ⟨x,y,u x y,r⟩)
theorem oU {a b:List (Nat×Nat)}(h:dO a b=true):∀ x∈a,x∉b:=by
 intro x r u;simp only[dO,GF,GG]at h;have:=h x r;simp only[Gc,GG]at this;have:=this x u;simp[jc]at this
theorem gp (hV:aA V){W:Wit}{a:Act}{w:World}(h:ap P V W st a w){frz kill:List (Nat×Nat)}(X:dO frz kill=true)(a0:∀ x∈kill,aF st x) :
  ap P V (W.frz st frz) (ac (aP (ac (aI st frz) st) kill++aI st frz) st) a w /\
  (∀ (q i:Nat) (l:Leaf),(ac (aP (ac (aI st frz) st) kill++aI st frz) st q).ls[i]?=some l->ao l->(st q).ls[i]?=some l/\(q,i)∉frz/\(q,i)∉kill) /\
  (∀ q,(ac (aP (ac (aI st frz) st) kill++aI st frz) st q).sh=(st q).sh/\(st q).ver<=(ac (aP (ac (aI st frz) st) kill++aI st frz) st q).ver) /\
  (∀ k∈aZ W kill,¬ (W.frz st frz).nw k/\¬ V.prot k/\k<w.heap.size/\(∀ b,live (ac (aP (ac (aI st frz) st) kill++aI st frz) st) b->W.β b≠k) /\
   ∀ (J i:Nat) (l:Leaf),(ac (aP (ac (aI st frz) st) kill++aI st frz) st J).ls[i]?=some l->ao l->k∉W.bs J i):=by
 obtain⟨h1,h2,h3⟩:=mg hV frz h;obtain⟨h4,h5,R⟩:=mL hV kill h1;rw[<- bH]at h4 h5 R;have I:∀ q,(ac (aP (ac (aI st frz) st) kill++aI st frz) st q).sh=(st q).sh:=λq=>(R q).1.trans (h3 q).1
 have u:∀ (q i:Nat) (l:Leaf),(ac (aP (ac (aI st frz) st) kill++aI st frz) st q).ls[i]?=some l->ao l->(st q).ls[i]?=some l/\(q,i)∉frz/\(q,i)∉kill:=by
  simp_all
 refine⟨h4,u,λq=>⟨I q,FU (h3 q).2 (R q).2⟩,λk z=>?_⟩;obtain⟨x,hx,z⟩:=gS.1 z;obtain⟨l,M,r⟩:=a0 x hx;have h7:=h.ownb x.1 x.2 l M r k z;refine⟨?_,h7.2.1,h.own_lt M r k z,λb hb=>h7.2.2 b ((jh I b).1 hb),λJ i l1 h8 h9 Y=>?_⟩
 ·rintro (hn|⟨y,hy,⟨l2,a1,H⟩,Z⟩)
  ·grind
  ·obtain⟨e1,e2⟩:=h.sep y.1 y.2 l2 x.1 x.2 l a1 H M r k Z z;exact oU X y hy (by rw[show y=x from Prod.ext e1 e2];exact hx)
 ·obtain⟨O,_,a2⟩:=u J i l1 h8 h9;obtain⟨e1,e2⟩:=h.sep x.1 x.2 l J i l1 M r O h9 k z Y
  simp_all
theorem Bm (H:aA V)(h:ap P V W st a w)(frz kill:List (Nat×Nat)):cP V W (W.frz st frz) st (ac (aP (ac (aI st frz) st) kill++aI st frz) st) w w:=by
 obtain⟨M,O,y⟩:=mg H frz h;obtain⟨_,z,u⟩:=mL H kill M;rw[<- bH]at z u;exact⟨λq=>⟨FU (y q).2 (u q).2,λ_=>rfl⟩,λb I=>⟨⟨I.1,by rw[(u b).1,(y b).1];exact I.2⟩,rfl⟩,λ_ h=>.inl h,λ_ _=>rfl,
  λ_ q j l J r _=>⟨⟨l,(O q j l (z q j l J r).1 r).1,r⟩,rfl,λ_ _=>rfl⟩⟩
theorem tS:∀ {ls:List Leaf} {j:Nat} {p:Bool} {ks:List (Nat×Nat×Nat)} {ep:Nat} {E:TypeId} {e:Ty} {xs:List e.den},ls[j]?=some (.nal p ks ep none E e xs)->bu st ks ep=true->∀ k∈ks,(k.1,k.2.1)∈dL st ls
 |l::ls,0,p,ks,ep,E,e,xs,h,y,k,u=>by
  simp at h;subst h;simp only[dL,aH]
  grind
 |l::ls,j+1,p,ks,ep,E,e,xs,h,y,k,u=>by
  have:=tS (ls:=ls) (by simpa using h) y k u;cases l with
  |nal O H z r J M I=>cases r <;> simp[dL,this]
  |_=>simp[dL,this]
theorem tT {ls:List Leaf}(h:iN st ls=true):bc (ck st ls)=true/\dO (dL st ls) (ck st ls)=true:=by
 simpa[iN]using h
theorem pi (y:aG P V W st w ls cs){x:Nat×Nat}(u:x∈ck st ls):aF st x:=by
 induction ls generalizing cs with
 |nil=>simp[ck]at u
 |cons l ls z =>
  cases cs with
  |nil=>exact y.elim
  |cons v cs =>
   cases l with
   |al r j n =>
    simp only[ck,FW]at u;rcases u with u|u
    ·split at u
     ·rename_i p I E e J H;simp at u;subst u;exact⟨_,(fH H (by simp)).2,trivial⟩
     ·grind
    ·exact z y.2 u
   |_=>exact z y.2 u
theorem Cm {l:Leaf}(h:ao (gQ st l)):ao (aH st l)/\gQ st l=aH st l:=by
 unfold gQ at h ⊢;split at h
 ·exact h.elim
 ·exact⟨h,rfl⟩
theorem pS (hV:aA V)(h:ap P V W st a w){ls:List Leaf}{cs:List Value}(hl:aG P V W st w ls cs)(aw:iN st ls=true) :
    ap P V (W.frz st (dL st ls)) (ac (mvU st ls) st) a w/\(dU st ls).length=cs.length /\
    (∀ (j:Nat) (l:Leaf) (u:Value),(dU st ls)[j]?=some l->cs[j]?=some u->aM P V (W.frz st (dL st ls)) (ac (mvU st ls) st) w (dE W ls j) l u) /\
    (∀ (j:Nat) (l:Leaf),(dU st ls)[j]?=some l->ao l->∀ k∈dE W ls j,¬ (W.frz st (dL st ls)).nw k/\¬ V.prot k/\k<w.heap.size /\
      (∀ b,live (ac (mvU st ls) st) b->W.β b≠k) /\
      ∀ (r1 j1:Nat) (l1:Leaf),(ac (mvU st ls) st r1).ls[j1]?=some l1->ao l1->k∉W.bs r1 j1) /\
    (∀ (j j':Nat) (l l':Leaf),(dU st ls)[j]?=some l->ao l->(dU st ls)[j']?=some l'->ao l'->∀ k,k∈dE W ls j->k∈dE W ls j'->j=j'):=by
  obtain⟨hd,a8⟩:=tT aw;obtain⟨h1,h2,h3,a5⟩:=gp hV h a8 (λx hx=>pi hl hx);have J:=Bm hV h (dL st ls) (ck st ls);show ap P V (W.frz st (dL st ls)) (ac (aP (ac (aI st (dL st ls)) st) (ck st ls)++aI st (dL st ls)) st) a w/\_;have R:∀ (j:Nat) (l:Leaf),(dU st ls)[j]?=some l->∃ z u,ls[j]?=some z/\cs[j]?=some u/\gQ st z=l/\aM P V W st w [] z u/\¬ ao z:=by
    intro j l M;simp only[dU,GY,FX]at M;obtain⟨z,H,X⟩:=M;have ad:j<cs.length:=by rw[<- hl.length];exact (FL.1 H).1
    have O:=FN ad;have h7:=hl.at_ j z _ H O
    simp_all
  have y:∀ (j:Nat) (l:Leaf),(dU st ls)[j]?=some l->ao l->∃ r i n,ls[j]?=some (.al r i n)/\ao (aH st (.al r i n))/\(st r).ls[i]?=some l:=by
    intro j l M ho;obtain⟨z,u,H,X,rfl,O,h7⟩:=R j l M;obtain⟨Z,e0⟩:=Cm ho;rcases mM hV h O h7 with ⟨r,i,n,rfl,h8,_,h9⟩|⟨h8,_⟩
    · grind
    · grind
  refine⟨h1,by simp[dU,hl.length],λj l u M hu=>?_,λj l M ho k I=>?_,λj j' l l' M ho a9 Z k I a2=>?_⟩
  · obtain ⟨z, u', H, X, rfl, O, h7⟩ := R j l M
    obtain rfl:u=u':=Option.some.inj (hu.symm.trans X);have a0:gQ st z=aH st z->aM P V (W.frz st (dL st ls)) (ac (mvU st ls) st) w (dE W ls j) (gQ st z) u:=by
      intro e0;rw[e0];rcases mM hV h O h7 with ⟨r,i,n,rfl,h8,h9,_⟩|⟨h8,h9⟩
      · have:dE W ls j=W.bs r i:=by simp[dE,H]
        rw[this];exact h9.carry hV.ro J (λ_=>⟨rfl,λ_ _=>rfl⟩)
      · exact h9.carry hV.ro J (λh=>absurd h h8)
    by_cases Y:∃ p ks ep E e xs,aH st z=.nal p ks ep none E e xs
    · obtain⟨p,ks,ep,E,e,xs,Y⟩:=Y
      have e0:gQ st z=.ro p E e xs:=by unfold gQ;rw[Y]
      rw[e0];have a3:z=.nal p ks ep none E e xs/\bu st ks ep=true:=by
        cases z with
        |al r i n=>exact absurd Y jv
        |nal p' ay a4 az E' e' b0 =>
          simp only[aH]at Y;cases hv:bu st ay a4 with
          |false=>simp[hv]at Y
          |true =>
            simp_all
        |_=>simp[aH]at Y
      obtain⟨rfl,hv⟩:=a3;refine Rd.mono (λk I=>?_) (qC hv O).rd;rcases I with I|⟨x,hx,I⟩
      · exact b8 (W':=W.frz st (dL st ls)) (λh=>h) (λ_ h=>Or.inl h) k I
      · exact .inl (.inr ⟨(x.1,x.2.1),tS H hv x hx,(cN hv).2.2 x hx,I⟩)
    · refine a0 ?_
      unfold gQ
      grind
  · obtain⟨r,i,n,H,X,O⟩:=y j l M ho
    have e:dE W ls j=W.bs r i:=by simp[dE,H]
    rw[e]at I;exact a5 k (gS.2 ⟨(r,i),nL H X,I⟩)
  · obtain⟨r,i,n,H,X,O⟩:=y j l M ho
    obtain⟨r',i',n',a1,a6,a7⟩:=y j' l' a9 Z;have e:dE W ls j=W.bs r i:=by simp[dE,H]
    have e':dE W ls j'=W.bs r' i':=by simp[dE,a1]
    rw[e]at I;rw[e']at a2;obtain⟨rfl,rfl⟩:=h.sep r i l r' i' l' O ho a7 Z k I a2;exact ph hd H X a1 a6
theorem AZ (u:aA V)(h:ap P V W st a w)(y:aG P V W st w ls cs)(r:iN st ls=true):∀ q,(ac (mvU st ls) st q).sh=(st q).sh/\(st q).ver<=(ac (mvU st ls) st q).ver :=
 (gp u h (tT r).2 (λ_ z=>pi y z)).2.2.1
theorem ap.putMoved (J:aA V)(h:ap P V W st a w){ls:List Leaf}{cs:List Value}(M:aG P V W st w ls cs)(Z:iN st ls=true)
  (d:Nat) (I:d<V.nt) (r:∀ x∈V.fixt,x.1≠d) {sh:aK} {v:Value} (hs:eK sh v cs) :
  Rel P V (ac (cB st (mvU st ls) d sh (dU st ls)) st) (a.put (some d) v) w:=by
 obtain⟨O,R,X,u,Y⟩:=pS J h M Z;exact⟨_,O.put J d I r _ sh (dU st ls) v cs (dE W ls) (GK _) hs R M.one' X
  (λj l y H k z=>⟨(u j l y H k z).1,(u j l y H k z).2.1,(u j l y H k z).2.2.2.1,λr1 j1 l1 _=>(u j l y H k z).2.2.2.2 r1 j1 l1⟩) Y⟩
theorem ap.setBoxG (hV:aA V)(h:ap P V W st a w)(b:Nat)(hb:B0<=b)(n:Nat)(ls:List Leaf)(a3:List Value)(X:Nat->List Nat)(g:Nat)(E:TypeId)
    (hn:(st b).ver<n) (hg:(live st b/\W.β b=g)\/(¬ live st b/\¬ cq V W st g/\∀ (j:Nat) (l:Leaf),ls[j]?=some l->ao l->∀ k∈X j,k≠g)) (b4:w'.heap[g]?=some (.cells a3.toArray E (0,0)))
    (ad:∀ k,cq V W st k->k≠g->w'.heap[k]?=w.heap[k]?) (a6:∀ (j:Nat) (l:Leaf),ls[j]?=some l->ao l->∀ k∈X j,k≠g->w'.heap[k]?=w.heap[k]?) (b0:w.heap.size<=w'.heap.size) (b2:w'.os=w.os) (ht:w'.tape=w.tape) (ho:w'.output=w.output)
    (hl:ls.length=a3.length) (h1:∀ u∈a3,u.oneCell'=true)
    (a9:∀ (j:Nat) (l:Leaf) (u:Value),ls[j]?=some l->a3[j]?=some u->aM P V W st w (X j) l u)
    (a8:∀ (j:Nat) (l:Leaf),ls[j]?=some l->ao l->∀ k∈X j,¬ W.nw k/\¬ V.prot k/\(∀ b,live st b->W.β b≠k) /\
      ∀ (r1 j1:Nat) (l1:Leaf),r1≠b->(st r1).ls[j1]?=some l1->ao l1->k∉W.bs r1 j1)
    (az:∀ (j j':Nat) (l l':Leaf),ls[j]?=some l->ao l->ls[j']?=some l'->ao l'->∀ k,k∈X j->k∈X j'->j=j') :
    ap P V { W with β:=λr=>if r=b then g else W.β r,cs:=λr=>if r=b then a3 else W.cs r,bs:=λr j=>if r=b then X j else W.bs r j }
      (ac [(b,⟨n,.agg,ls⟩)] st) a w':=by
  have Y:¬ W.nw g/\¬ V.prot g/\(∀ q,q≠b->live st q->W.β q≠g)/\∀ (r1 j1:Nat) (l1:Leaf),(st r1).ls[j1]?=some l1->ao l1->g∉W.bs r1 j1:=by
    rcases hg with ⟨a1,rfl⟩|⟨a1,hg⟩
    · exact⟨(h.box b a1).1,(h.box b a1).2,λq hq b1 e=>hq (h.inj q b b1 a1 e),λr1 j1 l1 y J H=>(h.ownb r1 j1 l1 y J _ H).2.2 b a1 rfl⟩
    · have hu:=hg.1
      simp only[cq,not_or,not_exists,not_and]at hu
      grind
  have aw:∀ (j:Nat) (l:Leaf),ls[j]?=some l->ao l->∀ k∈X j,k≠g:=by
    grind
  have I:∀ q,live (ac [(b,⟨n,.agg,ls⟩)] st) q<->(q=b\/live st q):=by
    intro q;rcases an b q ⟨n,.agg,ls⟩ st with ⟨e0,e⟩|⟨z,e⟩
    · subst e0
      simp[live,e,hb]
    · simp[live,e,z]
  have M:∀ k,cq V W st k->k≠g->w'.heap[k]?=w.heap[k]?:=ad;have a5:cP V W { W with β:=λr=>if r=b then g else W.β r,cs:=λr=>if r=b then a3 else W.cs r,bs:=λr j=>if r=b then X j else W.bs r j } st (ac [(b,⟨n,.agg,ls⟩)] st) w w':=by
    refine⟨λq=>?_,λq hq=>⟨(I q).2 (.inr hq),?_⟩,λ_ h=>h,λk H=>M k (H.elim .inl (λh=>.inr (.inl h))) ?_,λ_ q j l y J Z=>?_⟩
    · rcases an b q ⟨n,.agg,ls⟩ st with ⟨rfl,e⟩|⟨z,e⟩
      · grind
      · grind
    · grind
    · grind
    · rcases an b q ⟨n,.agg,ls⟩ st with ⟨rfl,e⟩|⟨z,e⟩
      · grind
      · rw[e]at y
        refine⟨⟨l,y,J⟩,by simp[z],λk H=>M k (.inr (.inr (.inr ⟨q,j,l,y,J,H⟩))) ?_⟩
        grind
  exact {
    nt:=h.nt,df:=h.df
    slots:=λt b3=>by
      have : t ≠ b := by have : GH <= B0 := by decide
                         omega
      rw[aL this];simpa[this]using h.slots t b3
    boxes:=λq hq=>by
      rcases an b q ⟨n,.agg,ls⟩ st with ⟨rfl,e⟩|⟨z,e⟩
      · grind
      · rw[e]
        refine (h.boxes q hq).imp id λ⟨y,E',J⟩=>⟨y,E',?_⟩
        simp only[z,if_false];rw[M _ (.inr (.inr (.inl ⟨q,⟨hq,y⟩,rfl⟩))) (Y.2.2.1 q z ⟨hq,y⟩)];exact J
    len:=λq=>by
      rcases an b q ⟨n,.agg,ls⟩ st with ⟨rfl,e⟩|⟨z,e⟩
      · rw[e];simpa using hl
      · rw[e];simpa[z]using h.len q
    one:=λq u hu=>by
      by_cases hq:q=b
      · grind
      · simp only[hq]at hu;exact h.one q u hu
    leaf:=λq j l u y J=>by
      rcases an b q ⟨n,.agg,ls⟩ st with ⟨rfl,e⟩|⟨z,e⟩
      · rw[e]at y
        simp only at J;exact (a9 j l u y J).carry hV.ro a5 (λho=>⟨by simp,λk H=>a6 j l y ho k H (aw j l y ho k H)⟩)
      · rw[e]at y
        simp only[z]at J;refine (h.leaf q j l u y J).carry hV.ro a5 (λho=>⟨by simp[z],λk H=>M k (.inr (.inr (.inr ⟨q,j,l,y,ho,H⟩))) ?_⟩);rintro rfl;exact Y.2.2.2 q j l y ho H
    ownb:=λq j l y J k H=>by
      rcases an b q ⟨n,.agg,ls⟩ st with ⟨rfl,e⟩|⟨z,e⟩
      · rw[e]at y
        simp only[if_true]at H;have Z:=a8 j l y J k H;refine⟨Z.1,Z.2.1,λp hp=>?_⟩;by_cases a2:p=q
        · simp only[a2,if_true];exact λe=>aw j l y J k H e.symm
        · simp only[a2,if_false];exact Z.2.2.1 p (((I p).1 hp).resolve_left a2)
      · rw[e]at y
        simp only[z,if_false]at H;have Z:=h.ownb q j l y J k H;refine⟨Z.1,Z.2.1,λp hp=>?_⟩;by_cases a2:p=b
        · simp only[a2,if_true];rintro rfl;exact Y.2.2.2 q j l y J H
        · simp only[a2,if_false];exact Z.2.2 p (((I p).1 hp).resolve_left a2)
    sep:=λq j l q' j' l' y J Z h5 k H a0=>by
      rcases an b q ⟨n,.agg,ls⟩ st with ⟨e0,e⟩|⟨z,e⟩ <;> rcases an b q' ⟨n,.agg,ls⟩ st with ⟨e1,e'⟩|⟨a4,e'⟩
      · rw[e]at y;rw[e']at Z
        simp only[e0,if_true]at H;simp only[e1,if_true]at a0;exact⟨e0.trans e1.symm,az j j' l l' y J Z h5 k H a0⟩
      · rw[e]at y;rw[e']at Z
        simp only[e0,if_true]at H;simp only[a4,if_false]at a0;exact absurd a0 ((a8 j l y J k H).2.2.2 q' j' l' a4 Z h5)
      · rw[e]at y;rw[e']at Z
        simp only[z,if_false]at H;simp only[e1,if_true]at a0
        grind
      · rw[e]at y;rw[e']at Z
        simp only[z]at H;simp only[a4,if_false]at a0;exact h.sep q j l q' j' l' y J Z h5 k H a0
    box:=λq hq=>by
      by_cases O:q=b
      · simp only[O,if_true];exact⟨Y.1,Y.2.1⟩
      · simp only[O,if_false];exact h.box q (((I q).1 hq).resolve_left O)
    inj:=λq q' hq ay e=>by
      by_cases O:q=b <;> by_cases R:q'=b
      · omega
      · simp only[O,if_true,R,if_false]at e
        exact absurd e.symm (Y.2.2.1 q' R (((I q').1 ay).resolve_left R))
      · simp only[O,if_false,R,if_true]at e
        exact absurd e (Y.2.2.1 q O (((I q).1 hq).resolve_left O))
      · simp only[O,if_false,R,if_false]at e
        exact h.inj q q' (((I q).1 hq).resolve_left O) (((I q').1 ay).resolve_left R) e
    nwlt:=λk H=>⟨F5 (h.nwlt k H).1 b0,(h.nwlt k H).2⟩
    os:=b2.trans h.os,tape:=ht.trans h.tape,output:=ho.trans h.output,size:=FU h.size b0
    keep:=λk hp=>by
      rw[M k (.inr (.inl hp)) (by rintro rfl;exact Y.2.1 hp)];exact h.keep k hp
    fixb:=λx hx=>by
      obtain⟨y,J⟩:=h.fixb x hx;refine⟨(I _).2 (.inr y),?_⟩;by_cases a7:x.1=b
      · simp only[a7,if_true]
        rcases hg with ⟨_,e⟩|⟨a1,_⟩
        · rw[<- e,<- a7];exact J
        · exact absurd (a7 ▸ y) a1
      · simpa only[a7,if_false]using J
    fixt:=h.fixt }
theorem ap.setBox (hV:aA V)(h:ap P V W st a w)(b:Nat)(hb:B0<=b)(n:Nat)(ls:List Leaf)(H:List Value)(z:Nat->List Nat)(g:Nat)(E:TypeId)
  (hn:(st b).ver<n) (hg:(live st b/\W.β b=g)\/(¬ live st b/\w.heap.size<=g)) (Y:w'.heap[g]?=some (.cells H.toArray E (0,0)))
  (I:∀ k,k<w.heap.size->k≠g->w'.heap[k]?=w.heap[k]?) (a1:w.heap.size<=w'.heap.size) (a0:w'.os=w.os) (ht:w'.tape=w.tape) (ho:w'.output=w.output)
  (hl:ls.length=H.length) (h1:∀ u∈H,u.oneCell'=true)
  (X:∀ (j:Nat) (l:Leaf) (u:Value),ls[j]?=some l->H[j]?=some u->aM P V W st w (z j) l u)
  (y:∀ (j:Nat) (l:Leaf),ls[j]?=some l->ao l->∀ k∈z j,¬ W.nw k/\¬ V.prot k/\k<w.heap.size/\(∀ b,live st b->W.β b≠k) /\
   ∀ (r1 j1:Nat) (l1:Leaf),r1≠b->(st r1).ls[j1]?=some l1->ao l1->k∉W.bs r1 j1)
  (Z:∀ (j j':Nat) (l l':Leaf),ls[j]?=some l->ao l->ls[j']?=some l'->ao l'->∀ k,k∈z j->k∈z j'->j=j') :
  ap P V { W with β:=λr=>if r=b then g else W.β r,cs:=λr=>if r=b then H else W.cs r,bs:=λr j=>if r=b then z j else W.bs r j }
   (ac [(b,⟨n,.agg,ls⟩)] st) a w' :=
 h.setBoxG hV b hb n ls H z g E hn (hg.imp id λ⟨h2,h3⟩=>⟨h2,λhu=>by have:=h.used_lt g hu;omega,λj l M O k J=>by have:=(y j l M O k J).2.2.1;omega⟩) Y
  (λk J R=>I k (h.used_lt k J) R) (λj l M O k J R=>I k (y j l M O k J).2.2.1 R) a1 a0 ht ho hl h1 X
  (λj l M O k J=>⟨(y j l M O k J).1,(y j l M O k J).2.1,(y j l M O k J).2.2.2.1,(y j l M O k J).2.2.2.2⟩) Z
theorem eO (z:aG P V W st w ls cs){x:Nat×Nat}(u:x∈bE st ls):aF st x:=by
 induction ls generalizing cs with
 |nil=>simp[bE]at u
 |cons l ls H =>
  cases cs with
  |nil=>exact z.elim
  |cons v cs =>
   cases l with
   |al r j n =>
    simp only[bE,FW]at u;rcases u with u|u
    ·split at u
     ·rename_i p X E e R y;simp at u;subst u;exact⟨_,(fH y (by simp)).2,trivial⟩
     ·grind
    ·exact H z.2 u
   |nal p M ep O E e R =>
    simp only[bE,FW]at u;rcases u with u|u
    ·split at u
     ·rename_i y;simp only[aH]at y;cases I:bu st M ep with
      |false=>simp[I]at y
      |true =>
       obtain⟨k,J,rfl⟩:=List.mem_map.1 u;exact (cN I).2.2 k J
     ·grind
    ·exact H z.2 u
   |_=>exact H z.2 u
theorem Dc (z:aG P V W st w ls cs){ks:List (Nat×Nat)}(u:∀ x∈bE st ls,x∈ks)(p:Bool):∀ k,br V W p (bE st ls) k->gd V (W.frz st ks) p k:=by
 intro k r;rcases r with r|⟨x,y,r⟩
 ·exact b8 (W':=W.frz st ks) (λh=>h) (λ_ h=>Or.inl h) k r
 ·exact .inl (.inr ⟨x,u x y,eO z y,r⟩)
end
section
variable {P:Program} {V:Env} {Γ:List Ctr} {T:TypeId->TI} {st:St} {o:Oper} {R:Type} {κ:Upd->Option R} {r:R}
def cd (P:Program)(V:Env)(o:Oper)(st:St)(κ:Upd->Option R)(r:R):Prop :=
 ∃ U,κ U=some r/\∀ W a w,ap P V W st a w->nK P V o st U a w
theorem zO (H:aA V)(y:bU V o){x:Operand}(u:o.op=.move x)(h:act Γ T o st κ=some r):cd P V o st κ r:=by
 simp only[act,wrU,u]at h;split at h
 ·rename_i d I;refine⟨_,h,λW a w z=>?_⟩;obtain⟨O,M,J⟩:=db z x;exact el H z I y (by simp[execOp,u]) M J
 ·grind
theorem wU (J:aA V)(y:bU V o){x:Operand}(z:o.op=.assign x)(h:act Γ T o st κ=some r):cd P V o st κ r:=by
 simp only[act,z]at h;split at h
 ·rename_i d H;cases u:iN st (au st x).2 with
  |false=>simp[u]at h
  |true =>
   simp only[u]at h;refine⟨_,h,λW a w I=>?_⟩;obtain⟨Y,X,M⟩:=db I x;intro next Q O;refine ek (v:=a.eval x) (w':=w) (by simp[execOp,z]) ?_;rw[H];exact O _ _ (I.putMoved J M u d (y d H).1 (y d H).2 X)
 ·grind
theorem zP (O:aA V)(H:bU V o){c x y:Operand}(u:o.op=.pick c x y)(h:act Γ T o st κ=some r):cd P V o st κ r:=by
 simp only[act,wrU,u]at h;split at h
 ·rename_i t X;cases t with
  |true =>
   split at h
   ·rename_i d I;refine⟨_,h,λW a w z=>?_⟩;obtain⟨Y,M,J⟩:=db z x;exact el O z I H (v:=a.eval x) (by simp[execOp,u,iR z X,asBool]) M J
   ·grind
  |false =>
   split at h
   ·rename_i d I;refine⟨_,h,λW a w z=>?_⟩;obtain⟨Y,M,J⟩:=db z y;exact el O z I H (v:=a.eval y) (by simp[execOp,u,iR z X,asBool]) M J
   ·grind
 ·grind
theorem tU (hV:aA V)(a0:bU V o){x:Operand}(X:o.op=.nilCheck x)(h:act Γ T o st κ=some r):cd P V o st κ r:=by
 simp only[act,wrU,X]at h;have I:∀ {l:Leaf} {d:Nat},one st x=l->l≠.dead->(∀ W a w,ap P V W st a w->aM P V W st w [] l (a.eval x)->∃ ad,a.eval x=.pointer (some ad))->o.dst=some d ->
   ∀ W a w,ap P V W st a w->nK P V o st (cB st [] d .one [l]) a w:=by
  intro l d z Z hp H W a w M;obtain⟨Y,h2,h3,_⟩:=bA M x (by rw[z];exact Z);rw[z]at Y h2;obtain⟨ad,O⟩:=hp W a w M Y;exact aQ hV M H a0 (v:=a.eval x) (by simp[execOp,X,O]) Y h2 h3
 split at h
 ·split at h
  ·rename_i z _ d H;exact⟨_,h,I z (by simp) (λW a w M u=>by obtain⟨g,o',c,O,_⟩:=u;exact⟨_,O⟩) H⟩
  ·grind
 ·split at h
  ·rename_i z _ d H;exact⟨_,h,I z (by simp) (λW a w M u=>⟨_,u.2.2⟩) H⟩
  ·grind
 ·rename_i r' j v i sz off z;cases J:FJ (st r').ver v with
  |false=>simp[J]at h
  |true =>
   simp only[J]at h;split at h
   ·rename_i d H;refine⟨_,h,I z (by simp) (λW a w M u=>?_) H⟩;obtain⟨g,a2,a1,_,_,O⟩:=u.2 (FK J)
    simp_all
   ·grind
 ·split at h
  ·rename_i z _ d H;exact⟨_,h,I z (by simp) (λW a w M u=>by obtain⟨b,ob,g,o',c,O,_⟩:=u;exact⟨_,O⟩) H⟩
  ·grind
 ·rename_i p ks ep b y off z;cases J:bu st ks ep with
  |false=>simp[J]at h
  |true =>
   simp only[J]at h;split at h
   ·rename_i d H;refine⟨_,h,I z (by simp) (λW a w M u=>?_) H⟩;obtain⟨g,o',c,O,_⟩:=(u.2.2 (cN J).1 (cN J).2.1 (cN J).2.2:NpOk V W w p ks b y off _).rd
    simp_all
   ·grind
 ·grind
theorem zQ (J:aA V)(y:bU V o){op:UnOp}{t:TypeId}{x:Operand}(u:o.op=.unOp op t x)(h:act Γ T o st κ=some r):cd P V o st κ r:=by
 simp only[act,wrU,u]at h;split at h
 ·rename_i b I;split at h
  ·rename_i d H;exact⟨_,h,λW a w z=>aQ J z H y (v:=.bool (!b)) (by simp[execOp,u,iR z I,Op.unary]) rfl id rfl⟩
  ·grind
 ·rename_i k n I;split at h
  ·rename_i d H;exact⟨_,h,λW a w z=>aQ J z H y (v:=.int k (k.wrap (0-n))) (by simp[execOp,u,bK z I,Op.unary,Op.intArith]) rfl id rfl⟩
  ·grind
 ·grind
theorem vw (hV:aA V)(X:bU V o){x:Operand}{i:Nat}(H:o.op=.extract x i)(h:act Γ T o st κ=some r):cd P V o st κ r:=by
 simp only[act,wrU,H]at h;split at h
 ·rename_i u ls he;split at h
  ·rename_i agg n hp;split at h
   ·rename_i d hd;refine⟨_,h,λW a w hr=>?_⟩;obtain⟨y,hs,hl⟩:=db hr x;rw[he]at hs hl;obtain⟨z,hv,Y⟩:=hs;have Z:∀ (u:List (Bool×Nat)) (z y:List Value) (i:Nat) (off:Nat),qB u z y->u[i]?=some (agg,n) ->
      ∃ v,z[i]?=some v/\dr agg v ((y.drop ((u.take i).foldl (λa b=>a+b.2) off-off)).take n)/\off<=(u.take i).foldl (λa b=>a+b.2) off:=by
     intro u;induction u with
     |nil=>intro z y i off _ O;simp at O
     |cons p u ih =>
      rintro z y i off ⟨v,a0,c,I,rfl,rfl,hc,a1,Y⟩ O;cases i with
      |zero =>
       simp_all
      |succ i =>
       obtain⟨v',J,M,h3⟩:=ih a0 I i (off+p.2) Y (by simpa using O);refine⟨v',by simpa using J,?_,by simp;omega⟩;simp;have e:(u.take i).foldl (λa b=>a+b.2) (off+p.2)-off=c.length+((u.take i).foldl (λa b=>a+b.2) (off+p.2)-(off+p.2)):=by omega
       rw[e,<- Gg,List.drop_left];exact M
    obtain⟨v,J,M,_⟩:=Z u z y i 0 Y hp;refine el hV hr hd X (v:=v) ?_ (kQ M) ((hl.drop _).take n);simp[execOp,H,hv,Instr.extract,J]
   ·grind
  ·grind
 ·grind
theorem wc {W:Wit}{a:Act}{w:World}(J:ap P V W st a w):∀ (xs:List Operand) (u l:List Nat),
  xs.foldl (λ (u:Option (List Nat)) x=>u.bind λl=>match one st x with|.bp b 0=>some (l++[b])|_=>none) (some u)=some l ->
  ∃ y,l=u++y/\xs.map a.eval=y.map (λb=>Value.pointer (some ⟨W.β b,0,none⟩))/\∀ b∈y,B0<=b/\(st b).sh=.agg
 |[],u,l,h=>⟨[],by simpa using h.symm,rfl,by simp⟩
 |x::xs,u,l,h=>by
  simp at h;have H:∀ (xs:List Operand),xs.foldl (λ (u:Option (List Nat)) x=>u.bind λl=>match one st x with|.bp b 0=>some (l++[b])|_=>none) none=none:=by
   intro xs;induction xs with
   |nil=>rfl
   |cons x xs Y=>simpa using Y
  split at h
  ·rename_i b M;obtain⟨y,O,X,Z⟩:=wc J xs (u++[b]) l h;have z:=(bA J x (by rw[M];simp)).1;rw[M]at z;refine⟨b::y,by simp[O],?_,?_⟩
   ·simp only[Gi,X];rw[show a.eval x=_ from z.2.2]
   ·intro q I;rcases GT.1 I with rfl|I
    ·exact⟨z.1,z.2.1⟩
    ·grind
  ·grind
theorem tV (X:aA V)(z:bU V o){fn:Fn}{first caps:Array Operand}(u:o.op=.makeFunc fn first caps)(h:act Γ T o st κ=some r):cd P V o st κ r:=by
 cases fn with
 |func f =>
  simp only[act,wrU,u]at h;cases y:FJ first.size 0 with
  |false=>simp[y]at h
  |true =>
   simp only[y]at h;split at h
   ·rename_i l Z;split at h
    ·rename_i d Y;refine⟨_,h,λW a w H=>?_⟩;obtain⟨l',I,J,M⟩:=wc H caps.toList [] l Z;subst I;have O:first=#[]:=Array.eq_empty_of_size_eq_zero (FK y)
     refine aQ X H Y z (v:=.func (.func f) #[] (l.map λb=>Value.pointer (some ⟨W.β b,0,none⟩)).toArray) ?_ ⟨rfl,M⟩ id rfl;rw[<- J];simp[execOp,u,Instr.makeFunc,O,<- GL]
    ·grind
   ·grind
 |_=>simp[act,u]at h
theorem gT {α:Type}{xs:List α}{i:Int}{x:α}(h:idx xs i=some x):0<=i/\i<xs.length/\xs[i.toNat]?=some x:=by
 unfold idx at h
 grind
end
section
variable {P:Program} {V:Env} {Γ:List Ctr} {T:TypeId->TI} {st:St} {o:Oper} {R:Type} {κ:Upd->Option R} {r:R}
theorem yh {W:Wit}{a:Act}{w:World}(H:ap P V W st a w){x:Operand}{b:Ty}{p:Bool}{u:b.den}(z:(au st x).1=.agg)(J:c8 st b (au st x).2=some (p,u)) :
  ∃ y G,a.eval x=.agg y.toArray/\Rd w G b u y:=by
 obtain⟨y,I,M⟩:=db H x;rw[z]at I;exact⟨y,_,I,eX H M J⟩
theorem mh {t:TypeId}(y:P.underlying t=some .bool)(b u:Bool)(w:World):(Op.equal t (.bool b) (.bool u)).run P w=.ok (b==u) w:=by
 have e:Op.maxDepth=9999+1:=rfl;unfold Op.equal;rw[e];generalize 9999=m;unfold Op.equalIn;rw[FZ,run_underlying y];rfl
theorem yi (Z:aA V)(hT:TOk P T)(J:bU V o){op:BinOp}{t t':TypeId}{x y:Operand}(H:o.op=.binOp op t x y t')(h:act Γ T o st κ=some r):cd P V o st κ r:=by
  simp only[act,wrU,H]at h;split at h
  · rename_i k m k' n O X
    cases op
    case shl =>
      simp only at h;cases Y:decide (n<0) with
      |true=>simp[Y]at h
      |false =>
        simp only[Y,cond_false]at h;split at h
        · rename_i d M
          refine⟨_,h,λW a w z=>aQ Z z M J (v:=.int k (k.wrap (m*2 ^ (min n.toNat k.bits)))) ?_ rfl id rfl⟩;have:¬ n<0:=of_decide_eq_false Y;simp[execOp,H,bK z O,bK z X,eqGuard,Go.binOp,Op.shift,this]
        · cases h
    case shr =>
      simp only at h;cases Y:decide (n<0) with
      |true=>simp[Y]at h
      |false =>
        simp only[Y,cond_false]at h;split at h
        · rename_i d M
          refine⟨_,h,λW a w z=>aQ Z z M J (v:=.int k (m.fdiv (2 ^ (min n.toNat k.bits)))) ?_ rfl id rfl⟩;have:¬ n<0:=of_decide_eq_false Y;simp[execOp,H,bK z O,bK z X,eqGuard,Go.binOp,Op.shift,this]
        · cases h
    case quo =>
      simp only at h;cases Y:decide (n=0) with
      |true=>simp[Y]at h
      |false =>
        simp only[Y,cond_false]at h;cases I:decide (k=k') with
        |false=>simp[I]at h
        |true =>
          simp only[I,cond_true]at h;have I:=of_decide_eq_true I;subst I;split at h
          · rename_i d M
            refine⟨_,h,λW a w z=>aQ Z z M J (v:=.int k (k.wrap (m.tdiv n))) ?_ rfl id rfl⟩;have:¬ n=0:=of_decide_eq_false Y;simp[execOp,H,bK z O,bK z X,eqGuard,Go.binOp,Op.intDiv,this]
          · cases h
    case rem =>
      simp only at h;cases Y:decide (n=0) with
      |true=>simp[Y]at h
      |false =>
        simp only[Y,cond_false]at h;cases I:decide (k=k') with
        |false=>simp[I]at h
        |true =>
          simp only[I,cond_true]at h;have I:=of_decide_eq_true I;subst I;split at h
          · rename_i d M
            refine⟨_,h,λW a w z=>aQ Z z M J (v:=.int k (m.tmod n)) ?_ rfl id rfl⟩;have:¬ n=0:=of_decide_eq_false Y;simp[execOp,H,bK z O,bK z X,eqGuard,Go.binOp,Op.intDiv,this]
          · cases h
    case and =>
      simp only at h;cases I:decide (k=k') with
      |false=>simp[I]at h
      |true =>
        simp only[I,cond_true]at h;have I:=of_decide_eq_true I;subst I;split at h
        · rename_i d M
          refine⟨_,h,λW a w z=>aQ Z z M J (v:=.int k (k.wrap ((BitVec.ofInt k.bits m &&& BitVec.ofInt k.bits n).toNat))) ?_ rfl id rfl⟩;simp[execOp,H,bK z O,bK z X,eqGuard,Go.binOp,Op.intBits]
        · cases h
    case xor =>
      simp only at h;cases I:decide (k=k') with
      |false=>simp[I]at h
      |true =>
        simp only[I,cond_true]at h;have I:=of_decide_eq_true I;subst I;split at h
        · rename_i d M
          refine⟨_,h,λW a w z=>aQ Z z M J (v:=.int k (k.wrap ((BitVec.ofInt k.bits m ^^^ BitVec.ofInt k.bits n).toNat))) ?_ rfl id rfl⟩;simp[execOp,H,bK z O,bK z X,eqGuard,Go.binOp,Op.intBits]
        · cases h
    all_goals
      simp only at h;cases I:decide (k=k') with
      |false=>simp[I]at h
      |true =>
        simp only[I,cond_true]at h;have I:=of_decide_eq_true I;subst I;split at h
        · rename_i l hl
          split at h
          · rename_i d M
            refine⟨_,h,λW a w z=>?_⟩;obtain⟨v,h1,h2,h3,h4⟩:=wT (P:=P) (V:=V) (W:=W) (st:=st) (w:=w) _ k t t' x y m n l hl (bK z O) (bK z X) H;exact aQ Z z M J h1 h2 h3 h4
          · cases h
        · cases h
  · rename_i b b' O X
    cases ht:T t with
    |bool =>
      have h1:=hT t;rw[ht]at h1;simp only[ht]at h;cases op <;> simp only at h <;> first
        |cases h;done
        | (split at h
           · rename_i d M
             first
               |exact⟨_,h,λW a w z=>aQ Z z M J (v:=.bool (b==b')) (by simp[execOp,H,iR z O,iR z X,eqGuard,Go.binOp,mh h1.1]) rfl id rfl⟩
               |exact⟨_,h,λW a w z=>aQ Z z M J (v:=.bool (b != b')) (by simp[execOp,H,iR z O,iR z X,eqGuard,Go.binOp,mh h1.1,bne]) rfl id rfl⟩
           · cases h)
    |_=>simp[ht]at h
  · rename_i b b' O X
    cases op <;> simp only at h <;> first
      |cases h;done
      | (cases a0 : decide (b.size + b'.size <= 9223372036854775807) with
         |false=>rw[a0]at h;cases h
         |true =>
           rw[a0]at h;simp only[cond_true]at h;split at h
           · rename_i d M
             refine⟨_,h,λW a w z=>aQ Z z M J (v:=.string (b++b')) ?_ rfl id rfl⟩;have:(b.size:Int)+b'.size<=9223372036854775807:=by have:=of_decide_eq_true a0;omega
             simp[execOp,H,jg z O,jg z X,eqGuard,Go.binOp,Op.stringOp,this]
           · cases h)
      | (split at h
         · rename_i d M
           first
             |exact⟨_,h,λW a w z=>aQ Z z M J (v:=.bool (b.toList==b'.toList)) (by simp[execOp,H,jg z O,jg z X,eqGuard,Go.binOp,Op.stringOp]) rfl id rfl⟩
             |exact⟨_,h,λW a w z=>aQ Z z M J (v:=.bool (b.toList != b'.toList)) (by simp[execOp,H,jg z O,jg z X,eqGuard,Go.binOp,Op.stringOp,bne]) rfl id rfl⟩
         · cases h)
  · cases ht:T t with
    |struct b ad =>
      have h1:=hT t;rw[ht]at h1;obtain⟨_,_,_,a3,a1⟩:=h1;simp only[ht]at h;cases hf:b.flat&&decide ((au st x).1=.agg)&&decide ((au st y).1=.agg) with
      |false=>simp[hf]at h
      |true =>
        simp only[hf,cond_true]at h;simp only[FM,decide_eq_true_eq]at hf;obtain⟨⟨hf,a8⟩,a9⟩:=hf;split at h
        · rename_i p u q v a4 a5
          have a2:∀ (W:Wit) (a:Act) (w:World),ap P V W st a w->(Op.equal t (a.eval x) (a.eval y)).run P w=.ok (b.eqv u v) w/\(∃ cx cy:Array Value,a.eval x=.agg cx/\a.eval y=.agg cy):=by
            intro W a w z;obtain⟨cx,G,O,a6⟩:=yh z a8 a4;obtain⟨cy,G',X,a7⟩:=yh z a9 a5;rw[O,X];exact⟨a3 hf w G u v cx cy a6 (Rd.flat hf a7),_,_,rfl,rfl⟩
          cases op <;> simp only at h <;> first
            |cases h;done
            | (split at h
               · rename_i d M
                 first
                   | (refine ⟨_, h, λW a w z => aQ Z z M J (v := .bool (b.eqv u v)) ?_ rfl id rfl⟩
                      obtain⟨h2,cx,cy,O,X⟩:=a2 W a w z;rw[O,X]at h2;simp[execOp,H,O,X,eqGuard,Go.binOp,a1,h2];done)
                   | (refine ⟨_, h, λW a w z => aQ Z z M J (v := .bool (!b.eqv u v)) ?_ rfl id rfl⟩
                      obtain⟨h2,cx,cy,O,X⟩:=a2 W a w z;rw[O,X]at h2;simp[execOp,H,O,X,eqGuard,Go.binOp,a1,h2])
               · cases h)
        · cases h
    |_=>simp[ht]at h
end
section
variable {P:Program} {V:Env} {Γ:List Ctr} {T:TypeId->TI} {st:St} {o:Oper} {R:Type} {κ:Upd->Option R} {r:R}
theorem fD (g off n:Nat):(⟨g,off,none⟩:Addr).add n=⟨g,off+n,none⟩:=by
 unfold Addr.add;split <;> simp_all
theorem dH {t:TypeId}{n:Nat}(h:bW P t n)(w:World):(sizeOf t).run P w=.ok n w:=by
 unfold bW at h;cases u:P.info? t with
 |none=>simp[u]at h
 |some i =>
  simp[u]at h;simp[sizeOf,typeInfo,u,h]
theorem gU {t:TypeId}{z:Value}(h:ez P t z)(w:World):(zeroValue t).run P w=.ok z w:=by
 unfold ez at h;cases u:P.info? t with
 |none=>simp[u]at h
 |some i =>
  simp[u]at h;simp[zeroValue,typeInfo,u,h]
theorem tn (hV:aA V)(hT:TOk P T)(J:bU V o){t:TypeId}{x:Operand}{f:Nat}(a0:o.op=.fieldAddr t x f)(h:act Γ T o st κ=some r):cd P V o st κ r:=by
 simp only[act,wrU,a0]at h;cases ht:T t with
 |struct b a5 =>
  simp only[ht]at h;split at h
  ·rename_i off n agg hf;have h1:=hT t;rw[ht]at h1;obtain⟨⟨fs,hu,_,a2⟩,_⟩:=h1;obtain⟨_,fd,h2,h3,h4,h5,h6,_⟩:=a2 f off n agg hf;have M:∀ (a:Act) (w:World) (g O:Nat),a.eval x=.pointer (some ⟨g,O,none⟩)->(execOp a.eval o).run P w=.ok (.value (.pointer (some ⟨g,O+off,none⟩))) w:=by
    intro a w g O Z;have u:=dH h6 w;have h8:n≠0:=by omega
    simp[execOp,a0,Z,Instr.fieldAt,run_underlying hu,h2,GO,fieldPlace,u,h8,fD]
   split at h
   ·rename_i p b' y O H;split at h
    ·rename_i d X;refine⟨_,h,λW a w z=>?_⟩;obtain⟨u,_,_,_⟩:=bA z x (by rw[H];simp);rw[H]at u;obtain⟨g,og,c,Z,hg,Y,hc⟩:=u;exact aQ hV z X J (M a w g _ Z) ⟨g,og,c,by rw[GI],hg,Y,hc⟩ id rfl
    ·grind
   ·rename_i b' O H;split at h
    ·rename_i d X;refine⟨_,h,λW a w z=>?_⟩;obtain⟨u,_,_,_⟩:=bA z x (by rw[H];simp);rw[H]at u;exact aQ hV z X J (M a w _ _ u.2.2) ⟨u.1,u.2.1,rfl⟩ id rfl
    ·grind
   ·rename_i r' j v i sz O H;cases I:FJ (st r').ver v with
    |false=>simp[I]at h
    |true =>
     simp only[I]at h;split at h
     ·rename_i d X;refine⟨_,h,λW a w z=>?_⟩;obtain⟨u,_,_,_⟩:=bA z x (by rw[H];simp);rw[H]at u;obtain⟨g,a4,a1,hh,a3,Z⟩:=u.2 (FK I);exact aQ hV z X J (M a w g _ Z) ⟨u.1,λ_=>⟨g,a4,a1,hh,a3,by rw[GI]⟩⟩ id rfl
     ·grind
   ·rename_i p ks ep b' y O H;cases I:bu st ks ep with
    |false=>simp[I]at h
    |true =>
     simp only[I]at h;split at h
     ·rename_i d X;refine⟨_,h,λW a w z=>?_⟩;obtain⟨u,_,_,_⟩:=bA z x (by rw[H];simp);rw[H]at u;have h8:NpOk V W w p ks b' y O _:=u.2.2 (cN I).1 (cN I).2.1 (cN I).2.2;obtain⟨g,og,c,Z,hg,Y,hc⟩:=h8.rd;exact aQ hV z X J (M a w g _ Z) ⟨u.1,u.2.1,λ_ _ _=>⟨g,og,c,by rw[GI],hg,Y,hc⟩⟩ id rfl
     ·grind
   ·grind
  ·grind
 |_=>simp[ht]at h
theorem tp (hV:aA V)(hT:TOk P T)(Z:bU V o){t:TypeId}{x i:Operand}(a3:o.op=.indexAddr t x i)(h:act Γ T o st κ=some r):cd P V o st κ r:=by
 simp only[act,wrU,a3]at h;split at h
 ·rename_i k n hi;cases ht:T t with
  |slice E e a7 =>
   simp only[ht]at h;have h1:=hT t;rw[ht]at h1;obtain⟨hu,_,_,b4,_,ti,z,ad,a9,_⟩:=h1;have hE:bW P E e.cells:=by simp[bW,ad,a9]
   have a5:∀ (W:Wit) (a:Act) (w:World) (g o' X I:Nat),ap P V W st a w->0<=n->n<X->a.eval x=.slice (some ⟨g,o',none⟩) X I ->
     (execOp a.eval o).run P w=.ok (.value (.pointer (some ⟨g,o'+n.toNat*e.cells,none⟩))) w:=by
    intro W a w g o' X I H h0 h1 M;have Y:=dH hE w;simp[execOp,a3,M,bK H hi,Gj,asIntOf,run_underlying hu,h0,h1,Y,fD]
   split at h
   ·rename_i r' j v O;split at h
    ·rename_i p hh E' e' xs a8;cases u:FJ e'.cells e.cells with
     |false=>simp[u]at h
     |true =>
      simp only[u]at h;have u:=FK u;obtain⟨y,hy,h⟩:=FS.1 h;obtain⟨Y,h3,h4⟩:=gT hy;split at h
      ·rename_i d hd;refine⟨_,h,λW a w H=>?_⟩;obtain⟨J,_,_,_⟩:=bA H x (by rw[O];simp);rw[O]at J;obtain⟨h8,h9,b1,b2⟩:=kX H a8 J;obtain⟨_,ay,az,ho,b3,_⟩:=h9;rcases ho.2 with ⟨hn,h0⟩|⟨g,a0,b0,_,M,_,_,_⟩
       ·omega
       ·refine aQ hV H hd Z (a5 W a w g 0 xs.length a0 H Y h3 M) ⟨by omega,λ_=>⟨g,xs.length,a0,by rw[h8,M],by omega,by simp[u]⟩⟩ id rfl
      ·grind
    ·grind
   ·rename_i p E' e' xs O;cases u:FJ e'.cells e.cells with
    |false=>simp[u]at h
    |true =>
     simp only[u]at h;have u:=FK u;obtain⟨y,hy,h⟩:=FS.1 h;obtain⟨Y,h3,h4⟩:=gT hy;split at h
     ·rename_i d hd;refine⟨_,h,λW a w H=>?_⟩;obtain⟨J,_,_,_⟩:=bA H x (by rw[O];simp);rw[O]at J;obtain⟨A,I,M,a6,a4⟩:=J;have M:a.eval x=.slice A xs.length I:=by simpa using M
      obtain⟨g,o',rfl,hg,a2⟩:=a4 (by omega);obtain⟨c,hc,a1⟩:=a2 n.toNat y h4;refine aQ hV H hd Z (a5 W a w g o' xs.length I H Y h3 M) ⟨g,o'+n.toNat*e'.cells,c,by rw[u];rfl,?_,hc,a1⟩ id rfl;rcases hg with hg|⟨_,hg⟩
      ·grind
      ·exact .inr (hV.ro g hg)
     ·grind
   ·rename_i p ks ep b5 E' e' xs O;cases u:FJ e'.cells e.cells&&bu st ks ep with
    |false=>simp[u]at h
    |true =>
     simp only[u]at h;simp only[FM]at u;obtain⟨u,aw⟩:=u;have u:=FK u;obtain⟨y,hy,h⟩:=FS.1 h;obtain⟨Y,h3,h4⟩:=gT hy;split at h
     ·rename_i d hd;refine⟨_,h,λW a w H=>?_⟩;obtain⟨J,_,_,_⟩:=bA H x (by rw[O];simp);rw[O]at J;have h8:=qC aw J;obtain⟨A,I,M,a6,a4⟩:=h8.rd;have M:a.eval x=.slice A xs.length I:=by simpa using M
      obtain⟨g,o',rfl,hg,a2⟩:=a4 (by omega);obtain⟨c,hc,a1⟩:=a2 n.toNat y h4;exact aQ hV H hd Z (a5 W a w g o' xs.length I H Y h3 M) ⟨J.1,J.2.1,λ_ _ _=>⟨g,o'+n.toNat*e'.cells,c,by rw[u];rfl,hg,hc,a1⟩⟩ id rfl
     ·grind
   ·grind
  |arr e X =>
   simp only[ht]at h;have h1:=hT t;rw[ht]at h1;obtain⟨⟨E,hu,hE,_⟩,_⟩:=h1;split at h
   ·rename_i b off O;cases u:decide (0<=n)&&decide (n<(X:Int)) with
    |false=>simp[u]at h
    |true =>
     simp only[u]at h;simp at u;split at h
     ·rename_i d hd;refine⟨_,h,λW a w H=>?_⟩;obtain⟨J,_,_,_⟩:=bA H x (by rw[O];simp);rw[O]at J;refine aQ hV H hd Z (v:=.pointer (some ⟨W.β b,off+n.toNat*e.cells,none⟩)) ?_ ⟨J.1,J.2.1,rfl⟩ id rfl;have Y:=dH hE w;simp[execOp,a3,J.2.2,bK H hi,Gj,GO,asIntOf,run_underlying hu,u.1,u.2,Y,fD]
     ·grind
   ·grind
  |_=>simp[ht]at h
 ·grind
theorem yj {t:TypeId}{i:TI}(u:pR P t i)(J:i.cells≠0\/i≠.none)(w:World):(isAgg t).run P w=.ok i.agg w:=by
 cases i with
 |none=>simp[TI.cells]at J
 |struct a I =>
  obtain⟨⟨M,H,_⟩,_⟩:=u;simp[isAgg,run_underlying H,TI.agg]
 |arr e n=>obtain⟨⟨E,H,_⟩,_⟩:=u;simp[isAgg,run_underlying H,TI.agg]
 |ptr=>obtain⟨⟨e,H⟩,_⟩:=u;simp[isAgg,run_underlying H,TI.agg]
 |fn=>obtain⟨⟨x,y,z,H⟩,_⟩:=u;simp[isAgg,run_underlying H,TI.agg]
 |int k=>simp[isAgg,run_underlying u.1,TI.agg]
 |bool=>simp[isAgg,run_underlying u.1,TI.agg]
 |str=>simp[isAgg,run_underlying u.1,TI.agg]
 |slice E e b=>simp[isAgg,run_underlying u.1,TI.agg]
theorem pT {t:TypeId}{i:TI}(u:pR P t i)(z:i≠.none):bW P t i.cells:=by
 cases i with
 |none=>exact absurd rfl z
 |struct a y=>exact u.2.1
 |arr e n=>exact u.2.2.1
 |ptr=>exact u.2.1
 |fn=>exact u.2.1
 |int k=>exact u.2.1
 |bool=>exact u.2.1
 |str=>exact u.2.1
 |slice E e b=>exact u.2.1
theorem nM {W:Wit}{a:Act}{w:World}(H:ap P V W st a w){e:Ty}:∀ (n:Nat) (ls:List Leaf) (cs:List Value) (xs:List e.den),aG P V W st w ls cs->gh st e n ls=some xs ->
  xs.length=n/\∀ (i:Nat) (x:e.den),xs[i]?=some x->∃ G,Rd w G e x ((cs.drop (i*e.cells)).take e.cells)
 |0,ls,cs,xs,_,h=>by
  simp only[gh]at h
  simp_all
 |n+1,ls,cs,xs,z,h=>by
  simp only[gh]at h;split at h
  ·rename_i p x Y I J;simp at h;subst h;obtain⟨M,O⟩:=nM H n _ _ _ (z.drop e.cells) J;refine⟨by simp[M],λi y u=>?_⟩;cases i with
   |zero =>
    simp at u;subst u;exact⟨_,by simpa using eX H (z.take e.cells) I⟩
   |succ i =>
    obtain⟨G,X⟩:=O i y (by simpa using u);rw[Gg]at X
    grind
  ·cases h
theorem yk (hV:aA V)(hT:TOk P T)(X:bU V o){t:TypeId}{x i:Operand}(M:o.op=.index t x i)(h:act Γ T o st κ=some r):cd P V o st κ r:=by
 simp only[act,wrU,M]at h;split at h
 ·rename_i k n hi;cases hs:T t with
  |str =>
   simp only[hs]at h;split at h
   ·rename_i s hx;obtain⟨y,hy,h⟩:=FS.1 h;split at h
    ·rename_i d hd;refine⟨_,h,λW a w I=>aQ hV I hd X (v:=.int .u8 (y.toNat:Int)) ?_ rfl id rfl⟩;have h1:=hT t;rw[hs]at h1;obtain⟨h2,h3,h4⟩:=gT hy;have h5:s[n.toNat]?=some y:=by
      have h6:=(FL.1 h4);obtain⟨h7,h8⟩:=h6;have h9:n.toNat<s.size:=by rw[Array.length_toList]at h7;exact h7
      rw[getElem?_pos s n.toNat h9];congr 1
     simp[execOp,M,bK I hi,jg I hx,Ge,asIntOf,run_underlying h1.1,h2,h5]
    ·grind
   ·grind
  |arr e Z =>
   simp only[hs]at h;have h1:=hT t;rw[hs]at h1;obtain⟨⟨E,hu,hE,O⟩,a4,_⟩:=h1;cases hb:e.flat&&decide ((au st x).1=.agg)&&FJ (au st x).2.length (Z*e.cells)&&!FJ e.cells 0 with
   |false=>simp[hb]at h
   |true =>
    simp only[hb]at h;simp only[FM,decide_eq_true_eq]at hb;obtain⟨⟨⟨hf,a2⟩,a3⟩,_⟩:=hb;split at h
    ·rename_i vs hg;obtain⟨y,hy,h⟩:=FS.1 h;split at h
     ·rename_i d hd;refine⟨_,h,λW a w I=>?_⟩;obtain⟨cs,H,hl⟩:=db I x;rw[a2]at H;have H:a.eval x=.agg cs.toArray:=H;obtain⟨h2,h3,h4⟩:=gT hy;obtain⟨h5,h6⟩:=nM I Z _ _ _ hl hg;obtain⟨G,h7⟩:=h6 n.toNat y h4;have h8:Rd w (λ_=>False) e y ((cs.drop (n.toNat*e.cells)).take e.cells):=Rd.flat hf h7;have h9:=h8.len;have J:(isAgg E).run P w=.ok e.isAgg w:=by
       cases Y:P.underlying E with
       |none=>simp[Y]at O
       |some u =>
        simp only[Y,Gf,FQ]at O;rw[<- O];cases u <;> simp[isAgg,run_underlying Y]
      have a1:=dH hE w;have hn:n<(Z:Int):=by omega
      cases z:e.isAgg with
      |true =>
       have:=el hV I hd X (v:=.agg ((cs.drop (n.toNat*e.cells)).take e.cells).toArray) (sh:=.agg) (ls:=cS false e y) ?_ rfl (fC (λ_ h=>h.elim) h8)
       ·exact this
       ·rw[z]at J;simp[execOp,M,bK I hi,H,Ge,asIntOf,run_underlying hu,h2,hn,part,J,a1]
      |false =>
       have a0:e.cells=1:=by cases e <;> first|rfl|simp[Ty.isAgg]at z
       rw[a0]at h8 h9
       match hc:(cs.drop (n.toNat*1)).take 1,h9 with
       |[v],_ =>
        rw[hc]at h8;have:=el hV I hd X (v:=v) (sh:=.one) (ls:=cS false e y) (cs:=[v]) ?_ rfl (fC (λ_ h=>h.elim) h8)
        ·exact this
        ·rw[z]at J;have hv:cs[n.toNat]?=some v:=by
          have:((cs.drop (n.toNat*1)).take 1)[0]?=some v:=by rw[hc];rfl
          grind
         simp[execOp,M,bK I hi,H,Ge,asIntOf,run_underlying hu,h2,hn,part,J,a1,a0,hv]
     ·grind
    ·grind
  |_=>simp[hs]at h
 ·grind
theorem pj {t:TypeId}{i:TI}(M:pR P t i)(O:i≠.none){w:World}{g off:Nat}{cs:List Value}(J:dg w g off cs)(y:cs.length=i.cells) :
  ∃ v,(loadVar t ⟨g,off,none⟩).run P w=.ok v w/\eK (bk i.agg) v cs:=by
 have z:=yj M (.inr O) w;cases I:i.agg with
 |true =>
  refine⟨.agg cs.toArray,?_,rfl⟩;have X:=dH (pT M O) w;have H:=run_loadCells_list (P:=P) w ⟨g,off,none⟩ cs (λj v Y=>by rw[fD];exact J j v Y);rw[y]at H;simp[loadVar,z,I,X,H]
 |false =>
  have u:i.cells=1:=by cases i <;> simp_all [TI.agg,TI.cells]
  rw[u]at y
  match cs,y with
  |[v],_ =>
   have:=J 0 v rfl;rw[Nat.add_zero]at this;exact⟨v,by simp[loadVar,z,I,this],rfl⟩
theorem dg.sub {w:World}{g off:Nat}{cs:List Value}(h:dg w g off cs)(k n:Nat):dg w g (off+k) ((cs.drop k).take n):=by
 intro i v u;rw[FY]at u;split at u
 ·rw[GC]at u;have:=h (k+i) v u
  grind
 ·cases u
theorem Mx.deep {w:World}{G G':Nat->Prop}:∀ {a:Ty} {h:Option Nat} {pos:Nat} {x:a.den} {cs:List Value} {bs:List Nat},a.shy=false->Mx w G a h pos x cs bs->Mx w G' a h pos x cs bs
 |.int _,_,_,_,_,_,_,h=>h
 |.bool,_,_,_,_,_,_,h=>h
 |.str,_,_,_,_,_,_,h=>h
 |.unit,_,_,_,_,_,_,h=>h
 |.hdr,_,_,_,_,_,_,h=>h
 |.pair _ _,_,_,_,_,_,u,⟨Z,c2,X,Y,I,e2,J,M⟩=>by
  simp only[Ty.shy,GP]at u;exact⟨Z,c2,X,Y,I,e2,Mx.deep u.1 J,Mx.deep u.2 M⟩
 |.list m E e,h,pos,xs,cs,bs,u,H=>by
  simp only[Ty.shy,GP,Bool.not_eq_false']at u;obtain⟨rfl,u⟩:=u;by_cases O:h=some pos
  ·subst O;rw[jJ]at H ⊢;exact H
  ·rw[bF O]at H ⊢;obtain⟨v,I,y,z,J,M,h3⟩:=H;refine⟨v,I,y,z,J,M,λj x hj=>?_⟩;obtain⟨c,h4,h5⟩:=h3 j x hj;exact⟨c,Mx.deep u h4,h5⟩
theorem OwB.shy {W:Wit}{w:World}{p:Bool}{h:Option (Nat×Nat)}{E:TypeId}{e:Ty}{xs:List e.den}{v:Value}{bs:List Nat}(H:OwB w (gd V W p) h E e xs v bs):OwB w (gd V W (p&&e.shy)) h E e xs v bs:=by
 cases Y:e.shy with
 |true=>simpa using H
 |false =>
  obtain⟨u,y,z,I,J⟩:=H;refine⟨u,y,z,I,λj x X=>?_⟩;obtain⟨c,M,O⟩:=J j x X;exact⟨c,Mx.deep Y M,O⟩
theorem jK (p:Bool)(r j v ep i u:Nat)(h:Option Nat):∀ (a:Ty) (off:Nat) (x:a.den),(ik p r j v ep i u h a off x).length=a.cells
 |.int _,_,_=>rfl
 |.bool,_,_=>rfl
 |.str,_,_=>rfl
 |.unit,_,_=>rfl
 |.hdr,_,_=>rfl
 |.pair a b,off,x=>by simp[ik,Ty.cells,jK p r j v ep i u h a,jK p r j v ep i u h b]
 |.list _ _ _,_,_=>rfl
theorem mN {W:Wit}{w:World}{p:Bool}{r j g len y i sz:Nat}(M:(W.cs r)[j]?=some (.slice (some ⟨g,0,none⟩) len y))(O:i<len)(hg:g∈W.bs r j){hol:Option Nat} :
  ∀ {a:Ty} {pos:Nat} {x:a.den} {cs:List Value} {bs:List Nat},(∀ k∈bs,k∈W.bs r j)->Mx w (gd V W p) a hol pos x cs bs->dg w g (i*sz+pos) cs->aG P V W st w (ik p r j (st r).ver (st EPO).ver i sz hol a pos x) cs
 |.int _,_,_,_,_,_,h,_=>by rw[h.1];exact⟨⟨rfl,id,rfl⟩,trivial⟩
 |.bool,_,_,_,_,_,h,_=>by rw[h.1];exact⟨⟨rfl,id,rfl⟩,trivial⟩
 |.str,_,_,_,_,_,h,_=>by rw[h.1];exact⟨⟨rfl,id,rfl⟩,trivial⟩
 |.unit,_,_,_,_,_,h,_=>by rw[h.1];trivial
 |.hdr,_,_,_,_,_,⟨⟨A,y,e⟩,_⟩,_=>by rw[e];exact⟨⟨⟨A,y,rfl⟩,id,rfl⟩,trivial⟩
 |.pair a b,pos,x,cs,bs,J,⟨c1,c2,b1,b2,e1,e2,Z,h2⟩,X=>by
  subst e1;have hl:=Z.len;refine aG.append (mN M O hg (λk z=>J k (by rw[e2];exact FP _ z)) Z λq u hu=>X q u ?_)
   (mN M O hg (λk z=>J k (by rw[e2];exact FO _ z)) h2 λq u hu=>?_)
  ·grind
  ·have:=X (a.cells+q) u (by rw[<- hl,F2 (by omega)];simpa using hu)
   grind
 |.list m E e,pos,xs,cs,bs,J,H,X=>by
  have I:=H.one;simp only[ik];by_cases hp:hol=some pos
  ·have Y:decide (hol=some pos)=true:=decide_eq_true hp;rw[Y];obtain⟨v,rfl,_⟩:=H;exact⟨⟨trivial,id,I v (by simp)⟩,trivial⟩
  ·have Y:decide (hol=some pos)=false:=decide_eq_false hp;rw[Y];cases m with
   |false =>
    rw[cF]at H;obtain⟨A,y,rfl,h2,h3⟩:=H.2;exact⟨⟨⟨A,y,rfl,h2,h3⟩,id,rfl⟩,trivial⟩
   |true =>
    rw[bF hp]at H;obtain⟨v,rfl,hO⟩:=H;have Z:=X 0 v rfl;refine⟨⟨⟨FR _,λk z=>?_,λ_ _ _=>⟨?_,λi' a3 a1 he=>?_⟩⟩,id,I v (by simp)⟩,trivial⟩
    ·grind
    ·obtain⟨a0,a2,h4,h5,h6⟩:=OwB.shy hO;refine tO h4 (λk z=>.inr ⟨_,F6 _,J k (by rw[h5];exact FP _ z)⟩) λq x hq=>?_
     obtain⟨c,h7,h8⟩:=h6 q x hq;exact⟨c,h7.rd (λk z=>.inl z) (λk z=>.inr ⟨_,F6 _,J k (by rw[h5];exact FO _ (ei.2 ⟨q,(FL.1 hq).1,z⟩))⟩),h8⟩
    ·grind
theorem kF {W:Wit}{w:World}{p:Bool}{ks:List (Nat×Nat×Nat)}{ep:Nat}(y:ep<=(st EPO).ver)(z:∀ k∈ks,k.2.2<=(st k.1).ver) :
  ∀ {a:Ty} {x:a.den} {cs:List Value},Rd w (λb=>gd V W p b\/∃ k∈ks,b∈W.bs k.1 k.2.1) a x cs->aG P V W st w (l9 p ks ep a x) cs
 |.int _,_,_,h=>by rw[show _=_ from h];exact⟨⟨rfl,id,rfl⟩,trivial⟩
 |.bool,_,_,h=>by rw[show _=_ from h];exact⟨⟨rfl,id,rfl⟩,trivial⟩
 |.str,_,_,h=>by rw[show _=_ from h];exact⟨⟨rfl,id,rfl⟩,trivial⟩
 |.unit,_,_,h=>by rw[show _=_ from h];trivial
 |.hdr,_,_,⟨A,u,e⟩=>by rw[e];exact⟨⟨⟨A,u,rfl⟩,id,rfl⟩,trivial⟩
 |.pair _ _,_,_,⟨O,X,e,I,H⟩=>by rw[e];exact (kF y z I).append (kF y z H)
 |.list m E e,Z,_,h=>by
  obtain⟨A,u,rfl,H,J⟩:=h;exact⟨⟨⟨y,z,λ_ _ _=>⟨⟨A,u,rfl,H,J⟩,λi Y off M=>by cases M⟩⟩,id,rfl⟩,trivial⟩
theorem Bn {W:Wit}{a:Act}{w:World}(hr:ap P V W st a w){r j n g len I i:Nat}{p:Bool}{hh:Option (Nat×Nat)}{E:TypeId}{e:Ty}{xs:List e.den}{y:e.den}(h8:(st r).ver=n)(h9:(st r).ls[j]?=some (.own p hh E e xs))
  (H:(W.cs r)[j]?=some (.slice (some ⟨g,0,none⟩) len I)) (O:i<len) (hy:xs[i]?=some y) :
  ∃ c,dg w g (i*e.cells) c/\aG P V W st w (ik p r j n (st EPO).ver i e.cells (c9 hh i) e 0 y) c:=by
 subst h8;obtain⟨_,Y,a1,ho,J,M⟩:=hr.leaf r j _ _ h9 H;obtain⟨c,Z,h2⟩:=M i y hy;have a0:=Z.len;have hi:i<xs.length:=(FL.1 hy).1;have z:len=xs.length:=by
  obtain⟨A,X,e0,_⟩:=ho.slice
  simp_all
 subst z;have hc:dg w g (i*e.cells) c:=by
  intro q u hu;have hq:=(FL.1 hu).1;rw[ho.cellAt _ (by
   have:i*e.cells+e.cells<=xs.length*e.cells:=by
    have:=Nat.mul_le_mul_right e.cells (show i+1<=xs.length from hi)
    grind
   omega)]
  grind
 refine⟨c,hc,mN H O (by rw[J];simp[F7]) (λk hk=>?_) Z hc⟩
 grind
theorem zR (hV:aA V)(hT:TOk P T)(a8:bU V o){t:TypeId}{x:Operand}(a4:o.op=.load t x)(h:act Γ T o st κ=some r):cd P V o st κ r:=by
 simp only[act,wrU,a4,mF]at h;have ad:=hT t;have a0:∀ (W:Wit) (a:Act) (w:World) (g off:Nat) (cs:List Value) (ls:List Leaf) (d:Nat),ap P V W st a w->o.dst=some d->T t≠.none->a.eval x=.pointer (some ⟨g,off,none⟩)->dg w g off cs ->
   cs.length=(T t).cells->aG P V W st w ls cs->nK P V o st (cB st [] d (bk (T t).agg) ls) a w:=by
  intro W a w g off cs ls d z Y hn O X hl a1;obtain⟨v,h1,h2⟩:=pj ad hn X hl;exact el hV z Y a8 (v:=v) (by simp[execOp,a4,O,Instr.loadAt,GO,h1]) h2 a1
 cases M:decide ((T t).cells=0) with
 |true=>simp[M]at h
 |false =>
  simp only[M]at h;have M:(T t).cells≠0:=of_decide_eq_false M;have Z:T t≠.none:=by intro e;rw[e]at M;exact M rfl
  split at h
  ·rename_i p b y off J;cases u:decide (off+(T t).cells<=b.cells) with
   |false=>simp[u]at h
   |true =>
    simp only[u]at h;split at h
    ·rename_i d Y;refine⟨_,h,λW a w z=>?_⟩;obtain⟨H,_,_,_⟩:=bA z x (by rw[J];simp);rw[J]at H;obtain⟨g,og,c,O,hg,I,X⟩:=H;refine a0 W a w g _ ((c.drop off).take (T t).cells) _ d z Y Z O (X.sub off _) ?_ (((fC (λ_ h=>h) I).drop off).take _);have:=I.len
     grind
    ·grind
  ·rename_i b off J;cases u:decide ((st b).sh=.agg)&&decide (off+(T t).cells<=(st b).ls.length) with
   |false=>simp[u]at h
   |true =>
    simp only[u]at h;split at h
    ·rename_i d Y;refine⟨_,h,λW a w z=>?_⟩;obtain⟨H,_,_,_⟩:=bA z x (by rw[J];simp);rw[J]at H;obtain⟨hB,az,O⟩:=H;rcases z.boxes b hB with ⟨h8,_⟩|⟨_,E,h8⟩
     ·grind
     ·have X:dg w (W.β b) 0 (W.cs b):=λi v O=>by
       rw[GX,cell_of_row w (W.β b) i _ E (0,0) h8]
       simp_all
      have aw:=z.len b;have a3:=X.sub off (T t).cells;rw[GX]at a3;refine a0 W a w (W.β b) off _ _ d z Y Z O a3 ?_ (((jf z b).drop off).take _)
      grind
    ·grind
  ·rename_i p b y J;cases u:FJ (T t).cells 1&&!(T t).agg with
   |false=>simp[u]at h
   |true =>
    simp only[u]at h;simp only[FM,GF]at u;split at h
    ·rename_i d Y;refine⟨_,h,λW a w z=>?_⟩;obtain⟨H,_,_,_⟩:=bA z x (by rw[J];simp);rw[J]at H;obtain⟨q,oq,g,og,c,O,_,a2,hg,I,X⟩:=H;have:=a0 W a w q oq [.pointer (some ⟨g,og,none⟩)] [.rp p b y 0] d z Y Z O (λi v hi=>by
      cases i with
      |zero=>simp at hi;subst hi;exact a2
      |succ i=>simp at hi) (by simp[FK u.1]) ⟨⟨⟨g,og,c,rfl,hg,I,X⟩,id,rfl⟩,trivial⟩
     rw[u.2]at this;exact this
    ·grind
  ·rename_i p ks ep b y off J;cases u:bu st ks ep&&decide (off+(T t).cells<=b.cells) with
   |false=>simp[u]at h
   |true =>
    simp only[u]at h;simp at u;split at h
    ·rename_i d Y;refine⟨_,h,λW a w z=>?_⟩;obtain⟨H,_,_,_⟩:=bA z x (by rw[J];simp);rw[J]at H;have h8:NpOk V W w p ks b y off _:=H.2.2 (cN u.1).1 (cN u.1).2.1 (cN u.1).2.2;obtain⟨g,og,c,O,hg,I,X⟩:=h8.rd;refine a0 W a w g _ ((c.drop off).take (T t).cells) _ d z Y Z O (X.sub off _) ?_ (((kF H.1 H.2.1 I).drop off).take _);have:=I.len
     grind
    ·grind
  ·rename_i r' j v i sz off J;split at h
   ·rename_i p hh E e xs a6;cases u:FJ sz e.cells&&decide (off+(T t).cells<=e.cells) with
    |false=>simp[u]at h
    |true =>
     simp only[u]at h;simp only[FM]at u;have a9:=FK u.1;subst a9;obtain⟨y,hy,h⟩:=FS.1 h;obtain⟨_,_,h4⟩:=gT hy;split at h
     ·rename_i d Y;refine⟨_,h,λW a w z=>?_⟩;obtain⟨H,_,_,_⟩:=bA z x (by rw[J];simp);rw[J]at H;obtain⟨h8,h9⟩:=fH a6 (by simp);obtain⟨g,b0,ay,a5,a7,O⟩:=H.2 h8;obtain⟨c,X,a1⟩:=Bn z h8 h9 a5 a7 h4;refine a0 W a w g _ _ _ d z Y Z O (X.sub off _) ?_ ((a1.drop off).take _);have:=a1.length;rw[jK]at this
      grind
     ·grind
   ·grind
  ·grind
end
section
variable {P:Program} {V:Env} {Γ:List Ctr} {T:TypeId->TI} {st:St} {o:Oper} {R:Type} {κ:Upd->Option R} {r:R}
theorem yl (hV:aA V)(hT:TOk P T)(X:bU V o){t:TypeId}{x:Operand}{f:Nat}(J:o.op=.field t x f)(h:act Γ T o st κ=some r):cd P V o st κ r:=by
 simp only[act,wrU,J]at h;cases ht:T t with
 |struct b a2 =>
  simp only[ht]at h;split at h
  ·rename_i off n agg hf;have h1:=hT t;rw[ht]at h1;obtain⟨⟨fs,hu,_,a0⟩,_⟩:=h1;obtain⟨I,Y,h2,h3,h4,h5,h6,Z⟩:=a0 f off n agg hf;cases M:decide ((au st x).1=.agg)&&decide ((au st x).2.length=b.cells) with
   |false=>simp[M]at h
   |true =>
    simp only[M,cond_true]at h;simp only[FM,decide_eq_true_eq]at M;split at h
    ·rename_i d hd;refine⟨_,h,λW a w hr=>?_⟩;obtain⟨u,hs,hl⟩:=db hr x;rw[M.1]at hs;have O:=hl.length;rw[M.2]at O;have y:(isAgg Y.type).run P w=.ok agg w:=by
      unfold isAgg;cases H:P.underlying Y.type with
      |none=>simp[H]at Z
      |some dd =>
       rw[H]at Z;simp only[Gf,FQ]at Z;subst Z;rw[FZ,run_underlying H w];cases dd <;> rfl
     have a1:=dH h6 w;cases agg with
     |true =>
      refine el hV hr hd X (v:=.agg ((u.drop off).take n).toArray) ?_ rfl ((hl.drop off).take n);have e:u.toArray.extract off (off+n)=((u.drop off).take n).toArray:=by
       rw[List.extract_toArray,List.extract_eq_take_drop,Nat.add_sub_cancel_left]
      have hp:(part Y.type u.toArray off).run P w=.ok (.agg ((u.drop off).take n).toArray) w:=by
       simp only[part,FZ,y,FV,if_true,a1,F3,e]
      simp only[execOp,J,show a.eval x=_ from hs,Gn,FZ,run_underlying hu,FV,h2,asAgg,F3,h3,hp]
     |false =>
      have I:=I rfl;subst I;have z:off<u.length:=by omega
      have hv:((u.drop off).take 1)=[u[off]]:=by
       rw[List.take_one,List.head?_drop,FN z];rfl
      refine el hV hr hd X (v:=u[off]) ?_ (show eK .one _ ((u.drop off).take 1) from hv) ((hl.drop off).take 1);have e:u.toArray[off]?=some u[off]:=by simp[z]
      have hp:(part Y.type u.toArray off).run P w=.ok u[off] w:=by
       simp only[part,FZ,y,FV,Bool.false_eq_true,if_false,e,F3]
      simp only[execOp,J,show a.eval x=_ from hs,Gn,FZ,run_underlying hu,FV,h2,asAgg,F3,h3,hp]
    ·cases h
  ·cases h
 |_=>simp[ht]at h
theorem Cl {α:Type}(u y:List α)(off:Nat)(h:off+y.length<=u.length):(u.take off++y++u.drop (off+y.length)).length=u.length:=by
 simp;omega
theorem lL (cs c:List Value)(off:Nat)(h:off+c.length<=cs.length) :
  (c.zipIdx 0).foldl (λcs (x:Value×Nat)=>cs.setIfInBounds (off+x.2) x.1) cs.toArray=(cs.take off++c++cs.drop (off+c.length)).toArray:=by
 obtain⟨H,z⟩:=Great.foldl_set off c 0 cs.toArray;apply Array.ext_getElem?;intro k;rw[z k];simp only[Nat.add_zero,List.size_toArray,List.getElem?_toArray];by_cases y:off<=k/\k<off+c.length/\k<cs.length
 ·rw[if_pos y,F8,F2 (by simp;omega),GD (by simp;omega)];congr 1;simp;omega
 ·rw[if_neg y];by_cases u:k<off
  ·rw[F8,GD (by simp;omega),FY,if_pos u]
  ·rw[F2 (by simp;omega),GC];congr 1;simp;omega
theorem iC {agg:Bool}{v:Value}{cs:List Value}(h:eK (bk agg) v cs)(y:∀ u∈cs,u.oneCell'=true):v.cells=cs.toArray:=by
 cases agg with
 |true=>rw[show v=_ from h];rfl
 |false =>
  have h:cs=[v]:=h;subst h;have:=y v (GW.2 rfl);cases v <;> first|rfl|simp[FT]at this
theorem mO {W:Wit}{a:Act}{w:World}(hr:ap P V W st a w){z:List (Nat×Nat×Bool)}{pl:Nat->Option (Nat×Nat)}(O:∀ (i off n:Nat) (agg:Bool),z[i]?=some (off,n,agg)->pl i=some (off,n)):∀ (ps:List (Nat×Operand)) (ls u:List Leaf) (cs:List Value),
  aG P V W st w ls cs->fO st z ps ls=some u ->
  ∃ y,aG P V W st w u y/\Instr.fill pl cs.toArray (ps.map λx=>(x.1,a.eval x.2))=some y.toArray
 |[],ls,u,cs,M,h=>by
  simp[fO]at h;subst h;exact⟨cs,M,rfl⟩
 |(i,x)::ps,ls,u,cs,M,h=>by
  simp only[fO]at h;split at h
  ·rename_i off n agg hf;cases X:FJ (au st x).2.length n&&decide ((au st x).1=bk agg)&&decide (off+n<=ls.length) with
   |false=>simp[X]at h
   |true =>
    simp only[X,cond_true]at h;simp only[FM,decide_eq_true_eq]at X;obtain⟨⟨J,Y⟩,a2⟩:=X;have J:=FK J;obtain⟨c,hs,H⟩:=db hr x;rw[Y]at hs;have hc:=iC hs H.one';have a1:=M.length;have I:=H.length;have a0:aG P V W st w (kf ls (au st x).2 off) (cs.take off++c++cs.drop (off+c.length)):=by
     unfold kf;rw[I];exact ((M.take off).append H).append (M.drop _)
    obtain⟨y,h1,h2⟩:=mO hr O ps _ u _ a0 h;refine⟨y,h1,?_⟩;simp only[Gi,Instr.fill];have Z:pl i=some (off,n):=O _ _ _ _ hf;have a3:c.toArray.size=n:=by simp;omega
    simp only[Z,hc];rw[if_neg (by simp;omega)];have e:c.toArray.zipIdx.foldl (λcs (x:Value×Nat)=>cs.setIfInBounds (off+x.2) x.1) cs.toArray=(c.zipIdx 0).foldl (λcs (x:Value×Nat)=>cs.setIfInBounds (off+x.2) x.1) cs.toArray:=by
     rw[<- Array.foldl_toList];simp
    have e2:=lL cs c off (by omega);rw[<- e2,<- e]at h2;exact h2
  ·cases h
theorem mi {W:Wit}{w:World}:∀ (b:Ty),aG P V W st w (fy b) (zeroCells b)
 |.int _=>⟨⟨rfl,id,rfl⟩,trivial⟩
 |.bool=>⟨⟨rfl,id,rfl⟩,trivial⟩
 |.str=>⟨⟨rfl,id,rfl⟩,trivial⟩
 |.unit=>trivial
 |.pair a b=>(mi a).append (mi b)
 |.hdr=>⟨⟨rfl,id,rfl⟩,trivial⟩
 |.list _ _ _=>⟨⟨rfl,id,rfl⟩,trivial⟩
theorem pU {W:Wit}{w:World}(e:Ty):∀ (n:Nat),aG P V W st w (F0 n (fy e)).flatten (F0 n (zeroCells e)).flatten
 |0=>trivial
 |n+1=>by
  rw[GS,GS,GZ,GZ];exact (mi e).append (pU e n)
theorem ym (hV:aA V)(hT:TOk P T)(a0:bU V o){t:TypeId}{u:Array (Nat×Operand)}(O:o.op=.build t u)(h:act Γ T o st κ=some r):cd P V o st κ r:=by
 simp only[act,wrU,O]at h;cases ht:T t with
 |struct b X =>
  simp only[ht]at h;split at h
  ·rename_i ls M;split at h
   ·rename_i d hd;refine⟨_,h,λW a w hr=>?_⟩;have Y:=hT t;rw[ht]at Y;obtain⟨⟨fs,hu,a1,_⟩,_,H,_⟩:=Y;obtain⟨z,h2,h3⟩:=mO hr (pl:=((X.map λx=>(x.1,x.2.1)).toArray[·]?)) (λi off n agg I=>by simp[I]) u.toList _ ls _ (mi b) M;refine el hV hr hd a0 (v:=.agg z.toArray) ?_ rfl h2;have y:P.built t (u.map λ (i,x)=>(i,a.eval x)).toList=some z.toArray:=by
     unfold ez at H;unfold Gk;cases Z:P.info? t with
     |none=>simp[Z]at H
     |some ti =>
      simp[Z]at H;simp only[hu,H,a1];rw[GL];exact h3
    simp[execOp,O,run_build w t _ _ y]
   ·cases h
  ·cases h
 |arr e n =>
  simp only[ht]at h;split at h
  ·rename_i ls M;split at h
   ·rename_i d hd;refine⟨_,h,λW a w hr=>?_⟩;have Y:=hT t;rw[ht]at Y;obtain⟨⟨E,hu,hE,_⟩,_,_,H⟩:=Y;obtain⟨z,h2,h3⟩:=mO hr (pl:=λi=>some (i*e.cells,e.cells)) (λi off n agg I=>by
     rw[GY]at I;obtain⟨j,hj,I⟩:=FX.1 I;rw[List.getElem?_range (by simpa using (FL.1 hj).1)]at hj;simp only[FQ]at hj;subst hj;simp only[Gh]at I;simp[<- I.1,<- I.2.1]) u.toList _ ls _ (pU e n) M
    refine el hV hr hd a0 (v:=.agg z.toArray) ?_ rfl h2;have y:P.built t (u.map λ (i,x)=>(i,a.eval x)).toList=some z.toArray:=by
     unfold ez at H;unfold bW at hE;unfold Gk;cases Z:P.info? t with
     |none=>simp[Z]at H
     |some ti =>
      simp[Z]at H;cases J:P.info? E with
      |none=>simp[J]at hE
      |some ie =>
       simp[J]at hE;simp only[hu,H,J,hE];rw[GL];exact h3
    simp[execOp,O,run_build w t _ _ y]
   ·cases h
  ·cases h
 |_=>simp[ht]at h
theorem nN {W:Wit}{a:Act}{w:World}(H:ap P V W st a w){x:Option Operand}{u n:Int}(h:dx st x u=some n) :
  (x=none/\n=u)\/∃ y k,x=some y/\a.eval y=.int k n:=by
 unfold dx at h;split at h
 ·simp at h;exact .inl ⟨rfl,h.symm⟩
 ·split at h
  ·rename_i l k m z;simp at h;subst h;exact .inr ⟨_,k,rfl,bK H z⟩
  ·cases h
theorem kG (u:Bool)(len y:Nat)(a0:len<=y)(X I:Option Value)(i h:Int)(J:0<=i)(M:i<=h)(hh:h<=len)(O:(X=none/\i=0)\/∃ k,X=some (.int k i))
  (H:(I=none/\h=len)\/∃ k,I=some (.int k h)) (w:World):(Ga u len y X I none).run P w=.ok (i.toNat,h.toNat,y) w:=by
 have Y:0<=h:=by omega
 have Z:h<=(y:Int):=by omega
 have z:i<=((h.toNat:Nat):Int):=by omega
 rcases O with ⟨rfl,rfl⟩|⟨k,rfl⟩ <;> rcases H with ⟨rfl,rfl⟩|⟨k',rfl⟩ <;>
  simp[Ga,Instr.sliceBound,asIntOf,J,Y,Z,z,M,-Int.ofNat_toNat]
theorem j9 (O:aA V){W:Wit}{a:Act}{w:World}(I:ap P V W st a w){x:Operand}{l:Leaf}(y:aH st (one st x)=l)(X:l≠.dead)(H:¬ ao l):aM P V W st w [] l (a.eval x):=by
 have z:one st x≠.dead:=by intro e;rw[e]at y;exact X y.symm
 obtain⟨J,M,_⟩:=bA I x z;rcases mM O I J M with ⟨_,_,_,_,u,_⟩|⟨_,u⟩
 ·rw[y]at u;exact absurd u H
 ·rw[y]at u;exact u
theorem yn (M:aA V){W:Wit}{a:Act}{w:World}(O:ap P V W st a w){x:Operand}{p:Bool}{ks:List (Nat×Nat×Nat)}{ep:Nat}{y:Option (Nat×Nat×Nat)}{E:TypeId}{e:Ty}{xs:List e.den}
  (u:aH st (one st x)=.nal p ks ep y E e xs):aM P V W st w [] (.nal p ks ep y E e xs) (a.eval x)/\bu st ks ep=true:=by
 refine⟨j9 M O u (by simp) (by simp[ao]),?_⟩;generalize one st x=l at u;cases l with
 |nal p' I z J Y Z X =>
  simp only[aH]at u;cases H:bu st I z with
  |false=>simp[H]at u
  |true =>
   simp only[H,cond_true]at u;cases u;exact H
 |al r j n=>exact absurd u jv
 |_=>simp[aH]at u
theorem vz (hV:aA V){W:Wit}{a:Act}{w:World}(J:ap P V W st a w){x:Operand}{p:Bool}{I:Option (Nat×Nat)}{E:TypeId}{e:Ty}{xs:List e.den}(u:aH st (one st x)=.own p I E e xs) :
  ∃ r i n,one st x=.al r i n/\(st r).ls[i]?=some (.own p I E e xs)/\OwH w (gd V W p) I E e xs (a.eval x) (W.bs r i)/\(W.cs r)[i]?=some (a.eval x)/\(st r).ver=n:=by
 have H:one st x≠.dead:=by intro e;rw[e]at u;cases u
 obtain⟨z,O,_⟩:=bA J x H;rcases mM hV J z O with ⟨r,i,n,M,_,_,_⟩|⟨y,_⟩
 ·rw[M]at u z;obtain⟨y,X,Y,Z⟩:=kX J u z;exact⟨r,i,n,M,Y,X,y,Z⟩
 ·rw[u]at y;exact absurd trivial y
theorem goes_frz (H:aA V){W:Wit}{a:Act}{w:World}(h:ap P V W st a w){d:Nat}(z:o.dst=some d)(u:bU V o)(ks:List (Nat×Nat)){v:Value}{sh:aK}{ls:List Leaf}{cs:List Value}
  (y:(execOp a.eval o).run P w=.ok (.value v) w) (M:eK sh v cs) (I:aG P V (W.frz st ks) (ac (aI st ks) st) w ls cs):nK P V o st (cB st (aI st ks) d sh ls) a w:=by
 intro next Q J;refine ek y ?_;rw[z];refine J _ _ ?_;rw[cB,aR];exact (mg H ks h).1.putLs H d (u d z).1 (u d z).2 _ sh ls v cs (GK _) M I
theorem dg.shift {w:World}{g o:Nat}{c:List Value}{k s j:Nat}(h:dg w g (o+(k+j)*s) c):dg w g (o+k*s+j*s) c:=by
 rwa [GI,<- Nat.add_mul]
theorem Rd.cut {w:World}{G:Nat->Prop}{E:TypeId}{e:Ty}{xs:List e.den}{A:Option Addr}{u:Nat}(h:Rd w G (.list false E e) xs [.slice A xs.length u])(i n:Nat)(X:i<=n)(hn:n<=xs.length) :
  Rd w G (.list false E e) ((xs.take n).drop i) [.slice (if u=i then A else A.map (·.add (i*e.cells))) (n-i) (u-i)]:=by
 obtain⟨A',J,M,hc,hx⟩:=h;simp at M;obtain⟨rfl,rfl⟩:=M;have I:((xs.take n).drop i).length=n-i:=by simp;omega
 refine⟨_,u-i,by rw[I],by rw[I];omega,λY=>?_⟩;rw[I]at Y;obtain⟨g,o,rfl,O,H⟩:=hx (by omega);refine⟨g,o+i*e.cells,?_,O,λj x y=>?_⟩
 ·rw[if_neg (by omega)];simp[fD]
 ·rw[GC,FY]at y;split at y
  ·obtain⟨c,Z,z⟩:=H (i+j) x y;exact⟨c,Z,z.shift⟩
  ·cases y
theorem wV (hV:aA V)(hT:TOk P T)(a7:bU V o){t:TypeId}{x:Operand}{lo hi:Option Operand}(a3:o.op=.slice t x lo hi none)(h:act Γ T o st κ=some r):cd P V o st κ r:=by
 simp only[act,wrU,a3]at h;cases hd:o.dst with
 |none=>simp[hd]at h
 |some d =>
  simp only[hd]at h;split at h
  ·cases h
  ·rename_i i a6;have h1:=hT t;have Y:∀ (W:Wit) (a:Act) (w:World) (y:Option Operand) (a2 n:Int),ap P V W st a w->dx st y a2=some n->(y.map a.eval=none/\n=a2)\/∃ k,y.map a.eval=some (.int k n):=by
    intro W a w y a2 n O H;rcases nN O H with ⟨rfl,rfl⟩|⟨z,k,rfl,hz⟩
    ·exact .inl ⟨rfl,rfl⟩
    ·exact .inr ⟨k,by simp[hz]⟩
   split at h
   ·rename_i s ht hx;rw[ht]at h1;split at h
    ·rename_i n Z;cases H:decide (0<=i)&&decide (i<=n)&&decide (n<=(s.size:Int)) with
     |false=>simp[H]at h
     |true =>
      simp only[H,cond_true]at h;simp only[FM,decide_eq_true_eq]at H;refine⟨_,h,λW a w O=>aQ hV O hd a7 (v:=.string (s.extract i.toNat n.toNat)) ?_ rfl id rfl⟩;have M:=kG (P:=P) false s.size s.size (FR _) (lo.map a.eval) (hi.map a.eval) i n H.1.1 H.1.2 H.2 (Y W a w lo 0 i O a6) (Y W a w hi _ n O Z) w;have az:a.eval x=.string s:=(j9 hV O hx (by simp) (by simp[ao]));simp[execOp,a3,az,GJ,GQ,run_underlying h1.1,M]
    ·cases h
   ·rename_i E' e' a1 p ks ep b0 E e xs ht hx;rw[ht]at h1;obtain⟨hu,_,_,_,_,ti,z,a5,a4,_⟩:=h1;split at h
    ·rename_i n Z;cases H:decide (0<=i)&&decide (i<=n)&&decide (n<=(xs.length:Int))&&FJ e'.cells e.cells with
     |false=>simp[H]at h
     |true =>
      simp only[H,cond_true]at h;simp only[FM,decide_eq_true_eq]at H;obtain⟨H,I⟩:=H;have I:=FK I;refine⟨_,h,λW a w O=>?_⟩;obtain⟨hl,ay⟩:=yn hV O hx;have h8:=qC ay hl;obtain⟨A,u,hv,J,a0⟩:=h8.rd;have hv:a.eval x=.slice A xs.length u:=by simpa using hv
      have M:=kG (P:=P) true xs.length u J (lo.map a.eval) (hi.map a.eval) i n H.1.1 H.1.2 H.2 (Y W a w lo 0 i O a6) (Y W a w hi _ n O Z) w;have hE:=dH (P:=P) (t:=E') (n:=e.cells) (by simp[bW,a5,a4,I]) w;have X:=Rd.cut (E:=E) (⟨A,u,rfl,J,a0⟩:Rd w _ (.list false E e) xs [.slice A xs.length u]) i.toNat n.toNat (by omega) (by omega);refine aQ hV O hd a7 (v:=.slice (if u=i.toNat then A else A.map (·.add (i.toNat*e.cells))) (n.toNat-i.toNat) (u-i.toNat)) ?_ ⟨hl.1,hl.2.1,λ_ _ _=>⟨X,λi' sz off he=>by cases he⟩⟩ id rfl;simp only[execOp,a3,hv,GJ,GQ,FZ,run_underlying hu,FV,GM,M,hE,F3]
    ·cases h
   ·rename_i E' e' a1 p E e xs ht hx;rw[ht]at h1;obtain⟨hu,_,_,_,_,ti,z,a5,a4,_⟩:=h1;split at h
    ·rename_i n Z;cases H:decide (0<=i)&&decide (i<=n)&&decide (n<=(xs.length:Int))&&FJ e'.cells e.cells with
     |false=>simp[H]at h
     |true =>
      simp only[H,cond_true]at h;simp only[FM,decide_eq_true_eq]at H;obtain⟨H,I⟩:=H;have I:=FK I;refine⟨_,h,λW a w O=>?_⟩;have hl:=j9 hV O hx (by simp) (by simp[ao]);obtain⟨A,u,hv,J,a0⟩:=hl;have hv:a.eval x=.slice A xs.length u:=by simpa using hv
      have M:=kG (P:=P) true xs.length u J (lo.map a.eval) (hi.map a.eval) i n H.1.1 H.1.2 H.2 (Y W a w lo 0 i O a6) (Y W a w hi _ n O Z) w;have hE:=dH (P:=P) (t:=E') (n:=e.cells) (by simp[bW,a5,a4,I]) w;have X:=Rd.cut (E:=E) (⟨A,u,rfl,J,a0⟩:Rd w (gd V W p) (.list false E e) xs [.slice A xs.length u]) i.toNat n.toNat (by omega) (by omega);refine aQ hV O hd a7 (v:=.slice (if u=i.toNat then A else A.map (·.add (i.toNat*e.cells))) (n.toNat-i.toNat) (u-i.toNat)) ?_ X id rfl;simp only[execOp,a3,hv,GJ,GQ,FZ,run_underlying hu,FV,GM,M,hE,F3]
    ·cases h
   ·rename_i E' e' a1 p E e xs ht hx;rw[ht]at h1;obtain⟨hu,_,_,_,_,ti,z,a5,a4,_⟩:=h1;split at h
    ·rename_i n Z;cases H:decide (0<=i)&&decide (i<=n)&&decide (n<=(xs.length:Int))&&FJ e'.cells e.cells with
     |false=>simp[H]at h
     |true =>
      simp only[H,cond_true]at h;simp only[FM,decide_eq_true_eq]at H;obtain⟨H,I⟩:=H;have I:=FK I;split at h
      ·rename_i r' j n' e1;refine⟨_,h,λW a w O=>?_⟩;obtain⟨r1,j1,n1,a8,h2,a9,_,aw⟩:=vz hV O hx;rw[e1]at a8;obtain⟨rfl,rfl,rfl⟩:r'=r1/\j=j1/\n'=n1:=by cases a8;exact⟨rfl,rfl,rfl⟩
       obtain⟨A,u,hv,J⟩:=a9.slice;have M:=kG (P:=P) true xs.length u J (lo.map a.eval) (hi.map a.eval) i n H.1.1 H.1.2 H.2 (Y W a w lo 0 i O a6) (Y W a w hi _ n O Z) w;have hE:=dH (P:=P) (t:=E') (n:=e.cells) (by simp[bW,a5,a4,I]) w;have ad:=OwH.rd (m:=false) (E':=E) a9;rw[hv]at ad;have X:=Rd.cut ad i.toNat n.toNat (by omega) (by omega);refine aQ hV O hd a7 (v:=.slice (if u=i.toNat then A else A.map (·.add (i.toNat*e.cells))) (n.toNat-i.toNat) (u-i.toNat)) ?_
        ⟨FR _,λk hk=>?_,λ_ _ _=>⟨Rd.mono (λk hk=>?_) X,λi' sz off he=>by cases he⟩⟩ id rfl
       ·simp only[execOp,a3,hv,GJ,GQ,FZ,run_underlying hu,FV,GM,M,hE,F3]
       ·simp only[GW]at hk;subst hk;exact Nat.le_of_eq aw.symm
       ·rcases hk with hk|hk
        ·exact .inl hk
        ·exact .inr ⟨_,F6 _,hk⟩
      ·cases h
    ·cases h
   ·cases h
theorem Bo (hV:aA V)(hT:TOk P T)(I:bU V o){c:Call}(J:o.op=.call c)(hc:c.callee=.builtin .len)(h:act Γ T o st κ=some r):cd P V o st κ r:=by
 simp only[act,wrU,J,hc]at h;split at h
 ·cases h
 ·rename_i d hd;simp only[hd]at h;split at h
  ·rename_i x hx;split at h
   ·rename_i t ht;have u:c.args=#[x]:=by rw[<- GR (xs:=c.args),hx]
    have M:c.argTypes=#[t]:=by rw[<- GR (xs:=c.argTypes),ht]
    have Y:=hT t;have X:∀ (a:Act) (w:World) (n:Int),(Gb #[t] o.type #[a.eval x]).run P w=.ok (.int .i64 n) w->(execOp a.eval o).run P w=.ok (.value (.int .i64 n)) w:=by
     intro a w n H;simp[execOp,J,hc,resolve,invoke,builtin,u,M,H]
    split at h
    ·rename_i E e b y;rw[y]at Y;split at h
     ·rename_i n H;refine⟨_,h,λW a w z=>aQ hV z hd I (X a w _ ?_) rfl id rfl⟩;have a0:one st x≠.dead:=by intro e;rw[e]at H;simp[aH,gK]at H
      obtain⟨h2,h3,_⟩:=bA z x a0;obtain⟨A,Z,O⟩:=yf z h2 h3 H;have O:a.eval x=.slice A n Z:=by simpa using O
      simp[Gb,run_underlying Y.1,O,goInt]
     ·cases h
    ·rename_i s y a1;rw[y]at Y;refine⟨_,h,λW a w z=>aQ hV z hd I (X a w _ ?_) rfl id rfl⟩;have O:a.eval x=.string s:=j9 hV z a1 (by simp) (by simp[ao]);simp[Gb,run_underlying Y.1,O,goInt]
    ·cases h
   ·cases h
  ·cases h
end
end Go.Proofs.YtmibehbhnkeaiaaGreatEv
