/- The value evaluator, second form: what a Go function's code computes, on plain values. No proof here but definitions. -/
import Derived.Calls
import Derived.Orders
import Derived.KernelRfl
import Derived.Below
import Derived.Maps.AppendAt
import Derived.Laws.OwnMore
import Derived.Lib.ConvBytes
import Derived.WalkKit
import Derived.Great.BuildSlice
set_option linter.unusedVariables false
set_option linter.unusedSimpArgs false
open Array renaming getD_eq_getD_getElem?->CV,toList_map->Ce,toArray_toList->Ck
open Bool renaming and_eq_true->B6,not_eq_true'->CZ,or_eq_false_iff->Ci,not_eq_true->Cv
open ByteArray renaming empty->CO
open Go.Act renaming put->C6
open Go.Builtin renaming len_->Cu
open Go.Instr renaming sliceAt->Cc,sureAddr->Ch,slice->Cj,sliceBounds->Ct,index->Cx,indexAt->C4,field->C8
open Go.Program renaming built->C5
open Go.Result renaming andThen_ok->CF
open Go.Sem renaming run_bind->CJ,run_pure->CN
open Go.Value renaming oneCell'->CD,ownBlock->CR
open Go.World renaming cell?->C7
open List renaming getElem?_eq_some_iff->B5,getElem?_eq_getElem->B7,mem_append_right->B8,mem_append_left->B9,mem_append->CG,getElem?_take->CI,replicate->CK,getD_eq_getElem?_getD->CL,getElem?_append_right->CM,mem_singleton_self->CQ,append_assoc->CS,range->CT,getElem?_drop->CW,getElem?_append_left->CX,any_eq_false->Ca,mem_cons_of_mem->Cg,replicate_succ->Cl,mem_cons->Cm,length_append->Cn,mem_cons_self->Co,mem_singleton->Cp,getElem?_map->Cr,flatten_cons->Cs,cons_append->Cw,drop_drop->Cz,map_cons->C3
open Nat renaming beq->B3,eq_of_beq_eq_true->B4,le_refl->CB,le_trans->CE,lt_of_lt_of_le->CP,blt->CU,ble->CY,add_assoc->Cb,lt_succ_self->Cd,zero_add->Cq
open Option renaming bind_eq_some_iff->CC,map_eq_some_iff->CH,map_none->Cf,map_some->Cy
open Option.some renaming injEq->CA
open Prod.mk renaming injEq->C0
namespace Go.Proofs.YtadlacffdemoiaaGreatEv
open Go
inductive Ty where
 |int (k:IntKind)|bool|str|unit
 |hdr
 |pair (a b:Ty)
 |list (m:Bool) (E:TypeId) (e:Ty)
 deriving DecidableEq
abbrev Ty.den:Ty->Type
 |.int _=>Int
 |.bool=>Bool
 |.str=>ByteArray
 |.unit=>Unit
 |.hdr=>Nat
 |.pair a b=>a.den×b.den
 |.list _ _ e=>List e.den
def Ty.cells:Ty->Nat
 |.unit=>0
 |.pair a b=>a.cells+b.cells
 |_=>1
def Ty.zero:(a:Ty)->a.den
 |.int _=>(0:Int)
 |.bool=>false
 |.str=>CO
 |.unit=>()
 |.hdr=>(0:Nat)
 |.pair a b=>(a.zero,b.zero)
 |.list _ _ e=>([]:List e.den)
def Ty.flat:Ty->Bool
 |.list _ _ _=>false
 |.pair a b=>a.flat&&b.flat
 |_=>true
def Ty.sh:Ty->Ty
 |.pair a b=>.pair a.sh b.sh
 |.list _ E e=>.list false E e.sh
 |a=>a
def Ty.shy:Ty->Bool
 |.list m _ e=>!m||e.shy
 |.pair a b=>a.shy||b.shy
 |_=>false
theorem mV:∀ a:Ty,a.sh.den=a.den
 |.int _|.bool|.str|.unit|.hdr=>rfl
 |.pair a b=>by
  show (a.sh.den×b.sh.den)=(a.den×b.den);rw[mV a,mV b]
 |.list _ _ e=>congrArg List (mV e)
theorem jO {a b:Ty}(h:a.sh=b.sh):a.den=b.den:=(mV a).symm.trans ((congrArg Ty.den h).trans (mV b))
def Ty.eqv:(a:Ty)->a.den->a.den->Bool
 |.int _,x,y=>decide ((x:Int)=y)
 |.bool,x,y=>(x:Bool)==y
 |.str,x,y=>decide ((x:ByteArray)=y)
 |.unit,_,_=>true
 |.hdr,_,_=>false
 |.pair a b,x,y=>a.eqv x.1 y.1&&b.eqv x.2 y.2
 |.list _ _ _,_,_=>false
abbrev Tup:List Ty->Type
 |[]=>Unit
 |a::as=>a.den×Tup as
inductive Leaf where
 |int (k:IntKind) (n:Int)
 |bool (b:Bool)
 |str (s:ByteArray)
 |nil
 |hdr (n:Nat)
 |ro (p:Bool) (E:TypeId) (e:Ty) (xs:List e.den)
 |own (p:Bool) (h:Option (Nat×Nat)) (E:TypeId) (e:Ty) (xs:List e.den)
 |al (r j v:Nat)
 |nal (p:Bool) (ks:List (Nat×Nat×Nat)) (ep:Nat) (loc:Option (Nat×Nat×Nat)) (E:TypeId) (e:Ty) (xs:List e.den)
 |ep (r j v:Nat) (i sz off:Nat)
 |np (p:Bool) (ks:List (Nat×Nat×Nat)) (ep:Nat) (a:Ty) (x:a.den) (off:Nat)
 |rp (p:Bool) (a:Ty) (x:a.den) (off:Nat)
 |rpp (p:Bool) (a:Ty) (x:a.den)
 |bp (b off:Nat)
 |clo (f:FuncId) (caps:List Nat)
 |clr (f:FuncId) (caps:List (Bool×Bool×(a:Ty)×a.den))
 |fn (As:List Ty) (B:Ty) (φ:Tup As->Option B.den)
 |dead
inductive aI where
 |off|und|one|agg
 |tup (ps:List (Bool×Nat))
 deriving DecidableEq
structure bX where
 ver:Nat
 sh:aI
 ls:List Leaf
abbrev St:=Nat->bX
def bX.none:bX:=⟨0,.off,[]⟩
def GH:Nat:=99000
def TMP:Nat:=99998
def EPO:Nat:=99999
def B0:Nat:=100000
abbrev Upd:=List (Nat×bX)
def ac (U:Upd)(st:St)(q:Nat):bX :=
 match U with
 |[]=>st q
 |(r,c)::u=>bif B3 q r then c else ac u st q
inductive TI where
 |int (k:IntKind)|bool|str
 |slice (E:TypeId) (e:Ty) (bytes:Nat)
 |struct (a:Ty) (flds:List (Nat×Nat×Bool))
 |arr (e:Ty) (n:Nat)
 |ptr|fn
 |none
def gn:List (TypeId×TI)->TypeId->TI
 |[],_=>.none
 |(t,i)::l,u=>bif B3 t u then i else gn l u
def TI.cells:TI->Nat
 |.struct a _=>a.cells
 |.arr e n=>n*e.cells
 |.none=>0
 |_=>1
def TI.agg:TI->Bool
 |.struct _ _=>true
 |.arr _ _=>true
 |_=>false
def fh:Ty->List Leaf
 |.int k=>[.int k 0]
 |.bool=>[.bool false]
 |.str=>[.str CO]
 |.unit=>[]
 |.hdr=>[.nil]
 |.pair a b=>fh a++fh b
 |.list _ _ _=>[.nil]
def TI.zero:TI->List Leaf
 |.int k=>[.int k 0]
 |.bool=>[.bool false]
 |.str=>[.str CO]
 |.slice _ _ _=>[.nil]
 |.struct a _=>fh a
 |.arr e n=>(CK n (fh e)).flatten
 |.ptr=>[.dead]
 |.fn=>[.dead]
 |.none=>[]
def aq (p:Bool):(a:Ty)->a.den->List Leaf
 |.int k,n=>[.int k n]
 |.bool,b=>[.bool b]
 |.str,s=>[.str s]
 |.unit,_=>[]
 |.hdr,n=>[.hdr n]
 |.pair a b,x=>aq p a x.1++aq p b x.2
 |.list m E e,r=>[bif m then .own (p&&e.shy) none E e r else .ro p E e r]
def cR (p:Bool):(a:Ty)->a.den->List Leaf
 |.int k,n=>[.int k n]
 |.bool,b=>[.bool b]
 |.str,s=>[.str s]
 |.unit,_=>[]
 |.hdr,n=>[.hdr n]
 |.pair a b,x=>cR p a x.1++cR p b x.2
 |.list _ E e,r=>[.ro p E e r]
def lJ (p:Bool)(ks:List (Nat×Nat×Nat))(ep:Nat):(a:Ty)->a.den->List Leaf
 |.int k,n=>[.int k n]
 |.bool,b=>[.bool b]
 |.str,s=>[.str s]
 |.unit,_=>[]
 |.hdr,n=>[.hdr n]
 |.pair a b,x=>lJ p ks ep a x.1++lJ p ks ep b x.2
 |.list _ E e,r=>[.nal p ks ep none E e r]
def gV (p:Bool)(r j v ep i u:Nat)(h:Option Nat):(a:Ty)->Nat->a.den->List Leaf
 |.int k,_,n=>[.int k n]
 |.bool,_,b=>[.bool b]
 |.str,_,s=>[.str s]
 |.unit,_,_=>[]
 |.hdr,_,n=>[.hdr n]
 |.pair a b,off,x=>gV p r j v ep i u h a off x.1++gV p r j v ep i u h b (off+a.cells) x.2
 |.list m E e,off,y=>[bif decide (h=some off) then .dead else bif m then .nal (p&&e.shy) [(r,j,v)] ep (some (i,u,off)) E e y else .ro p E e y]
def lK (p:Bool)(r j v ep i u:Nat)(h:Option (Bool×Nat)):(a:Ty)->Nat->a.den->List Leaf
 |.int k,_,n=>[.int k n]
 |.bool,_,b=>[.bool b]
 |.str,_,s=>[.str s]
 |.unit,_,_=>[]
 |.hdr,_,n=>[.hdr n]
 |.pair a b,off,x=>lK p r j v ep i u h a off x.1++lK p r j v ep i u h b (off+a.cells) x.2
 |.list m E e,off,y=>[bif (match h with|some (b,o)=>B3 o off&&b|Option.none=>false) then .dead else bif m then .nal (p&&e.shy) [(r,j,v)] ep (some (i,u,off)) E e y else .ro p E e y]
def bm (agg:Bool):aI:=bif agg then .agg else .one
def lL:Leaf->Bool
 |.own _ _ _ _ _=>true
 |_=>false
def bw (st:St)(ks:List (Nat×Nat×Nat))(ep:Nat):Bool:=B3 (st EPO).ver ep&&ks.all λk=>B3 (st k.1).ver k.2.2&&lL ((st k.1).ls.getD k.2.1 .dead)
def pI:Leaf->Leaf
 |.nal _ _ _ _ _ _ _=>.dead
 |l=>l
def aE (st:St):Leaf->Leaf
 |.al r j v=>bif B3 (st r).ver v then pI ((st r).ls.getD j .dead) else .dead
 |.nal p y ep u E e z=>bif bw st y ep then .nal p y ep u E e z else .dead
 |l=>l
def l8 (t j r:Nat):Leaf->Leaf
 |.own _ _ _ _ _=>.al t j r
 |l=>l
def bJ (t r:Nat):Nat->List Leaf->List Leaf
 |_,[]=>[]
 |j,l::u=>l8 t j r l::bJ t r (j+1) u
def iM:Value->Option Leaf
 |.int k n=>some (.int k n)
 |.bool b=>some (.bool b)
 |.string s=>some (.str s)
 |.slice Option.none 0 0=>some .nil
 |_=>Option.none
def au (st:St):Operand->aI×List Leaf
 |.tmp t=>bif CU t GH then ((st t).sh,bJ t (st t).ver 0 (st t).ls) else (.off,[])
 |.const v=>match iM v with
  |some l=>(.one,[l])
  |Option.none=>(.off,[])
 |.func f=>(.one,[.clo f []])
 |.global _=>(.off,[])
def one (st:St)(x:Operand):Leaf :=
 match au st x with
 |(.one,[l])=>l
 |_=>.dead
def castSh (e e':Ty)(xs:List e'.den):Option (List e.den) :=
 if h:e'.sh=e.sh then some (cast (congrArg List (jO h)) xs) else Option.none
def l9 (E:TypeId)(e:Ty)(E':TypeId)(e':Ty)(xs:List e'.den):Option (List e.den) :=
 if h:E'=E/\e'=e then some (h.2 ▸ xs) else Option.none
def dt (e:Ty):Leaf->Option (Bool×List e.den)
 |.ro p _ u r=>(castSh e u r).map (p,·)
 |.own p none _ u r=>(castSh e u r).map (p,·)
 |.nal p _ _ _ _ u r=>(castSh e u r).map (p,·)
 |.nil=>some (false,[])
 |_=>Option.none
def gp:Leaf->Option Nat
 |.ro _ _ _ r=>some r.length
 |.own _ _ _ _ r=>some r.length
 |.nal _ _ _ _ _ _ r=>some r.length
 |.nil=>some 0
 |.hdr n=>some n
 |_=>Option.none
def be (st:St):(a:Ty)->List Leaf->Option (Bool×a.den×List Leaf)
 |.int k,r=>match r with
  |.int z n::r=>if k=z then some (false,(n:Int),r) else Option.none
  |_=>Option.none
 |.bool,r=>match r with
  |.bool b::r=>some (false,b,r)
  |_=>Option.none
 |.str,r=>match r with
  |.str s::r=>some (false,s,r)
  |_=>Option.none
 |.unit,r=>some (false,(),r)
 |.hdr,r=>match r with
  |l::r=>match gp (aE st l) with
   |some n=>some (false,(n:Nat),r)
   |Option.none=>Option.none
  |_=>Option.none
 |.pair a b,r=>match be st a r with
  |some (p,x,r)=>match be st b r with
   |some (q,y,r)=>some (p||q,(x,y),r)
   |Option.none=>Option.none
  |Option.none=>Option.none
 |.list _ _ e,r=>match r with
  |l::r=>match dt e (aE st l) with
   |some (p,u)=>some (p,u,r)
   |Option.none=>Option.none
  |_=>Option.none
def cY (st:St)(a:Ty)(ls:List Leaf):Option (Bool×a.den) :=
 match be st a ls with
 |some (p,x,[])=>some (p,x)
 |_=>Option.none
structure cS (α:Type) where
 p:Bool
 val:α
 frz:List (Nat×Nat)
 kill:List (Nat×Nat)
 rest:List Leaf
def bE (st:St):List Leaf->List (Nat×Nat)
 |[]=>[]
 |.al r j v::u=>(match aE st (.al r j v) with|.own _ _ _ _ _=>[(r,j)]|_=>[])++bE st u
 |.nal p z ep y E e H::u=>(match aE st (.nal p z ep y E e H) with|.nal _ _ _ _ _ _ _=>z.map (λk=>(k.1,k.2.1))|_=>[])++bE st u
 |_::u=>bE st u
def ch (st:St):List Leaf->List (Nat×Nat)
 |[]=>[]
 |.al r j v::u=>(match aE st (.al r j v) with|.own _ _ _ _ _=>[(r,j)]|_=>[])++ch st u
 |_::u=>ch st u
def take (st : St) : (a : Ty) -> List Leaf -> Option (cS a.den)
  |.int k,u=>(be st (.int k) u).map λx=>⟨false,x.2.1,[],[],x.2.2⟩
  |.bool,u=>(be st .bool u).map λx=>⟨false,x.2.1,[],[],x.2.2⟩
  |.str,u=>(be st .str u).map λx=>⟨false,x.2.1,[],[],x.2.2⟩
  |.unit,u=>some ⟨false,(),[],[],u⟩
  |.hdr,u=>(be st .hdr u).map λx=>⟨false,x.2.1,[],[],x.2.2⟩
  |.pair a b,u=>match take st a u with
    |some x=>match take st b x.rest with
      |some y=>some ⟨x.p||y.p,(x.val,y.val),x.frz++y.frz,x.kill++y.kill,y.rest⟩
      |Option.none=>Option.none
    |Option.none=>Option.none
  |.list m E e,u=>match u with
    |[]=>Option.none
    |l::u=>bif m then (match l with
        |.al r j v=>match aE st (.al r j v) with
          |.own p none H I z=>(l9 E e H I z).map λz=>⟨p,z,[],[(r,j)],u⟩
          |_=>Option.none
        |.nil=>some ⟨false,([]:List e.den),[],[],u⟩
        |_=>Option.none)
      else match dt e (aE st l) with
        |some (p,z)=>some ⟨p,z,bE st [l],[],u⟩
        |Option.none=>Option.none
def co (st:St)(a:Ty)(ls:List Leaf):Option (cS a.den) :=
 match take st a ls with
 |some ⟨p,x,f,k,[]⟩=>some ⟨p,x,f,k,[]⟩
 |_=>Option.none
def dm (st:St)(off n:Nat):(a:Ty)->Nat->a.den->List Leaf->Option (cS a.den)
 |.pair a b,pos,x,r=>match dm st off n a pos x.1 r with
  |some u=>match dm st off n b (pos+a.cells) x.2 u.rest with
   |some v=>some ⟨u.p||v.p,(u.val,v.val),u.frz++v.frz,u.kill++v.kill,v.rest⟩
   |Option.none=>Option.none
  |Option.none=>Option.none
 |.int k,pos,x,r=>bif CY off pos&&CU pos (off+n) then take st (.int k) r else some ⟨false,x,[],[],r⟩
 |.bool,pos,x,r=>bif CY off pos&&CU pos (off+n) then take st .bool r else some ⟨false,x,[],[],r⟩
 |.str,pos,x,r=>bif CY off pos&&CU pos (off+n) then take st .str r else some ⟨false,x,[],[],r⟩
 |.unit,_,x,r=>some ⟨false,x,[],[],r⟩
 |.hdr,_,_,_=>Option.none
 |.list m E e,pos,x,r=>bif CY off pos&&CU pos (off+n) then take st (.list m E e) r else some ⟨false,x,[],[],r⟩
def bT (off:Nat)(E:TypeId)(e:Ty)(r:List e.den):(a:Ty)->Nat->a.den->Option a.den
 |.pair a b,pos,x=>match bT off E e r a pos x.1 with
  |some u=>some (u,x.2)
  |Option.none=>(bT off E e r b (pos+a.cells) x.2).map λv=>(x.1,v)
 |.list m y z,pos,_=>bif m&&B3 pos off then l9 y z E e r else Option.none
 |.int _,_,_|.bool,_,_|.str,_,_|.unit,_,_|.hdr,_,_=>Option.none
def ax:List Leaf->List Nat
 |[]=>[]
 |.al r _ _::u=>r::ax u
 |.ep r _ _ _ _ _::u=>r::ax u
 |.nal _ y _ _ _ _ _::u=>EPO::y.map (·.1)++ax u
 |.np _ y _ _ _ _::u=>EPO::y.map (·.1)++ax u
 |_::u=>ax u
def aT (ls:List Leaf)(j:Nat)(l:Leaf):List Leaf:=ls.set j l
def gq (c:bX)(j:Nat):bX:=⟨c.ver,c.sh,aT c.ls j .dead⟩
def aN (st:St):List (Nat×Nat)->Upd
 |[]=>[]
 |(r,j)::u=>let U:=aN st u;let c:=ac U st r;(r,gq c j)::U
def uZ:Leaf->Leaf
 |.own p none E e r=>.ro p E e r
 |.own _ (some _) _ _ _=>.dead
 |l=>l
def gj (c:bX)(j:Nat):bX:=⟨c.ver,c.sh,aT c.ls j (uZ (c.ls.getD j .dead))⟩
def aF (st:St):List (Nat×Nat)->Upd
 |[]=>[]
 |(r,j)::u=>let U:=aF st u;let c:=ac U st r;(r,gj c j)::U
def b7 (c:bX):bX:=⟨c.ver+1,c.sh,c.ls⟩
def epoU (st:St):Upd:=[(EPO,b7 (st EPO))]
def dH (st:St):List Leaf->List (Nat×Nat)
 |[]=>[]
 |.nal p u ep none E e y::r=>(match aE st (.nal p u ep none E e y) with|.nal _ _ _ _ _ _ _=>u.map (λk=>(k.1,k.2.1))|_=>[])++dH st r
 |_::r=>dH st r
def gz (st:St)(l:Leaf):Leaf:=match aE st l with
 |.nal p _ _ none E e r=>.ro p E e r
 |l=>l
def dS (st:St)(ls:List Leaf):List Leaf:=ls.map (gz st)
def mvU (st:St)(ls:List Leaf):Upd:=let U:=aF st (dH st ls);aN (ac U st) (ch st ls)++U
def bc:List (Nat×Nat)->Bool
 |[]=>true
 |x::r=>!(r.any λy=>B3 x.1 y.1&&B3 x.2 y.2)&&bc r
def iN (a b:Nat×Nat):Bool:=B3 a.1 b.1&&B3 a.2 b.2
def dN (a b:List (Nat×Nat)):Bool:=!(a.any λk=>b.any (iN k))
def iz (st:St)(ls:List Leaf):Bool:=bc (ch st ls)&&dN (dH st ls) (ch st ls)
def sP (st:St):Operand->Bool
 |.tmp q=>B3 (st q).ver 7
 |_=>false
def idx {α:Type}(xs:List α)(i:Int):Option α:=if i<0 then Option.none else xs[i.toNat]?
def jP (u r:List Leaf)(off:Nat):List Leaf:=u.take off++r++u.drop (off+r.length)
def sQ (r:BinOp)(k:IntKind)(x y:Int):Option Leaf :=
 match r with
 |.add=>some (.int k (k.wrap (x+y)))
 |.sub=>some (.int k (k.wrap (x-y)))
 |.mul=>some (.int k (k.wrap (x*y)))
 |.eql=>some (.bool (x==y))
 |.neq=>some (.bool (x != y))
 |.lss=>some (.bool (decide (x<y)))
 |.leq=>some (.bool (decide (x<=y)))
 |.gtr=>some (.bool (decide (x>y)))
 |.geq=>some (.bool (decide (x>=y)))
 |_=>Option.none
def bg (off:Nat):(a:Ty)->Nat->a.den->Option ((E:TypeId)×(e:Ty)×List e.den)
 |.pair a b,pos,x=>match bg off a pos x.1 with
  |some u=>some u
  |Option.none=>bg off b (pos+a.cells) x.2
 |.list m E e,pos,r=>bif m&&B3 pos off then some ⟨E,e,r⟩ else Option.none
 |.int _,_,_|.bool,_,_|.str,_,_|.unit,_,_|.hdr,_,_=>Option.none
def ct (st:St):Leaf->Option (Upd×Leaf)
  |.nal p I ep H E e X=>bif bw st I ep then (match I,H with
      | [(r, j, _)], some (i, R, off) => (match (st r).ls.getD j .dead with
        |.own J none M z u=>bif !B3 r TMP&&!B3 r EPO&&B3 R z.cells then
            (match u[i]? with
            |some y=>match bg off z 0 y with
              |some ⟨E,e,O⟩=>some ([(r,⟨(st r).ver,(st r).sh,aT (st r).ls j (.own J (some (i,off)) M z u)⟩),(TMP,⟨(st TMP).ver+1,.one,[.own (J&&z.shy) none E e O]⟩),(EPO,b7 (st EPO))],.al TMP 0 ((st TMP).ver+1))
              |Option.none=>Option.none
            |Option.none=>Option.none)
          else Option.none
        |_=>Option.none)
      |_,_=>Option.none)
    else Option.none
  |_=>Option.none
def jG:Leaf->Bool
 |.nal _ _ _ _ _ _ _=>true
 |_=>false
inductive PK where
 |rd (a:Ty)
 |own (a:Ty)
 |io (a:Ty)
 |rref (a:Ty)
 |rref2 (a:Ty)
 |iop (a:Ty)
 |fn (As:List Ty) (B:Ty)
 |clo (f:FuncId) (cs:List (Bool×Ty))
 |hol (a:Ty) (c off:Nat)
 deriving DecidableEq
inductive RK where
 |v (a:Ty)
 |bv (a:Ty)
 |box (a:Ty)
 deriving DecidableEq
abbrev ma:List (Bool×Ty)->Type
 |[]=>Unit
 |c::r=>c.2.den×ma r
abbrev PK.den:PK->Type
 |.rd a|.own a|.io a|.rref a|.rref2 a|.iop a=>a.den
 |.fn r B=>Tup r->Option B.den
 |.clo _ u=>ma u
 |.hol a _ _=>a.den×Nat
abbrev ab:List PK->Type
 |[]=>Unit
 |p::r=>p.den×ab r
abbrev ah:List PK->Type
 |[]=>Unit
 |.io a::r=>a.den×ah r
 |.iop a::r=>a.den×ah r
 |_::r=>ah r
abbrev RK.den:RK->Type
 |.v a|.bv a|.box a=>a.den
abbrev ai:List RK->Type
 |[]=>Unit
 |r::u=>r.den×ai u
structure Ctr where
 f:FuncId
 ps:List PK
 rs:List RK
 fresh:Bool
 den:ab ps->Option (ai rs×ah ps)
def Ty.isAgg:Ty->Bool
 |.pair _ _|.unit=>true
 |_=>false
def target (st:St):Leaf->Option (List Leaf)
 |.bp b 0=>bif decide ((st b).sh=.agg) then some (bJ b (st b).ver 0 (st b).ls) else none
 |.rp p a x 0=>some (cR p a x)
 |.rpp p a x=>some [.rp p a x 0]
 |_=>none
structure Got (α:Type) where
 p:Bool
 val:α
 frz:List (Nat×Nat)
 kill:List (Nat×Nat)
 see:List Nat
 lend:List Nat
def Got.ofRd {α:Type}(r:List Nat)(x:Bool×α)(frz:List (Nat×Nat)):Got α:=⟨x.1,x.2,frz,[],r,[]⟩
def mb (Γ:List Ctr)(f:FuncId):Option Ctr:=match Γ with
 |[]=>none
 |c::r=>bif B3 c.f f then some c else mb r f
def cz (x:aI×List Leaf):Leaf :=
 match x with
 |(.one,[l])=>l
 |_=>.dead
def fJ:List Leaf->List Nat
 |[]=>[]
 |.bp b _::r=>b::fJ r
 |_::r=>fJ r
def fK (st:St)(c:Bool×Ty)(l:Leaf):Option (Got c.2.den) :=
 bif c.1 then (match target st l with
  |some [u]=>match target st u with
   |some r=>(cY st c.2 r).map λy=>.ofRd (fJ [l,u]) y (bE st r)
   |none=>none
  |_=>none)
 else match target st l with
  |some r=>(cY st c.2 r).map λy=>.ofRd (fJ [l]) y (bE st r)
  |none=>none
def cG (st:St):(cs:List (Bool×Ty))->List Leaf->Option (Got (ma cs))
 |[],[]=>some ⟨false,(),[],[],[],[]⟩
 |c::cs,l::r=>match fK st c l with
  |some g=>match cG st cs r with
   |some h=>some ⟨g.p||h.p,(g.val,h.val),g.frz++h.frz,[],g.see++h.see,[]⟩
   |none=>none
  |none=>none
 |_,_=>none
def e9 (c:Bool×Bool×(a:Ty)×a.den):Leaf:=bif c.2.1 then .rpp c.1 c.2.2.1 c.2.2.2 else .rp c.1 c.2.2.1 c.2.2.2 0
def bj (st : St) : (pk : PK) -> aI × List Leaf -> Option (Got pk.den)
  |.rd a,x=>bif decide (x.1=bm a.isAgg) then (cY st a x.2).map λy=>.ofRd [] y (bE st x.2) else none
  |.own a,x=>bif decide (x.1=bm a.isAgg) then (co st a x.2).map λt=>⟨t.p,t.val,t.frz,t.kill,[],[]⟩ else none
  |.io a,x=>bif decide (x.1=bm a.isAgg) then (co st a x.2).map λt=>⟨t.p,t.val,t.frz,t.kill,[],[]⟩ else none
  |.rref a,x=>fK st (false,a) (cz x)
  |.rref2 a,x=>fK st (true,a) (cz x)
  |.iop a,x=>match cz x with
    |.bp b 0=>bif decide ((st b).sh=.agg) then (co st a (bJ b (st b).ver 0 (st b).ls)).map λt=>⟨t.p,t.val,t.frz,t.kill,[],[b]⟩ else none
    |_=>none
  |.fn I B,x=>match cz x with
    |.fn H O R=>if h:H=I/\O=B then some ⟨false,(h.1 ▸ h.2 ▸ R:Tup I->Option B.den),[],[],[],[]⟩ else none
    |_=>none
  |.clo f J,x=>match cz x with
    |.clo z u=>bif B3 z f then cG st J (u.map λb=>.bp b 0) else none
    |.clr z u=>bif B3 z f then cG st J (u.map e9) else none
    |_=>none
  |.hol a c off,x=>bif decide (x.1=bm a.isAgg) then (match x.2.getD c .dead with
      |.al r j v=>(match aE st (.al r j v) with
        |.own p (some (i,o)) E e M=>bif B3 o off then (match co st a (aT x.2 c .nil) with
            |some t=>(match bT c E e M a 0 t.val with
              |some y=>some ⟨p||t.p,(y,i),t.frz,(r,j)::t.kill,[],[]⟩
              |none=>none)
            |none=>none) else none
        |_=>none)
      |_=>none) else none
def bf (ga:(pk:PK)->aI×List Leaf->Option (Got pk.den)):(ps:List PK)->List (aI×List Leaf)->Option (Got (ab ps))
 |[],[]=>some ⟨false,(),[],[],[],[]⟩
 |p::ps,x::r=>match ga p x with
  |some g=>match bf ga ps r with
   |some h=>some ⟨g.p||h.p,(g.val,h.val),g.frz++h.frz,g.kill++h.kill,g.see++h.see,g.lend++h.lend⟩
   |none=>none
  |none=>none
 |_,_=>none
def u3 (st:St):(ps:List PK)->List (aI×List Leaf)->Option (Got (ab ps)):=bf (bj st)
def ci (st:St):List Leaf->List Leaf->Upd
 |.al r j _::u,l::y=>let U:=ci st u y;(match l with|.own p h E e ys=>let c:=ac U st r;[(r,⟨c.ver,c.sh,aT c.ls j (.own p h E e ys)⟩),(EPO,b7 (ac U st EPO))]|_=>[])++U
 |_::u,_::y=>ci st u y
 |_,_=>[]
def aH (st:St)(p:Bool):(ps:List PK)->List (aI×List Leaf)->ah ps->Upd
 |[],_,_=>[]
 |.io a::ps,x::r,o=>let U:=aH st p ps r o.2;ci (ac U st) x.2 (aq p a o.1)++U
 |.iop a::ps,x::r,o=>let U:=aH st p ps r o.2;(match cz x with
  |.bp b _=>let c:=ac U st b;[(b,⟨c.ver+2,.agg,aq p a o.1⟩)]
  |_=>[])++U
 |.rd _::ps,_::r,o=>aH st p ps r o
 |.own _::ps,_::r,o=>aH st p ps r o
 |.rref _::ps,_::r,o=>aH st p ps r o
 |.rref2 _::ps,_::r,o=>aH st p ps r o
 |.fn _ _::ps,_::r,o=>aH st p ps r o
 |.clo _ _::ps,_::r,o=>aH st p ps r o
 |.hol _ _ _::ps,_::r,o=>aH st p ps r o
 |_::_,[],_=>[]
def pJ (d v:Nat)(p q:Bool)(ks:List (Nat×Nat×Nat))(ep:Nat):(r:RK)->r.den->(Bool×List Leaf)×Upd
 |.v a,y=>((a.isAgg,aq p a y),[])
 |.bv a,y=>((a.isAgg,lJ q ks ep a y),[])
 |.box a,y=>((false,[.bp (B0+d) 0]),[(B0+d,⟨v+1,.agg,aq p a y⟩)])
def bH (d v:Nat)(p q:Bool)(ks:List (Nat×Nat×Nat))(ep:Nat):(u:List RK)->ai u->List (Bool×List Leaf)×Upd
 |[],_=>([],[])
 |r::u,y=>let a:=pJ d v p q ks ep r y.1;let b:=bH d v p q ks ep u y.2;(a.1::b.1,a.2++b.2)
def fa (r:Nat)(l:List (Bool×List Leaf)):bX :=
 match l with
 |[(agg,u)]=>⟨r,bm agg,u⟩
 |l=>⟨r,.tup (l.map λx=>(x.1,x.2.length)),(l.map (·.2)).flatten⟩
def cn (st:St)(U:Upd)(d:Nat)(sh:aI)(ls:List Leaf):Upd:=(d,⟨(ac U st d).ver+1,sh,ls⟩)::U
def PK.reads:PK->Bool
 |.rd _|.rref _|.rref2 _=>true
 |_=>false
def nV (caps:List PK)(z:ab caps):(r:List Ty)->Tup r->ab (r.map .rd++caps)
 |[],_=>z
 |_::as,x=>(x.1,nV caps z as x.2)
def sA (st:St)(u:List Ty)(B:Ty)(ls:List Leaf)(ps:List PK)(H:List RK)(r:Bool)(z:ab ps->Option (ai H×ah ps))(q:List PK):Option (Got (Tup u->Option B.den)) :=
 if h:ps=u.map .rd++q/\H=[.v B] then
  bif q.all PK.reads&&B.flat&&r then
   match u3 st q (ls.map λl=>(.one,[l])) with
   |some g=>some ⟨g.p,λx=>(z (h.1 ▸ nV _ g.val u x)).map λy=>(h.2 ▸ y.1:ai [.v B]).1,g.frz,[],g.see,[]⟩
   |none=>none
  else none
 else none
def kV (Γ:List Ctr)(st:St)(r:List Ty)(B:Ty)(f:FuncId)(ls:List Leaf):Option (Got (Tup r->Option B.den)) :=
 match mb Γ f with
 |some c=>sA st r B ls c.ps c.rs c.fresh c.den (c.ps.drop r.length)
 |none=>none
def vQ:Leaf->Option (FuncId×List Leaf)
 |.clo f r=>some (f,r.map λb=>.bp b 0)
 |.clr f r=>some (f,r.map e9)
 |_=>none
def cj (Γ:List Ctr)(st:St):(pk:PK)->aI×List Leaf->Option (Got pk.den)
 |.fn u B,x=>match vQ (cz x) with
  |some r=>kV Γ st u B r.1 r.2
  |none=>bj st (.fn u B) x
 |.rd a,x=>bj st (.rd a) x
 |.own a,x=>bj st (.own a) x
 |.io a,x=>bj st (.io a) x
 |.rref a,x=>bj st (.rref a) x
 |.rref2 a,x=>bj st (.rref2 a) x
 |.iop a,x=>bj st (.iop a) x
 |.clo f y,x=>bj st (.clo f y) x
 |.hol a c off,x=>bj st (.hol a c off) x
def oX (Γ:List Ctr)(st:St):(ps:List PK)->List (aI×List Leaf)->Option (Got (ab ps)):=bf (cj Γ st)
def PK.takes:PK->Bool
 |.own _|.io _=>true
 |_=>false
def PK.isIo:PK->Bool
 |.io _=>true
 |_=>false
def pK:Ty->Nat->Bool
 |.pair a b,j=>bif CU j a.cells then pK a j else pK b (j-a.cells)
 |.list m _ _,j=>m&&B3 j 0
 |_,_=>false
def lM (a:Ty):Nat->List Leaf->Option Nat
 |_,[]=>none
 |j,l::r=>bif jG l&&pK a j then some j else lM a (j+1) r
def PK.nest:PK->List Leaf->Option Nat
 |.own a,r=>lM a 0 r
 |.io a,r=>lM a 0 r
 |_,_=>none
def kx:Leaf->Nat×Nat
 |.nal _ ((r,j,_)::_) _ _ _ _ _=>(r,j)
 |_=>(0,0)
def dh (st:St):List PK->List (aI×List Leaf)->Option (Upd×List (aI×List Leaf)×Option (Bool×Nat×Nat))
 |p::y,x::r=>match p.nest x.2 with
  |some k=>(ct st (x.2.getD k .dead)).map λu=>(u.1,(x.1,aT x.2 k u.2)::r,some (p.isIo,kx (x.2.getD k .dead)))
  |none=>(dh st y r).map λu=>(u.1,x::u.2.1,u.2.2)
 |_,r=>some ([],r,none)
section
variable {R:Type}
def mc (st : St) (l : Leaf) (M : Upd -> Leaf -> Option R) : Option R :=
  match l with
  |.nal _ I ep H _ _ _=>bif bw st I ep then (match I,H with
      | [(r, j, _)], some (i, Y, off) => (match (st r).ls.getD j .dead with
        |.own J none O z u=>bif !B3 r TMP&&!B3 r EPO&&B3 Y z.cells then
            (idx u (i:Int)).bind λy=>match bg off z 0 y with
              |some ⟨E,e,X⟩=>M [(r,⟨(st r).ver,(st r).sh,aT (st r).ls j (.own J (some (i,off)) O z u)⟩),(TMP,⟨(st TMP).ver+1,.one,[.own (J&&z.shy) none E e X]⟩),(EPO,b7 (st EPO))] (.al TMP 0 ((st TMP).ver+1))
              |Option.none=>Option.none
          else Option.none
        |_=>Option.none)
      |_,_=>Option.none)
    else Option.none
  |_=>Option.none
def kW (st:St):List PK->List (aI×List Leaf)->(Upd->List (aI×List Leaf)->Option (Bool×Nat×Nat)->Option R)->Option R
 |p::z,x::u,r=>match p.nest x.2 with
  |some k=>mc st (x.2.getD k .dead) λU l=>r U ((x.1,aT x.2 k l)::u) (some (p.isIo,kx (x.2.getD k .dead)))
  |none=>kW st z u λU y b=>r U (x::y) b
 |_,u,r=>r [] u none
def jc (st:St):(u:List Ty)->List (aI×List Leaf)->Option (Tup u)
 |[],[]=>some ()
 |a::as,x::r=>bif decide (x.1=bm a.isAgg) then match cY st a x.2 with
   |some (_,y)=>(jc st as r).map (y,·)
   |none=>none
  else none
 |_,_=>none
def RK.isV:RK->Bool
 |.v _|.bv _=>true
 |.box _=>false
def RK.isBv:RK->Bool
 |.bv _=>true
 |_=>false
def gW (st:St)(d:Nat):List RK->Bool
 |[.box _]=>decide ((st (B0+d)).sh=.off)
 |rs=>rs.all RK.isV
def oY (b:Option (Bool×Nat×Nat))(frz kill:List (Nat×Nat))(d:Nat):Bool :=
 match b with
 |some (true,r,j)=>!(kill.any (iN (r,j)))&&!(frz.any (iN (r,j)))&&!B3 r d&&!B3 r (B0+d)
 |_=>true
def kj (st:St)(b:Option (Bool×Nat×Nat))(U:Upd)(u:Upd->Option R):Option R :=
 match b with
 |some (true,r,j) =>
  match (ac U st r).ls.getD j .dead,(ac U st TMP).ls with
  |.own p (some (i,off)) J I H,[.own q none E e M]=>(idx H (i:Int)).bind λy=>match bT off E e M I 0 y with
   |some z=>u ((r,⟨(ac U st r).ver,(ac U st r).sh,aT (ac U st r).ls j (.own (p||q) none J I (H.set i z))⟩)::(TMP,⟨(ac U st TMP).ver+1,.off,[]⟩)::(EPO,b7 (ac U st EPO))::U)
   |none=>none
  |_,_=>none
 |_=>u U
def jH (Γ:List Ctr)(st:St)(d:Nat)(f:FuncId)(xs:List (aI×List Leaf))(J:Upd->Option R):Option R :=
 match mb Γ f with
 |some c=>kW st c.ps xs λu xs b =>
  match oX Γ (ac u st) c.ps xs with
  |some g=>bif bc g.kill&&dN g.frz g.kill&&gW st d c.rs&&!(g.see.any λq=>g.lend.any (B3 q))&&CY g.lend.length 1&&(g.lend.isEmpty||!(c.ps.any PK.isIo))&&((c.fresh&&g.lend.isEmpty)||!(c.rs.any RK.isBv))&&(g.kill.all λk=>!B3 k.1 EPO)&&oY b g.frz g.kill d then
   (c.den g.val).bind λy =>
    let H:=(let U:=(bif c.fresh then [] else aF (ac u st) g.frz);aN (ac U (ac u st)) g.kill++U)++u;let z:=aH (ac H st) (g.p&&!c.fresh) c.ps xs y.2++H;let r:=bH d (ac z st (B0+d)).ver (g.p&&!c.fresh) g.p (g.frz.map λk=>(k.1,k.2,(ac z st k.1).ver)) (ac z st EPO).ver c.rs y.1;let I:=r.2++z
    kj st b ((d,fa ((ac I st d).ver+1) r.1)::I) J
   else none
  |none=>none
 |none=>none
def am:Nat:=140737488355328
def gb (st:St)(E:TypeId)(e:Ty)(y:Leaf):Option (cS (List e.den)) :=
 bif e.flat then (dt e (aE st y)).map λx=>⟨false,x.2,[],[],[]⟩
 else bif decide (e.sh=e) then (dt e (aE st y)).map λx=>⟨x.1,x.2,bE st [y],[],[]⟩
 else (co st (.list true E e) [y]).map λt=>⟨t.p,t.val,t.frz,t.kill,[]⟩
def ea (st r:St)(z:Upd)(d:Nat)(E:TypeId)(e:Ty)(u:Nat)(p:Bool)(xs:List e.den)(ks:List (Nat×Nat))(y:Leaf)(H:Upd->Option R):Option R :=
 match gb r E e y with
 |some t=>bif bc (t.kill++ks)&&dN t.frz (t.kill++ks)&&decide ((xs.length+t.val.length)*u<=am) then
   let U:=aF r t.frz
   H (cn st (aN (ac U r) (t.kill++ks)++U++z) d .one [.own (p||t.p) none E e (xs++t.val)])
  else none
 |none=>none
def eH (st:St)(z:Upd)(d:Nat)(E:TypeId)(e:Ty)(u:Nat)(x y:Leaf)(H:Upd->Option R):Option R :=
 match x with
 |.al r j v=>match aE (ac z st) (.al r j v) with
  |.own p none I J M=>bif B3 I E&&decide (J.sh=e.sh) then ea st (ac z st) z d I J u p M [(r,j)] y H else none
  |_=>none
 |.nil=>ea st (ac z st) z d E e u false [] [] y H
 |_=>none
def iO (st:St)(d:Nat)(E:TypeId)(e:Ty)(r:Nat)(x y:Leaf)(u:Upd->Option R):Option R :=
 bif jG x then mc st x λz x=>eH st z d E e r x y u else eH st [] d E e r x y u
def du (st:St)(x:Option Operand)(r:Int):Option Int :=
 match x with
 |none=>some r
 |some l=>match one st l with
  |.int _ n=>some n
  |_=>none
def fN (st:St)(r:List (Nat×Nat×Bool)):List (Nat×Operand)->List Leaf->Option (List Leaf)
 |[],u=>some u
 |(i,x)::y,u=>match r[i]? with
  |some (off,n,agg)=>bif B3 (au st x).2.length n&&decide ((au st x).1=bm agg)&&decide (off+n<=u.length) then fN st r y (jP u (au st x).2 off) else none
  |none=>none
def eN (st:St)(e:Ty):Nat->List (Nat×Operand)->Option (cS (List e.den))
  |_,[]=>some ⟨false,[],[],[],[]⟩
  |k,(i,x)::r=>bif B3 i k&&decide ((au st x).1=bm e.isAgg) then
      match co st e (au st x).2,eN st e (k+1) r with
      |some t,some u=>some ⟨t.p||u.p,t.val::u.val,t.frz++u.frz,t.kill++u.kill,[]⟩
      |_,_=>none
    else none
def fT (st:St)(e:Ty):Nat->List Leaf->Option (List e.den)
 |0,_=>some []
 |n+1,r=>match cY st e (r.take e.cells),fT st e n (r.drop e.cells) with
  |some (_,x),some u=>some (x::u)
  |_,_=>none
def sR (st:St)(xs:List Operand):Option (List Nat) :=
 xs.foldl (λ (r:Option (List Nat)) x=>r.bind λl=>match one st x with
  |.bp b 0=>some (l++[b])
  |_=>none) (some [])
def wrU (o:Oper)(st:St)(r:Upd->Option R)(sh:aI)(ls:List Leaf):Option R:=match o.dst with
 |some d=>r (cn st [] d sh ls)
 |none=>none
def cZ (h:Option (Nat×Nat))(i:Nat):Option Nat:=match h with
 |some (r,u)=>bif B3 r i then some u else none
 |none=>none
def holB (h:Option (Nat×Nat))(i:Nat):Option (Bool×Nat):=match h with
 |some (r,u)=>some (B3 r i,u)
 |none=>none
theorem md (p:Bool)(r j v ep i u:Nat)(h:Option (Nat×Nat))(n:Nat):∀ (a:Ty) (off:Nat) (x:a.den),lK p r j v ep i u (holB h n) a off x=gV p r j v ep i u (cZ h n) a off x
 |.int _,_,_|.bool,_,_|.str,_,_|.unit,_,_|.hdr,_,_=>rfl
 |.pair a b,off,x=>by
  show _++_=_++_;rw[md p r j v ep i u h n a,md p r j v ep i u h n b]
 |.list m E e,off,H=>by
  simp only[lK,gV];congr 2;cases h with
  |none=>rfl
  |some q =>
   obtain⟨z,I⟩:=q;simp only[holB,cZ];by_cases y:B3 z n=true
   ·simp only[y,Bool.and_true,cond_true,CA];rw[Bool.eq_iff_iff,Nat.beq_eq,decide_eq_true_eq]
   ·simp only[Cv]at y;simp[y]
def gX (st:St)(r j i off:Nat)(n:Nat)(p:Bool)(E:TypeId)(e:Ty)(xs:List e.den)(h:Option (Nat×Nat))(ls:List Leaf)(M:Upd->Option R):Option R :=
 (idx xs (i:Int)).bind λz =>
  match dm st off n e 0 z ls with
  |some t=>bif t.rest.isEmpty&&bc t.kill&&dN t.frz t.kill&&!((t.kill++t.frz).any λk=>B3 k.1 r) then
    let I:=aF st t.frz;let H:=aN (ac I st) t.kill++I;let u (l:Leaf):Option R:=M ((r,⟨(st r).ver,(st r).sh,aT (st r).ls j l⟩)::(EPO,b7 (ac H st EPO))::H)
    match h with
    |none=>u (.own (p||t.p) none E e (xs.set i t.val))
    |some (J,y)=>bif CY off y&&CU y (off+n) then (bif B3 i J then u (.own (p||t.p) none E e (xs.set i t.val)) else none)
     else u (.own (p||t.p) (some (J,y)) E e (xs.set i t.val))
   else none
  |none=>none
def sC (r:Nat):Bool:=!B3 r TMP&&!B3 r EPO
def eJ (s:ByteArray):List Int:=s.data.toList.map λb=>(b.toNat:Int)
def gY (xs:List Int):ByteArray:=ByteArray.mk (xs.map λn=>UInt8.ofNat n.toNat).toArray
def act (Γ:List Ctr)(T:TypeId->TI)(o:Oper)(st:St)(M:Upd->Option R):Option R :=
 let w (sh:aI) (ls:List Leaf):Option R:=wrU o st M sh ls;let w1 (l:Leaf):Option R:=w .one [l]
 match o.op with
 |.move x=>let v:=au st x;w v.1 v.2
 |.assign x=>match o.dst with
  |some d=>let v:=au st x;bif iz st v.2 then M (cn st (mvU st v.2) d v.1 (dS st v.2)) else none
  |none=>none
 |.pick c a b=>match one st c with
  |.bool t=>bif t then (let v:=au st a;w v.1 v.2) else (let v:=au st b;w v.1 v.2)
  |_=>none
 |.alloc t=>match o.dst with
  |some d=>bif decide ((st (B0+d)).sh=.off)&&!decide ((T t).cells=0) then M ((B0+d,⟨(st (B0+d)).ver+1,.agg,(T t).zero⟩)::cn st [] d .one [.bp (B0+d) 0]) else none
  |none=>none
 |.box t x=>match o.dst with
  |some d=>let v:=au st x
   bif decide ((st (B0+d)).sh=.off)&&decide (v.2.length=(T t).cells)&&decide (v.1=bm (T t).agg)&&iz st v.2 then
    (bif sP st x then M ((B0+d,⟨(st (B0+d)).ver+1,.agg,v.2⟩)::cn st [] d .one [.bp (B0+d) 0])
    else (let U:=mvU st v.2
     M ((B0+d,⟨(ac U st (B0+d)).ver+1,.agg,dS st v.2⟩)::cn st U d .one [.bp (B0+d) 0])))
   else none
  |none=>none
 |.build t H=>match T t with
  |.struct a I=>match fN st I H.toList (fh a) with
   |some ls=>w .agg ls
   |none=>none
  |.arr e n=>match fN st ((CT n).map λi=>(i*e.cells,e.cells,e.isAgg)) H.toList (CK n (fh e)).flatten with
   |some ls=>w .agg ls
   |none=>none
  |_=>none
 |.buildSlice t n H=>match T t with
  |.slice E e _=>match eN st e 0 H.toList with
   |some u=>bif B3 u.val.length n&&decide (n*e.cells<=16777216)&&bc u.kill&&dN u.frz u.kill then (match o.dst with
     |some d=>let U:=aF st u.frz;M (cn st (aN (ac U st) u.kill++U) d .one [.own u.p none E e u.val])
     |none=>none) else none
   |none=>none
  |_=>none
 |.load t x =>
  bif decide ((T t).cells=0) then none else
  match one st x with
  |.rp p a y off=>bif decide (off+(T t).cells<=a.cells) then w (bm (T t).agg) (((cR p a y).drop off).take (T t).cells) else none
  |.bp b off=>bif decide ((st b).sh=.agg)&&decide (off+(T t).cells<=(st b).ls.length) then w (bm (T t).agg) (((bJ b (st b).ver 0 (st b).ls).drop off).take (T t).cells) else none
  |.rpp p a y=>bif B3 (T t).cells 1&&!(T t).agg then w1 (.rp p a y 0) else none
  |.np p Y ep a y off=>bif bw st Y ep&&decide (off+(T t).cells<=a.cells) then w (bm (T t).agg) (((lJ p Y ep a y).drop off).take (T t).cells) else none
  |.ep r j v i sz off=>match aE st (.al r j v) with
   |.own p h _ e z=>bif B3 sz e.cells&&decide (off+(T t).cells<=e.cells) then (idx z (i:Int)).bind λy=>w (bm (T t).agg) (((lK p r j v (st EPO).ver i sz (holB h i) e 0 y).drop off).take (T t).cells) else none
   |_=>none
  |_=>none
 |.store t x y=>match o.dst with
  |some _=>none
  |none =>
  let v:=(au st y).2
  bif B3 v.length (T t).cells&&decide ((au st y).1=bm (T t).agg)&&!decide ((T t).cells=0) then
   match one st x with
   |.bp b off=>bif decide ((st b).sh=.agg)&&decide (off+v.length<=(st b).ls.length)&&iz st v then
     let U:=mvU st v;let c:=ac U st b
     M ((b,⟨c.ver+1,.agg,jP c.ls (dS st v) off⟩)::U)
    else none
   |.ep r j a0 i sz off=>match aE st (.al r j a0) with
    |.own p h E e z=>bif B3 sz e.cells&&decide (off+v.length<=e.cells)&&sC r then gX st r j i off v.length p E e z h v M else none
    |_=>none
   |_=>none
  else none
 |.nilCheck x=>match one st x with
  |.rp p a y off=>w1 (.rp p a y off)
  |.bp b off=>w1 (.bp b off)
  |.ep r j v i sz off=>bif B3 (st r).ver v then w1 (.ep r j v i sz off) else none
  |.rpp p a y=>w1 (.rpp p a y)
  |.np p Y ep a y off=>bif bw st Y ep then w1 (.np p Y ep a y off) else none
  |_=>none
 |.binOp op t x y _=>match one st x,one st y with
  |.int k a,.int k' b =>
   match op with
   |.shl=>bif decide (b<0) then none else w1 (.int k (k.wrap (a*2 ^ (min b.toNat k.bits))))
   |.shr=>bif decide (b<0) then none else w1 (.int k (a.fdiv (2 ^ (min b.toNat k.bits))))
   |.quo=>bif decide (b=0) then none else bif decide (k=k') then w1 (.int k (k.wrap (a.tdiv b))) else none
   |.rem=>bif decide (b=0) then none else bif decide (k=k') then w1 (.int k (a.tmod b)) else none
   |.and=>bif decide (k=k') then w1 (.int k (k.wrap ((BitVec.ofInt k.bits a &&& BitVec.ofInt k.bits b).toNat))) else none
   |.xor=>bif decide (k=k') then w1 (.int k (k.wrap ((BitVec.ofInt k.bits a ^^^ BitVec.ofInt k.bits b).toNat))) else none
   |_=>bif decide (k=k') then (match sQ op k a b with|some l=>w1 l|none=>none) else none
  |.bool a,.bool b=>match T t with
   |.bool=>match op with
    |.eql=>w1 (.bool (a==b))
    |.neq=>w1 (.bool (a != b))
    |_=>none
   |_=>none
  |.str a,.str b=>match op with
   |.eql=>w1 (.bool (a.toList==b.toList))
   |.neq=>w1 (.bool (a.toList != b.toList))
   |.add=>bif decide (a.size+b.size<=9223372036854775807) then w1 (.str (a++b)) else none
   |_=>none
  |_,_=>match T t with
   |.struct a _=>bif a.flat&&decide ((au st x).1=.agg)&&decide ((au st y).1=.agg) then
     match cY st a (au st x).2,cY st a (au st y).2 with
     |some (_,u),some (_,v)=>match op with
      |.eql=>w1 (.bool (a.eqv u v))
      |.neq=>w1 (.bool (!a.eqv u v))
      |_=>none
     |_,_=>none
    else none
   |_=>none
 |.unOp op _ x=>match op,one st x with
  |.not,.bool b=>w1 (.bool (!b))
  |.neg,.int k n=>w1 (.int k (k.wrap (0-n)))
  |_,_=>none
 |.convert s t x=>match T s,T t,one st x with
  |.int _,.int k,.int _ n=>w1 (.int k (k.wrap n))
  |.slice _ (.int .u8) _,.str,l=>match dt (.int .u8) (aE st l) with
   |some (_,z)=>w1 (.str (gY z))
   |none=>none
  |.str,.slice E (.int .u8) _,.str s=>bif B3 E 5 then w1 (.own false none E (.int .u8) (eJ s)) else none
  |_,_,_=>none
 |.makeSlice t n c=>match T t,one st n,one st c with
  |.slice E e X,.int _ a,.int _ b =>
   bif decide (0<=a)&&decide (a=b)&&decide (a*X<=am) then w1 (.own false none E e (CK a.toNat e.zero)) else none
  |_,_,_=>none
 |.slice t x lo hi mx=>match mx,o.dst with
  |none,some d=>match du st lo 0 with
   |none=>none
   |some i=>match T t,aE st (one st x) with
    |.str,.str s=>(match du st hi s.size with
     |some h=>bif decide (0<=i)&&decide (i<=h)&&decide (h<=(s.size:Int)) then M (cn st [] d .one [.str (s.extract i.toNat h.toNat)]) else none
     |none=>none)
    |.slice _ O _,.nal p Y ep _ E e z=>(match du st hi z.length with
     |some h=>bif decide (0<=i)&&decide (i<=h)&&decide (h<=(z.length:Int))&&B3 O.cells e.cells then
       M (cn st [] d .one [.nal p Y ep none E e ((z.take h.toNat).drop i.toNat)]) else none
     |none=>none)
    |.slice _ O _,.ro p E e z=>(match du st hi z.length with
     |some h=>bif decide (0<=i)&&decide (i<=h)&&decide (h<=(z.length:Int))&&B3 O.cells e.cells then
       M (cn st [] d .one [.ro p E e ((z.take h.toNat).drop i.toNat)]) else none
     |none=>none)
    |.slice _ O _,.own p none E e z=>(match du st hi z.length with
     |some h=>bif decide (0<=i)&&decide (i<=h)&&decide (h<=(z.length:Int))&&B3 O.cells e.cells then
       (match one st x with
       |.al r j v=>M (cn st [] d .one [.nal p [(r,j,v)] (st EPO).ver none E e ((z.take h.toNat).drop i.toNat)])
       |_=>none) else none
     |none=>none)
    |_,_=>none
  |some m,some d=>match lo,T t,one st x with
   |none,.slice _ O _,.al r j v=>(match aE st (.al r j v) with
    |.own p none E e z=>(match du st hi z.length,du st (some m) 0 with
     |some h,some k=>bif hi.isSome&&decide (h=(z.length:Int))&&decide (k=(z.length:Int))&&B3 O.cells e.cells then M (cn st (aN st [(r,j)]) d .one [.own p none E e z]) else none
     |_,_=>none)
    |_=>none)
   |_,_,_=>none
  |_,_=>none
 |.fieldAddr t x f=>match T t with
  |.struct _ I=>match I[f]? with
   |some (off,_,_)=>match one st x with
    |.rp p a y o'=>w1 (.rp p a y (o'+off))
    |.bp b o'=>w1 (.bp b (o'+off))
    |.ep r j v i sz o'=>bif B3 (st r).ver v then w1 (.ep r j v i sz (o'+off)) else none
    |.np p Y ep a y o'=>bif bw st Y ep then w1 (.np p Y ep a y (o'+off)) else none
    |_=>none
   |none=>none
  |_=>none
 |.field t x f=>match T t with
  |.struct a I=>match I[f]? with
   |some (off,n,agg)=>bif decide ((au st x).1=.agg)&&decide ((au st x).2.length=a.cells) then w (bm agg) (((au st x).2.drop off).take n) else none
   |none=>none
  |_=>none
 |.indexAddr t x i=>match one st i with
  |.int _ n=>match T t with
   |.arr e Z=>match one st x with
    |.bp b off=>bif decide (0<=n)&&decide (n<(Z:Int)) then w1 (.bp b (off+n.toNat*e.cells)) else none
    |_=>none
   |.slice _ e _=>match one st x with
    |.al r j v=>match aE st (.al r j v) with
     |.own _ _ _ O z=>bif B3 O.cells e.cells then (idx z n).bind λ_=>w1 (.ep r j v n.toNat O.cells 0) else none
     |_=>none
    |.ro p _ O z=>bif B3 O.cells e.cells then (idx z n).bind λy=>w1 (.rp p O y 0) else none
    |.nal p Y ep _ _ O z=>bif B3 O.cells e.cells&&bw st Y ep then (idx z n).bind λy=>w1 (.np p Y ep O y 0) else none
    |_=>none
   |_=>none
  |_=>none
 |.index t x i=>match one st i with
  |.int _ n=>match T t with
   |.str=>match one st x with
    |.str s=>(idx s.data.toList n).bind λy=>w1 (.int .u8 y.toNat)
    |_=>none
   |.arr e Z=>bif e.flat&&decide ((au st x).1=.agg)&&B3 (au st x).2.length (Z*e.cells)&&!B3 e.cells 0 then (match fT st e Z (au st x).2 with
     |some vs=>(idx vs n).bind λy=>w (bm e.isAgg) (cR false e y)
     |none=>none) else none
   |_=>none
  |_=>none
 |.extract x i=>match au st x with
  |(.tup ps,ls)=>match ps[i]? with
   |some (agg,n)=>w (bm agg) ((ls.drop ((ps.take i).foldl (λa b=>a+b.2) 0)).take n)
   |none=>none
  |_=>none
 |.makeFunc (.func f) first J=>bif B3 first.size 0 then
   match sR st J.toList with
   |some l=>w1 (.clo f l)
   |none=>none
  else none
 |.call c=>match o.dst with
  |none=>none
  |some d=>match c.callee with
   |.value f =>
    let z:=c.args.toList.map (au st)
    match one st f with
    |.clo g J=>jH Γ st d g (z++J.map λb=>(.one,[.bp b 0])) M
    |.clr g J=>jH Γ st d g (z++J.map λc=>(.one,[e9 c])) M
    |.fn As B φ=>bif B.flat then match jc st As z with
      |some x=>(φ x).bind λy=>w (bm B.isAgg) (aq false B y)
      |none=>none
     else none
    |_=>none
   |.builtin .len=>match c.args.toList with
    |[x]=>match c.argTypes.toList with
     |[t]=>match T t,aE st (one st x) with
      |.slice _ _ _,l=>(match gp l with
       |some n=>w1 (.int .i64 n)
       |none=>none)
      |.str,.str s=>w1 (.int .i64 s.size)
      |_,_=>none
     |_=>none
    |_=>none
   |.builtin .append=>match c.args.toList,c.argTypes.toList with
    |[x,y],[t,u]=>match T t with
     |.slice E e X=>bif B3 t u then iO st d E e X (one st x) (one st y) M else none
     |_=>none
    |_,_=>none
   |.builtin .min=>match c.args.toList with
    |[x,y]=>match one st x,one st y with
     |.int k a,.int _ b=>w1 (.int k (bif decide (b<a) then b else a))
     |_,_=>none
    |_=>none
   |.builtin .max=>match c.args.toList with
    |[x,y]=>match one st x,one st y with
     |.int k a,.int _ b=>w1 (.int k (bif decide (a<b) then b else a))
     |_,_=>none
    |_=>none
   |_=>none
 |_=>none
def az:List Leaf->List Nat
 |[]=>[]
 |.al r _ _::u=>r::az u
 |.ep r _ _ _ _ _::u=>EPO::r::az u
 |.nal _ z _ _ _ _ _::u=>EPO::z.map (·.1)++az u
 |.np _ z _ _ _ _::u=>EPO::z.map (·.1)++az u
 |.bp b _::u=>b::az u
 |.clo _ y::u=>y++az u
 |_::u=>az u
def iP (xs:List Operand):List Nat :=
 match xs with
 |[]=>[]
 |.tmp t::xs=>t::iP xs
 |_::xs=>iP xs
def kX (st:St)(r:List Nat):List Nat :=
 let a:=r.flatMap λt=>az (st t).ls
 let b:=a.flatMap λt=>az (st t).ls
 let c:=b.flatMap λt=>az (st t).ls
 r++a++b++c
def cA (st:St)(u:Op):List Nat :=
 let r:=iP u.operands.toList
 match u with
 |.move _|.pick _ _ _|.build _ _|.field _ _ _|.extract _ _|.makeFunc _ _ _|.unOp _ _ _|.makeSlice _ _ _|.alloc _=>r
 |.slice _ _ _ _ _=>EPO::(r++r.flatMap λt=>ax (st t).ls)
 |.assign _|.box _ _|.buildSlice _ _ _|.indexAddr _ _ _|.nilCheck _|.fieldAddr _ _ _|.convert _ _ _|.binOp _ _ _ _ _|.index _ _ _=>r++r.flatMap λt=>ax (st t).ls
 |.load _ _|.store _ _ _=>r++r.flatMap λt=>az (st t).ls
 |.call c=>match c.callee with
  |.builtin _=>TMP::(r++r.flatMap λt=>ax (st t).ls)
  |_=>TMP::EPO::kX st r
 |_=>kX st r
def zY (o:Oper):List Nat:=match o.dst with
 |some d=>[d,B0+d]
 |none=>[]
def fj (st:St)(u:Op):List Nat :=
 let r:=iP u.operands.toList
 match u with
 |.move _=>r
 |.indexAddr _ _ _=>r++r.flatMap λt=>ax (st t).ls
 |_=>[]
def fO (st:St)(o:Oper):List Nat:=(match o.op with|.move _|.indexAddr _ _ _=>[]|op=>cA st op)++zY o
def ek (st:St)(o:Oper):List Nat:=match o.op with
 |.store _ x _=>match one st x with
  |.ep r _ _ _ _ _=>[r]
  |_=>[]
 |_=>[]
structure cU where
 rd:List Nat
 hd:List Nat
 wr:List Nat
 cw:List Nat
def mf (a b:List Nat):Bool:=a.any λx=>b.any λy=>B3 x y
def cU.apart (x y:cU):Bool:=!mf (x.wr++x.cw) (y.wr++y.cw)&&!mf (x.wr++x.cw) y.rd&&!mf x.rd (y.wr++y.cw)&&!mf x.wr y.hd&&!mf x.hd y.wr
def j9:List Oper->List Nat->List Nat
 |[],r=>r
 |o::u,r=>j9 u (r++[o.after.toList.foldl (λs e=>bif Region.binds .any e then s ||| 2 ^ e.on ||| r.getD e.on 0 else s) 0])
def pL (r:List Nat)(u:List cU):Bool :=
 (CT u.length).all λj=>(CT j).all λi =>
  (r.getD j 0).testBit i||(match u[i]?,u[j]? with
   |some x,some y=>x.apart y
   |_,_=>false)
def lit (st:St)(t:Nat)(b:Bool):St:=ac [(t,⟨(st t).ver,.one,[.bool b]⟩)] st
def eX (st:St)(o:Oper):Upd :=
 match o.dst with
 |some d=>[(d,⟨(st d).ver+1,.und,[]⟩)]
 |none=>[]
def opK (Γ:List Ctr)(T:TypeId->TI)(y:Array Oper)(o:Oper)(st:St)(H:St->cU->Option R):Option R :=
 let z (st:St) (r:List Nat):Option R:=act Γ T o st (λU=>H (ac U st) ⟨r++fO st o,fj st o.op,(U.map (·.1)).filter (λq=>!((ek st o).any (B3 q))),ek st o⟩);let no (st:St) (r:List Nat):Option R:=H (ac (eX st o) st) ⟨r,[],o.dst.toList,[]⟩
 match o.guard with
 |none=>z st []
 |some (j,u)=>match (y[j]?).bind (·.dst) with
  |some t=>match (st t).sh,(st t).ls with
   |.one,[.bool b]=>bif b then (bif u then z (lit st t true) [t] else no (lit st t true) [t]) else (bif u then no (lit st t false) [t] else z (lit st t false) [t])
   |.und,_=>no st [t]
   |_,_=>none
  |none=>none
def qE (Γ:List Ctr)(T:TypeId->TI)(u:Array Oper):List Oper->St->List cU->(St->List cU->Option R)->Option R
 |[],I,H,y=>y I H
 |o::r,I,H,y=>opK Γ T u o I (λz t=>qE Γ T u r z (H++[t]) y)
def nW (ops:Array Oper):Bool:=(CT ops.size).all λi=>match ops[i]? with
 |some o=>o.after.toList.all λe=>!Region.binds .any e||decide (e.on<i)
 |none=>true
def regK (Γ:List Ctr)(T:TypeId->TI)(ops:Array Oper)(u:Bool)(st:St)(y:St->Option R):Option R :=
 bif u then
  qE Γ T ops ops.toList st [] (λr z=>bif nW ops&&pL (j9 ops.toList []) z then y r else none)
 else qE Γ T ops ops.toList st [] (λr _=>y r)
inductive Ex where
 |normal|exit (id:Nat)|ret
def oZ (y:St->(Ex->St->Option R)->Option R)(u:Ex->St->Option R):Ex->St->Option R
 |.normal,r=>y r u
 |e,r=>u e r
def sS (id:Nat)(y:Ex->St->Option R):Ex->St->Option R
 |.exit r,u=>bif B3 r id then y .normal u else y (.exit r) u
 |e,u=>y e u
def av (L:List (Nat×bX)):St:=λq=>ac L (λ_=>bX.none) q
inductive Coe where
 |keep|kill
 |own (p:Bool) (E:TypeId) (e:Ty)|ro (p:Bool) (E:TypeId) (e:Ty)|rp (p:Bool)
def bC (st:St)(live:List Nat):Coe->Leaf->Leaf
 |.kill,_=>.dead
 |.own p E e,.nil=>.own p none E e []
 |.own p _ _,.own q none E e y=>bif !q||p then .own p none E e y else .dead
 |.ro p E e,.nil=>.ro p E e []
 |.ro p E e,.ro q _ H y=>bif !q||p then (match castSh e H y with | some z=>.ro p E e z | none=>.dead) else .dead
 |.ro p E e,.own q none _ H y=>bif !q||p then (match castSh e H y with | some z=>.ro p E e z | none=>.dead) else .dead
 |.rp p,.rpp q a x=>bif !q||p then .rpp p a x else .dead
 |.rp p,.rp q a x off=>bif !q||p then .rp p a x off else .dead
 |.keep,.int k n=>.int k n
 |.keep,.bool b=>.bool b
 |.keep,.str s=>.str s
 |.keep,.nil=>.nil
 |.keep,.hdr n=>.hdr n
 |.keep,.fn I B J=>.fn I B J
 |.keep,.clr f M=>.clr f M
 |.keep,.bp b off=>bif live.any (B3 b) then .bp b off else .dead
 |.keep,.clo f u=>bif u.all (λb=>live.any (B3 b)) then .clo f u else .dead
 |.keep,.al r j v=>bif live.any (B3 r)&&B3 (st r).ver v then .al r j 0 else .dead
 |_,_=>.dead
def di (st:St)(live:List Nat):List Coe->List Leaf->List Leaf
 |c::u,l::r=>bC st live c l::di st live u r
 |[],_::r=>.dead::di st live [] r
 |_,[]=>[]
def mg (live:List (Nat×List Coe))(st:St):St:=av (live.map λr=>(r.1,⟨0,(st r.1).sh,di st (live.map (·.1)) r.2 (st r.1).ls⟩))
def gr (live:List (Nat×List Coe))(rec:St->Option R)(u:Ex->St->Option R):Ex->St->Option R
 |.normal,r=>rec (mg live r)
 |e,r=>u e r
def aX (live:List (Nat×List Coe))(y:St->(Ex->St->Option R)->Option R):Nat->St->(Ex->St->Option R)->Option R
 |0,_,_=>none
 |k+1,z,u=>y z (gr live (λr=>aX live y k r u) u)
def fb:Code->Nat
 |.region id _ _=>id+1
 |.seq a b=>match fb a with
  |0=>fb b
  |n=>n
 |.cond _ a b=>match fb a with
  |0=>fb b
  |n=>n
 |.block _ c=>fb c
 |.loop c=>fb c
 |.scope c=>fb c
 |_=>0
def lN (L:List (Nat×List (Nat×List Coe)))(k:Nat):List (Nat×List Coe):=match L with
 |[]=>[]
 |(n,l)::r=>bif B3 n k then l else lN r k
def zZ (st:St)(c:Operand)(r no:St->Option R):Option R :=
 match c with
 |.tmp t=>match (st t).sh,(st t).ls with
  |.one,[.bool b]=>bif b then r (lit st t true) else no (lit st t false)
  |_,_=>none
 |.const (.bool b)=>bif b then r st else no st
 |_=>none
def evK (Γ:List Ctr)(T:TypeId->TI)(L:List (Nat×List (Nat×List Coe)))(r:Nat):Code->St->(Ex->St->Option R)->Option R
 |.skip,u,z=>z .normal u
 |.region _ I H,u,z=>regK Γ T I H u (z .normal)
 |.seq a b,u,z=>evK Γ T L r a u (oZ (evK Γ T L r b) z)
 |.cond c x y,u,z=>zZ u c (λu=>evK Γ T L r x u z) (λu=>evK Γ T L r y u z)
 |.block id c,u,z=>evK Γ T L r c u (sS id z)
 |.loop c,u,z=>aX (lN L (fb c)) (evK Γ T L r c) r (mg (lN L (fb c)) u) z
 |.exit id,u,z=>z (.exit id) u
 |.ret,u,z=>z .ret u
 |_,_,_=>none
def sub:Code->List Nat->Code
 |.seq a _,0::p=>sub a p
 |.seq _ b,1::p=>sub b p
 |.cond _ x _,0::p=>sub x p
 |.cond _ _ y,1::p=>sub y p
 |.block _ c,0::p=>sub c p
 |.loop c,0::p=>sub c p
 |c,_=>c
def kAt (u:Code->St->(Ex->St->Option R)->Option R):Code->List Nat->(Ex->St->Option R)->Ex->St->Option R
 |.seq a b,0::p,r=>kAt u a p (oZ (u b) r)
 |.seq _ b,1::p,r=>kAt u b p r
 |.cond _ x _,0::p,r=>kAt u x p r
 |.cond _ _ y,1::p,r=>kAt u y p r
 |.block id c,0::p,r=>kAt u c p (sS id r)
 |_,_,r=>r
def cK (fn:Func):Code:=match fn.body with
 |some c=>c
 |none=>.skip
def ae {A:Type}(step:(A->Option R)->A->Option R):Nat->A->Option R
 |0,_=>none
 |k+1,a=>step (ae step k) a
theorem lp {A:Type}(live:List (Nat×List Coe))(u:St->(Ex->St->Option R)->Option R)(r:Ex->St->Option R)(S:A->St)
  (step:(A->Option R)->A->Option R) (h:∀ (rec:St->Option R) (a:A),u (S a) (gr live rec r)=step (λa=>rec (S a)) a) :
  ∀ (k:Nat) (a:A),aX live u k (S a) r=ae step k a
 |0,_=>rfl
 |k+1,a=>by
  have y:=lp live u r S step h k;simp only[aX,ae];rw[h];exact congrArg (λg=>step g a) (funext y)
abbrev wr (k:IntKind)(n:Int):Int:=k.wrap n
def aQ (k:IntKind)(a b:Int):Int:=k.wrap ((BitVec.ofInt k.bits a &&& BitVec.ofInt k.bits b).toNat)
def qF (k:IntKind)(a b:Int):Int:=k.wrap ((BitVec.ofInt k.bits a ^^^ BitVec.ofInt k.bits b).toNat)
def kk (p:Bool):(cs:List (Bool×Ty))->ma cs->List (Bool×Bool×(a:Ty)×a.den)
 |[],_=>[]
 |c::cs,x=>(p,c.1,⟨c.2,x.1⟩)::kk p cs x.2
def u5 (i off:Nat):Leaf->Leaf
 |.own p _ E e r=>.own p (some (i,off)) E e r
 |l=>l
def dj (t:Nat):(ps:List PK)->ab ps->Upd
 |[],_=>[]
 |.rd a::ps,x=>(t,⟨0,bm a.isAgg,cR true a x.1⟩)::dj (t+1) ps x.2
 |.own a::ps,x=>(t,⟨0,bm a.isAgg,aq true a x.1⟩)::dj (t+1) ps x.2
 |.io a::ps,x=>(t,⟨7,bm a.isAgg,aq true a x.1⟩)::dj (t+1) ps x.2
 |.rref a::ps,x=>(t,⟨0,.one,[.rp true a x.1 0]⟩)::dj (t+1) ps x.2
 |.rref2 a::ps,x=>(t,⟨0,.one,[.rpp true a x.1]⟩)::dj (t+1) ps x.2
 |.iop a::ps,x=>(t,⟨0,.one,[.bp (B0+t) 0]⟩)::(B0+t,⟨0,.agg,aq true a x.1⟩)::dj (t+1) ps x.2
 |.fn r B::ps,x=>(t,⟨0,.one,[.fn r B x.1]⟩)::dj (t+1) ps x.2
 |.clo f u::ps,x=>(t,⟨0,.one,[.clr f (kk true u x.1)]⟩)::dj (t+1) ps x.2
 |.hol a c off::ps,x=>(t,⟨0,bm a.isAgg,aT (aq true a x.1.1) c (u5 x.1.2 off ((aq true a x.1.1).getD c .dead))⟩)::dj (t+1) ps x.2
def iA (st:St)(t:Nat):(ps:List PK)->Option (cS (ah ps))
 |[]=>some ⟨false,(),[],[],[]⟩
 |.io a::ps=>match (bif decide ((au st (.tmp t)).1=bm a.isAgg) then co st a (au st (.tmp t)).2 else none),iA st (t+1) ps with
  |some x,some y=>some ⟨x.p||y.p,(x.val,y.val),x.frz++y.frz,x.kill++y.kill,[]⟩
  |_,_=>none
 |.iop a::ps=>match co st a (bJ (B0+t) (st (B0+t)).ver 0 (st (B0+t)).ls),iA st (t+1) ps with
  |some x,some y=>some ⟨x.p||y.p,(x.val,y.val),x.frz++y.frz,x.kill++y.kill,[]⟩
  |_,_=>none
 |.rd _::ps=>iA st (t+1) ps
 |.own _::ps=>iA st (t+1) ps
 |.rref _::ps=>iA st (t+1) ps
 |.rref2 _::ps=>iA st (t+1) ps
 |.fn _ _::ps=>iA st (t+1) ps
 |.clo _ _::ps=>iA st (t+1) ps
 |.hol _ _ _::ps=>iA st (t+1) ps
def vR (st:St)(T:TypeId->TI):ResultVar->List Leaf
 |.tmp t=>(au st (.tmp t)).2
 |.cell t r=>match one st (.tmp t) with
  |.bp b off=>((bJ b (st b).ver 0 (st b).ls).drop off).take (T r).cells
  |_=>[]
def pM (st:St)(T:TypeId->TI):ResultVar->aI
 |.tmp t=>(au st (.tmp t)).1
 |.cell t r=>match one st (.tmp t) with
  |.bp b off=>bif decide ((st b).sh=.agg)&&CY (off+(T r).cells) (st b).ls.length&&!B3 (T r).cells 0 then bm (T r).agg else .off
  |_=>.off
def RK.sh:RK->aI
 |.v a=>bm a.isAgg
 |.bv a=>bm a.isAgg
 |.box _=>.one
def bK (t:Nat):List PK->List Nat
 |[]=>[]
 |.iop _::r=>(B0+t)::bK (t+1) r
 |_::r=>bK (t+1) r
def gA (t:Nat):List PK->List Nat
 |[]=>[]
 |.io _::r=>t::gA (t+1) r
 |.iop _::r=>t::gA (t+1) r
 |_::r=>gA (t+1) r
def sD (st:St)(z:List Nat):(r:RK)->List Leaf->Option (cS r.den)
 |.v a,u=>co st a u
 |.bv a,u=>(cY st a u).map λy=>⟨false,y.2,bE st u,[],[]⟩
 |.box a,u=>match u with
  |[.bp b 0]=>bif !(z.any (B3 b)) then co st a (bJ b (st b).ver 0 (st b).ls) else none
  |_=>none
def kF (st:St)(T:TypeId->TI)(H:List Nat):(u:List RK)->List ResultVar->Option (cS (ai u))
 |[],[]=>some ⟨false,(),[],[],[]⟩
 |r::u,x::I=>bif decide (pM st T x=r.sh) then match sD st H r (vR st T x),kF st T H u I with
  |some y,some z=>some ⟨y.p||z.p,(y.val,z.val),y.frz++z.frz,y.kill++z.kill,[]⟩
  |_,_=>none else none
 |_,_=>none
def finR (T:TypeId->TI)(ps:List PK)(z:List RK)(r:Bool)(u:List ResultVar)(st:St):Option (ai z×ah ps) :=
 match kF st T (bK 0 ps) z u,iA st 0 ps with
 |some y,some o=>bif bc (y.kill++o.kill)&&dN (y.frz++o.frz) (y.kill++o.kill)&&(!r||!(y.p||o.p)) then some (y.val,o.val) else none
 |_,_=>none
def c9 (T:TypeId->TI)(ps:List PK)(y:List RK)(r:Bool)(u:List ResultVar):Ex->St->Option (ai y×ah ps)
 |.exit _,_=>none
 |_,z=>finR T ps y r u z
def lO (nt:Nat)(fix:List Nat)(r:Array Oper)(o:Oper):Bool :=
 (match o.dst with
  |some d=>CU d nt&&!(fix.any (B3 d))
  |none=>true) &&
 (match o.guard with
  |some (j,_)=>match (r[j]?).bind (·.dst) with
   |some s=>CU s nt
   |none=>true
  |none=>true)
def xf (nt:Nat):Operand->Bool
 |.tmp t=>CU t nt
 |_=>true
def d6 (nt:Nat)(fix:List Nat):Code->Bool
 |.region _ r _=>r.toList.all (lO nt fix r)
 |.seq a b=>d6 nt fix a&&d6 nt fix b
 |.cond c a b=>xf nt c&&d6 nt fix a&&d6 nt fix b
 |.block _ c=>d6 nt fix c
 |.loop c=>d6 nt fix c
 |_=>true
def qG:List RK->Bool
 |[.box _]=>true
 |rs=>rs.all RK.isV
def dz (L:List (Nat×List (Nat×List Coe)))(u:List Nat):Code->Bool
 |.seq a b=>dz L u a&&dz L u b
 |.cond _ a b=>dz L u a&&dz L u b
 |.block _ c=>dz L u c
 |.loop c=>(u.all λb=>(lN L (fb c)).any λr=>B3 r.1 b)&&dz L u c
 |_=>true
def evF (Γ:List Ctr)(T:TypeId->TI)(L:List (Nat×List (Nat×List Coe)))(u:Nat)(fn:Func)(ps:List PK)(y:List RK)(r:Bool)(x:ab ps):Option (ai y×ah ps) :=
 match fn.body with
 |some c=>bif d6 fn.ntmps (gA 0 ps) c&&CY ps.length fn.ntmps&&CY fn.ntmps GH&&qG y&&dz L (bK 0 ps) c then
  evK Γ T L u c (av (dj 0 ps x)) (c9 T ps y r fn.results.toList) else none
 |none=>none
end
def fk (e:Ty)(r:Nat)(xs:List e.den):Option ((List e.den×Unit)×Unit):=bif decide ((0+xs.length)*r<=am) then some ((xs,()),()) else none
theorem kl (e:Ty)(r:Nat):fk e r []=some (([],()),()):=by
 unfold fk;simp[am]
def ka:Code->Nat->Oper
 |.region _ r _,i=>(r[i]?).getD ⟨none,.move (.tmp 0),0,"",#[],none⟩
 |_,_=>⟨none,.move (.tmp 0),0,"",#[],none⟩
def ge (e:Ty)(r:Nat)(xs:List e.den)(i:Int)(u:List e.den):Option ((List e.den×Unit)×Unit) :=
 if 0<=i/\i<=(xs.length:Int)/\0<u.length/\(xs.length+u.length)*r<=am then some ((xs.take i.toNat++u++xs.drop i.toNat,()),()) else none
def mh {α:Type}(u:α×Unit->Option Bool):List α->Option (List α)
 |[]=>some []
 |x::y=>(u (x,())).bind λb=>(mh u y).map λr=>bif b then r else x::r
def gZ (e:Ty)(xs:List e.den)(r:e.den×Unit->Option Bool):Option ((List e.den×Unit)×Unit):=if xs.length<=1048576 then (mh r xs).map λu=>((u,()),()) else none
abbrev Ty.hd:Ty->Ty
 |.pair a b=>.pair a.hd b.hd
 |.list _ _ _=>.hdr
 |a=>a
abbrev hdD:(a:Ty)->a.den->a.hd.den
 |.pair a b,x=>(hdD a x.1,hdD b x.2)
 |.list _ _ e,r=>List.length (α:=e.den) r
 |.int _,x=>x
 |.bool,x=>x
 |.str,x=>x
 |.unit,x=>x
 |.hdr,x=>x
noncomputable def qH (e:Ty)(r:Nat)(xs:List e.den):Option ((List e.hd.den×Unit)×Unit):=(fk e r xs).map λy=>((y.1.1.map (hdD e),()),())
def insI (n:Int):List Int->List Int
 |[]=>[n]
 |m::r=>if n<=m then n::m::r else m::insI n r
def z7:List Int->List Int
 |[]=>[]
 |n::r=>insI n (z7 r)
def medianM (xs:List Int):Option ((Int×Unit)×Unit) :=
 let l:=z7 (xs.drop (xs.length-3))
 some ((l.getD ((l.length-1) / 2) 0,()),())
def aV {R:Type}(x y:ByteArray)(k:ByteArray->Option R):Option R:=bif decide (x.size+y.size<=9223372036854775807) then k (x++y) else none
open Go.RowKit
def de (w:World)(g off:Nat)(cs:List Value):Prop:=∀ i v,cs[i]?=some v->w.cell? ⟨g,off+i,none⟩=some v
theorem de.same {w w':World}{g off:Nat}{cs:List Value}(h:de w g off cs)(u:w'.heap[g]?=w.heap[g]?):de w' g off cs:=by
 intro i v r;have:=h i v r;simpa[C7,u]using this
def Rd (w:World)(G:Nat->Prop):(a:Ty)->a.den->List Value->Prop
 |.int k,n,r=>r=[.int k n]
 |.bool,b,r=>r=[.bool b]
 |.str,s,r=>r=[.string s]
 |.unit,_,r=>r=[]
 |.hdr,n,r=>∃ A u,r=[.slice A n u]
 |.pair a b,x,r=>∃ H z,r=H++z/\Rd w G a x.1 H/\Rd w G b x.2 z
 |.list _ _ e,y,r=>∃ A u,r=[.slice A y.length u]/\y.length<=u /\
  (0<y.length->∃ g o,A=some ⟨g,o,none⟩/\G g/\∀ j (x:e.den),y[j]?=some x->∃ c,Rd w G e x c/\de w g (o+j*e.cells) c)
theorem Rd.carry {w w':World}{G G':Nat->Prop}(u:∀ k,G k->G' k)(r:∀ k,G k->w'.heap[k]?=w.heap[k]?) :
  ∀ {a:Ty} {x:a.den} {cs:List Value},Rd w G a x cs->Rd w' G' a x cs
 |.int _,_,_,h=>h
 |.bool,_,_,h=>h
 |.str,_,_,h=>h
 |.unit,_,_,h=>h
 |.hdr,_,_,h=>h
 |.pair _ _,_,_,⟨X,M,e,I,O⟩=>⟨X,M,e,Rd.carry u r I,Rd.carry u r O⟩
 |.list _ _ _,_,_,⟨A,y,e,Y,h⟩=>⟨A,y,e,Y,λhp=>by
   obtain⟨g,o,R,H,Z⟩:=h hp;exact⟨g,o,R,u g H,λj x hj=>by
    obtain⟨c,J,z⟩:=Z j x hj;exact⟨c,Rd.carry u r J,z.same (r g H)⟩⟩⟩
theorem Rd.mono {w:World}{G G':Nat->Prop}(r:∀ k,G k->G' k){a:Ty}{x:a.den}{cs:List Value}(h:Rd w G a x cs):Rd w G' a x cs :=
 Rd.carry r (λ_ _=>rfl) h
theorem Rd.len {w:World}{G:Nat->Prop}:∀ {a:Ty} {x:a.den} {cs:List Value},Rd w G a x cs->cs.length=a.cells
 |.int _,_,_,h=>by rw[show _=_ from h];rfl
 |.bool,_,_,h=>by rw[show _=_ from h];rfl
 |.str,_,_,h=>by rw[show _=_ from h];rfl
 |.unit,_,_,h=>by rw[show _=_ from h];rfl
 |.hdr,_,_,⟨A,r,e⟩=>by rw[e];rfl
 |.pair _ _,_,_,⟨z,H,e,u,y⟩=>by rw[e,Cn,Rd.len u,Rd.len y];rfl
 |.list _ _ _,_,_,⟨A,r,e,_,_⟩=>by rw[e];rfl
theorem Rd.one {w:World}{G:Nat->Prop}:∀ {a:Ty} {x:a.den} {cs:List Value},Rd w G a x cs->∀ v∈cs,v.oneCell'=true
 |.int _,_,_,h=>by rw[show _=_ from h];simp[CD]
 |.bool,_,_,h=>by rw[show _=_ from h];simp[CD]
 |.str,_,_,h=>by rw[show _=_ from h];simp[CD]
 |.unit,_,_,h=>by rw[show _=_ from h];simp
 |.hdr,_,_,⟨A,u,e⟩=>by rw[e];simp[CD]
 |.pair _ _,_,_,⟨H,I,e,y,z⟩=>by
  rw[e];intro v r;rcases CG.1 r with r|r
  ·exact Rd.one y v r
  ·exact Rd.one z v r
 |.list _ _ _,_,_,⟨A,u,e,_,_⟩=>by rw[e];simp[CD]
theorem Rd.flat {w w':World}{G G':Nat->Prop}:∀ {a:Ty} {x:a.den} {cs:List Value},a.flat=true->Rd w G a x cs->Rd w' G' a x cs
 |.int _,_,_,_,h=>h
 |.bool,_,_,_,h=>h
 |.str,_,_,_,h=>h
 |.unit,_,_,_,h=>h
 |.hdr,_,_,_,h=>h
 |.pair _ _,_,_,r,⟨u,y,e,z,H⟩=>by
  simp only[Ty.flat,B6]at r;exact⟨u,y,e,Rd.flat r.1 z,Rd.flat r.2 H⟩
theorem iB:∀ {a b:Ty},a.sh=b.sh->a.cells=b.cells
 |.pair a b,.pair c d,h=>by
  simp only[Ty.sh,Ty.pair.injEq]at h;simp only[Ty.cells,iB h.1,iB h.2]
 |.int _,.int _,_|.int _,.bool,_|.int _,.str,_|.int _,.hdr,_|.int _,.list _ _ _,_=>rfl
 |.bool,.int _,_|.bool,.bool,_|.bool,.str,_|.bool,.hdr,_|.bool,.list _ _ _,_=>rfl
 |.str,.int _,_|.str,.bool,_|.str,.str,_|.str,.hdr,_|.str,.list _ _ _,_=>rfl
 |.hdr,.int _,_|.hdr,.bool,_|.hdr,.str,_|.hdr,.hdr,_|.hdr,.list _ _ _,_=>rfl
 |.list _ _ _,.int _,_|.list _ _ _,.bool,_|.list _ _ _,.str,_|.list _ _ _,.hdr,_|.list _ _ _,.list _ _ _,_=>rfl
 |.unit,.unit,_=>rfl
theorem sU {A u B r:Type}(H:A=u)(z:B=r){x:A×B}{y:u×r}(h:HEq x y):HEq x.1 y.1/\HEq x.2 y.2:=by
 subst H;subst z;cases h;exact⟨HEq.rfl,HEq.rfl⟩
theorem sW {A r:Type}(z:A=r){xs:List A}{u:List r}(h:HEq xs u):xs.length=u.length/\∀ (j:Nat) (y:r),u[j]?=some y->∃ x:A,xs[j]?=some x/\HEq x y:=by
 subst z;cases h;exact⟨rfl,λj y H=>⟨y,H,HEq.rfl⟩⟩
theorem Rd.flags {w:World}{G:Nat->Prop}:∀ {a b:Ty} {x:a.den} {y:b.den} {cs:List Value},a.sh=b.sh->HEq x y->Rd w G a x cs->Rd w G b y cs
 |.pair a b,.pair c d,x,y,cs,h,r,⟨X,O,e,u,H⟩=>by
  simp only[Ty.sh,Ty.pair.injEq]at h;obtain⟨J,z⟩:=sU (jO h.1) (jO h.2) r;exact⟨X,O,e,Rd.flags h.1 J u,Rd.flags h.2 z H⟩
 |.list _ _ e,.list _ _ e',xs,ys,cs,h,r,⟨A,I,u,H,J⟩=>by
  simp only[Ty.sh,Ty.list.injEq,true_and]at h;obtain⟨z,h5⟩:=sW (jO h.2) r;refine⟨A,I,by rw[<- z];exact u,by rw[<- z];exact H,λhp=>?_⟩;obtain⟨g,o,R,Y,hx⟩:=J (by rw[z];exact hp);refine⟨g,o,R,Y,λj y hj=>?_⟩;obtain⟨x,h6,Z⟩:=h5 j y hj;obtain⟨c,M,h9⟩:=hx j x h6;rw[<- iB h.2];exact⟨c,Rd.flags h.2 Z M,h9⟩
 |.int k,.int k',x,y,cs,h,r,u=>by
  simp only[Ty.sh]at h
  grind
 |.bool,.bool,x,y,cs,h,r,u=>by cases r;exact u
 |.str,.str,x,y,cs,h,r,u=>by cases r;exact u
 |.unit,.unit,x,y,cs,h,r,u=>u
 |.hdr,.hdr,x,y,cs,h,r,u=>by cases r;exact u
def Row (w:World)(E:TypeId)(s:Nat)(v:Value)(n:Nat)(flat:List Value):Prop :=
 flat.length=n*s/\((v=.slice none 0 0/\n=0) \/
  ∃ g r u mk,v=.slice (some ⟨g,0,none⟩) n r/\w.heap[g]?=some (.cells u E mk)/\n<=r/\(mk=(0,0)/\r<=maxLen\/E=5/\u.size<=mk.1)/\r*s<=u.size/\u.toList.take (n*s)=flat)
theorem Row.of {w:World}{b:Nat}{E:TypeId}{s n:Nat}{v:Value}{flat:List Value}(h:w.ownsRow b E s v n flat):Row w E s v n flat:=by
 refine⟨h.1,h.2.imp id ?_⟩
 grind
theorem Row.same {w w':World}{E:TypeId}{s n:Nat}{v:Value}{flat:List Value}(h:Row w E s v n flat)(z:∀ k∈v.ownBlock.toList,w'.heap[k]?=w.heap[k]?):Row w' E s v n flat:=by
 refine⟨h.1,?_⟩;rcases h.2 with I|⟨g,u,y,mk,rfl,H,r⟩
 ·grind
 ·exact .inr ⟨g,u,y,mk,rfl,by rw[z g (by simp[CR])];exact H,r⟩
theorem Row.lt {w:World}{E:TypeId}{s n:Nat}{v:Value}{flat:List Value}(h:Row w E s v n flat):∀ k∈v.ownBlock.toList,k<w.heap.size:=by
 intro k r;rcases h.2 with ⟨rfl,_⟩|⟨g,u,y,_,rfl,z,_⟩
 ·simp[CR]at r
 ·simp[CR]at r
  grind
theorem Row.slice {w:World}{E:TypeId}{s n:Nat}{v:Value}{flat:List Value}(h:Row w E s v n flat):∃ A r,v=.slice A n r/\n<=r:=by
 rcases h.2 with ⟨rfl,y⟩|⟨g,r,u,_,rfl,_,z,_⟩
 ·grind
 ·grind
theorem Row.nil (w:World)(E:TypeId)(s:Nat):Row w E s (.slice none 0 0) 0 []:=⟨by simp,.inl ⟨rfl,rfl⟩⟩
theorem Row.cellAt {w:World}{E:TypeId}{s n g u:Nat}{flat:List Value}(h:Row w E s (.slice (some ⟨g,0,none⟩) n u) n flat)(j:Nat)(J:j<n*s):w.cell? ⟨g,j,none⟩=flat[j]?:=by
 rcases h.2 with ⟨y,_⟩|⟨M,H,z,mk,y,I,_,_,_,r⟩
 ·grind
 ·simp at y;obtain⟨rfl,rfl⟩:=y;rw[cell_of_row w g j z E mk I,<- r,CI,if_pos J];simp
theorem z8 {mk:Nat×Nat}{E z c:Nat}(h:mk=(0,0)/\c<=maxLen\/E=5/\z<=mk.1):mk.2=0\/z<=mk.1:=h.imp (λh=>by rw[h.1]) (·.2)
theorem rB {w:World}{g j:Nat}{cs:Array Value}{E:TypeId}{mk:Nat×Nat}(r:w.heap[g]?=some (.cells cs E mk))(y:mk.2=0\/cs.size<=mk.1)(u:j<cs.size):w.frozen? ⟨g,j,none⟩=false:=by
 simp only[World.frozen?,r,Bool.and_eq_false_iff,decide_eq_false_iff_not];omega
def Mx (w:World)(G:Nat->Prop):(a:Ty)->Option Nat->Nat->a.den->List Value->List Nat->Prop
 |.int k,_,_,n,y,r=>y=[.int k n]/\r=[]
 |.bool,_,_,b,y,r=>y=[.bool b]/\r=[]
 |.str,_,_,s,y,r=>y=[.string s]/\r=[]
 |.unit,_,_,_,y,r=>y=[]/\r=[]
 |.hdr,_,_,n,y,r=>(∃ A J,y=[.slice A n J])/\r=[]
 |.pair a b,h,pos,x,y,r=>∃ O M R X,y=O++M/\r=R++X/\Mx w G a h pos x.1 O R/\Mx w G b h (pos+a.cells) x.2 M X
 |.list m E e,h,pos,I,y,r=>∃ v,y=[v]/\v.oneCell'=true /\
  (if m=true then (if h=some pos then r=[] else ∃ z H,Row w E e.cells v I.length z/\r=v.ownBlock.toList++(CT I.length).flatMap H /\
    ∀ j (x:e.den),I[j]?=some x->∃ c,Mx w G e none 0 x c (H j)/\∀ i u,c[i]?=some u->z[j*e.cells+i]?=some u)
   else r=[]/\Rd w G (.list m E e) I [v])
def OwB (w:World)(G:Nat->Prop)(h:Option (Nat×Nat))(E:TypeId)(e:Ty)(xs:List e.den)(v:Value)(bs:List Nat):Prop :=
 ∃ r y,Row w E e.cells v xs.length r/\bs=v.ownBlock.toList++(CT xs.length).flatMap y /\
  ∀ j (x:e.den),xs[j]?=some x->∃ c,Mx w G e (cZ h j) 0 x c (y j)/\∀ i u,c[i]?=some u->r[j*e.cells+i]?=some u
def OwH (w:World)(G:Nat->Prop)(h:Option (Nat×Nat))(E:TypeId)(e:Ty)(xs:List e.den)(v:Value)(bs:List Nat):Prop:=bs.Nodup/\OwB w G h E e xs v bs
abbrev Ow (w:World)(G:Nat->Prop)(E:TypeId)(e:Ty)(xs:List e.den)(v:Value)(bs:List Nat):Prop:=OwH w G none E e xs v bs
theorem OwB.one {w:World}{G:Nat->Prop}{h:Option (Nat×Nat)}{E:TypeId}{e:Ty}{xs:List e.den}{v:Value}{bs:List Nat}(H:OwB w G h E e xs v bs):v.oneCell'=true:=by
 obtain⟨r,z,u,_⟩:=H;obtain⟨A,y,rfl,_⟩:=u.slice;rfl
theorem bP {w:World}{G:Nat->Prop}{h:Option Nat}{E:TypeId}{e:Ty}{pos:Nat}{xs:List e.den}{cs:List Value}{bs:List Nat}(r:h≠some pos) :
  Mx w G (.list true E e) h pos xs cs bs<->∃ v,cs=[v]/\OwB w G none E e xs v bs:=by
 simp only[Mx,if_neg r];constructor
 ·rintro⟨v,h1,h2,h3⟩;exact⟨v,h1,h3⟩
 ·rintro⟨v,h1,h3⟩;exact⟨v,h1,h3.one,h3⟩
theorem jq {w:World}{G:Nat->Prop}{E:TypeId}{e:Ty}{pos:Nat}{xs:List e.den}{cs:List Value}{bs:List Nat} :
  Mx w G (.list true E e) (some pos) pos xs cs bs<->∃ v,cs=[v]/\v.oneCell'=true/\bs=[]:=by
 simp only[Mx,if_true]
theorem cB {w:World}{G:Nat->Prop}{h:Option Nat}{E:TypeId}{e:Ty}{pos:Nat}{xs:List e.den}{cs:List Value}{bs:List Nat} :
  Mx w G (.list false E e) h pos xs cs bs<->bs=[]/\Rd w G (.list false E e) xs cs:=by
 simp only[Mx];constructor
 ·grind
 ·rintro⟨h1,h2⟩;obtain⟨A,r,u,y⟩:=h2;exact⟨_,u,rfl,h1,A,r,rfl,y⟩
theorem ee {n:Nat}{r:Nat->List Nat}{k:Nat}:k∈(CT n).flatMap r<->∃ j,j<n/\k∈r j:=by simp
theorem Mx.carry {w w':World}{G G':Nat->Prop}(J:∀ k,G k->G' k)(I:∀ k,G k->w'.heap[k]?=w.heap[k]?) :
  ∀ {a:Ty} {h:Option Nat} {pos:Nat} {x:a.den} {cs:List Value} {bs:List Nat},(∀ k∈bs,w'.heap[k]?=w.heap[k]?)->Mx w G a h pos x cs bs->Mx w' G' a h pos x cs bs
 |.int _,_,_,_,_,_,_,h=>h
 |.bool,_,_,_,_,_,_,h=>h
 |.str,_,_,_,_,_,_,h=>h
 |.unit,_,_,_,_,_,_,h=>h
 |.hdr,_,_,_,_,_,_,h=>h
 |.pair _ _,_,_,_,_,_,y,⟨c1,c2,b1,b2,M,X,O,u⟩=>⟨c1,c2,b1,b2,M,X,Mx.carry J I (λk r=>y k (by rw[X];exact B9 _ r)) O,Mx.carry J I (λk r=>y k (by rw[X];exact B8 _ r)) u⟩
 |.list m E e,h,pos,xs,cs,bs,y,H=>by
  cases m with
  |false =>
   rw[cB]at H ⊢;exact⟨H.1,H.2.carry J I⟩
  |true =>
   by_cases Z:h=some pos
   ·subst Z;rw[jq]at H ⊢;exact H
   ·rw[bP Z]at H ⊢;obtain⟨v,M,z,R,O,u,h3⟩:=H;refine⟨v,M,z,R,O.same (λk r=>y k (by rw[u];exact B9 _ r)),u,λj x Y=>?_⟩;obtain⟨c,h4,h5⟩:=h3 j x Y;refine⟨c,?_,h5⟩;exact Mx.carry J I (λk r=>y k (by rw[u];exact B8 _ (ee.2 ⟨j,(B5.1 Y).1,r⟩))) h4
theorem Mx.mono {w:World}{G G':Nat->Prop}(r:∀ k,G k->G' k){a:Ty}{h:Option Nat}{pos:Nat}{x:a.den}{cs:List Value}{bs:List Nat}(H:Mx w G a h pos x cs bs):Mx w G' a h pos x cs bs :=
 Mx.carry r (λ_ _=>rfl) (λ_ _=>rfl) H
theorem OwB.carry {w w':World}{G G':Nat->Prop}{h:Option (Nat×Nat)}{E:TypeId}{e:Ty}{xs:List e.den}{v:Value}{bs:List Nat}(H:OwB w G h E e xs v bs)
  (R:∀ k,G k->G' k) (O:∀ k,G k->w'.heap[k]?=w.heap[k]?) (I:∀ k∈bs,w'.heap[k]?=w.heap[k]?):OwB w' G' h E e xs v bs:=by
 obtain⟨r,y,M,u,X⟩:=H;refine⟨r,y,M.same (λk z=>I k (by rw[u];exact B9 _ z)),u,λj x J=>?_⟩;obtain⟨c,Z,Y⟩:=X j x J;exact⟨c,Mx.carry R O (λk z=>I k (by rw[u];exact B8 _ (ee.2 ⟨j,(B5.1 J).1,z⟩))) Z,Y⟩
theorem OwH.carry {w w':World}{G G':Nat->Prop}{h:Option (Nat×Nat)}{E:TypeId}{e:Ty}{xs:List e.den}{v:Value}{bs:List Nat}(H:OwH w G h E e xs v bs)
 (r:∀ k,G k->G' k) (y:∀ k,G k->w'.heap[k]?=w.heap[k]?) (u:∀ k∈bs,w'.heap[k]?=w.heap[k]?):OwH w' G' h E e xs v bs:=⟨H.1,H.2.carry r y u⟩
theorem Mx.len {w:World}{G:Nat->Prop}:∀ {a:Ty} {h:Option Nat} {pos:Nat} {x:a.den} {cs:List Value} {bs:List Nat},Mx w G a h pos x cs bs->cs.length=a.cells
 |.int _,_,_,_,_,_,h=>by rw[h.1];rfl
 |.bool,_,_,_,_,_,h=>by rw[h.1];rfl
 |.str,_,_,_,_,_,h=>by rw[h.1];rfl
 |.unit,_,_,_,_,_,h=>by rw[h.1];rfl
 |.hdr,_,_,_,_,_,⟨⟨A,z,e⟩,_⟩=>by rw[e];rfl
 |.pair _ _,_,_,_,_,_,⟨I,H,J,M,r,O,u,y⟩=>by rw[r,Cn,u.len,y.len];rfl
 |.list _ _ _,_,_,_,_,_,⟨v,e,_⟩=>by rw[e];rfl
theorem Mx.one {w:World}{G:Nat->Prop}:∀ {a:Ty} {h:Option Nat} {pos:Nat} {x:a.den} {cs:List Value} {bs:List Nat},Mx w G a h pos x cs bs->∀ v∈cs,v.oneCell'=true
 |.int _,_,_,_,_,_,h=>by rw[h.1];simp[CD]
 |.bool,_,_,_,_,_,h=>by rw[h.1];simp[CD]
 |.str,_,_,_,_,_,h=>by rw[h.1];simp[CD]
 |.unit,_,_,_,_,_,h=>by rw[h.1];simp
 |.hdr,_,_,_,_,_,⟨⟨A,H,e⟩,_⟩=>by rw[e];simp[CD]
 |.pair _ _,_,_,_,_,_,⟨J,I,M,O,y,R,u,z⟩=>by
  rw[y];intro v r;rcases CG.1 r with r|r
  ·exact u.one v r
  ·exact z.one v r
 |.list _ _ _,_,_,_,_,_,⟨v,e,u,_⟩=>by rw[e];simpa using u
theorem Mx.lt {w:World}{G:Nat->Prop}:∀ {a:Ty} {h:Option Nat} {pos:Nat} {x:a.den} {cs:List Value} {bs:List Nat},Mx w G a h pos x cs bs->∀ k∈bs,k<w.heap.size
 |.int _,_,_,_,_,_,h=>by rw[h.2];simp
 |.bool,_,_,_,_,_,h=>by rw[h.2];simp
 |.str,_,_,_,_,_,h=>by rw[h.2];simp
 |.unit,_,_,_,_,_,h=>by rw[h.2];simp
 |.hdr,_,_,_,_,_,h=>by rw[h.2];simp
 |.pair _ _,_,_,_,_,_,⟨c1,Z,b1,b2,J,Y,u,y⟩=>by
  rw[Y];intro k r;rcases CG.1 r with r|r
  ·exact u.lt k r
  ·exact y.lt k r
 |.list m E e,h,pos,xs,cs,bs,H=>by
  cases m with
  |false=>rw[cB]at H;rw[H.1];simp
  |true =>
   by_cases I:h=some pos
   ·subst I;rw[jq]at H
    grind
   ·rw[bP I]at H;obtain⟨v,J,z,M,u,y,O⟩:=H;rw[y];intro k r;rcases CG.1 r with r|r
    ·exact u.lt k r
    ·obtain⟨j,R,r⟩:=ee.1 r;obtain⟨c,X,_⟩:=O j _ (B7 R);exact X.lt k r
theorem OwB.lt {w:World}{G:Nat->Prop}{h:Option (Nat×Nat)}{E:TypeId}{e:Ty}{xs:List e.den}{v:Value}{bs:List Nat}(H:OwB w G h E e xs v bs):∀ k∈bs,k<w.heap.size:=by
 obtain⟨u,I,y,z,J⟩:=H;rw[z];intro k r;rcases CG.1 r with r|r
 ·exact y.lt k r
 ·obtain⟨j,M,r⟩:=ee.1 r;obtain⟨c,O,_⟩:=J j _ (B7 M);exact O.lt k r
theorem OwH.lt {w:World}{G:Nat->Prop}{h:Option (Nat×Nat)}{E:TypeId}{e:Ty}{xs:List e.den}{v:Value}{bs:List Nat}(H:OwH w G h E e xs v bs):∀ k∈bs,k<w.heap.size:=H.2.lt
theorem OwH.nodup {w:World}{G:Nat->Prop}{h:Option (Nat×Nat)}{E:TypeId}{e:Ty}{xs:List e.den}{v:Value}{bs:List Nat}(H:OwH w G h E e xs v bs):bs.Nodup:=H.1
theorem OwH.slice {w:World}{G:Nat->Prop}{h:Option (Nat×Nat)}{E:TypeId}{e:Ty}{xs:List e.den}{v:Value}{bs:List Nat}(H:OwH w G h E e xs v bs) :
  ∃ A r,v=.slice A xs.length r/\xs.length<=r:=by
 obtain⟨_,u,z,y,_⟩:=H;exact y.slice
theorem OwH.one {w:World}{G:Nat->Prop}{h:Option (Nat×Nat)}{E:TypeId}{e:Ty}{xs:List e.den}{v:Value}{bs:List Nat}(H:OwH w G h E e xs v bs):v.oneCell'=true:=H.2.one
theorem sX {w:World}{m:Bool}{E E':TypeId}{e:Ty}{xs:List e.den}{v:Value}{flat:List Value}{S:Nat->Prop}(H:Row w E e.cells v xs.length flat)(J:∀ k∈v.ownBlock.toList,S k)
  (X:∀ j (x:e.den),xs[j]?=some x->∃ c,Rd w S e x c/\∀ i u,c[i]?=some u->flat[j*e.cells+i]?=some u):Rd w S (.list m E' e) xs [v]:=by
 rcases H.2 with ⟨rfl,O⟩|⟨g,r,y,mk,rfl,R,Y,hm,hs,Z⟩
 ·exact⟨none,0,by rw[O],by omega,λhp=>by omega⟩
 ·refine⟨some ⟨g,0,none⟩,r,rfl,Y,λ_=>⟨g,0,rfl,J g (by simp[CR]),λj x hj=>?_⟩⟩;obtain⟨c,I,z⟩:=X j x hj;refine⟨c,I,λi u M=>?_⟩;have:=z i u M;rw[<- Z,CI]at this;split at this
  ·rw[Cq,cell_of_row w g _ y E mk R]
   simp_all
  ·grind
theorem Mx.rd {w:World}{G S:Nat->Prop}(z:∀ k,G k->S k):∀ {a:Ty} {pos:Nat} {x:a.den} {cs:List Value} {bs:List Nat},(∀ k∈bs,S k)->Mx w G a none pos x cs bs->Rd w S a x cs
 |.int _,_,_,_,_,_,h=>h.1
 |.bool,_,_,_,_,_,h=>h.1
 |.str,_,_,_,_,_,h=>h.1
 |.unit,_,_,_,_,_,h=>h.1
 |.hdr,_,_,_,_,_,h=>h.1
 |.pair _ _,_,_,_,_,u,⟨c1,Z,b1,b2,I,Y,J,y⟩=>⟨c1,Z,I,Mx.rd z (λk r=>u k (by rw[Y];exact B9 _ r)) J,Mx.rd z (λk r=>u k (by rw[Y];exact B8 _ r)) y⟩
 |.list m E e,pos,xs,cs,bs,u,H=>by
  cases m with
  |false=>rw[cB]at H;exact H.2.mono z
  |true =>
   rw[bP (by simp)]at H;obtain⟨v,I,R,O,J,y,h3⟩:=H;rw[I];refine sX J (λk r=>u k (by rw[y];exact B9 _ r)) λj x X=>?_
   obtain⟨c,h4,h5⟩:=h3 j x X;have M:Mx w G e none 0 x c (O j):=h4;exact⟨c,Mx.rd z (λk r=>u k (by rw[y];exact B8 _ (ee.2 ⟨j,(B5.1 X).1,r⟩))) M,h5⟩
theorem OwH.rd {w:World}{G:Nat->Prop}{m:Bool}{E E':TypeId}{e:Ty}{xs:List e.den}{v:Value}{bs:List Nat}(H:Ow w G E e xs v bs) :
  Rd w (λk=>G k\/k∈bs) (.list m E' e) xs [v]:=by
 obtain⟨_,I,y,M,z,O⟩:=H;refine sX M (λk r=>.inr (by rw[z];exact B9 _ r)) λj x J=>?_
 obtain⟨c,X,R⟩:=O j x J;have u:Mx w G e none 0 x c (y j):=X;exact⟨c,u.rd (λk r=>.inl r) (λk r=>.inr (by rw[z];exact B8 _ (ee.2 ⟨j,(B5.1 J).1,r⟩))),R⟩
theorem OwH.nil (w:World)(G:Nat->Prop)(E:TypeId)(e:Ty):Ow w G E e [] (.slice none 0 0) [] :=
 ⟨List.nodup_nil,[],λ_=>[],Row.nil w E e.cells,rfl,λj x r=>by simp at r⟩
theorem Rd.nil (w:World)(G:Nat->Prop)(m:Bool)(E:TypeId)(e:Ty):Rd w G (.list m E e) [] [.slice none 0 0] :=
 ⟨none,0,rfl,CB _,λh=>by simp at h⟩
theorem Mx.flat {w w':World}{G G':Nat->Prop}:∀ {a:Ty} {h:Option Nat} {pos:Nat} {x:a.den} {cs:List Value},a.flat=true->Rd w G a x cs->Mx w' G' a h pos x cs []
 |.int _,_,_,_,_,_,h=>⟨h,rfl⟩
 |.bool,_,_,_,_,_,h=>⟨h,rfl⟩
 |.str,_,_,_,_,_,h=>⟨h,rfl⟩
 |.unit,_,_,_,_,_,h=>⟨h,rfl⟩
 |.hdr,_,_,_,_,_,h=>⟨h,rfl⟩
 |.pair _ _,_,_,_,_,r,⟨y,z,e,H,u⟩=>by
  simp only[Ty.flat,B6]at r;exact⟨y,z,[],[],e,rfl,Mx.flat r.1 H,Mx.flat r.2 u⟩
theorem Mx.shared {w:World}{G:Nat->Prop}:∀ {a:Ty} {h:Option Nat} {pos:Nat} {x:a.den} {cs:List Value},a.sh=a->Rd w G a x cs->Mx w G a h pos x cs []
 |.int _,_,_,_,_,_,h=>⟨h,rfl⟩
 |.bool,_,_,_,_,_,h=>⟨h,rfl⟩
 |.str,_,_,_,_,_,h=>⟨h,rfl⟩
 |.unit,_,_,_,_,_,h=>⟨h,rfl⟩
 |.hdr,_,_,_,_,_,h=>⟨h,rfl⟩
 |.pair _ _,_,_,_,_,r,⟨u,y,e,z,H⟩=>by
  simp only[Ty.sh,Ty.pair.injEq]at r;exact⟨u,y,[],[],e,rfl,Mx.shared r.1 z,Mx.shared r.2 H⟩
 |.list m E e,_,_,_,_,r,h=>by
  simp only[Ty.sh,Ty.list.injEq]at r;obtain⟨rfl,_⟩:=r;exact cB.2 ⟨rfl,h⟩
def dn (agg:Bool)(v:Value)(cs:List Value):Prop:=if agg then v=.agg cs.toArray else cs=[v]
def sE (w:World)(G:Nat->Prop):(y:List Ty)->Tup y->List Value->Prop
 |[],_,u=>u=[]
 |a::as,x,u=>∃ v c r,u=v::r/\dn a.isAgg v c/\Rd w G a x.1 c/\sE w G as x.2 r
def gf (P:Program)(f:FuncId):Prop:=∀ (r:Array Value) (w:World),(callFunc f r).run P w=.ok (.enter f r) w
def iC (P:Program)(w0:World)(S:Nat->Prop)(H:List Ty)(B:Ty)(I:Tup H->Option B.den)(v:Value):Prop :=
 ∃ f z,v=.func (.func f) #[] z/\gf P f /\
  ∀ w1:World,w0.heap.size<=w1.heap.size->(∀ k,S k->w1.heap[k]?=w0.heap[k]?) ->
   ∀ (x:Tup H) (r:List Value) (y:B.den),sE w1 (λk=>k<w1.heap.size) H x r->I x=some y ->
    Calls P f (r.toArray++z) w1 (λe w2=>∃ u c,e=.returned u/\dn B.isAgg u c/\Rd w2 (λ_=>False) B y c/\Below w1.heap.size w1 w2)
structure Env where
 w0:World
 ro0:Nat->Prop
 own0:List Nat
 nt:Nat
 fixb:List (Nat×Nat)
 fixt:List (Nat×Value)
def Env.prot (V:Env)(k:Nat):Prop:=k<V.w0.heap.size/\k∉V.own0
structure Wit where
 β:Nat->Nat
 cs:Nat->List Value
 bs:Nat->Nat->List Nat
 nw:Nat->Prop
def gd (V:Env)(W:Wit)(p:Bool)(k:Nat):Prop:=W.nw k\/(p=true/\V.ro0 k)
def ao:Leaf->Prop
 |.own _ _ _ _ _=>True
 |_=>False
def RpOk (V:Env)(W:Wit)(w:World)(p:Bool)(a:Ty)(x:a.den)(off:Nat)(v:Value):Prop :=
 ∃ g o c,v=.pointer (some ⟨g,o+off,none⟩)/\(W.nw g\/V.prot g)/\Rd w (gd V W p) a x c/\de w g o c
def sG (V:Env)(W:Wit)(w:World)(p:Bool)(a:Ty)(x:a.den)(v:Value):Prop :=
 ∃ b r g o c,v=.pointer (some ⟨b,r,none⟩)/\(W.nw b\/V.prot b)/\w.cell? ⟨b,r,none⟩=some (.pointer (some ⟨g,o,none⟩)) /\
  (W.nw g\/V.prot g)/\Rd w (gd V W p) a x c/\de w g o c
def jd (V:Env)(W:Wit)(w:World)(c:Bool×Bool×(a:Ty)×a.den)(v:Value):Prop :=
 if c.2.1=true then sG V W w c.1 c.2.2.1 c.2.2.2 v else RpOk V W w c.1 c.2.2.1 c.2.2.2 0 v
def sH (st:St)(ks:List (Nat×Nat×Nat)):Prop:=∀ k∈ks,∃ l,(st k.1).ls[k.2.1]?=some l/\ao l
structure sI (V:Env) (W:Wit) (w:World) (p:Bool) (ks:List (Nat×Nat×Nat)) (loc:Option (Nat×Nat×Nat)) (E:TypeId) (e:Ty) (xs:List e.den) (v:Value):Prop where
 rd:Rd w (λb=>gd V W p b\/∃ k∈ks,b∈W.bs k.1 k.2.1) (.list false E e) xs [v]
 at_:∀ i sz off,loc=some (i,sz,off)->∃ r j n,ks=[(r,j,n)]/\∃ g len cap,(W.cs r)[j]?=some (.slice (some ⟨g,0,none⟩) len cap)/\i<len/\g∈W.bs r j/\w.cell? ⟨g,i*sz+off,none⟩=some v
structure NpOk (V:Env) (W:Wit) (w:World) (p:Bool) (ks:List (Nat×Nat×Nat)) (a:Ty) (x:a.den) (off:Nat) (v:Value):Prop where
 rd:∃ g o c,v=.pointer (some ⟨g,o+off,none⟩)/\(gd V W p g\/∃ k∈ks,g∈W.bs k.1 k.2.1)/\Rd w (λb=>gd V W p b\/∃ k∈ks,b∈W.bs k.1 k.2.1) a x c/\de w g o c
def aK (P:Program)(V:Env)(W:Wit)(st:St)(w:World)(bs:List Nat):Leaf->Value->Prop
 |.int k n,v=>v=.int k n
 |.bool b,v=>v=.bool b
 |.str s,v=>v=.string s
 |.nil,v=>v=.slice none 0 0
 |.hdr n,v=>∃ A H,v=.slice A n H
 |.ro p E e I,v=>Rd w (gd V W p) (.list false E e) I [v]
 |.own p h E e I,v=>OwH w (gd V W p) h E e I v bs
 |.al r j n,v=>n<=(st r).ver/\((st r).ver=n->(W.cs r)[j]?=some v)
 |.nal p z ep M E e I,v=>ep<=(st EPO).ver/\(∀ k∈z,k.2.2<=(st k.1).ver)/\((st EPO).ver=ep->(∀ k∈z,(st k.1).ver=k.2.2)->sH st z->sI V W w p z M E e I v)
 |.ep r j n i Y off,v=>n<=(st r).ver/\((st r).ver=n->∃ g J H,(W.cs r)[j]?=some (.slice (some ⟨g,0,none⟩) J H)/\i<J/\v=.pointer (some ⟨g,i*Y+off,none⟩))
 |.np p z ep a x off,v=>ep<=(st EPO).ver/\(∀ k∈z,k.2.2<=(st k.1).ver)/\((st EPO).ver=ep->(∀ k∈z,(st k.1).ver=k.2.2)->sH st z->NpOk V W w p z a x off v)
 |.rp p a x off,v=>RpOk V W w p a x off v
 |.rpp p a x,v=>sG V W w p a x v
 |.bp b off,v=>B0<=b/\(st b).sh=.agg/\v=.pointer (some ⟨W.β b,off,none⟩)
 |.clo f y,v=>v=.func (.func f) #[] (y.map λb=>Value.pointer (some ⟨W.β b,0,none⟩)).toArray/\∀ b∈y,B0<=b/\(st b).sh=.agg
 |.clr f y,v=>∃ O:List Value,v=.func (.func f) #[] O.toArray/\O.length=y.length/\∀ (i:Nat) (c:Bool×Bool×(a:Ty)×a.den) (u:Value),y[i]?=some c->O[i]?=some u->jd V W w c u
 |.fn R B X,v=>iC P V.w0 V.prot R B X v
 |.dead,_=>True
def pN:List (Bool×Nat)->List Value->List Value->Prop
 |[],y,z=>y=[]/\z=[]
 |(agg,n)::H,y,z=>∃ v r c u,y=v::r/\z=c++u/\c.length=n/\dn agg v c/\pN H r u
def ey:aI->Value->List Value->Prop
 |.off,_,r=>r=[]
 |.und,v,r=>v=undef/\r=[]
 |.one,v,r=>r=[v]
 |.agg,v,r=>v=.agg r.toArray
 |.tup y,v,r=>∃ u,v=.tuple u.toArray/\pN y u r
def live (st:St)(b:Nat):Prop:=B0<=b/\(st b).sh=.agg
structure ap (P:Program) (V:Env) (W:Wit) (st:St) (a:Act) (w:World):Prop where
 nt:a.tmps.size=V.nt
 df:a.defers=[]
 slots:∀ t,t<GH->ey (st t).sh (a.tmps.getD t undef) (W.cs t)
 boxes:∀ b,B0<=b->((st b).sh=.off/\(st b).ls=[])\/((st b).sh=.agg/\∃ E,w.heap[W.β b]?=some (.cells (W.cs b).toArray E (0,0)))
 len:∀ r,(st r).ls.length=(W.cs r).length
 one:∀ r,∀ v∈W.cs r,v.oneCell'=true
 leaf:∀ r j l v,(st r).ls[j]?=some l->(W.cs r)[j]?=some v->aK P V W st w (W.bs r j) l v
 ownb:∀ r j l,(st r).ls[j]?=some l->ao l->∀ k∈W.bs r j,¬ W.nw k/\¬ V.prot k/\∀ b,live st b->W.β b≠k
 sep:∀ r j l r' j' l',(st r).ls[j]?=some l->ao l->(st r').ls[j']?=some l'->ao l'->∀ k,k∈W.bs r j->k∈W.bs r' j'->r=r'/\j=j'
 box:∀ b,live st b->¬ W.nw (W.β b)/\¬ V.prot (W.β b)
 inj:∀ b b',live st b->live st b'->W.β b=W.β b'->b=b'
 nwlt:∀ k,W.nw k->k<w.heap.size/\¬ V.prot k
 os:w.os=V.w0.os
 tape:w.tape=V.w0.tape
 output:w.output=V.w0.output
 size:V.w0.heap.size<=w.heap.size
 keep:∀ k,V.prot k->w.heap[k]?=V.w0.heap[k]?
 fixb:∀ x∈V.fixb,live st x.1/\W.β x.1=x.2
 fixt:∀ x∈V.fixt,a.tmps.getD x.1 undef=x.2
def Rel (P:Program)(V:Env)(st:St)(a:Act)(w:World):Prop:=∃ W,ap P V W st a w
structure ay (V:Env):Prop where
 ro:∀ k,V.ro0 k->V.prot k
 nt:V.nt<=GH
theorem ay.ntB {V:Env}(h:ay V):V.nt<=B0:=CE h.nt (by decide)
section
variable {P:Program} {V:Env} {W W':Wit} {st st':St} {w w':World}
theorem bZ {p q:Bool}(y:p=true->q=true)(u:∀ k,W.nw k->W'.nw k):∀ k,gd V W p k->gd V W' q k:=by
 intro k r;rcases r with r|⟨z,r⟩
 ·exact .inl (u k r)
 ·exact .inr ⟨y z,r⟩
structure cL (V:Env) (W W':Wit) (st st':St) (w w':World):Prop where
 ver:∀ r,(st r).ver<=(st' r).ver/\((st' r).ver=(st r).ver->W'.cs r=W.cs r)
 box:∀ b,live st b->live st' b/\W'.β b=W.β b
 nw:∀ k,W.nw k->W'.nw k
 heap:∀ k,(W.nw k\/V.prot k)->w'.heap[k]?=w.heap[k]?
 epo:(st' EPO).ver=(st EPO).ver->∀ (r j:Nat) (l:Leaf),(st' r).ls[j]?=some l->ao l->(st' r).ver=(st r).ver ->
  (∃ l',(st r).ls[j]?=some l'/\ao l')/\W'.bs r j=W.bs r j/\∀ k∈W.bs r j,w'.heap[k]?=w.heap[k]?
theorem cL.refl (V:Env)(W:Wit)(st:St)(w:World):cL V W W st st w w :=
 ⟨λ_=>⟨CB _,λ_=>rfl⟩,λ_ y=>⟨y,rfl⟩,λ_ h=>h,λ_ _=>rfl,λ_ _ _ l r u _=>⟨⟨l,r,u⟩,rfl,λ_ _=>rfl⟩⟩
theorem kY {w w':World}{a:Addr}(h:w'.heap[a.block]?=w.heap[a.block]?):w'.cell? a=w.cell? a:=by simp[C7,h]
theorem cL.gdheap (u:∀ k,V.ro0 k->V.prot k)(h:cL V W W' st st' w w')(p:Bool):∀ k,gd V W p k->w'.heap[k]?=w.heap[k]?:=by
 intro k r;rcases r with r|⟨_,r⟩
 ·exact h.heap k (.inl r)
 ·exact h.heap k (.inr (u k r))
theorem xg {ks:List (Nat×Nat×Nat)}{ep:Nat}(r:cL V W W' st st' w w')(H:ep<=(st EPO).ver)(y:∀ k∈ks,k.2.2<=(st k.1).ver)(I:(st' EPO).ver=ep)(z:∀ k∈ks,(st' k.1).ver=k.2.2) :
  (st EPO).ver=ep/\∀ k∈ks,(st k.1).ver=k.2.2 :=
 ⟨by have:=(r.ver EPO).1;omega,λk u=>by have:=(r.ver k.1).1;have:=y k u;have:=z k u;omega⟩
theorem cL.places {ks:List (Nat×Nat×Nat)}{ep:Nat}(y:cL V W W' st st' w w')(I:sH st' ks)(O:(st EPO).ver=ep)(M:∀ k∈ks,(st k.1).ver=k.2.2)
  (R:(st' EPO).ver=ep) (H:∀ k∈ks,(st' k.1).ver=k.2.2) :
  ∀ k∈ks,(∃ u,(st k.1).ls[k.2.1]?=some u/\ao u)/\W'.bs k.1 k.2.1=W.bs k.1 k.2.1/\∀ b∈W.bs k.1 k.2.1,w'.heap[b]?=w.heap[b]?:=λk r=>by
 obtain⟨l,J,z⟩:=I k r;exact y.epo (by omega) k.1 k.2.1 l J z (by rw[H k r,M k r])
theorem aK.carry (J:∀ k,V.ro0 k->V.prot k){bs bs':List Nat}{l:Leaf}{v:Value}(h:aK P V W st w bs l v)(y:cL V W W' st st' w w')
  (a1:ao l->bs'=bs/\∀ k∈bs,w'.heap[k]?=w.heap[k]?):aK P V W' st' w' bs' l v:=by
 have hG:∀ p k,gd V W p k->gd V W' p k:=λp=>bZ (λh=>h) y.nw
 have hP:∀ k,(W.nw k\/V.prot k)->(W'.nw k\/V.prot k):=λk M=>M.imp (y.nw k) id
 have hR:∀ {p:Bool} {a:Ty} {x:a.den} {off:Nat} {v:Value},RpOk V W w p a x off v->RpOk V W' w' p a x off v:=by
  rintro p a x off v ⟨g,o,c,hv,Y,hr,hc⟩;exact⟨g,o,c,hv,hP g Y,Rd.carry (hG p) (y.gdheap J p) hr,hc.same (y.heap g Y)⟩
 have a4:∀ {p:Bool} {a:Ty} {x:a.den} {v:Value},sG V W w p a x v->sG V W' w' p a x v:=by
  rintro p a x v ⟨b,ob,g,o,c,hv,H,Z,Y,hr,hc⟩;exact⟨b,ob,g,o,c,hv,hP b H,by rw[kY (y.heap b H)];exact Z,hP g Y,Rd.carry (hG p) (y.gdheap J p) hr,hc.same (y.heap g Y)⟩
 cases l with
 |int k n=>exact h
 |bool b=>exact h
 |str s=>exact h
 |nil=>exact h
 |hdr n=>exact h
 |ro p E e xs=>exact Rd.carry (hG p) (y.gdheap J p) h
 |own p hh E e xs =>
  obtain⟨rfl,H⟩:=a1 trivial;exact OwH.carry h (hG p) (y.gdheap J p) H
 |nal p ks ep a6 E e xs =>
  obtain⟨z,I,O⟩:=h;refine⟨CE z (y.ver EPO).1,λk M=>CE (I k M) (y.ver k.1).1,λhe M ho=>?_⟩;obtain⟨e1,e2⟩:=xg y z I he M;have h5:=y.places ho e1 e2 he M;have X:=O e1 e2 (λk R=>(h5 k R).1);refine⟨Rd.carry ?_ ?_ X.rd,λi sz off hl=>?_⟩
  ·grind
  ·rintro b (H|⟨k,R,H⟩)
   ·exact y.gdheap J p b H
   ·grind
  ·obtain⟨r,j,n,rfl,g,a5,a3,h6,h7,h8,h9⟩:=X.at_ i sz off hl;have R:(r,j,n)∈[(r,j,n)]:=Co ..;have a2:(st' r).ver=(st r).ver:=(M _ R).trans (e2 _ R).symm;refine⟨r,j,n,rfl,g,a5,a3,by rw[(y.ver r).2 a2];exact h6,h7,by rw[(h5 _ R).2.1];exact h8,?_⟩;rw[kY ((h5 _ R).2.2 g h8)];exact h9
 |np p ks ep a x off =>
  obtain⟨z,I,O⟩:=h;refine⟨CE z (y.ver EPO).1,λk M=>CE (I k M) (y.ver k.1).1,λhe M ho=>?_⟩;obtain⟨e1,e2⟩:=xg y z I he M;have h5:=y.places ho e1 e2 he M;have X:=O e1 e2 (λk R=>(h5 k R).1);have hS:∀ b,(gd V W p b\/∃ k∈ks,b∈W.bs k.1 k.2.1)->(gd V W' p b\/∃ k∈ks,b∈W'.bs k.1 k.2.1):=by
   grind
  have hW:∀ b,(gd V W p b\/∃ k∈ks,b∈W.bs k.1 k.2.1)->w'.heap[b]?=w.heap[b]?:=by
   rintro b (H|⟨k,R,H⟩)
   ·exact y.gdheap J p b H
   ·grind
  obtain⟨g,o,c,hv,Y,hr,hc⟩:=X.rd;exact⟨g,o,c,hv,hS g Y,Rd.carry hS hW hr,hc.same (hW g Y)⟩
 |al r j n =>
  obtain⟨z,I⟩:=h;obtain⟨O,X⟩:=y.ver r;refine⟨CE z O,λhv=>?_⟩
  grind
 |ep r j n i sz off =>
  obtain⟨z,I⟩:=h;obtain⟨O,X⟩:=y.ver r;refine⟨CE z O,λhv=>?_⟩
  grind
 |rp p a x off=>exact hR h
 |rpp p a x=>exact a4 h
 |clr f a0 =>
  obtain⟨us,z,I,O⟩:=h;refine⟨us,z,I,λi c u hc hu=>?_⟩;have X:=O i c u hc hu;unfold jd at X ⊢
  grind
 |bp b off =>
  obtain⟨z,I,O⟩:=h;obtain⟨X,h5⟩:=y.box b ⟨z,I⟩;exact⟨z,X.2,by rw[h5];exact O⟩
 |clo f a0 =>
  obtain⟨z,I⟩:=h;refine⟨?_,λb H=>(y.box b (I b H)).1⟩;rw[z];congr 2;refine List.map_congr_left λb H=>?_
  rw[(y.box b (I b H)).2]
 |fn As B φ=>exact h
 |dead=>trivial
def aD (P:Program)(V:Env)(W:Wit)(st:St)(w:World):List Leaf->List Value->Prop
 |[],[]=>True
 |l::r,v::u=>(aK P V W st w [] l v/\¬ ao l/\v.oneCell'=true)/\aD P V W st w r u
 |_,_=>False
theorem aD.length:∀ {ls:List Leaf} {cs:List Value},aD P V W st w ls cs->ls.length=cs.length
 |[],[],_=>rfl
 |_::_,_::_,h=>by simp[aD.length h.2]
theorem aD.at_:∀ {ls:List Leaf} {cs:List Value},aD P V W st w ls cs->∀ (j:Nat) (l:Leaf) (v:Value),ls[j]?=some l->cs[j]?=some v->aK P V W st w [] l v/\¬ ao l/\v.oneCell'=true
 |_::_,_::_,h,0,l,v,r,u=>by
  simp at r u;subst r;subst u;exact h.1
 |_::_,_::_,h,j+1,l,v,r,u=>aD.at_ h.2 j l v (by simpa using r) (by simpa using u)
theorem aD.one':∀ {ls:List Leaf} {cs:List Value},aD P V W st w ls cs->∀ v∈cs,v.oneCell'=true
 |[],[],_,_,r=>by simp at r
 |_::_,_::_,h,v,r=>by
  rcases Cm.1 r with rfl|r
  ·exact h.1.2.2
  ·exact aD.one' h.2 v r
theorem aD.mk:∀ {ls:List Leaf} {cs:List Value},ls.length=cs.length->(∀ (j:Nat) (l:Leaf) (v:Value),ls[j]?=some l->cs[j]?=some v->aK P V W st w [] l v/\¬ ao l/\v.oneCell'=true)->aD P V W st w ls cs
 |[],[],_,_=>trivial
 |_::_,_::_,h,H=>⟨H 0 _ _ rfl rfl,aD.mk (by simpa using h) λj l v r u=>H (j+1) l v (by simpa using r) (by simpa using u)⟩
theorem aD.drop {ls:List Leaf}{cs:List Value}(h:aD P V W st w ls cs)(n:Nat):aD P V W st w (ls.drop n) (cs.drop n) :=
 aD.mk (by simp[h.length]) λj l v r u=>h.at_ (n+j) l v (by simpa using r) (by simpa using u)
theorem aD.take {ls:List Leaf}{cs:List Value}(h:aD P V W st w ls cs)(n:Nat):aD P V W st w (ls.take n) (cs.take n) :=
 aD.mk (by simp[h.length]) λj l v r u=>by
  rw[CI]at r u;split at r
  ·rename_i y;rw[if_pos y]at u;exact h.at_ j l v r u
  ·grind
theorem aD.append {y H:List Leaf}{r z:List Value}(u:aD P V W st w y r)(I:aD P V W st w H z):aD P V W st w (y++H) (r++z):=by
 induction y generalizing r with
 |nil =>
  cases r with
  |nil=>simpa using I
  |cons=>simp[aD]at u
 |cons l M J =>
  cases r with
  |nil=>simp[aD]at u
  |cons v O=>exact⟨u.1,J u.2⟩
theorem aD.carry (r:∀ k,V.ro0 k->V.prot k)(u:cL V W W' st st' w w'):∀ {ls:List Leaf} {cs:List Value},aD P V W st w ls cs->aD P V W' st' w' ls cs
 |[],[],_=>trivial
 |_::_,_::_,h=>⟨⟨h.1.1.carry r u (λy=>absurd y h.1.2.1),h.1.2⟩,aD.carry r u h.2⟩
theorem fm {G:Nat->Prop}{p:Bool}(y:∀ k,G k->gd V W p k):∀ {a:Ty} {x:a.den} {cs:List Value},Rd w G a x cs->aD P V W st w (cR p a x) cs
 |.int _,_,_,h=>by rw[show _=_ from h];exact⟨⟨rfl,id,rfl⟩,trivial⟩
 |.bool,_,_,h=>by rw[show _=_ from h];exact⟨⟨rfl,id,rfl⟩,trivial⟩
 |.str,_,_,h=>by rw[show _=_ from h];exact⟨⟨rfl,id,rfl⟩,trivial⟩
 |.unit,_,_,h=>by rw[show _=_ from h];trivial
 |.hdr,_,_,⟨A,r,e⟩=>by rw[e];exact⟨⟨⟨A,r,rfl⟩,id,rfl⟩,trivial⟩
 |.pair _ _,_,_,⟨M,J,e,z,u⟩=>by rw[e];exact (fm y z).append (fm y u)
 |.list m E e,H,_,h=>by
  obtain⟨A,r,rfl,u,I⟩:=h;exact⟨⟨Rd.mono y (⟨A,r,rfl,u,I⟩:Rd w _ (.list false E e) H _),id,rfl⟩,trivial⟩
theorem hH (p:Bool):∀ (a:Ty) (x:a.den),(cR p a x).length=a.cells
 |.int _,_=>rfl
 |.bool,_=>rfl
 |.str,_=>rfl
 |.unit,_=>rfl
 |.hdr,_=>rfl
 |.pair a b,x=>by simp[cR,Ty.cells,hH p a,hH p b]
 |.list _ _ _,_=>rfl
theorem cQ (p:Bool):∀ (a:Ty) (x:a.den),(aq p a x).length=a.cells
 |.int _,_=>rfl
 |.bool,_=>rfl
 |.str,_=>rfl
 |.unit,_=>rfl
 |.hdr,_=>rfl
 |.pair a b,x=>by simp[aq,Ty.cells,cQ p a,cQ p b]
 |.list _ _ _,_=>rfl
theorem je (t n:Nat):∀ (j:Nat) (ls:List Leaf),(bJ t n j ls).length=ls.length
 |_,[]=>rfl
 |j,_::ls=>by simp[bJ,je t n (j+1) ls]
theorem oy (t n:Nat):∀ (j:Nat) (ls:List Leaf) (i:Nat) (l:Leaf),ls[i]?=some l->(bJ t n j ls)[i]?=some (l8 t (j+i) n l)
 |j,r::ls,0,l,h=>by
  simp at h;subst h;simp[bJ]
 |j,r::ls,i+1,l,h=>by
  have:=oy t n (j+1) ls i l (by simpa using h);simp only[bJ]
  grind
theorem iQ {a:Act}(h:ap P V W st a w)(r:Nat):aD P V W st w (bJ r (st r).ver 0 (st r).ls) (W.cs r):=by
 refine aD.mk (by rw[je,h.len]) λj l v u y=>?_
 have M:j<(st r).ls.length:=by
  have:=(B5.1 u).1;simpa[je]using this
 have I:(st r).ls[j]?=some (st r).ls[j]:=B7 M;have J:=oy r (st r).ver 0 (st r).ls j _ I;rw[J]at u;have z:=h.leaf r j _ v I y;have H:=h.one r v (List.mem_of_getElem? y);simp at u;subst u;generalize X:(st r).ls[j]=q at z;cases q with
 |own p R E e O=>exact⟨⟨CB _,λ_=>by simpa using y⟩,id,H⟩
 |_=>exact⟨z,id,H⟩
theorem sY {v:Value}{l:Leaf}(h:iM v=some l):aK P V W st w [] l v/\¬ ao l/\v.oneCell'=true:=by
 unfold iM at h;split at h <;> simp at h <;> subst h <;> exact⟨rfl,id,rfl⟩
theorem c8 {a:Act}(h:ap P V W st a w)(x:Operand) :
  ∃ r,ey (au st x).1 (a.eval x) r/\aD P V W st w (au st x).2 r:=by
 cases x with
 |tmp t =>
  simp only[au];cases z:CU t GH with
  |false=>exact⟨[],rfl,trivial⟩
  |true=>exact⟨W.cs t,h.slots t (by simpa using z),iQ h t⟩
 |const v =>
  simp only[au];cases y:iM v with
  |none=>exact⟨[],rfl,trivial⟩
  |some l=>exact⟨[v],rfl,⟨sY y,trivial⟩⟩
 |func f=>exact⟨[.func (.func f) #[] #[]],rfl,⟨⟨⟨rfl,λb u=>by simp at u⟩,id,rfl⟩,trivial⟩⟩
 |global g=>exact⟨[],rfl,trivial⟩
theorem bA {a:Act}(h:ap P V W st a w)(x:Operand)(z:one st x≠.dead) :
  aK P V W st w [] (one st x) (a.eval x)/\¬ ao (one st x)/\(a.eval x).oneCell'=true/\(au st x).1=.one/\(au st x).2=[one st x]:=by
 obtain⟨I,y,r⟩:=c8 h x;unfold one at z ⊢;split at z
 ·rename_i l H;simp only[H]at y r ⊢;have u:I=[a.eval x]:=y;subst u;exact⟨r.1.1,r.1.2.1,r.1.2.2,by simp,by simp⟩
 ·grind
theorem fC {r j n:Nat}{l:Leaf}(u:aE st (.al r j n)=l)(z:l≠.dead):(st r).ver=n/\(st r).ls[j]?=some l:=by
 simp only[aE]at u;cases y:B3 (st r).ver n with
 |false=>simp only[y]at u;exact absurd u.symm z
 |true =>
  simp only[y,cond_true]at u;refine⟨B4 y,?_⟩;rw[CL]at u;cases H:(st r).ls[j]? with
  |none=>simp only[H]at u;exact absurd u.symm z
  |some I =>
   simp only[H,Option.getD_some]at u;cases I with
   |nal=>simp only[pI]at u;exact absurd u.symm z
   |_=>simp only[pI]at u;rw[u]
theorem jf {r j n:Nat}{p:Bool}{ks:List (Nat×Nat×Nat)}{ep:Nat}{u:Option (Nat×Nat×Nat)}{E:TypeId}{e:Ty}{xs:List e.den}:aE st (.al r j n)≠.nal p ks ep u E e xs:=by
 simp only[aE];cases B3 (st r).ver n with
 |false=>simp
 |true =>
  cases (st r).ls.getD j .dead <;> simp[pI]
theorem kG {a:Act}(h:ap P V W st a w){r j n:Nat}{p:Bool}{u:Option (Nat×Nat)}{E:TypeId}{e:Ty}{xs:List e.den}{v:Value}(J:aE st (.al r j n)=.own p u E e xs)
  (I:aK P V W st w [] (.al r j n) v):(W.cs r)[j]?=some v/\OwH w (gd V W p) u E e xs v (W.bs r j)/\(st r).ls[j]?=some (.own p u E e xs)/\(st r).ver=n:=by
 obtain⟨y,z⟩:=fC J (by simp);have H:=I.2 y;exact⟨H,h.leaf r j _ v z H,z,y⟩
theorem vS {ls:List Leaf}{j:Nat}(h:lL (ls.getD j .dead)=true):∃ l,ls[j]?=some l/\ao l:=by
 rw[CL]at h;cases r:ls[j]? with
 |none=>rw[r]at h;simp[lL]at h
 |some l =>
  rw[r]at h;refine⟨l,rfl,?_⟩;cases l <;> simp[lL]at h;trivial
theorem cH {ks:List (Nat×Nat×Nat)}{ep:Nat}(h:bw st ks ep=true):(st EPO).ver=ep/\(∀ k∈ks,(st k.1).ver=k.2.2)/\sH st ks:=by
 simp only[bw,B6,List.all_eq_true]at h;exact⟨B4 h.1,λk r=>B4 (h.2 k r).1,λk r=>vS (h.2 k r).2⟩
theorem pO {p:Bool}{ks:List (Nat×Nat×Nat)}{ep:Nat}{r:Option (Nat×Nat×Nat)}{E:TypeId}{e:Ty}{xs:List e.den}{v:Value}(u:bw st ks ep=true)
 (y:aK P V W st w [] (.nal p ks ep r E e xs) v):sI V W w p ks r E e xs v:=y.2.2 (cH u).1 (cH u).2.1 (cH u).2.2
def br (V:Env)(W:Wit)(p:Bool)(ks:List (Nat×Nat))(k:Nat):Prop:=gd V W p k\/∃ x∈ks,k∈W.bs x.1 x.2
theorem kb {E:TypeId}{e:Ty}{E':TypeId}{e':Ty}{xs:List e'.den}{r:List e.den}(h:l9 E e E' e' xs=some r) :
  ∃ (y:E'=E) (u:e'=e),u ▸ xs=r:=by
 unfold l9 at h
 grind
theorem uz {e e':Ty}{xs:List e'.den}{r:List e.den}(h:castSh e e' xs=some r):e'.sh=e.sh/\HEq xs r:=by
 unfold castSh at h
 grind
theorem Rd.castSh {G:Nat->Prop}{m m':Bool}{E E':TypeId}{e e':Ty}{xs:List e'.den}{y:List e.den}{cs:List Value}(h:castSh e e' xs=some y)(I:Rd w G (.list m E' e') xs cs):Rd w G (.list m' E e) y cs:=by
 obtain⟨J,M⟩:=uz h;have O:Rd w G (.list m E e) y cs:=by
  refine Rd.flags (a:=.list m E e') (x:=xs) (by simp only[Ty.sh,J]) M ?_;obtain⟨A,r,u,H,z⟩:=I;exact⟨A,r,u,H,z⟩
 obtain⟨A,r,u,H,z⟩:=O;exact⟨A,r,u,H,z⟩
theorem kH (st:St):∀ (u r:List Leaf),bE st (u++r)=bE st u++bE st r
 |[],_=>rfl
 |l::u,r=>by
  have:=kH st u r;cases l <;> simp[bE,this]
theorem sZ (st:St):∀ (u r:List Leaf),ch st (u++r)=ch st u++ch st r
 |[],_=>rfl
 |l::u,r=>by
  have:=sZ st u r;cases l <;> simp[ch,this]
theorem kZ {a:Act}(h:ap P V W st a w){m:Bool}{E:TypeId}{e:Ty}{l:Leaf}{v:Value}{p:Bool}{xs:List e.den}
  (hl:aK P V W st w [] l v) (a1:¬ ao l) (u:dt e (aE st l)=some (p,xs)):Rd w (br V W p (bE st [l])) (.list m E e) xs [v]:=by
 have H:∀ (q:Leaf) (bs:List Nat) (S:Nat->Prop),aK P V W st w bs q v->dt e q=some (p,xs)->(∀ k,gd V W p k->S k)->(ao q->∀ k∈bs,S k) ->
   (∀ q' J ep z E' I O,q=.nal q' J ep z E' I O->bw st J ep=true/\∀ k∈J,∀ b∈W.bs k.1 k.2.1,S b)->Rd w S (.list m E e) xs [v]:=by
  intro q bs S X u hS hb hn;cases q with
  |ro q E' I Y =>
   simp only[dt,CH]at u;obtain⟨zs,Z,rfl,rfl⟩:=u;exact Rd.castSh Z (Rd.mono hS X)
  |nil =>
   obtain⟨rfl,rfl⟩:=u;rw[show v=_ from X];exact Rd.nil w _ m E e
  |own q hh E' I Y =>
   cases hh with
   |some _=>simp[dt]at u
   |none =>
    simp only[dt,CH]at u;obtain⟨zs,Z,rfl,rfl⟩:=u;refine Rd.castSh Z (Rd.mono (λk y=>?_) (OwH.rd (m:=false) (E':=E') X));exact y.elim (hS k) (hb trivial k)
  |nal q J ep z E' I Y =>
   simp only[dt,CH,C0]at u;obtain⟨zs,Z,rfl,rfl⟩:=u;obtain⟨R,hn⟩:=hn _ _ _ _ _ _ _ rfl;have h1:sI V W w q J z E' I Y v:=X.2.2 (cH R).1 (cH R).2.1 (cH R).2.2;refine Rd.castSh Z (Rd.mono (λk y=>?_) h1.rd);rcases y with y|⟨x,hx,y⟩
   ·grind
   ·grind
  |_=>simp[dt]at u
 cases l with
 |al r j n =>
  by_cases hd:aE st (.al r j n)=.dead
  ·rw[hd]at u;simp[dt]at u
  ·obtain⟨h1,h2⟩:=fC rfl hd;have h3:=h.leaf r j _ v h2 (hl.2 h1);generalize X:aE st (.al r j n)=q at u h2 h3;refine H q (W.bs r j) _ h3 u (λk y=>.inl y) (λM k y=>.inr ⟨(r,j),?_,y⟩) ?_
   ·cases q <;> first|exact M.elim|simp[bE,X]
   ·rintro q' J ep z E' I O rfl;exact absurd X jf
 |own q hh E' I Y=>exact absurd trivial a1
 |nal q J ep z E' I Y =>
  simp only[aE]at u;cases R:bw st J ep with
  |false=>simp[R,dt]at u
  |true =>
   simp only[R]at u;refine H _ [] _ hl u (λk y=>.inl y) (λM=>M.elim) ?_;intro q' a5 a4 a2 a3 a6 O a0;cases a0;refine⟨R,λk y b hb=>.inr ⟨(k.1,k.2.1),?_,hb⟩⟩;simp only[bE,aE]
   grind
 |ro q E' I Y=>exact H _ [] _ hl u (λk y=>.inl y) (λM=>M.elim) (λ_ _ _ _ _ _ _ h=>by cases h)
 |nil=>exact H _ [] _ hl u (λk y=>.inl y) (λM=>M.elim) (λ_ _ _ _ _ _ _ h=>by cases h)
 |_=>simp[aE,dt]at u
theorem xh {a:Act}(h:ap P V W st a w){l:Leaf}{v:Value}{n:Nat}(X:aK P V W st w [] l v)(Y:¬ ao l)(u:gp (aE st l)=some n):Rd w (λ_=>False) .hdr n [v]:=by
 have H:∀ (q:Leaf) (bs:List Nat),aK P V W st w bs q v->gp q=some n->(∀ p J ep z E e O,q=.nal p J ep z E e O->bw st J ep=true)->Rd w (λ_=>False) .hdr n [v]:=by
  intro q bs M u hn;cases q with
  |ro p E e O =>
   simp only[gp,CA]at u;subst u;obtain⟨A,y,I,_⟩:=M;exact⟨A,y,I⟩
  |own p hh E e O =>
   simp only[gp,CA]at u;subst u;obtain⟨A,y,I,_⟩:=OwH.slice M;exact⟨A,y,by rw[I]⟩
  |nal p J ep z E e O =>
   simp only[gp,CA]at u;subst u;have R:=hn _ _ _ _ _ _ _ rfl;obtain⟨A,y,I,_⟩:=(M.2.2 (cH R).1 (cH R).2.1 (cH R).2.2:sI V W w p J z E e O v).rd;exact⟨A,y,I⟩
  |nil =>
   simp only[gp,CA]at u;subst u;exact⟨none,0,by rw[show v=_ from M]⟩
  |hdr m =>
   simp only[gp,CA]at u;subst u;obtain⟨A,y,I⟩:=M;exact⟨A,y,by rw[I]⟩
  |_=>simp[gp]at u
 cases l with
 |al r j m =>
  by_cases hd:aE st (.al r j m)=.dead
  ·rw[hd]at u;simp[gp]at u
  ·obtain⟨h1,h2⟩:=fC rfl hd;have h3:=h.leaf r j _ v h2 (X.2 h1);refine H _ _ h3 u λp J ep z E e O M=>absurd M jf
 |own q hh Z e' ys=>exact absurd trivial Y
 |nal q J ep z Z e' ys =>
  simp only[aE]at u;cases R:bw st J ep with
  |false=>simp[R,gp]at u
  |true =>
   grind
 |ro q Z e' ys=>exact H _ [] X u (λ_ _ _ _ _ _ _ h=>by cases h)
 |nil=>exact H _ [] X u (λ_ _ _ _ _ _ _ h=>by cases h)
 |hdr m=>exact H _ [] X u (λ_ _ _ _ _ _ _ h=>by cases h)
 |_=>simp[aE,gp]at u
theorem k6 {a:Act}(h:ap P V W st a w):∀ (b:Ty) (ls:List Leaf) (cs:List Value) (p:Bool) (x:b.den) (r:List Leaf),aD P V W st w ls cs ->
  be st b ls=some (p,x,r)->∃ M R O,cs=M++R/\ls=O++r/\aD P V W st w O M/\aD P V W st w r R/\Rd w (br V W p (bE st O)) b x M
 |.int k,ls,cs,p,x,r,H,u=>by
  simp only[be]at u;split at u
  ·rename_i k' n ls;split at u
   ·rename_i I;obtain⟨rfl,rfl,rfl⟩:=u;cases cs with
    |nil=>exact H.elim
    |cons v cs=>exact⟨[v],cs,[_],rfl,rfl,⟨H.1,trivial⟩,H.2,by rw[show v=_ from H.1.1,I];rfl⟩
   ·grind
  ·grind
 |.bool,ls,cs,p,x,r,H,u=>by
  simp only[be]at u;split at u
  ·simp at u;obtain⟨rfl,rfl,rfl⟩:=u;cases cs with
   |nil=>exact H.elim
   |cons v cs=>exact⟨[v],cs,[_],rfl,rfl,⟨H.1,trivial⟩,H.2,by rw[show v=_ from H.1.1];rfl⟩
  ·grind
 |.str,ls,cs,p,x,r,H,u=>by
  simp only[be]at u;split at u
  ·simp at u;obtain⟨rfl,rfl,rfl⟩:=u;cases cs with
   |nil=>exact H.elim
   |cons v cs=>exact⟨[v],cs,[_],rfl,rfl,⟨H.1,trivial⟩,H.2,by rw[show v=_ from H.1.1];rfl⟩
  ·grind
 |.unit,ls,cs,p,x,r,H,u=>by
  obtain⟨rfl,_,rfl⟩:=u;exact⟨[],cs,[],rfl,rfl,trivial,H,rfl⟩
 |.hdr,ls,cs,p,x,r,H,u=>by
  simp only[be]at u;split at u
  ·rename_i l J;split at u
   ·rename_i n hn;obtain⟨rfl,rfl,rfl⟩:=u;cases cs with
    |nil=>exact H.elim
    |cons v cs=>exact⟨[v],cs,[l],rfl,rfl,⟨H.1,trivial⟩,H.2,xh h H.1.1 H.1.2.1 hn⟩
   ·grind
  ·grind
 |.pair b c,ls,cs,p,x,r,H,u=>by
  simp only[be]at u;split at u
  ·rename_i q y J hb;split at u
   ·rename_i q' z Y hc;simp at u;obtain⟨rfl,rfl,rfl⟩:=u;obtain⟨M,R,O,e1,e2,h1,h2,h3⟩:=k6 h b ls cs q y J H hb;obtain⟨Z,c4,l2,e3,e4,h4,h5,h6⟩:=k6 h c J R q' z Y h2 hc;refine⟨M++Z,c4,O++l2,by rw[e1,e3,CS],by rw[e2,e4,CS],h1.append h4,h5,M,Z,rfl,?_,?_⟩
    ·refine Rd.mono (λk I=>?_) h3;rcases I with I|⟨y,X,I⟩
     ·exact .inl (bZ (by simp_all) (λ_ h=>h) k I)
     ·exact .inr ⟨y,by rw[kH];exact B9 _ X,I⟩
    ·refine Rd.mono (λk I=>?_) h6;rcases I with I|⟨y,X,I⟩
     ·exact .inl (bZ (by simp_all) (λ_ h=>h) k I)
     ·exact .inr ⟨y,by rw[kH];exact B8 _ X,I⟩
   ·grind
  ·grind
 |.list m E e,ls,cs,p,x,r,H,u=>by
  simp only[be]at u;split at u
  ·rename_i l J;split at u
   ·rename_i q ys ha;obtain⟨rfl,rfl,rfl⟩:=u;cases cs with
    |nil=>exact H.elim
    |cons v cs=>exact⟨[v],cs,[l],rfl,rfl,⟨H.1,trivial⟩,H.2,kZ h H.1.1 H.1.2.1 ha⟩
   ·grind
  ·grind
theorem eO {a:Act}(h:ap P V W st a w){b:Ty}{ls:List Leaf}{cs:List Value}{p:Bool}{x:b.den}(H:aD P V W st w ls cs)
  (u:cY st b ls=some (p,x)):Rd w (br V W p (bE st ls)) b x cs:=by
 unfold cY at u;split at u
 ·rename_i q y I;obtain⟨O,r,R,J,Y,M,z,X⟩:=k6 h b ls cs _ _ _ H I;have:r=[]:=by
   cases r with
   |nil=>rfl
   |cons=>exact z.elim
  simp_all
 ·grind
end
section
variable {P:Program} {V:Env} {W W':Wit} {st st':St} {w w':World} {a:Act}
theorem bG (A B:Upd)(st:St):ac (A++B) st=ac A (ac B st):=by
 funext q;induction A with
 |nil=>rfl
 |cons x A u=>obtain⟨r,c⟩:=x;simp only[Cw,ac,u]
theorem aP (r:Nat)(c:bX)(U:Upd)(st:St):ac ((r,c)::U) st=ac [(r,c)] (ac U st):=bG [(r,c)] U st
theorem bo (r:Nat)(c:bX)(st:St):ac [(r,c)] st r=c:=by simp[ac]
theorem aJ {r q:Nat}(h:q≠r)(c:bX)(st:St):ac [(r,c)] st q=st q:=by
 have:B3 q r=false:=by
  cases u:B3 q r with
  |false=>rfl
  |true=>exact absurd (B4 u) h
 simp[ac,this]
theorem ak (r q:Nat)(c:bX)(st:St):(q=r/\ac [(r,c)] st q=c)\/(q≠r/\ac [(r,c)] st q=st q):=by
 by_cases h:q=r
 ·subst h;exact .inl ⟨rfl,bo q c st⟩
 ·exact .inr ⟨h,aJ h c st⟩
def ck (V:Env)(W:Wit)(st:St)(k:Nat):Prop :=
 W.nw k\/V.prot k\/(∃ b,live st b/\W.β b=k)\/∃ r j l,(st r).ls[j]?=some l/\ao l/\k∈W.bs r j
theorem ap.own_lt (h:ap P V W st a w){r j:Nat}{l:Leaf}(u:(st r).ls[j]?=some l)(z:ao l):∀ k∈W.bs r j,k<w.heap.size:=by
 have y:j<(W.cs r).length:=by rw[<- h.len];exact (B5.1 u).1
 have:=h.leaf r j l _ u (B7 y);cases l <;> simp only[ao]at z;exact OwH.lt this
theorem ap.box_lt (h:ap P V W st a w){b:Nat}(r:live st b):W.β b<w.heap.size:=by
 rcases h.boxes b r.1 with ⟨u,_⟩|⟨_,E,y⟩
 ·exact absurd (u.symm.trans r.2) (by simp)
 ·grind
theorem ap.used_lt (h:ap P V W st a w):∀ k,ck V W st k->k<w.heap.size:=by
 intro k u;rcases u with u|u|⟨b,H,rfl⟩|⟨r,j,l,y,z,I⟩
 ·exact (h.nwlt k u).1
 ·exact CP u.1 h.size
 ·exact h.box_lt H
 ·exact h.own_lt y z k I
theorem ap.world (Y:ay V)(h:ap P V W st a w)(R:w.heap.size<=w'.heap.size)(O:w'.os=w.os)(Z:w'.tape=w.tape)(M:w'.output=w.output)
  (y:∀ k,ck V W st k->w'.heap[k]?=w.heap[k]?):ap P V W st a w':=by
 have H:cL V W W st st w w':=⟨λr=>⟨CB _,λ_=>rfl⟩,λb J=>⟨J,rfl⟩,λ_ h=>h,λk h=>y k (h.elim .inl (λh=>.inr (.inl h))),
  λ_ r j l u I _=>⟨⟨l,u,I⟩,rfl,λk z=>y k (.inr (.inr (.inr ⟨r,j,l,u,I,z⟩)))⟩⟩
 exact {
  nt:=h.nt,df:=h.df,slots:=h.slots,
  boxes:=λb J=>(h.boxes b J).imp id λ⟨u,E,I⟩=>⟨u,E,by rw[y _ (.inr (.inr (.inl ⟨b,⟨J,u⟩,rfl⟩)))];exact I⟩
  len:=h.len,one:=h.one,
  leaf:=λr j l v u I=>(h.leaf r j l v u I).carry Y.ro H (λM=>⟨rfl,λk z=>y k (.inr (.inr (.inr ⟨r,j,l,u,M,z⟩)))⟩)
  ownb:=h.ownb,sep:=h.sep,box:=h.box,inj:=h.inj,
  nwlt:=λk y=>⟨CP (h.nwlt k y).1 R,(h.nwlt k y).2⟩
  os:=O.trans h.os,tape:=Z.trans h.tape,output:=M.trans h.output,size:=CE h.size R,
  keep:=λk X=>(y k (.inr (.inl X))).trans (h.keep k X)
  fixb:=h.fixb,fixt:=h.fixt }
theorem ap.below (u:ay V)(h:ap P V W st a w)(r:Below w.heap.size w w'):ap P V W st a w' :=
 h.world u r.size r.os r.tape r.output λk y=>r.block k (h.used_lt k y)
theorem ap.relabel (hV:ay V)(h:ap P V W st a w)(r:Nat)(c:bX)(nw':Nat->Prop)(a2:(st r).ver<=c.ver)(O:c.sh=(st r).sh)
    (Y:c.ls.length=(st r).ls.length) (a1:∀ k,W.nw k->nw' k) (M:∀ k,nw' k->k<w.heap.size/\¬ V.prot k)
    (a0:∀ (j:Nat) (l:Leaf) (v:Value),c.ls[j]?=some l->(W.cs r)[j]?=some v->aK P V { W with nw:=nw' } (ac [(r,c)] st) w (W.bs r j) l v)
    (a3:∀ (j:Nat) (l:Leaf),c.ls[j]?=some l->ao l->(st r).ls[j]?=some l)
    (J:∀ (q j:Nat) (l:Leaf),(ac [(r,c)] st q).ls[j]?=some l->ao l->∀ k∈W.bs q j,¬ nw' k)
    (I:∀ b,live st b->¬ nw' (W.β b)):ap P V { W with nw:=nw' } (ac [(r,c)] st) a w:=by
  have R:∀ b,live (ac [(r,c)] st) b<->live st b:=by
    intro b;rcases ak r b c st with ⟨rfl,e⟩|⟨_,e⟩
    · simp[live,e,O]
    · simp[live,e]
  have u:∀ (q j:Nat) (l:Leaf),(ac [(r,c)] st q).ls[j]?=some l->ao l->(st q).ls[j]?=some l:=by
    intro q j l z y;rcases ak r q c st with ⟨rfl,e⟩|⟨_,e⟩
    · grind
    · grind
  have X:cL V W { W with nw:=nw' } st (ac [(r,c)] st) w w :=
    ⟨λq=>by
      rcases ak r q c st with ⟨rfl,e⟩|⟨_,e⟩
      · grind
      · rw[e];exact⟨CB _,λ_=>rfl⟩,
     λb H=>⟨(R b).2 H,rfl⟩,a1,λ_ _=>rfl,λ_ q j l z y h3=>⟨⟨l,u q j l z y,y⟩,rfl,λ_ _=>rfl⟩⟩
  exact {
    nt:=h.nt,df:=h.df,
    slots:=λt ht=>by
      rcases ak r t c st with ⟨rfl,e⟩|⟨_,e⟩
      · rw[e,O];exact h.slots t ht
      · rw[e];exact h.slots t ht
    boxes:=λb H=>by
      rcases ak r b c st with ⟨rfl,e⟩|⟨_,e⟩
      · rw[e,O]
        rcases h.boxes b H with ⟨z,y⟩|z
        · grind
        · grind
      · rw[e];exact h.boxes b H
    len:=λq=>by
      rcases ak r q c st with ⟨rfl,e⟩|⟨_,e⟩
      · rw[e,Y];exact h.len q
      · rw[e];exact h.len q
    one:=h.one
    leaf:=λq j l v z y=>by
      rcases ak r q c st with ⟨rfl,e⟩|⟨_,e⟩
      · grind
      · rw[e]at z
        exact (h.leaf q j l v z y).carry hV.ro X (λ_=>⟨rfl,λ_ _=>rfl⟩)
    ownb:=λq j l z y k hk=>⟨J q j l z y k hk,(h.ownb q j l (u q j l z y) y k hk).2.1,λb H=>(h.ownb q j l (u q j l z y) y k hk).2.2 b ((R b).1 H)⟩
    sep:=λq j l q' j' l' z y h3 h4=>h.sep q j l q' j' l' (u q j l z y) y (u q' j' l' h3 h4) h4
    box:=λb H=>⟨I b ((R b).1 H),(h.box b ((R b).1 H)).2⟩
    inj:=λb b' H Z=>h.inj b b' ((R b).1 H) ((R b').1 Z)
    nwlt:=M
    os:=h.os,tape:=h.tape,output:=h.output,size:=h.size,keep:=h.keep,
    fixb:=λx hx=>⟨(R _).2 (h.fixb x hx).1,(h.fixb x hx).2⟩,fixt:=h.fixt }
theorem aR {α:Type}(ls:List α)(j i:Nat)(x y:α)(h:(ls.set j x)[i]?=some y):(i=j/\y=x/\j<ls.length)\/(i≠j/\ls[i]?=some y):=by
 grind
theorem ap.kill1 (J:ay V)(h:ap P V W st a w)(r j:Nat):ap P V W (ac [(r,gq (st r) j)] st) a w:=by
 refine h.relabel J r _ W.nw (CB _) rfl (by simp[gq,aT]) (λ_ h=>h) h.nwlt ?_ ?_ ?_ λb z=>(h.box b z).1
 ·intro i l v u y;rcases aR _ _ _ _ _ u with ⟨_,rfl,_⟩|⟨H,u⟩
  ·trivial
  ·refine (h.leaf r i l v u y).carry J.ro ⟨λq=>?_,λb z=>?_,λ_ h=>h,λ_ _=>rfl,λ_ q Y R I O X=>?_⟩ (λ_=>⟨rfl,λ_ _=>rfl⟩)
   ·rcases ak r q (gq (st r) j) st with ⟨rfl,e⟩|⟨_,e⟩
    ·rw[e];exact⟨CB _,λ_=>rfl⟩
    ·grind
   ·refine⟨⟨z.1,?_⟩,rfl⟩;rcases ak r b (gq (st r) j) st with ⟨rfl,e⟩|⟨_,e⟩
    ·rw[e];exact z.2
    ·rw[e];exact z.2
   ·rcases ak r q (gq (st r) j) st with ⟨rfl,e⟩|⟨_,e⟩
    ·rw[e]at I;rcases aR _ _ _ _ _ I with ⟨_,rfl,_⟩|⟨_,I⟩
     ·exact O.elim
     ·grind
    ·grind
 ·intro i l u y;rcases aR _ _ _ _ _ u with ⟨_,rfl,_⟩|⟨H,u⟩
  ·exact y.elim
  ·omega
 ·intro q i l u y;have:(st q).ls[i]?=some l:=by
   rcases ak r q (gq (st r) j) st with ⟨rfl,e⟩|⟨_,e⟩
   ·rw[e]at u;rcases aR _ _ _ _ _ u with ⟨_,rfl,_⟩|⟨H,u⟩
    ·exact y.elim
    ·omega
   ·grind
  exact λk M=>(h.ownb q i l this y k M).1
theorem ap.frz1 (hV:ay V)(h:ap P V W st a w)(r j:Nat) :
  ap P V { W with nw:=λk=>W.nw k\/((∃ l,(st r).ls[j]?=some l/\ao l)/\k∈W.bs r j) } (ac [(r,gj (st r) j)] st) a w:=by
 have O:∀ l,(st r).ls[j]?=some l->(st r).ls.getD j .dead=l:=λl hl=>by rw[CL,hl];rfl
 have u:∀ (i:Nat) (l:Leaf),(aT (st r).ls j (uZ ((st r).ls.getD j .dead)))[i]?=some l->ao l->(st r).ls[i]?=some l/\i≠j:=by
  intro i l z y;rcases aR _ _ _ _ _ z with ⟨rfl,rfl,hj⟩|⟨Z,z⟩
  ·rw[O _ (B7 hj)]at y;generalize (st r).ls[i]=l at y;cases l with
   |own p hh E e xs=>cases hh <;> exact y.elim
   |_=>exact y.elim
  ·grind
 have I:cL V W { W with nw:=λk=>W.nw k\/((∃ l,(st r).ls[j]?=some l/\ao l)/\k∈W.bs r j) } st (ac [(r,gj (st r) j)] st) w w:=by
  refine⟨λq=>?_,λb X=>?_,λ_ h=>.inl h,λ_ _=>rfl,λ_ q j' Y J M h5=>?_⟩
  ·rcases ak r q (gj (st r) j) st with ⟨rfl,e⟩|⟨_,e⟩
   ·rw[e];exact⟨CB _,λ_=>rfl⟩
   ·grind
  ·refine⟨⟨X.1,?_⟩,rfl⟩;rcases ak r b (gj (st r) j) st with ⟨rfl,e⟩|⟨_,e⟩
   ·rw[e];exact X.2
   ·rw[e];exact X.2
  ·rcases ak r q (gj (st r) j) st with ⟨rfl,e⟩|⟨_,e⟩
   ·rw[e]at J;exact⟨⟨Y,(u j' Y J M).1,M⟩,rfl,λ_ _=>rfl⟩
   ·grind
 refine h.relabel hV r _ _ (CB _) rfl (by simp[gj,aT]) (λ_ h=>.inl h) ?_ ?_ (λi l z y=>(u i l z y).1) ?_ ?_
 ·rintro k (H|⟨⟨l,z,y⟩,H⟩)
  ·exact h.nwlt k H
  ·exact⟨h.own_lt z y k H,(h.ownb r j l z y k H).2.1⟩
 ·intro i l v z y;rcases aR _ _ _ _ _ z with ⟨rfl,rfl,hj⟩|⟨Z,z⟩
  ·have J:(st r).ls[i]?=some (st r).ls[i]:=B7 hj;have M:=h.leaf r i _ v J y;rw[O _ J];generalize hq:(st r).ls[i]=q at J M;cases q with
   |own p hh E e xs =>
    cases hh with
    |some _=>trivial
    |none =>
     refine Rd.mono (λk H=>?_) (OwH.rd (m:=false) (E':=E) M);rcases H with H|H
     ·exact bZ (W':={ W with nw:=_ }) (λh=>h) (λ_ h=>.inl h) k H
     ·exact .inl (.inr ⟨⟨_,J,trivial⟩,H⟩)
   |_=>exact M.carry hV.ro I (λho=>ho.elim)
  ·exact (h.leaf r i l v z y).carry hV.ro I (λ_=>⟨rfl,λ_ _=>rfl⟩)
 ·intro q i l z y k H;have J:(st q).ls[i]?=some l/\(q,i)≠(r,j):=by
   rcases ak r q (gj (st r) j) st with ⟨rfl,e⟩|⟨Z,e⟩
   ·rw[e]at z;have:=u i l z y
    simp_all
   ·grind
  rintro (R|⟨⟨Y,M,h5⟩,R⟩)
  ·exact (h.ownb q i l J.1 y k H).1 R
  ·obtain⟨rfl,rfl⟩:=h.sep q i l r j Y J.1 y M h5 k H R
   simp_all
 ·rintro b X (R|⟨⟨Y,M,h5⟩,R⟩)
  ·exact (h.box b X).1 R
  ·exact (h.ownb r j Y M h5 _ R).2.2 b X rfl
theorem mi (H:ay V):∀ (ks:List (Nat×Nat)),ap P V W st a w->ap P V W (ac (aN st ks) st) a w /\
  (∀ (q i:Nat) (l:Leaf),(ac (aN st ks) st q).ls[i]?=some l->ao l->(st q).ls[i]?=some l/\(q,i)∉ks) /\
  (∀ q,(ac (aN st ks) st q).sh=(st q).sh/\(st q).ver<=(ac (aN st ks) st q).ver)
 |[],h=>⟨h,λ_ _ _ y _=>⟨y,by simp⟩,λ_=>⟨rfl,CB _⟩⟩
 |(r,j)::ks,h=>by
  obtain⟨y,O,I⟩:=mi H ks h;have e:ac (aN st ((r,j)::ks)) st=ac [(r,gq (ac (aN st ks) st r) j)] (ac (aN st ks) st):=aP _ _ _ _;rw[e];refine⟨y.kill1 H r j,λq i l z J=>?_,λq=>?_⟩
  ·have M:(ac (aN st ks) st q).ls[i]?=some l/\(q,i)≠(r,j):=by
    rcases ak r q (gq (ac (aN st ks) st r) j) (ac (aN st ks) st) with ⟨rfl,e⟩|⟨u,e⟩
    ·rw[e]at z;rcases aR _ _ _ _ _ z with ⟨_,rfl,_⟩|⟨u,z⟩
     ·exact J.elim
     ·grind
    ·grind
   simp_all
  ·rcases ak r q (gq (ac (aN st ks) st r) j) (ac (aN st ks) st) with ⟨rfl,e⟩|⟨u,e⟩
   ·rw[e];exact⟨(I q).1,(I q).2⟩
   ·grind
def Wit.frz (W:Wit)(st:St)(ks:List (Nat×Nat)):Wit :=
 { W with nw:=λk=>W.nw k\/∃ x∈ks,(∃ l,(st x.1).ls[x.2]?=some l/\ao l)/\k∈W.bs x.1 x.2 }
theorem ap.nw_congr (h:ap P V W st a w){nw':Nat->Prop}(e:∀ k,W.nw k<->nw' k):ap P V { W with nw:=nw' } st a w:=by
 have:nw'=W.nw:=funext λk=>propext (e k).symm
 subst this;exact h
theorem lP (X:ay V):∀ (ks:List (Nat×Nat)),ap P V W st a w->ap P V (W.frz st ks) (ac (aF st ks) st) a w /\
  (∀ (q i:Nat) (l:Leaf),(ac (aF st ks) st q).ls[i]?=some l->ao l->(st q).ls[i]?=some l/\(q,i)∉ks) /\
  (∀ q,(ac (aF st ks) st q).sh=(st q).sh/\(st q).ver<=(ac (aF st ks) st q).ver)
 |[],h=>⟨h.nw_congr (λk=>by simp),λ_ _ _ I _=>⟨I,by simp⟩,λ_=>⟨rfl,CB _⟩⟩
 |(r,j)::ks,h=>by
  obtain⟨I,h2,Y⟩:=lP X ks h;have e:ac (aF st ((r,j)::ks)) st=ac [(r,gj (ac (aF st ks) st r) j)] (ac (aF st ks) st):=aP _ _ _ _;rw[e];refine⟨?_,λq i l R M=>?_,λq=>?_⟩
  ·have h7:=I.frz1 X r j;have Z:=h7.nw_congr (nw':=(W.frz st ((r,j)::ks)).nw) (λk=>?_)
   ·exact Z
   ·simp only[Wit.frz];constructor
    ·rintro ((y|⟨x,O,y⟩)|⟨⟨l,u,H⟩,y⟩)
     ·grind
     ·grind
     ·exact .inr ⟨(r,j),Co ..,⟨l,(h2 r j l u H).1,H⟩,y⟩
    ·rintro (y|⟨x,O,⟨l,u,H⟩,y⟩)
     ·grind
     ·rcases Cm.1 O with rfl|O
      ·by_cases J:(r,j)∈ks
       ·exact .inl (.inr ⟨(r,j),J,⟨l,u,H⟩,y⟩)
       ·refine .inr ⟨⟨l,?_,H⟩,y⟩;exact jb ks J u
      ·grind
  ·have h6:(ac (aF st ks) st q).ls[i]?=some l/\(q,i)≠(r,j):=by
    rcases ak r q (gj (ac (aF st ks) st r) j) (ac (aF st ks) st) with ⟨rfl,e⟩|⟨z,e⟩
    ·rw[e]at R;rcases aR _ _ _ _ _ R with ⟨rfl,rfl,hj⟩|⟨z,R⟩
     ·exfalso;generalize (ac (aF st ks) st q).ls.getD i .dead=l' at M;cases l' with
      |own p hh E e xs=>cases hh <;> exact M.elim
      |_=>exact M.elim
     ·grind
    ·grind
   simp_all
  ·rcases ak r q (gj (ac (aF st ks) st r) j) (ac (aF st ks) st) with ⟨rfl,e⟩|⟨z,e⟩
   ·rw[e];exact⟨(Y q).1,(Y q).2⟩
   ·grind
where
 jb:∀ (ks:List (Nat×Nat)) {r j:Nat} {l:Leaf},(r,j)∉ks->(st r).ls[j]?=some l->(ac (aF st ks) st r).ls[j]?=some l
  |[],_,_,_,_,u=>u
  |(q,i)::ks,r,j,l,hn,u=>by
   have I:=jb ks (λJ=>hn (Cg _ J)) u;have e:ac (aF st ((q,i)::ks)) st=ac [(q,gj (ac (aF st ks) st q) i)] (ac (aF st ks) st):=aP _ _ _ _;rw[e];rcases ak q r (gj (ac (aF st ks) st q) i) (ac (aF st ks) st) with ⟨rfl,e⟩|⟨z,e⟩
   ·rw[e];simp only[gj,aT]
    grind
   ·grind
theorem ap.put (hV:ay V)(h:ap P V W st a w)(d:Nat)(hd:d<V.nt)(a4:∀ x∈V.fixt,x.1≠d)(n:Nat)(sh:aI)(ls:List Leaf)(v:Value)
  (J:List Value) (I:Nat->List Nat) (hn:(st d).ver<n) (hs:ey sh v J) (hl:ls.length=J.length) (h1:∀ u∈J,u.oneCell'=true)
  (a2:∀ (j:Nat) (l:Leaf) (u:Value),ls[j]?=some l->J[j]?=some u->aK P V W st w (I j) l u)
  (a1:∀ (j:Nat) (l:Leaf),ls[j]?=some l->ao l->∀ k∈I j,¬ W.nw k/\¬ V.prot k/\(∀ b,live st b->W.β b≠k) /\
   ∀ (r1 j1:Nat) (l1:Leaf),r1≠d->(st r1).ls[j1]?=some l1->ao l1->k∉W.bs r1 j1)
  (a3:∀ (j j':Nat) (l l':Leaf),ls[j]?=some l->ao l->ls[j']?=some l'->ao l'->∀ k,k∈I j->k∈I j'->j=j') :
  ap P V { W with cs:=λr=>if r=d then J else W.cs r,bs:=λr j=>if r=d then I j else W.bs r j } (ac [(d,⟨n,sh,ls⟩)] st) (a.put (some d) v) w:=by
 have a6:d<B0:=CP hd hV.ntB;have O:∀ b,live (ac [(d,⟨n,sh,ls⟩)] st) b<->live st b:=by
  intro b;by_cases Z:B0<=b
  ·rw[live,live,aJ (by omega)]
  ·simp[live,Z]
 have Y:cL V W { W with cs:=λr=>if r=d then J else W.cs r,bs:=λr j=>if r=d then I j else W.bs r j } st (ac [(d,⟨n,sh,ls⟩)] st) w w:=by
  refine⟨λq=>?_,λb Z=>⟨(O b).2 Z,rfl⟩,λ_ h=>h,λ_ _=>rfl,λ_ q j' l' M h4 h5=>?_⟩;rcases ak d q ⟨n,sh,ls⟩ st with ⟨rfl,e⟩|⟨y,e⟩
  ·grind
  ·grind
  rcases ak d q ⟨n,sh,ls⟩ st with ⟨rfl,e⟩|⟨y,e⟩
  ·grind
  ·grind
 have a0:∀ t,(a.put (some d) v).tmps.getD t undef=if t=d then v else a.tmps.getD t undef:=by
  intro t;by_cases ht:t=d
  ·subst ht;have:t<a.tmps.size:=by rw[h.nt];exact hd
   simp[C6,this]
  ·simp only[C6,if_neg ht];rw[CV,CV,Array.getElem?_setIfInBounds_ne (λe=>ht e.symm)]
 exact {
  nt:=by simp[C6,h.nt],df:=by simp[C6,h.df]
  slots:=λt ht=>by
   rw[a0];rcases ak d t ⟨n,sh,ls⟩ st with ⟨rfl,e⟩|⟨y,e⟩
   ·grind
   ·rw[e];simpa[y]using h.slots t ht
  boxes:=λb Z=>by
   have:b≠d:=by omega
   rw[aJ this];simpa[this]using h.boxes b Z
  len:=λq=>by
   rcases ak d q ⟨n,sh,ls⟩ st with ⟨rfl,e⟩|⟨y,e⟩
   ·grind
   ·rw[e];simpa[y]using h.len q
  one:=λq u hu=>by
   by_cases hq:q=d
   ·grind
   ·simp only[hq]at hu;exact h.one q u hu
  leaf:=λq j l u H M=>by
   rcases ak d q ⟨n,sh,ls⟩ st with ⟨rfl,e⟩|⟨y,e⟩
   ·rw[e]at H;simp at M;exact (a2 j l u H M).carry hV.ro Y (λ_=>⟨by simp,λ_ _=>rfl⟩)
   ·rw[e]at H;simp only[y]at M;exact (h.leaf q j l u H M).carry hV.ro Y (λ_=>⟨by simp[y],λ_ _=>rfl⟩)
  ownb:=λq j l H M k X=>by
   rcases ak d q ⟨n,sh,ls⟩ st with ⟨rfl,e⟩|⟨y,e⟩
   ·grind
   ·rw[e]at H;simp only[y]at X;have:=h.ownb q j l H M k X
    grind
  sep:=λq j l q' j' l' H M h4 h5 k X z=>by
   rcases ak d q ⟨n,sh,ls⟩ st with ⟨e0,e⟩|⟨y,e⟩ <;> rcases ak d q' ⟨n,sh,ls⟩ st with ⟨e1,e'⟩|⟨R,e'⟩
   ·rw[e]at H;rw[e']at h4;simp only[e0]at X;simp only[e1]at z;exact⟨e0.trans e1.symm,a3 j j' l l' H M h4 h5 k X z⟩
   ·rw[e]at H;rw[e']at h4;simp only[e0]at X;simp only[R]at z;exact absurd z ((a1 j l H M k X).2.2.2 q' j' l' R h4 h5)
   ·rw[e]at H;rw[e']at h4;simp only[y]at X;simp only[e1]at z;exact absurd X ((a1 j' l' h4 h5 k z).2.2.2 q j l y H M)
   ·rw[e]at H;rw[e']at h4;simp only[y]at X;simp only[R]at z;exact h.sep q j l q' j' l' H M h4 h5 k X z
  box:=λb Z=>h.box b ((O b).1 Z)
  inj:=λb b' Z a5=>h.inj b b' ((O b).1 Z) ((O b').1 a5)
  nwlt:=h.nwlt
  os:=h.os,tape:=h.tape,output:=h.output,size:=h.size,keep:=h.keep
  fixb:=λx hx=>⟨(O _).2 (h.fixb x hx).1,(h.fixb x hx).2⟩
  fixt:=λx hx=>by rw[a0,if_neg (a4 x hx)];exact h.fixt x hx }
theorem ap.putLs (J:ay V)(h:ap P V W st a w)(d:Nat)(R:d<V.nt)(y:∀ x∈V.fixt,x.1≠d)(n:Nat)(sh:aI)(ls:List Leaf)(v:Value)
  (r:List Value) (O:(st d).ver<n) (X:ey sh v r) (z:aD P V W st w ls r) :
  Rel P V (ac [(d,⟨n,sh,ls⟩)] st) (a.put (some d) v) w :=
 ⟨_,h.put J d R y n sh ls v r (λ_=>[]) O X z.length z.one' (λj l u I M=>(z.at_ j l u I M).1) (λ_ _ _ _ k H=>by simp at H)
  (λ_ _ _ _ _ _ _ _ k H=>by simp at H)⟩
end
def zeroCells:Ty->List Value
 |.int k=>[.int k 0]
 |.bool=>[.bool false]
 |.str=>[.string CO]
 |.unit=>[]
 |.pair a b=>zeroCells a++zeroCells b
 |.hdr=>[.slice none 0 0]
 |.list _ _ _=>[.slice none 0 0]
def bW (P:Program)(t:TypeId)(n:Nat):Prop:=(P.info? t).map (·.size)=some n
def el (P:Program)(t:TypeId)(z:Value):Prop:=(P.info? t).map (·.zero)=some (some z)
def EqAt (P:Program)(t:TypeId)(a:Ty):Prop:=a.flat=true->∀ (w:World) (G:Nat->Prop) (x y:a.den) (u r:List Value),Rd w G a x u->Rd w G a y r ->
 (Op.equal t (.agg u.toArray) (.agg r.toArray)).run P w=.ok (a.eqv x y) w
def o6 (P:Program)(t:TypeId):TI->Prop
 |.int k=>P.underlying t=some (.int k)/\bW P t 1/\el P t (.int k 0)
 |.bool=>P.underlying t=some .bool/\bW P t 1/\el P t (.bool false)
 |.str=>P.underlying t=some .string/\bW P t 1/\el P t (.string CO)
 |.slice E e r=>P.underlying t=some (.slice E)/\bW P t 1/\el P t (.slice none 0 0)/\0<e.cells/\(0<r/\(e=.int .u8->P.underlying E=some (.int .u8))) /\
  ∃ i z,P.info? E=some i/\i.size=e.cells/\i.bytes=r/\i.zero=some z/\z.cells.toList=zeroCells e
 |.struct a u=>(∃ H,P.underlying t=some (.struct H)/\H.toList.mapM (λf=>(P.info? f.type).map λi=>(f.offset,i.size))=some (u.map λx=>(x.1,x.2.1)) /\
  ∀ (i off n:Nat) (agg:Bool),u[i]?=some (off,n,agg)->(agg=false->n=1)/\∃ f:Field,H[i]?=some f/\f.offset=off/\0<n/\off+n<=a.cells/\bW P f.type n /\
   (P.underlying f.type).map (λd=>match d with|.struct _|.array _ _=>true|_=>false)=some agg) /\
  bW P t a.cells/\el P t (.agg (zeroCells a).toArray)/\EqAt P t a/\P.eqGuardType P.depth t=false
 |.arr e n=>(∃ E,P.underlying t=some (.array n E)/\bW P E e.cells/\(P.underlying E).map (λd=>match d with|.struct _|.array _ _=>true|_=>false)=some e.isAgg)/\0<e.cells /\
  bW P t (n*e.cells)/\el P t (.agg ((CK n (zeroCells e)).flatten).toArray)
 |.ptr=>(∃ e,P.underlying t=some (.pointer e))/\bW P t 1/\el P t (.pointer none)
 |.fn=>(∃ x y z,P.underlying t=some (.func x y z))/\bW P t 1/\el P t .nilFunc
 |.none=>True
def TOk (P:Program)(T:TypeId->TI):Prop:=∀ t,o6 P t (T t)
theorem ta {P:Program}:∀ {l:List (TypeId×TI)},(∀ x∈l,o6 P x.1 x.2)->TOk P (gn l)
 |[],_,_=>trivial
 |(t,i)::l,h,u=>by
  simp only[gn];cases y:B3 t u with
  |false=>exact ta (λx r=>h x (Cg _ r)) u
  |true =>
   simp_all
section
variable {P:Program} {V:Env} {W:Wit} {st:St} {w:World} {a:Act} {o:Oper}
def mW (P:Program)(V:Env)(o:Oper)(st:St)(U:Upd)(a:Act)(w:World):Prop :=
 ∀ (next:Act->World->Prop) (Q:Exit->Act->World->Prop),(∀ r u,Rel P V (ac U st) r u->next r u)->o.wp P a w next Q
theorem eh {v:Value}{w':World}{next:Act->World->Prop}{Q:Exit->Act->World->Prop}(h:(execOp a.eval o).run P w=.ok (.value v) w')(r:next (a.put o.dst v) w'):o.wp P a w next Q:=by
 unfold Oper.wp;rw[h];exact r
theorem pP {w':World}{next:Act->World->Prop}{Q:Exit->Act->World->Prop}(h:(execOp a.eval o).run P w=.ok .skip w')(r:next (a.put o.dst undef) w'):o.wp P a w next Q:=by
 unfold Oper.wp;rw[h];exact r
def bU (V:Env)(o:Oper):Prop:=∀ d,o.dst=some d->d<V.nt/\∀ x∈V.fixt,x.1≠d
theorem ei (H:ay V)(h:ap P V W st a w){d:Nat}(y:o.dst=some d)(u:bU V o){v:Value}{sh:aI}{ls:List Leaf}{cs:List Value}
  (r:(execOp a.eval o).run P w=.ok (.value v) w) (z:ey sh v cs) (I:aD P V W st w ls cs):mW P V o st (cn st [] d sh ls) a w:=by
 intro next Q J;refine eh r ?_;rw[y];exact J _ _ (h.putLs H d (u d y).1 (u d y).2 _ sh ls v cs (Cd _) z I)
theorem aO (H:ay V)(h:ap P V W st a w){d:Nat}(J:o.dst=some d)(y:bU V o){v:Value}{l:Leaf}
  (r:(execOp a.eval o).run P w=.ok (.value v) w) (I:aK P V W st w [] l v) (u:¬ ao l) (z:v.oneCell'=true):mW P V o st (cn st [] d .one [l]) a w :=
 ei H h J y r (cs:=[v]) rfl ⟨⟨I,u,z⟩,trivial⟩
theorem ky {agg:Bool}{v:Value}{cs:List Value}(h:dn agg v cs):ey (bm agg) v cs:=by
 cases agg <;> exact h
theorem bI (h:ap P V W st a w){x:Operand}{k:IntKind}{n:Int}(r:one st x=.int k n):a.eval x=.int k n:=by
 have:=(bA h x (by rw[r];simp)).1;rw[r]at this;exact this
theorem iD (h:ap P V W st a w){x:Operand}{b:Bool}(r:one st x=.bool b):a.eval x=.bool b:=by
 have:=(bA h x (by rw[r];simp)).1;rw[r]at this;exact this
theorem iR (h:ap P V W st a w){x:Operand}{b:ByteArray}(r:one st x=.str b):a.eval x=.string b:=by
 have:=(bA h x (by rw[r];simp)).1;rw[r]at this;exact this
theorem vT (r:BinOp)(k:IntKind)(t t':TypeId)(x y:Operand)(m n:Int)(l:Leaf)(u:sQ r k m n=some l)(z:a.eval x=.int k m)(I:a.eval y=.int k n)(H:o.op=.binOp r t x y t') :
  ∃ v,(execOp a.eval o).run P w=.ok (.value v) w/\aK P V W st w [] l v/\¬ ao l/\v.oneCell'=true:=by
 cases r <;> simp only[sQ,CA,reduceCtorEq]at u <;> subst u <;>
  exact⟨_,by simp[execOp,H,z,I,eqGuard,Go.binOp,Op.intArith,Op.intCmp],rfl,id,rfl⟩
theorem BY (H:ay V)(h:ap P V W st a w)(ks:List (Nat×Nat)):cL V W W st (ac (aN st ks) st) w w:=by
 obtain⟨_,z,u⟩:=mi H ks h;exact⟨λq=>⟨(u q).2,λ_=>rfl⟩,λb r=>⟨⟨r.1,by rw[(u b).1];exact r.2⟩,rfl⟩,λ_ h=>h,λ_ _=>rfl,λ_ q j l I y _=>⟨⟨l,(z q j l I y).1,y⟩,rfl,λ_ _=>rfl⟩⟩
theorem step_frz (H:ay V)(h:ap P V W st a w)(ks:List (Nat×Nat)):cL V W (W.frz st ks) st (ac (aF st ks) st) w w:=by
 obtain⟨_,z,u⟩:=lP H ks h;exact⟨λq=>⟨(u q).2,λ_=>rfl⟩,λb r=>⟨⟨r.1,by rw[(u b).1];exact r.2⟩,rfl⟩,λ_ h=>.inl h,λ_ _=>rfl,λ_ q j l I y _=>⟨⟨l,(z q j l I y).1,y⟩,rfl,λ_ _=>rfl⟩⟩
def dA (W:Wit)(ls:List Leaf)(j:Nat):List Nat :=
 match ls[j]? with
 |some (.al r i _)=>W.bs r i
 |_=>[]
theorem xi:∀ {ls:List Leaf} {j r i n:Nat},ls[j]?=some (.al r i n)->ao (aE st (.al r i n))->(r,i)∈bE st ls
 |l::ls,0,r,i,n,h,u=>by
  simp at h;subst h;generalize y:aE st (.al r i n)=q at u;cases q <;> first|exact u.elim|simp[bE,y]
 |l::ls,j+1,r,i,n,h,u=>by
  have:=xi (ls:=ls) (by simpa using h) u;cases l <;> simp[bE,this]
theorem mX:∀ {ls:List Leaf} {j r i n:Nat},ls[j]?=some (.al r i n)->ao (aE st (.al r i n))->(r,i)∈ch st ls
 |l::ls,0,r,i,n,h,u=>by
  simp at h;subst h;generalize y:aE st (.al r i n)=q at u;cases q <;> first|exact u.elim|simp[ch,y]
 |l::ls,j+1,r,i,n,h,u=>by
  have:=mX (ls:=ls) (by simpa using h) u;cases l <;> simp[ch,this]
theorem oz:∀ {ls:List Leaf} {j y r i n I:Nat},bc (ch st ls)=true->ls[j]?=some (.al r i n)->ao (aE st (.al r i n)) ->
    ls[y]?=some (.al r i I)->ao (aE st (.al r i I))->j=y
  |l::ls,j,y,r,i,n,I,u,R,X,Z,h4=>by
    have M:∀ (m:Nat) (k:Nat),l=.al r i m->ao (aE st (.al r i m))->(∃ z,ls[k]?=some (.al r i z)/\ao (aE st (.al r i z)))->False:=by
      rintro m k rfl J ⟨z,h5,h6⟩;have Y:=mX h5 h6;have O:ch st (.al r i m::ls)=(r,i)::ch st ls:=by
        generalize hq:aE st (.al r i m)=q at J;cases q <;> first|exact J.elim|simp[ch,hq]
      rw[O]at u;simp only[bc,B6,CZ]at u;have:=u.1;rw[Ca]at this;have:=this _ Y;simp at this
    have H:bc (ch st ls)=true:=by
      cases l <;> first
        |exact u
        | (rename_i r' y v'
           simp only[ch]at u;split at u
           · simp only[Cw,bc]at u
             grind
           · simpa using u)
    cases j with
    |zero =>
      cases y with
      |zero=>rfl
      |succ y =>
        grind
    |succ j =>
      cases y with
      |zero =>
        grind
      |succ y =>
        have:=oz (ls:=ls) H (by simpa using R) X (by simpa using Z) h4;omega
theorem mj (M:ay V)(h:ap P V W st a w){l:Leaf}{v:Value}(u:aK P V W st w [] l v)(y:¬ ao l) :
  (∃ r i n,l=.al r i n/\ao (aE st l)/\aK P V W st w (W.bs r i) (aE st l) v/\(st r).ls[i]?=some (aE st l)) \/
  (¬ ao (aE st l)/\aK P V W st w [] (aE st l) v):=by
 cases l with
 |al r j n =>
  by_cases H:aE st (.al r j n)=.dead
  ·rw[H];exact .inr ⟨id,trivial⟩
  ·obtain⟨I,J⟩:=fC rfl H;have Y:=u.2 I;have R:=h.leaf r j _ v J Y;by_cases z:ao (aE st (.al r j n))
   ·grind
   ·exact .inr ⟨z,R.carry M.ro (cL.refl V W st w) (λh=>absurd h z)⟩
 |own p hh E e O=>exact absurd trivial y
 |nal p X ep Z E e O =>
  simp only[aE];cases bw st X ep with
  |false=>exact .inr ⟨id,trivial⟩
  |true=>exact .inr ⟨id,u⟩
 |_=>exact .inr ⟨id,u⟩
end
section
variable {P:Program} {V:Env} {W:Wit} {st:St} {w w':World} {a:Act} {o:Oper} {ls:List Leaf} {cs:List Value}
theorem iS {st st':St}(h:∀ q,(st' q).sh=(st q).sh)(b:Nat):live st' b<->live st b:=by simp[live,h]
def aC (st:St)(x:Nat×Nat):Prop:=∃ l,(st x.1).ls[x.2]?=some l/\ao l
def aY (W:Wit)(ks:List (Nat×Nat)):List Nat:=ks.flatMap λx=>W.bs x.1 x.2
theorem dU (W:Wit)(a b:List (Nat×Nat)):aY W (a++b)=aY W a++aY W b:=List.flatMap_append
theorem gB {W:Wit}{ks:List (Nat×Nat)}{k:Nat}:k∈aY W ks<->∃ x∈ks,k∈W.bs x.1 x.2:=List.mem_flatMap
theorem kI {W:Wit}{p:Bool}{ks:List (Nat×Nat)}(u:∀ x∈ks,aC st x):∀ k,br V W p ks k->gd V (W.frz st ks) p k:=by
 rintro k (r|⟨x,y,r⟩)
 ·exact bZ (W':=W.frz st ks) (λh=>h) (λ_ h=>Or.inl h) k r
 ·exact .inl (.inr ⟨x,y,u x y,r⟩)
theorem nX {a b:List (Nat×Nat)}(h:dN a b=true):∀ x∈a,x∉b:=by
 intro x r u;simp only[dN,CZ,Ca]at h;have:=h x r;simp only[Cv,Ca]at this;have:=this x u;simp[iN]at this
theorem fX (hV:ay V){W:Wit}{a:Act}{w:World}(h:ap P V W st a w){frz kill:List (Nat×Nat)}(X:dN frz kill=true)(a0:∀ x∈kill,aC st x) :
  ap P V (W.frz st frz) (ac (aN (ac (aF st frz) st) kill++aF st frz) st) a w /\
  (∀ (q i:Nat) (l:Leaf),(ac (aN (ac (aF st frz) st) kill++aF st frz) st q).ls[i]?=some l->ao l->(st q).ls[i]?=some l/\(q,i)∉frz/\(q,i)∉kill) /\
  (∀ q,(ac (aN (ac (aF st frz) st) kill++aF st frz) st q).sh=(st q).sh/\(st q).ver<=(ac (aN (ac (aF st frz) st) kill++aF st frz) st q).ver) /\
  (∀ k∈aY W kill,¬ (W.frz st frz).nw k/\¬ V.prot k/\k<w.heap.size/\(∀ b,live (ac (aN (ac (aF st frz) st) kill++aF st frz) st) b->W.β b≠k) /\
   ∀ (H i:Nat) (l:Leaf),(ac (aN (ac (aF st frz) st) kill++aF st frz) st H).ls[i]?=some l->ao l->k∉W.bs H i):=by
 obtain⟨h1,h2,h3⟩:=lP hV frz h;obtain⟨h4,h5,h6⟩:=mi hV kill h1;rw[<- bG]at h4 h5 h6;have I:∀ q,(ac (aN (ac (aF st frz) st) kill++aF st frz) st q).sh=(st q).sh:=λq=>(h6 q).1.trans (h3 q).1
 have u:∀ (q i:Nat) (l:Leaf),(ac (aN (ac (aF st frz) st) kill++aF st frz) st q).ls[i]?=some l->ao l->(st q).ls[i]?=some l/\(q,i)∉frz/\(q,i)∉kill:=by
  simp_all
 refine⟨h4,u,λq=>⟨I q,CE (h3 q).2 (h6 q).2⟩,λk z=>?_⟩;obtain⟨x,hx,z⟩:=gB.1 z;obtain⟨l,M,r⟩:=a0 x hx;have h7:=h.ownb x.1 x.2 l M r k z;refine⟨?_,h7.2.1,h.own_lt M r k z,λb hb=>h7.2.2 b ((iS I b).1 hb),λH i l1 h8 h9 Y=>?_⟩
 ·rintro (hn|⟨y,hy,⟨l2,Z,J⟩,R⟩)
  ·grind
  ·obtain⟨e1,e2⟩:=h.sep y.1 y.2 l2 x.1 x.2 l Z J M r k R z;exact nX X y hy (by rw[show y=x from Prod.ext e1 e2];exact hx)
 ·obtain⟨O,_,a1⟩:=u H i l1 h8 h9;obtain⟨e1,e2⟩:=h.sep x.1 x.2 l H i l1 M r O h9 k z Y
  simp_all
theorem Ai (y:ay V)(h:ap P V W st a w)(frz kill:List (Nat×Nat)):cL V W (W.frz st frz) st (ac (aN (ac (aF st frz) st) kill++aF st frz) st) w w:=by
 obtain⟨J,M,H⟩:=lP y frz h;obtain⟨_,I,u⟩:=mi y kill J;rw[<- bG]at I u;exact⟨λq=>⟨CE (H q).2 (u q).2,λ_=>rfl⟩,λb z=>⟨⟨z.1,by rw[(u b).1,(H b).1];exact z.2⟩,rfl⟩,λ_ h=>.inl h,λ_ _=>rfl,
  λ_ q j l O r _=>⟨⟨l,(M q j l (I q j l O r).1 r).1,r⟩,rfl,λ_ _=>rfl⟩⟩
theorem tc:∀ {ls:List Leaf} {j:Nat} {p:Bool} {ks:List (Nat×Nat×Nat)} {ep:Nat} {E:TypeId} {e:Ty} {xs:List e.den},ls[j]?=some (.nal p ks ep none E e xs)->bw st ks ep=true->∀ k∈ks,(k.1,k.2.1)∈dH st ls
 |l::ls,0,p,ks,ep,E,e,xs,h,y,k,u=>by
  simp at h;subst h;simp only[dH,aE]
  grind
 |l::ls,j+1,p,ks,ep,E,e,xs,h,y,k,u=>by
  have:=tc (ls:=ls) (by simpa using h) y k u;cases l with
  |nal O I z r J M H=>cases r <;> simp[dH,this]
  |_=>simp[dH,this]
theorem td {ls:List Leaf}(h:iz st ls=true):bc (ch st ls)=true/\dN (dH st ls) (ch st ls)=true:=by
 simpa[iz]using h
theorem oA (y:aD P V W st w ls cs){x:Nat×Nat}(u:x∈ch st ls):aC st x:=by
 induction ls generalizing cs with
 |nil=>simp[ch]at u
 |cons l ls z =>
  cases cs with
  |nil=>exact y.elim
  |cons v cs =>
   cases l with
   |al r j n =>
    simp only[ch,CG]at u;rcases u with u|u
    ·split at u
     ·rename_i p I E e J H;simp at u;subst u;exact⟨_,(fC H (by simp)).2,trivial⟩
     ·grind
    ·exact z y.2 u
   |_=>exact z y.2 u
theorem Bi {l:Leaf}(h:ao (gz st l)):ao (aE st l)/\gz st l=aE st l:=by
 unfold gz at h ⊢;split at h
 ·exact h.elim
 ·exact⟨h,rfl⟩
theorem o7 (hV:ay V)(h:ap P V W st a w){ls:List Leaf}{cs:List Value}(hl:aD P V W st w ls cs)(a6:iz st ls=true) :
    ap P V (W.frz st (dH st ls)) (ac (mvU st ls) st) a w/\(dS st ls).length=cs.length /\
    (∀ (j:Nat) (l:Leaf) (u:Value),(dS st ls)[j]?=some l->cs[j]?=some u->aK P V (W.frz st (dH st ls)) (ac (mvU st ls) st) w (dA W ls j) l u) /\
    (∀ (j:Nat) (l:Leaf),(dS st ls)[j]?=some l->ao l->∀ k∈dA W ls j,¬ (W.frz st (dH st ls)).nw k/\¬ V.prot k/\k<w.heap.size /\
      (∀ b,live (ac (mvU st ls) st) b->W.β b≠k) /\
      ∀ (r1 j1:Nat) (l1:Leaf),(ac (mvU st ls) st r1).ls[j1]?=some l1->ao l1->k∉W.bs r1 j1) /\
    (∀ (j j':Nat) (l l':Leaf),(dS st ls)[j]?=some l->ao l->(dS st ls)[j']?=some l'->ao l'->∀ k,k∈dA W ls j->k∈dA W ls j'->j=j'):=by
  obtain⟨hd,a7⟩:=td a6;obtain⟨h1,h2,h3,a8⟩:=fX hV h a7 (λx hx=>oA hl hx);have J:=Ai hV h (dH st ls) (ch st ls);show ap P V (W.frz st (dH st ls)) (ac (aN (ac (aF st (dH st ls)) st) (ch st ls)++aF st (dH st ls)) st) a w/\_;have R:∀ (j:Nat) (l:Leaf),(dS st ls)[j]?=some l->∃ z u,ls[j]?=some z/\cs[j]?=some u/\gz st z=l/\aK P V W st w [] z u/\¬ ao z:=by
    intro j l M;simp only[dS,Cr,CH]at M;obtain⟨z,H,Y⟩:=M;have ad:j<cs.length:=by rw[<- hl.length];exact (B5.1 H).1
    have O:=B7 ad;have h7:=hl.at_ j z _ H O
    simp_all
  have y:∀ (j:Nat) (l:Leaf),(dS st ls)[j]?=some l->ao l->∃ r i n,ls[j]?=some (.al r i n)/\ao (aE st (.al r i n))/\(st r).ls[i]?=some l:=by
    intro j l M ho;obtain⟨z,u,H,Y,rfl,O,h7⟩:=R j l M;obtain⟨a0,e0⟩:=Bi ho;rcases mj hV h O h7 with ⟨r,i,n,rfl,h8,_,h9⟩|⟨h8,_⟩
    · grind
    · grind
  refine⟨h1,by simp[dS,hl.length],λj l u M hu=>?_,λj l M ho k I=>?_,λj j' l l' M ho b0 a0 k I a2=>?_⟩
  · obtain ⟨z, u', H, Y, rfl, O, h7⟩ := R j l M
    obtain rfl:u=u':=Option.some.inj (hu.symm.trans Y);have Z:gz st z=aE st z->aK P V (W.frz st (dH st ls)) (ac (mvU st ls) st) w (dA W ls j) (gz st z) u:=by
      intro e0;rw[e0];rcases mj hV h O h7 with ⟨r,i,n,rfl,h8,h9,_⟩|⟨h8,h9⟩
      · have:dA W ls j=W.bs r i:=by simp[dA,H]
        rw[this];exact h9.carry hV.ro J (λ_=>⟨rfl,λ_ _=>rfl⟩)
      · exact h9.carry hV.ro J (λh=>absurd h h8)
    by_cases X:∃ p ks ep E e xs,aE st z=.nal p ks ep none E e xs
    · obtain⟨p,ks,ep,E,e,xs,X⟩:=X
      have e0:gz st z=.ro p E e xs:=by unfold gz;rw[X]
      rw[e0];have a3:z=.nal p ks ep none E e xs/\bw st ks ep=true:=by
        cases z with
        |al r i n=>exact absurd X jf
        |nal p' b1 a5 b2 E' e' b3 =>
          simp only[aE]at X;cases hv:bw st b1 a5 with
          |false=>simp[hv]at X
          |true =>
            simp_all
        |_=>simp[aE]at X
      obtain⟨rfl,hv⟩:=a3;refine Rd.mono (λk I=>?_) (pO hv O).rd;rcases I with I|⟨x,hx,I⟩
      · exact bZ (W':=W.frz st (dH st ls)) (λh=>h) (λ_ h=>Or.inl h) k I
      · exact .inl (.inr ⟨(x.1,x.2.1),tc H hv x hx,(cH hv).2.2 x hx,I⟩)
    · refine Z ?_
      unfold gz
      grind
  · obtain⟨r,i,n,H,Y,O⟩:=y j l M ho
    have e:dA W ls j=W.bs r i:=by simp[dA,H]
    rw[e]at I;exact a8 k (gB.2 ⟨(r,i),mX H Y,I⟩)
  · obtain⟨r,i,n,H,Y,O⟩:=y j l M ho
    obtain⟨r',i',n',a1,a4,a9⟩:=y j' l' b0 a0;have e:dA W ls j=W.bs r i:=by simp[dA,H]
    have e':dA W ls j'=W.bs r' i':=by simp[dA,a1]
    rw[e]at I;rw[e']at a2;obtain⟨rfl,rfl⟩:=h.sep r i l r' i' l' O ho a9 a0 k I a2;exact oz hd H Y a1 a4
theorem z9 (y:ay V)(h:ap P V W st a w)(z:aD P V W st w ls cs)(r:iz st ls=true):∀ q,(ac (mvU st ls) st q).sh=(st q).sh/\(st q).ver<=(ac (mvU st ls) st q).ver :=
 (fX y h (td r).2 (λ_ u=>oA z u)).2.2.1
theorem ap.putMoved (J:ay V)(h:ap P V W st a w){ls:List Leaf}{cs:List Value}(M:aD P V W st w ls cs)(hd:iz st ls=true)
  (d:Nat) (I:d<V.nt) (r:∀ x∈V.fixt,x.1≠d) {sh:aI} {v:Value} (hs:ey sh v cs) :
  Rel P V (ac (cn st (mvU st ls) d sh (dS st ls)) st) (a.put (some d) v) w:=by
 obtain⟨O,R,h3,H,h5⟩:=o7 J h M hd;exact⟨_,O.put J d I r _ sh (dS st ls) v cs (dA W ls) (Cd _) hs R M.one' h3
  (λj l z u k y=>⟨(H j l z u k y).1,(H j l z u k y).2.1,(H j l z u k y).2.2.2.1,λX Y Z _=>(H j l z u k y).2.2.2.2 X Y Z⟩) h5⟩
theorem ap.setBoxG (hV:ay V)(h:ap P V W st a w)(b:Nat)(hb:B0<=b)(n:Nat)(ls:List Leaf)(a3:List Value)(X:Nat->List Nat)(g:Nat)(E:TypeId)
    (hn:(st b).ver<n) (hg:(live st b/\W.β b=g)\/(¬ live st b/\¬ ck V W st g/\∀ (j:Nat) (l:Leaf),ls[j]?=some l->ao l->∀ k∈X j,k≠g)) (b9:w'.heap[g]?=some (.cells a3.toArray E (0,0)))
    (ad:∀ k,ck V W st k->k≠g->w'.heap[k]?=w.heap[k]?) (a7:∀ (j:Nat) (l:Leaf),ls[j]?=some l->ao l->∀ k∈X j,k≠g->w'.heap[k]?=w.heap[k]?) (b3:w.heap.size<=w'.heap.size) (b5:w'.os=w.os) (ht:w'.tape=w.tape) (ho:w'.output=w.output)
    (hl:ls.length=a3.length) (h1:∀ u∈a3,u.oneCell'=true)
    (a9:∀ (j:Nat) (l:Leaf) (u:Value),ls[j]?=some l->a3[j]?=some u->aK P V W st w (X j) l u)
    (a8:∀ (j:Nat) (l:Leaf),ls[j]?=some l->ao l->∀ k∈X j,¬ W.nw k/\¬ V.prot k/\(∀ b,live st b->W.β b≠k) /\
      ∀ (r1 j1:Nat) (l1:Leaf),r1≠b->(st r1).ls[j1]?=some l1->ao l1->k∉W.bs r1 j1)
    (b1:∀ (j j':Nat) (l l':Leaf),ls[j]?=some l->ao l->ls[j']?=some l'->ao l'->∀ k,k∈X j->k∈X j'->j=j') :
    ap P V { W with β:=λr=>if r=b then g else W.β r,cs:=λr=>if r=b then a3 else W.cs r,bs:=λr j=>if r=b then X j else W.bs r j }
      (ac [(b,⟨n,.agg,ls⟩)] st) a w':=by
  have Y:¬ W.nw g/\¬ V.prot g/\(∀ q,q≠b->live st q->W.β q≠g)/\∀ (r1 j1:Nat) (l1:Leaf),(st r1).ls[j1]?=some l1->ao l1->g∉W.bs r1 j1:=by
    rcases hg with ⟨a0,rfl⟩|⟨a0,hg⟩
    · exact⟨(h.box b a0).1,(h.box b a0).2,λq hq b6 e=>hq (h.inj q b b6 a0 e),λr1 j1 l1 y M H=>(h.ownb r1 j1 l1 y M _ H).2.2 b a0 rfl⟩
    · have hu:=hg.1
      simp only[ck,not_or,not_exists,not_and]at hu
      grind
  have b0:∀ (j:Nat) (l:Leaf),ls[j]?=some l->ao l->∀ k∈X j,k≠g:=by
    grind
  have I:∀ q,live (ac [(b,⟨n,.agg,ls⟩)] st) q<->(q=b\/live st q):=by
    intro q;rcases ak b q ⟨n,.agg,ls⟩ st with ⟨e0,e⟩|⟨z,e⟩
    · subst e0
      simp[live,e,hb]
    · simp[live,e,z]
  have J:∀ k,ck V W st k->k≠g->w'.heap[k]?=w.heap[k]?:=ad;have a5:cL V W { W with β:=λr=>if r=b then g else W.β r,cs:=λr=>if r=b then a3 else W.cs r,bs:=λr j=>if r=b then X j else W.bs r j } st (ac [(b,⟨n,.agg,ls⟩)] st) w w':=by
    refine⟨λq=>?_,λq hq=>⟨(I q).2 (.inr hq),?_⟩,λ_ h=>h,λk H=>J k (H.elim .inl (λh=>.inr (.inl h))) ?_,λ_ q j l y M Z=>?_⟩
    · rcases ak b q ⟨n,.agg,ls⟩ st with ⟨rfl,e⟩|⟨z,e⟩
      · grind
      · grind
    · grind
    · grind
    · rcases ak b q ⟨n,.agg,ls⟩ st with ⟨rfl,e⟩|⟨z,e⟩
      · grind
      · rw[e]at y
        refine⟨⟨l,y,M⟩,by simp[z],λk H=>J k (.inr (.inr (.inr ⟨q,j,l,y,M,H⟩))) ?_⟩
        grind
  exact {
    nt:=h.nt,df:=h.df
    slots:=λt b4=>by
      have : t ≠ b := by have : GH <= B0 := by decide
                         omega
      rw[aJ this];simpa[this]using h.slots t b4
    boxes:=λq hq=>by
      rcases ak b q ⟨n,.agg,ls⟩ st with ⟨rfl,e⟩|⟨z,e⟩
      · grind
      · rw[e]
        refine (h.boxes q hq).imp id λ⟨y,E',M⟩=>⟨y,E',?_⟩
        simp only[z,if_false];rw[J _ (.inr (.inr (.inl ⟨q,⟨hq,y⟩,rfl⟩))) (Y.2.2.1 q z ⟨hq,y⟩)];exact M
    len:=λq=>by
      rcases ak b q ⟨n,.agg,ls⟩ st with ⟨rfl,e⟩|⟨z,e⟩
      · rw[e];simpa using hl
      · rw[e];simpa[z]using h.len q
    one:=λq u hu=>by
      by_cases hq:q=b
      · grind
      · simp only[hq]at hu;exact h.one q u hu
    leaf:=λq j l u y M=>by
      rcases ak b q ⟨n,.agg,ls⟩ st with ⟨rfl,e⟩|⟨z,e⟩
      · rw[e]at y
        simp only at M;exact (a9 j l u y M).carry hV.ro a5 (λho=>⟨by simp,λk H=>a7 j l y ho k H (b0 j l y ho k H)⟩)
      · rw[e]at y
        simp only[z]at M;refine (h.leaf q j l u y M).carry hV.ro a5 (λho=>⟨by simp[z],λk H=>J k (.inr (.inr (.inr ⟨q,j,l,y,ho,H⟩))) ?_⟩);rintro rfl;exact Y.2.2.2 q j l y ho H
    ownb:=λq j l y M k H=>by
      rcases ak b q ⟨n,.agg,ls⟩ st with ⟨rfl,e⟩|⟨z,e⟩
      · rw[e]at y
        simp only[if_true]at H;have Z:=a8 j l y M k H;refine⟨Z.1,Z.2.1,λp hp=>?_⟩;by_cases a2:p=q
        · simp only[a2,if_true];exact λe=>b0 j l y M k H e.symm
        · simp only[a2,if_false];exact Z.2.2.1 p (((I p).1 hp).resolve_left a2)
      · rw[e]at y
        simp only[z,if_false]at H;have Z:=h.ownb q j l y M k H;refine⟨Z.1,Z.2.1,λp hp=>?_⟩;by_cases a2:p=b
        · simp only[a2,if_true];rintro rfl;exact Y.2.2.2 q j l y M H
        · simp only[a2,if_false];exact Z.2.2 p (((I p).1 hp).resolve_left a2)
    sep:=λq j l q' j' l' y M Z h5 k H a1=>by
      rcases ak b q ⟨n,.agg,ls⟩ st with ⟨e0,e⟩|⟨z,e⟩ <;> rcases ak b q' ⟨n,.agg,ls⟩ st with ⟨e1,e'⟩|⟨a4,e'⟩
      · rw[e]at y;rw[e']at Z
        simp only[e0,if_true]at H;simp only[e1,if_true]at a1;exact⟨e0.trans e1.symm,b1 j j' l l' y M Z h5 k H a1⟩
      · rw[e]at y;rw[e']at Z
        simp only[e0,if_true]at H;simp only[a4,if_false]at a1;exact absurd a1 ((a8 j l y M k H).2.2.2 q' j' l' a4 Z h5)
      · rw[e]at y;rw[e']at Z
        simp only[z,if_false]at H;simp only[e1,if_true]at a1
        grind
      · rw[e]at y;rw[e']at Z
        simp only[z]at H;simp only[a4,if_false]at a1;exact h.sep q j l q' j' l' y M Z h5 k H a1
    box:=λq hq=>by
      by_cases O:q=b
      · simp only[O,if_true];exact⟨Y.1,Y.2.1⟩
      · simp only[O,if_false];exact h.box q (((I q).1 hq).resolve_left O)
    inj:=λq q' hq b2 e=>by
      by_cases O:q=b <;> by_cases R:q'=b
      · omega
      · simp only[O,if_true,R,if_false]at e
        exact absurd e.symm (Y.2.2.1 q' R (((I q').1 b2).resolve_left R))
      · simp only[O,if_false,R,if_true]at e
        exact absurd e (Y.2.2.1 q O (((I q).1 hq).resolve_left O))
      · simp only[O,if_false,R,if_false]at e
        exact h.inj q q' (((I q).1 hq).resolve_left O) (((I q').1 b2).resolve_left R) e
    nwlt:=λk H=>⟨CP (h.nwlt k H).1 b3,(h.nwlt k H).2⟩
    os:=b5.trans h.os,tape:=ht.trans h.tape,output:=ho.trans h.output,size:=CE h.size b3
    keep:=λk hp=>by
      rw[J k (.inr (.inl hp)) (by rintro rfl;exact Y.2.1 hp)];exact h.keep k hp
    fixb:=λx hx=>by
      obtain⟨y,M⟩:=h.fixb x hx;refine⟨(I _).2 (.inr y),?_⟩;by_cases a6:x.1=b
      · simp only[a6,if_true]
        rcases hg with ⟨_,e⟩|⟨a0,_⟩
        · rw[<- e,<- a6];exact M
        · exact absurd (a6 ▸ y) a0
      · simpa only[a6,if_false]using M
    fixt:=h.fixt }
theorem ap.setBox (hV:ay V)(h:ap P V W st a w)(b:Nat)(hb:B0<=b)(n:Nat)(ls:List Leaf)(H:List Value)(z:Nat->List Nat)(g:Nat)(E:TypeId)
  (hn:(st b).ver<n) (hg:(live st b/\W.β b=g)\/(¬ live st b/\w.heap.size<=g)) (Z:w'.heap[g]?=some (.cells H.toArray E (0,0)))
  (I:∀ k,k<w.heap.size->k≠g->w'.heap[k]?=w.heap[k]?) (a1:w.heap.size<=w'.heap.size) (a0:w'.os=w.os) (ht:w'.tape=w.tape) (ho:w'.output=w.output)
  (hl:ls.length=H.length) (h1:∀ u∈H,u.oneCell'=true)
  (X:∀ (j:Nat) (l:Leaf) (u:Value),ls[j]?=some l->H[j]?=some u->aK P V W st w (z j) l u)
  (y:∀ (j:Nat) (l:Leaf),ls[j]?=some l->ao l->∀ k∈z j,¬ W.nw k/\¬ V.prot k/\k<w.heap.size/\(∀ b,live st b->W.β b≠k) /\
   ∀ (r1 j1:Nat) (l1:Leaf),r1≠b->(st r1).ls[j1]?=some l1->ao l1->k∉W.bs r1 j1)
  (Y:∀ (j j':Nat) (l l':Leaf),ls[j]?=some l->ao l->ls[j']?=some l'->ao l'->∀ k,k∈z j->k∈z j'->j=j') :
  ap P V { W with β:=λr=>if r=b then g else W.β r,cs:=λr=>if r=b then H else W.cs r,bs:=λr j=>if r=b then z j else W.bs r j }
   (ac [(b,⟨n,.agg,ls⟩)] st) a w' :=
 h.setBoxG hV b hb n ls H z g E hn (hg.imp id λ⟨h2,h3⟩=>⟨h2,λhu=>by have:=h.used_lt g hu;omega,λj l O M k J=>by have:=(y j l O M k J).2.2.1;omega⟩) Z
  (λk J R=>I k (h.used_lt k J) R) (λj l O M k J R=>I k (y j l O M k J).2.2.1 R) a1 a0 ht ho hl h1 X
  (λj l O M k J=>⟨(y j l O M k J).1,(y j l O M k J).2.1,(y j l O M k J).2.2.2.1,(y j l O M k J).2.2.2.2⟩) Y
theorem eC (y:aD P V W st w ls cs){x:Nat×Nat}(u:x∈bE st ls):aC st x:=by
 induction ls generalizing cs with
 |nil=>simp[bE]at u
 |cons l ls H =>
  cases cs with
  |nil=>exact y.elim
  |cons v cs =>
   cases l with
   |al r j n =>
    simp only[bE,CG]at u;rcases u with u|u
    ·split at u
     ·rename_i p X E e J z;simp at u;subst u;exact⟨_,(fC z (by simp)).2,trivial⟩
     ·grind
    ·exact H y.2 u
   |nal p O ep R E e J =>
    simp only[bE,CG]at u;rcases u with u|u
    ·split at u
     ·rename_i z;simp only[aE]at z;cases I:bw st O ep with
      |false=>simp[I]at z
      |true =>
       obtain⟨k,M,rfl⟩:=List.mem_map.1 u;exact (cH I).2.2 k M
     ·grind
    ·exact H y.2 u
   |_=>exact H y.2 u
theorem BZ (z:aD P V W st w ls cs){ks:List (Nat×Nat)}(u:∀ x∈bE st ls,x∈ks)(p:Bool):∀ k,br V W p (bE st ls) k->gd V (W.frz st ks) p k:=by
 intro k r;rcases r with r|⟨x,y,r⟩
 ·exact bZ (W':=W.frz st ks) (λh=>h) (λ_ h=>Or.inl h) k r
 ·exact .inl (.inr ⟨x,u x y,eC z y,r⟩)
end
section
variable {P:Program} {V:Env} {Γ:List Ctr} {T:TypeId->TI} {st:St} {o:Oper} {R:Type} {κ:Upd->Option R} {r:R}
def b8 (P:Program)(V:Env)(o:Oper)(st:St)(κ:Upd->Option R)(r:R):Prop :=
 ∃ U,κ U=some r/\∀ W a w,ap P V W st a w->mW P V o st U a w
theorem yP (I:ay V)(y:bU V o){x:Operand}(u:o.op=.move x)(h:act Γ T o st κ=some r):b8 P V o st κ r:=by
 simp only[act,wrU,u]at h;split at h
 ·rename_i d M;refine⟨_,h,λW a w z=>?_⟩;obtain⟨O,H,J⟩:=c8 z x;exact ei I z M y (by simp[execOp,u]) H J
 ·grind
theorem vU (M:ay V)(z:bU V o){x:Operand}(y:o.op=.assign x)(h:act Γ T o st κ=some r):b8 P V o st κ r:=by
 simp only[act,y]at h;split at h
 ·rename_i d H;cases u:iz st (au st x).2 with
  |false=>simp[u]at h
  |true =>
   simp only[u]at h;refine⟨_,h,λW a w I=>?_⟩;obtain⟨Y,J,O⟩:=c8 I x;intro next Q X;refine eh (v:=a.eval x) (w':=w) (by simp[execOp,y]) ?_;rw[H];exact X _ _ (I.putMoved M O u d (z d H).1 (z d H).2 J)
 ·grind
theorem yQ (O:ay V)(H:bU V o){c x y:Operand}(z:o.op=.pick c x y)(h:act Γ T o st κ=some r):b8 P V o st κ r:=by
 simp only[act,wrU,z]at h;split at h
 ·rename_i t X;cases t with
  |true =>
   split at h
   ·rename_i d M;refine⟨_,h,λW a w u=>?_⟩;obtain⟨Y,I,J⟩:=c8 u x;exact ei O u M H (v:=a.eval x) (by simp[execOp,z,iD u X,asBool]) I J
   ·grind
  |false =>
   split at h
   ·rename_i d M;refine⟨_,h,λW a w u=>?_⟩;obtain⟨Y,I,J⟩:=c8 u y;exact ei O u M H (v:=a.eval y) (by simp[execOp,z,iD u X,asBool]) I J
   ·grind
 ·grind
theorem te (hV:ay V)(Z:bU V o){x:Operand}(X:o.op=.nilCheck x)(h:act Γ T o st κ=some r):b8 P V o st κ r:=by
 simp only[act,wrU,X]at h;have H:∀ {l:Leaf} {d:Nat},one st x=l->l≠.dead->(∀ W a w,ap P V W st a w->aK P V W st w [] l (a.eval x)->∃ ad,a.eval x=.pointer (some ad))->o.dst=some d ->
   ∀ W a w,ap P V W st a w->mW P V o st (cn st [] d .one [l]) a w:=by
  intro l d z a0 hp I W a w M;obtain⟨Y,h2,h3,_⟩:=bA M x (by rw[z];exact a0);rw[z]at Y h2;obtain⟨ad,O⟩:=hp W a w M Y;exact aO hV M I Z (v:=a.eval x) (by simp[execOp,X,O]) Y h2 h3
 split at h
 ·split at h
  ·rename_i z _ d I;exact⟨_,h,H z (by simp) (λW a w M u=>by obtain⟨g,o',c,O,_⟩:=u;exact⟨_,O⟩) I⟩
  ·grind
 ·split at h
  ·rename_i z _ d I;exact⟨_,h,H z (by simp) (λW a w M u=>⟨_,u.2.2⟩) I⟩
  ·grind
 ·rename_i r' j v i sz off z;cases J:B3 (st r').ver v with
  |false=>simp[J]at h
  |true =>
   simp only[J]at h;split at h
   ·rename_i d I;refine⟨_,h,H z (by simp) (λW a w M u=>?_) I⟩;obtain⟨g,a2,a1,_,_,O⟩:=u.2 (B4 J)
    simp_all
   ·grind
 ·split at h
  ·rename_i z _ d I;exact⟨_,h,H z (by simp) (λW a w M u=>by obtain⟨b,ob,g,o',c,O,_⟩:=u;exact⟨_,O⟩) I⟩
  ·grind
 ·rename_i p ks ep b y off z;cases J:bw st ks ep with
  |false=>simp[J]at h
  |true =>
   simp only[J]at h;split at h
   ·rename_i d I;refine⟨_,h,H z (by simp) (λW a w M u=>?_) I⟩;obtain⟨g,o',c,O,_⟩:=(u.2.2 (cH J).1 (cH J).2.1 (cH J).2.2:NpOk V W w p ks b y off _).rd
    simp_all
   ·grind
 ·grind
theorem yR (J:ay V)(z:bU V o){M:UnOp}{t:TypeId}{x:Operand}(u:o.op=.unOp M t x)(h:act Γ T o st κ=some r):b8 P V o st κ r:=by
 simp only[act,wrU,u]at h;split at h
 ·rename_i b H;split at h
  ·rename_i d I;exact⟨_,h,λW a w y=>aO J y I z (v:=.bool (!b)) (by simp[execOp,u,iD y H,Op.unary]) rfl id rfl⟩
  ·grind
 ·rename_i k n H;split at h
  ·rename_i d I;exact⟨_,h,λW a w y=>aO J y I z (v:=.int k (k.wrap (0-n))) (by simp[execOp,u,bI y H,Op.unary,Op.intArith]) rfl id rfl⟩
  ·grind
 ·grind
theorem uA (hV:ay V)(O:bU V o){x:Operand}{i:Nat}(H:o.op=.extract x i)(h:act Γ T o st κ=some r):b8 P V o st κ r:=by
 simp only[act,wrU,H]at h;split at h
 ·rename_i u ls he;split at h
  ·rename_i agg n hp;split at h
   ·rename_i d hd;refine⟨_,h,λW a w hr=>?_⟩;obtain⟨y,hs,hl⟩:=c8 hr x;rw[he]at hs hl;obtain⟨z,hv,X⟩:=hs;have I:∀ (u:List (Bool×Nat)) (z y:List Value) (i:Nat) (off:Nat),pN u z y->u[i]?=some (agg,n) ->
      ∃ v,z[i]?=some v/\dn agg v ((y.drop ((u.take i).foldl (λa b=>a+b.2) off-off)).take n)/\off<=(u.take i).foldl (λa b=>a+b.2) off:=by
     intro u;induction u with
     |nil=>intro z y i off _ hi;simp at hi
     |cons p u ih =>
      rintro z y i off ⟨v,Y,c,Z,rfl,rfl,hc,a0,X⟩ hi;cases i with
      |zero =>
       simp_all
      |succ i =>
       obtain⟨v',J,M,h3⟩:=ih Y Z i (off+p.2) X (by simpa using hi);refine⟨v',by simpa using J,?_,by simp;omega⟩;simp;have e:(u.take i).foldl (λa b=>a+b.2) (off+p.2)-off=c.length+((u.take i).foldl (λa b=>a+b.2) (off+p.2)-(off+p.2)):=by omega
       rw[e,<- Cz,List.drop_left];exact M
    obtain⟨v,J,M,_⟩:=I u z y i 0 X hp;refine ei hV hr hd O (v:=v) ?_ (ky M) ((hl.drop _).take n);simp[execOp,H,hv,Instr.extract,J]
   ·grind
  ·grind
 ·grind
theorem u6 {W:Wit}{a:Act}{w:World}(I:ap P V W st a w):∀ (xs:List Operand) (u l:List Nat),
  xs.foldl (λ (u:Option (List Nat)) x=>u.bind λl=>match one st x with|.bp b 0=>some (l++[b])|_=>none) (some u)=some l ->
  ∃ y,l=u++y/\xs.map a.eval=y.map (λb=>Value.pointer (some ⟨W.β b,0,none⟩))/\∀ b∈y,B0<=b/\(st b).sh=.agg
 |[],u,l,h=>⟨[],by simpa using h.symm,rfl,by simp⟩
 |x::xs,u,l,h=>by
  simp at h;have H:∀ (xs:List Operand),xs.foldl (λ (u:Option (List Nat)) x=>u.bind λl=>match one st x with|.bp b 0=>some (l++[b])|_=>none) none=none:=by
   intro xs;induction xs with
   |nil=>rfl
   |cons x xs Y=>simpa using Y
  split at h
  ·rename_i b J;obtain⟨y,O,X,Z⟩:=u6 I xs (u++[b]) l h;have z:=(bA I x (by rw[J];simp)).1;rw[J]at z;refine⟨b::y,by simp[O],?_,?_⟩
   ·simp only[C3,X];rw[show a.eval x=_ from z.2.2]
   ·intro q M;rcases Cm.1 M with rfl|M
    ·exact⟨z.1,z.2.1⟩
    ·grind
  ·grind
theorem tf (J:ay V)(z:bU V o){fn:Fn}{first caps:Array Operand}(u:o.op=.makeFunc fn first caps)(h:act Γ T o st κ=some r):b8 P V o st κ r:=by
 cases fn with
 |func f =>
  simp only[act,wrU,u]at h;cases y:B3 first.size 0 with
  |false=>simp[y]at h
  |true =>
   simp only[y]at h;split at h
   ·rename_i l O;split at h
    ·rename_i d Y;refine⟨_,h,λW a w H=>?_⟩;obtain⟨l',I,M,X⟩:=u6 H caps.toList [] l O;subst I;have Z:first=#[]:=Array.eq_empty_of_size_eq_zero (B4 y)
     refine aO J H Y z (v:=.func (.func f) #[] (l.map λb=>Value.pointer (some ⟨W.β b,0,none⟩)).toArray) ?_ ⟨rfl,X⟩ id rfl;rw[<- M];simp[execOp,u,Instr.makeFunc,Z,<- Ce]
    ·grind
   ·grind
 |_=>simp[act,u]at h
theorem gC {α:Type}{xs:List α}{i:Int}{x:α}(h:idx xs i=some x):0<=i/\i<xs.length/\xs[i.toNat]?=some x:=by
 unfold idx at h
 grind
end
section
variable {P:Program} {V:Env} {Γ:List Ctr} {T:TypeId->TI} {st:St} {o:Oper} {R:Type} {κ:Upd->Option R} {r:R}
theorem xj {W:Wit}{a:Act}{w:World}(I:ap P V W st a w){x:Operand}{b:Ty}{p:Bool}{u:b.den}(z:(au st x).1=.agg)(M:cY st b (au st x).2=some (p,u)) :
  ∃ y G,a.eval x=.agg y.toArray/\Rd w G b u y:=by
 obtain⟨y,H,J⟩:=c8 I x;rw[z]at H;exact⟨y,_,H,eO I J M⟩
theorem lQ {t:TypeId}(y:P.underlying t=some .bool)(b u:Bool)(w:World):(Op.equal t (.bool b) (.bool u)).run P w=.ok (b==u) w:=by
 have e:Op.maxDepth=9999+1:=rfl;unfold Op.equal;rw[e];generalize 9999=m;unfold Op.equalIn;rw[CJ,run_underlying y];rfl
theorem xk (Z:ay V)(hT:TOk P T)(I:bU V o){op:BinOp}{t t':TypeId}{x y:Operand}(H:o.op=.binOp op t x y t')(h:act Γ T o st κ=some r):b8 P V o st κ r:=by
  simp only[act,wrU,H]at h;split at h
  · rename_i k m k' n X O
    cases op
    case shl =>
      simp only at h;cases Y:decide (n<0) with
      |true=>simp[Y]at h
      |false =>
        simp only[Y,cond_false]at h;split at h
        · rename_i d M
          refine⟨_,h,λW a w z=>aO Z z M I (v:=.int k (k.wrap (m*2 ^ (min n.toNat k.bits)))) ?_ rfl id rfl⟩;have:¬ n<0:=of_decide_eq_false Y;simp[execOp,H,bI z X,bI z O,eqGuard,Go.binOp,Op.shift,this]
        · cases h
    case shr =>
      simp only at h;cases Y:decide (n<0) with
      |true=>simp[Y]at h
      |false =>
        simp only[Y,cond_false]at h;split at h
        · rename_i d M
          refine⟨_,h,λW a w z=>aO Z z M I (v:=.int k (m.fdiv (2 ^ (min n.toNat k.bits)))) ?_ rfl id rfl⟩;have:¬ n<0:=of_decide_eq_false Y;simp[execOp,H,bI z X,bI z O,eqGuard,Go.binOp,Op.shift,this]
        · cases h
    case quo =>
      simp only at h;cases Y:decide (n=0) with
      |true=>simp[Y]at h
      |false =>
        simp only[Y,cond_false]at h;cases J:decide (k=k') with
        |false=>simp[J]at h
        |true =>
          simp only[J,cond_true]at h;have J:=of_decide_eq_true J;subst J;split at h
          · rename_i d M
            refine⟨_,h,λW a w z=>aO Z z M I (v:=.int k (k.wrap (m.tdiv n))) ?_ rfl id rfl⟩;have:¬ n=0:=of_decide_eq_false Y;simp[execOp,H,bI z X,bI z O,eqGuard,Go.binOp,Op.intDiv,this]
          · cases h
    case rem =>
      simp only at h;cases Y:decide (n=0) with
      |true=>simp[Y]at h
      |false =>
        simp only[Y,cond_false]at h;cases J:decide (k=k') with
        |false=>simp[J]at h
        |true =>
          simp only[J,cond_true]at h;have J:=of_decide_eq_true J;subst J;split at h
          · rename_i d M
            refine⟨_,h,λW a w z=>aO Z z M I (v:=.int k (m.tmod n)) ?_ rfl id rfl⟩;have:¬ n=0:=of_decide_eq_false Y;simp[execOp,H,bI z X,bI z O,eqGuard,Go.binOp,Op.intDiv,this]
          · cases h
    case and =>
      simp only at h;cases J:decide (k=k') with
      |false=>simp[J]at h
      |true =>
        simp only[J,cond_true]at h;have J:=of_decide_eq_true J;subst J;split at h
        · rename_i d M
          refine⟨_,h,λW a w z=>aO Z z M I (v:=.int k (k.wrap ((BitVec.ofInt k.bits m &&& BitVec.ofInt k.bits n).toNat))) ?_ rfl id rfl⟩;simp[execOp,H,bI z X,bI z O,eqGuard,Go.binOp,Op.intBits]
        · cases h
    case xor =>
      simp only at h;cases J:decide (k=k') with
      |false=>simp[J]at h
      |true =>
        simp only[J,cond_true]at h;have J:=of_decide_eq_true J;subst J;split at h
        · rename_i d M
          refine⟨_,h,λW a w z=>aO Z z M I (v:=.int k (k.wrap ((BitVec.ofInt k.bits m ^^^ BitVec.ofInt k.bits n).toNat))) ?_ rfl id rfl⟩;simp[execOp,H,bI z X,bI z O,eqGuard,Go.binOp,Op.intBits]
        · cases h
    all_goals
      simp only at h;cases J:decide (k=k') with
      |false=>simp[J]at h
      |true =>
        simp only[J,cond_true]at h;have J:=of_decide_eq_true J;subst J;split at h
        · rename_i l hl
          split at h
          · rename_i d M
            refine⟨_,h,λW a w z=>?_⟩;obtain⟨v,h1,h2,h3,h4⟩:=vT (P:=P) (V:=V) (W:=W) (st:=st) (w:=w) _ k t t' x y m n l hl (bI z X) (bI z O) H;exact aO Z z M I h1 h2 h3 h4
          · cases h
        · cases h
  · rename_i b b' X O
    cases ht:T t with
    |bool =>
      have h1:=hT t;rw[ht]at h1;simp only[ht]at h;cases op <;> simp only at h <;> first
        |cases h;done
        | (split at h
           · rename_i d M
             first
               |exact⟨_,h,λW a w z=>aO Z z M I (v:=.bool (b==b')) (by simp[execOp,H,iD z X,iD z O,eqGuard,Go.binOp,lQ h1.1]) rfl id rfl⟩
               |exact⟨_,h,λW a w z=>aO Z z M I (v:=.bool (b != b')) (by simp[execOp,H,iD z X,iD z O,eqGuard,Go.binOp,lQ h1.1,bne]) rfl id rfl⟩
           · cases h)
    |_=>simp[ht]at h
  · rename_i b b' X O
    cases op <;> simp only at h <;> first
      |cases h;done
      | (cases a0 : decide (b.size + b'.size <= 9223372036854775807) with
         |false=>rw[a0]at h;cases h
         |true =>
           rw[a0]at h;simp only[cond_true]at h;split at h
           · rename_i d M
             refine⟨_,h,λW a w z=>aO Z z M I (v:=.string (b++b')) ?_ rfl id rfl⟩;have:(b.size:Int)+b'.size<=9223372036854775807:=by have:=of_decide_eq_true a0;omega
             simp[execOp,H,iR z X,iR z O,eqGuard,Go.binOp,Op.stringOp,this]
           · cases h)
      | (split at h
         · rename_i d M
           first
             |exact⟨_,h,λW a w z=>aO Z z M I (v:=.bool (b.toList==b'.toList)) (by simp[execOp,H,iR z X,iR z O,eqGuard,Go.binOp,Op.stringOp]) rfl id rfl⟩
             |exact⟨_,h,λW a w z=>aO Z z M I (v:=.bool (b.toList != b'.toList)) (by simp[execOp,H,iR z X,iR z O,eqGuard,Go.binOp,Op.stringOp,bne]) rfl id rfl⟩
         · cases h)
  · cases ht:T t with
    |struct b ad =>
      have h1:=hT t;rw[ht]at h1;obtain⟨_,_,_,a4,a2⟩:=h1;simp only[ht]at h;cases hf:b.flat&&decide ((au st x).1=.agg)&&decide ((au st y).1=.agg) with
      |false=>simp[hf]at h
      |true =>
        simp only[hf,cond_true]at h;simp only[B6,decide_eq_true_eq]at hf;obtain⟨⟨hf,a7⟩,a3⟩:=hf;split at h
        · rename_i p u q v a5 a8
          have a1:∀ (W:Wit) (a:Act) (w:World),ap P V W st a w->(Op.equal t (a.eval x) (a.eval y)).run P w=.ok (b.eqv u v) w/\(∃ cx cy:Array Value,a.eval x=.agg cx/\a.eval y=.agg cy):=by
            intro W a w z;obtain⟨cx,G,X,a6⟩:=xj z a7 a5;obtain⟨cy,G',O,a9⟩:=xj z a3 a8;rw[X,O];exact⟨a4 hf w G u v cx cy a6 (Rd.flat hf a9),_,_,rfl,rfl⟩
          cases op <;> simp only at h <;> first
            |cases h;done
            | (split at h
               · rename_i d M
                 first
                   | (refine ⟨_, h, λW a w z => aO Z z M I (v := .bool (b.eqv u v)) ?_ rfl id rfl⟩
                      obtain⟨h2,cx,cy,X,O⟩:=a1 W a w z;rw[X,O]at h2;simp[execOp,H,X,O,eqGuard,Go.binOp,a2,h2];done)
                   | (refine ⟨_, h, λW a w z => aO Z z M I (v := .bool (!b.eqv u v)) ?_ rfl id rfl⟩
                      obtain⟨h2,cx,cy,X,O⟩:=a1 W a w z;rw[X,O]at h2;simp[execOp,H,X,O,eqGuard,Go.binOp,a2,h2])
               · cases h)
        · cases h
    |_=>simp[ht]at h
end
section
variable {P:Program} {V:Env} {Γ:List Ctr} {T:TypeId->TI} {st:St} {o:Oper} {R:Type} {κ:Upd->Option R} {r:R}
theorem fp (g off n:Nat):(⟨g,off,none⟩:Addr).add n=⟨g,off+n,none⟩:=by
 unfold Addr.add;split <;> simp_all
theorem dE {t:TypeId}{n:Nat}(h:bW P t n)(w:World):(sizeOf t).run P w=.ok n w:=by
 unfold bW at h;cases u:P.info? t with
 |none=>simp[u]at h
 |some i =>
  simp[u]at h;simp[sizeOf,typeInfo,u,h]
theorem gD {t:TypeId}{z:Value}(h:el P t z)(w:World):(zeroValue t).run P w=.ok z w:=by
 unfold el at h;cases u:P.info? t with
 |none=>simp[u]at h
 |some i =>
  simp[u]at h;simp[zeroValue,typeInfo,u,h]
theorem sr (hV:ay V)(hT:TOk P T)(M:bU V o){t:TypeId}{x:Operand}{f:Nat}(a0:o.op=.fieldAddr t x f)(h:act Γ T o st κ=some r):b8 P V o st κ r:=by
 simp only[act,wrU,a0]at h;cases ht:T t with
 |struct b a5 =>
  simp only[ht]at h;split at h
  ·rename_i off n agg hf;have h1:=hT t;rw[ht]at h1;obtain⟨⟨fs,hu,_,a2⟩,_⟩:=h1;obtain⟨_,fd,h2,h3,h4,h5,h6,_⟩:=a2 f off n agg hf;have I:∀ (a:Act) (w:World) (g O:Nat),a.eval x=.pointer (some ⟨g,O,none⟩)->(execOp a.eval o).run P w=.ok (.value (.pointer (some ⟨g,O+off,none⟩))) w:=by
    intro a w g O Z;have u:=dE h6 w;have h8:n≠0:=by omega
    simp[execOp,a0,Z,Instr.fieldAt,run_underlying hu,h2,Ch,fieldPlace,u,h8,fp]
   split at h
   ·rename_i p b' y O H;split at h
    ·rename_i d X;refine⟨_,h,λW a w z=>?_⟩;obtain⟨u,_,_,_⟩:=bA z x (by rw[H];simp);rw[H]at u;obtain⟨g,og,c,Z,hg,Y,hc⟩:=u;exact aO hV z X M (I a w g _ Z) ⟨g,og,c,by rw[Cb],hg,Y,hc⟩ id rfl
    ·grind
   ·rename_i b' O H;split at h
    ·rename_i d X;refine⟨_,h,λW a w z=>?_⟩;obtain⟨u,_,_,_⟩:=bA z x (by rw[H];simp);rw[H]at u;exact aO hV z X M (I a w _ _ u.2.2) ⟨u.1,u.2.1,rfl⟩ id rfl
    ·grind
   ·rename_i r' j v i sz O H;cases J:B3 (st r').ver v with
    |false=>simp[J]at h
    |true =>
     simp only[J]at h;split at h
     ·rename_i d X;refine⟨_,h,λW a w z=>?_⟩;obtain⟨u,_,_,_⟩:=bA z x (by rw[H];simp);rw[H]at u;obtain⟨g,a3,a1,hh,a4,Z⟩:=u.2 (B4 J);exact aO hV z X M (I a w g _ Z) ⟨u.1,λ_=>⟨g,a3,a1,hh,a4,by rw[Cb]⟩⟩ id rfl
     ·grind
   ·rename_i p ks ep b' y O H;cases J:bw st ks ep with
    |false=>simp[J]at h
    |true =>
     simp only[J]at h;split at h
     ·rename_i d X;refine⟨_,h,λW a w z=>?_⟩;obtain⟨u,_,_,_⟩:=bA z x (by rw[H];simp);rw[H]at u;have h8:NpOk V W w p ks b' y O _:=u.2.2 (cH J).1 (cH J).2.1 (cH J).2.2;obtain⟨g,og,c,Z,hg,Y,hc⟩:=h8.rd;exact aO hV z X M (I a w g _ Z) ⟨u.1,u.2.1,λ_ _ _=>⟨g,og,c,by rw[Cb],hg,Y,hc⟩⟩ id rfl
     ·grind
   ·grind
  ·grind
 |_=>simp[ht]at h
theorem su (hV:ay V)(hT:TOk P T)(Z:bU V o){t:TypeId}{x i:Operand}(a1:o.op=.indexAddr t x i)(h:act Γ T o st κ=some r):b8 P V o st κ r:=by
 simp only[act,wrU,a1]at h;split at h
 ·rename_i k n hi;cases ht:T t with
  |slice E e a7 =>
   simp only[ht]at h;have h1:=hT t;rw[ht]at h1;obtain⟨hu,_,_,b5,_,ti,z,ad,a8,_⟩:=h1;have hE:bW P E e.cells:=by simp[bW,ad,a8]
   have a5:∀ (W:Wit) (a:Act) (w:World) (g o' O I:Nat),ap P V W st a w->0<=n->n<O->a.eval x=.slice (some ⟨g,o',none⟩) O I ->
     (execOp a.eval o).run P w=.ok (.value (.pointer (some ⟨g,o'+n.toNat*e.cells,none⟩))) w:=by
    intro W a w g o' O I H h0 h1 M;have Y:=dE hE w;simp[execOp,a1,M,bI H hi,C4,asIntOf,run_underlying hu,h0,h1,Y,fp]
   split at h
   ·rename_i r' j v X;split at h
    ·rename_i p hh E' e' xs a9;cases u:B3 e'.cells e.cells with
     |false=>simp[u]at h
     |true =>
      simp only[u]at h;have u:=B4 u;obtain⟨y,hy,h⟩:=CC.1 h;obtain⟨Y,h3,h4⟩:=gC hy;split at h
      ·rename_i d hd;refine⟨_,h,λW a w H=>?_⟩;obtain⟨J,_,_,_⟩:=bA H x (by rw[X];simp);rw[X]at J;obtain⟨h8,h9,b3,b4⟩:=kG H a9 J;obtain⟨_,b1,ba,ho,b6,_⟩:=h9;rcases ho.2 with ⟨hn,h0⟩|⟨g,a0,b9,_,M,_,_,_⟩
       ·omega
       ·refine aO hV H hd Z (a5 W a w g 0 xs.length a0 H Y h3 M) ⟨by omega,λ_=>⟨g,xs.length,a0,by rw[h8,M],by omega,by simp[u]⟩⟩ id rfl
      ·grind
    ·grind
   ·rename_i p E' e' xs X;cases u:B3 e'.cells e.cells with
    |false=>simp[u]at h
    |true =>
     simp only[u]at h;have u:=B4 u;obtain⟨y,hy,h⟩:=CC.1 h;obtain⟨Y,h3,h4⟩:=gC hy;split at h
     ·rename_i d hd;refine⟨_,h,λW a w H=>?_⟩;obtain⟨J,_,_,_⟩:=bA H x (by rw[X];simp);rw[X]at J;obtain⟨A,I,M,a6,a2⟩:=J;have M:a.eval x=.slice A xs.length I:=by simpa using M
      obtain⟨g,o',rfl,hg,a3⟩:=a2 (by omega);obtain⟨c,hc,a4⟩:=a3 n.toNat y h4;refine aO hV H hd Z (a5 W a w g o' xs.length I H Y h3 M) ⟨g,o'+n.toNat*e'.cells,c,by rw[u];rfl,?_,hc,a4⟩ id rfl;rcases hg with hg|⟨_,hg⟩
      ·grind
      ·exact .inr (hV.ro g hg)
     ·grind
   ·rename_i p ks ep b2 E' e' xs X;cases u:B3 e'.cells e.cells&&bw st ks ep with
    |false=>simp[u]at h
    |true =>
     simp only[u]at h;simp only[B6]at u;obtain⟨u,b0⟩:=u;have u:=B4 u;obtain⟨y,hy,h⟩:=CC.1 h;obtain⟨Y,h3,h4⟩:=gC hy;split at h
     ·rename_i d hd;refine⟨_,h,λW a w H=>?_⟩;obtain⟨J,_,_,_⟩:=bA H x (by rw[X];simp);rw[X]at J;have h8:=pO b0 J;obtain⟨A,I,M,a6,a2⟩:=h8.rd;have M:a.eval x=.slice A xs.length I:=by simpa using M
      obtain⟨g,o',rfl,hg,a3⟩:=a2 (by omega);obtain⟨c,hc,a4⟩:=a3 n.toNat y h4;exact aO hV H hd Z (a5 W a w g o' xs.length I H Y h3 M) ⟨J.1,J.2.1,λ_ _ _=>⟨g,o'+n.toNat*e'.cells,c,by rw[u];rfl,hg,hc,a4⟩⟩ id rfl
     ·grind
   ·grind
  |arr e O =>
   simp only[ht]at h;have h1:=hT t;rw[ht]at h1;obtain⟨⟨E,hu,hE,_⟩,_⟩:=h1;split at h
   ·rename_i b off X;cases u:decide (0<=n)&&decide (n<(O:Int)) with
    |false=>simp[u]at h
    |true =>
     simp only[u]at h;simp at u;split at h
     ·rename_i d hd;refine⟨_,h,λW a w H=>?_⟩;obtain⟨J,_,_,_⟩:=bA H x (by rw[X];simp);rw[X]at J;refine aO hV H hd Z (v:=.pointer (some ⟨W.β b,off+n.toNat*e.cells,none⟩)) ?_ ⟨J.1,J.2.1,rfl⟩ id rfl;have Y:=dE hE w;simp[execOp,a1,J.2.2,bI H hi,C4,Ch,asIntOf,run_underlying hu,u.1,u.2,Y,fp]
     ·grind
   ·grind
  |_=>simp[ht]at h
 ·grind
theorem xm {t:TypeId}{i:TI}(u:o6 P t i)(J:i.cells≠0\/i≠.none)(w:World):(isAgg t).run P w=.ok i.agg w:=by
 cases i with
 |none=>simp[TI.cells]at J
 |struct a I =>
  obtain⟨⟨M,H,_⟩,_⟩:=u;simp[isAgg,run_underlying H,TI.agg]
 |arr e n=>obtain⟨⟨E,H,_⟩,_⟩:=u;simp[isAgg,run_underlying H,TI.agg]
 |ptr=>obtain⟨⟨e,H⟩,_⟩:=u;simp[isAgg,run_underlying H,TI.agg]
 |fn=>obtain⟨⟨x,y,z,H⟩,_⟩:=u;simp[isAgg,run_underlying H,TI.agg]
 |int k=>simp[isAgg,run_underlying u.1,TI.agg]
 |bool=>simp[isAgg,run_underlying u.1,TI.agg]
 |str=>simp[isAgg,run_underlying u.1,TI.agg]
 |slice E e b=>simp[isAgg,run_underlying u.1,TI.agg]
theorem o8 {t:TypeId}{i:TI}(u:o6 P t i)(z:i≠.none):bW P t i.cells:=by
 cases i with
 |none=>exact absurd rfl z
 |struct a y=>exact u.2.1
 |arr e n=>exact u.2.2.1
 |ptr=>exact u.2.1
 |fn=>exact u.2.1
 |int k=>exact u.2.1
 |bool=>exact u.2.1
 |str=>exact u.2.1
 |slice E e b=>exact u.2.1
theorem mY {W:Wit}{a:Act}{w:World}(z:ap P V W st a w){e:Ty}:∀ (n:Nat) (ls:List Leaf) (cs:List Value) (xs:List e.den),aD P V W st w ls cs->fT st e n ls=some xs ->
  xs.length=n/\∀ (i:Nat) (x:e.den),xs[i]?=some x->∃ G,Rd w G e x ((cs.drop (i*e.cells)).take e.cells)
 |0,ls,cs,xs,_,h=>by
  simp only[fT]at h
  simp_all
 |n+1,ls,cs,xs,H,h=>by
  simp only[fT]at h;split at h
  ·rename_i p x Y J I;simp at h;subst h;obtain⟨M,X⟩:=mY z n _ _ _ (H.drop e.cells) I;refine⟨by simp[M],λi y u=>?_⟩;cases i with
   |zero =>
    simp at u;subst u;exact⟨_,by simpa using eO z (H.take e.cells) J⟩
   |succ i =>
    obtain⟨G,O⟩:=X i y (by simpa using u);rw[Cz]at O
    grind
  ·cases h
theorem xn (hV:ay V)(hT:TOk P T)(X:bU V o){t:TypeId}{x i:Operand}(M:o.op=.index t x i)(h:act Γ T o st κ=some r):b8 P V o st κ r:=by
 simp only[act,wrU,M]at h;split at h
 ·rename_i k n hi;cases hs:T t with
  |str =>
   simp only[hs]at h;split at h
   ·rename_i s hx;obtain⟨y,hy,h⟩:=CC.1 h;split at h
    ·rename_i d hd;refine⟨_,h,λW a w I=>aO hV I hd X (v:=.int .u8 (y.toNat:Int)) ?_ rfl id rfl⟩;have h1:=hT t;rw[hs]at h1;obtain⟨h2,h3,h4⟩:=gC hy;have h5:s[n.toNat]?=some y:=by
      have h6:=(B5.1 h4);obtain⟨h7,h8⟩:=h6;have h9:n.toNat<s.size:=by rw[Array.length_toList]at h7;exact h7
      rw[getElem?_pos s n.toNat h9];congr 1
     simp[execOp,M,bI I hi,iR I hx,Cx,asIntOf,run_underlying h1.1,h2,h5]
    ·grind
   ·grind
  |arr e Y =>
   simp only[hs]at h;have h1:=hT t;rw[hs]at h1;obtain⟨⟨E,hu,hE,Z⟩,a4,_⟩:=h1;cases hb:e.flat&&decide ((au st x).1=.agg)&&B3 (au st x).2.length (Y*e.cells)&&!B3 e.cells 0 with
   |false=>simp[hb]at h
   |true =>
    simp only[hb]at h;simp only[B6,decide_eq_true_eq]at hb;obtain⟨⟨⟨hf,a2⟩,a3⟩,_⟩:=hb;split at h
    ·rename_i vs hg;obtain⟨y,hy,h⟩:=CC.1 h;split at h
     ·rename_i d hd;refine⟨_,h,λW a w I=>?_⟩;obtain⟨cs,H,hl⟩:=c8 I x;rw[a2]at H;have H:a.eval x=.agg cs.toArray:=H;obtain⟨h2,h3,h4⟩:=gC hy;obtain⟨h5,h6⟩:=mY I Y _ _ _ hl hg;obtain⟨G,h7⟩:=h6 n.toNat y h4;have h8:Rd w (λ_=>False) e y ((cs.drop (n.toNat*e.cells)).take e.cells):=Rd.flat hf h7;have h9:=h8.len;have J:(isAgg E).run P w=.ok e.isAgg w:=by
       cases O:P.underlying E with
       |none=>simp[O]at Z
       |some u =>
        simp only[O,Cy,CA]at Z;rw[<- Z];cases u <;> simp[isAgg,run_underlying O]
      have a1:=dE hE w;have hn:n<(Y:Int):=by omega
      cases z:e.isAgg with
      |true =>
       have:=ei hV I hd X (v:=.agg ((cs.drop (n.toNat*e.cells)).take e.cells).toArray) (sh:=.agg) (ls:=cR false e y) ?_ rfl (fm (λ_ h=>h.elim) h8)
       ·exact this
       ·rw[z]at J;simp[execOp,M,bI I hi,H,Cx,asIntOf,run_underlying hu,h2,hn,part,J,a1]
      |false =>
       have a0:e.cells=1:=by cases e <;> first|rfl|simp[Ty.isAgg]at z
       rw[a0]at h8 h9
       match hc:(cs.drop (n.toNat*1)).take 1,h9 with
       |[v],_ =>
        rw[hc]at h8;have:=ei hV I hd X (v:=v) (sh:=.one) (ls:=cR false e y) (cs:=[v]) ?_ rfl (fm (λ_ h=>h.elim) h8)
        ·exact this
        ·rw[z]at J;have hv:cs[n.toNat]?=some v:=by
          have:((cs.drop (n.toNat*1)).take 1)[0]?=some v:=by rw[hc];rfl
          grind
         simp[execOp,M,bI I hi,H,Cx,asIntOf,run_underlying hu,h2,hn,part,J,a1,a0,hv]
     ·grind
    ·grind
  |_=>simp[hs]at h
 ·grind
theorem oC {t:TypeId}{i:TI}(O:o6 P t i)(I:i≠.none){w:World}{g off:Nat}{cs:List Value}(M:de w g off cs)(y:cs.length=i.cells) :
  ∃ v,(loadVar t ⟨g,off,none⟩).run P w=.ok v w/\ey (bm i.agg) v cs:=by
 have z:=xm O (.inr I) w;cases H:i.agg with
 |true =>
  refine⟨.agg cs.toArray,?_,rfl⟩;have X:=dE (o8 O I) w;have J:=run_loadCells_list (P:=P) w ⟨g,off,none⟩ cs (λj v Y=>by rw[fp];exact M j v Y);rw[y]at J;simp[loadVar,z,H,X,J]
 |false =>
  have u:i.cells=1:=by cases i <;> simp_all [TI.agg,TI.cells]
  rw[u]at y
  match cs,y with
  |[v],_ =>
   have:=M 0 v rfl;rw[Nat.add_zero]at this;exact⟨v,by simp[loadVar,z,H,this],rfl⟩
theorem de.sub {w:World}{g off:Nat}{cs:List Value}(h:de w g off cs)(k n:Nat):de w g (off+k) ((cs.drop k).take n):=by
 intro i v u;rw[CI]at u;split at u
 ·rw[CW]at u;have:=h (k+i) v u
  grind
 ·cases u
theorem Mx.deep {w:World}{G G':Nat->Prop}:∀ {a:Ty} {h:Option Nat} {pos:Nat} {x:a.den} {cs:List Value} {bs:List Nat},a.shy=false->Mx w G a h pos x cs bs->Mx w G' a h pos x cs bs
 |.int _,_,_,_,_,_,_,h=>h
 |.bool,_,_,_,_,_,_,h=>h
 |.str,_,_,_,_,_,_,h=>h
 |.unit,_,_,_,_,_,_,h=>h
 |.hdr,_,_,_,_,_,_,h=>h
 |.pair _ _,_,_,_,_,_,u,⟨Y,X,Z,b2,z,e2,I,J⟩=>by
  simp only[Ty.shy,Ci]at u;exact⟨Y,X,Z,b2,z,e2,Mx.deep u.1 I,Mx.deep u.2 J⟩
 |.list m E e,h,pos,xs,cs,bs,u,H=>by
  simp only[Ty.shy,Ci,Bool.not_eq_false']at u;obtain⟨rfl,u⟩:=u;by_cases O:h=some pos
  ·subst O;rw[jq]at H ⊢;exact H
  ·rw[bP O]at H ⊢;obtain⟨v,z,y,M,I,J,h3⟩:=H;refine⟨v,z,y,M,I,J,λj x hj=>?_⟩;obtain⟨c,h4,h5⟩:=h3 j x hj;exact⟨c,Mx.deep u h4,h5⟩
theorem OwB.shy {W:Wit}{w:World}{p:Bool}{h:Option (Nat×Nat)}{E:TypeId}{e:Ty}{xs:List e.den}{v:Value}{bs:List Nat}(H:OwB w (gd V W p) h E e xs v bs):OwB w (gd V W (p&&e.shy)) h E e xs v bs:=by
 cases O:e.shy with
 |true=>simpa using H
 |false =>
  obtain⟨u,y,z,I,J⟩:=H;refine⟨u,y,z,I,λj x X=>?_⟩;obtain⟨c,Y,M⟩:=J j x X;exact⟨c,Mx.deep O Y,M⟩
theorem jr (p:Bool)(r j v ep i u:Nat)(h:Option Nat):∀ (a:Ty) (off:Nat) (x:a.den),(gV p r j v ep i u h a off x).length=a.cells
 |.int _,_,_=>rfl
 |.bool,_,_=>rfl
 |.str,_,_=>rfl
 |.unit,_,_=>rfl
 |.hdr,_,_=>rfl
 |.pair a b,off,x=>by simp[gV,Ty.cells,jr p r j v ep i u h a,jr p r j v ep i u h b]
 |.list _ _ _,_,_=>rfl
theorem ml {W:Wit}{w:World}{p:Bool}{r j g len y i sz:Nat}(M:(W.cs r)[j]?=some (.slice (some ⟨g,0,none⟩) len y))(O:i<len)(hg:g∈W.bs r j){hol:Option Nat} :
  ∀ {a:Ty} {pos:Nat} {x:a.den} {cs:List Value} {bs:List Nat},(∀ k∈bs,k∈W.bs r j)->Mx w (gd V W p) a hol pos x cs bs->de w g (i*sz+pos) cs->aD P V W st w (gV p r j (st r).ver (st EPO).ver i sz hol a pos x) cs
 |.int _,_,_,_,_,_,h,_=>by rw[h.1];exact⟨⟨rfl,id,rfl⟩,trivial⟩
 |.bool,_,_,_,_,_,h,_=>by rw[h.1];exact⟨⟨rfl,id,rfl⟩,trivial⟩
 |.str,_,_,_,_,_,h,_=>by rw[h.1];exact⟨⟨rfl,id,rfl⟩,trivial⟩
 |.unit,_,_,_,_,_,h,_=>by rw[h.1];trivial
 |.hdr,_,_,_,_,_,⟨⟨A,y,e⟩,_⟩,_=>by rw[e];exact⟨⟨⟨A,y,rfl⟩,id,rfl⟩,trivial⟩
 |.pair a b,pos,x,cs,bs,J,⟨c1,c2,b1,b2,e1,e2,Z,Y⟩,X=>by
  subst e1;have hl:=Z.len;refine aD.append (ml M O hg (λk z=>J k (by rw[e2];exact B9 _ z)) Z λq u hu=>X q u ?_)
   (ml M O hg (λk z=>J k (by rw[e2];exact B8 _ z)) Y λq u hu=>?_)
  ·grind
  ·have:=X (a.cells+q) u (by rw[<- hl,CM (by omega)];simpa using hu)
   grind
 |.list m E e,pos,xs,cs,bs,J,H,X=>by
  have I:=H.one;simp only[gV];by_cases hp:hol=some pos
  ·have e0:decide (hol=some pos)=true:=decide_eq_true hp;rw[e0];obtain⟨v,rfl,_⟩:=H;exact⟨⟨trivial,id,I v (by simp)⟩,trivial⟩
  ·have e0:decide (hol=some pos)=false:=decide_eq_false hp;rw[e0];cases m with
   |false =>
    rw[cB]at H;obtain⟨A,y,rfl,Y,h3⟩:=H.2;exact⟨⟨⟨A,y,rfl,Y,h3⟩,id,rfl⟩,trivial⟩
   |true =>
    rw[bP hp]at H;obtain⟨v,rfl,hO⟩:=H;have Z:=X 0 v rfl;refine⟨⟨⟨CB _,λk z=>?_,λ_ _ _=>⟨?_,λi' a3 a1 he=>?_⟩⟩,id,I v (by simp)⟩,trivial⟩
    ·grind
    ·obtain⟨a0,a2,h4,h5,h6⟩:=OwB.shy hO;refine sX h4 (λk z=>.inr ⟨_,CQ _,J k (by rw[h5];exact B9 _ z)⟩) λq x hq=>?_
     obtain⟨c,h7,h8⟩:=h6 q x hq;exact⟨c,h7.rd (λk z=>.inl z) (λk z=>.inr ⟨_,CQ _,J k (by rw[h5];exact B8 _ (ee.2 ⟨q,(B5.1 hq).1,z⟩))⟩),h8⟩
    ·grind
theorem km {W:Wit}{w:World}{p:Bool}{ks:List (Nat×Nat×Nat)}{ep:Nat}(u:ep<=(st EPO).ver)(z:∀ k∈ks,k.2.2<=(st k.1).ver) :
  ∀ {a:Ty} {x:a.den} {cs:List Value},Rd w (λb=>gd V W p b\/∃ k∈ks,b∈W.bs k.1 k.2.1) a x cs->aD P V W st w (lJ p ks ep a x) cs
 |.int _,_,_,h=>by rw[show _=_ from h];exact⟨⟨rfl,id,rfl⟩,trivial⟩
 |.bool,_,_,h=>by rw[show _=_ from h];exact⟨⟨rfl,id,rfl⟩,trivial⟩
 |.str,_,_,h=>by rw[show _=_ from h];exact⟨⟨rfl,id,rfl⟩,trivial⟩
 |.unit,_,_,h=>by rw[show _=_ from h];trivial
 |.hdr,_,_,⟨A,y,e⟩=>by rw[e];exact⟨⟨⟨A,y,rfl⟩,id,rfl⟩,trivial⟩
 |.pair _ _,_,_,⟨Y,O,e,I,H⟩=>by rw[e];exact (km u z I).append (km u z H)
 |.list m E e,X,_,h=>by
  obtain⟨A,y,rfl,H,J⟩:=h;exact⟨⟨⟨u,z,λ_ _ _=>⟨⟨A,y,rfl,H,J⟩,λi Z off M=>by cases M⟩⟩,id,rfl⟩,trivial⟩
theorem Aj {W:Wit}{a:Act}{w:World}(hr:ap P V W st a w){r j n g len I i:Nat}{p:Bool}{hh:Option (Nat×Nat)}{E:TypeId}{e:Ty}{xs:List e.den}{y:e.den}(h8:(st r).ver=n)(h9:(st r).ls[j]?=some (.own p hh E e xs))
  (H:(W.cs r)[j]?=some (.slice (some ⟨g,0,none⟩) len I)) (O:i<len) (hy:xs[i]?=some y) :
  ∃ c,de w g (i*e.cells) c/\aD P V W st w (gV p r j n (st EPO).ver i e.cells (cZ hh i) e 0 y) c:=by
 subst h8;obtain⟨_,a1,a2,Z,J,M⟩:=hr.leaf r j _ _ h9 H;obtain⟨c,X,h2⟩:=M i y hy;have Y:=X.len;have hi:i<xs.length:=(B5.1 hy).1;have z:len=xs.length:=by
  obtain⟨A,a0,e0,_⟩:=Z.slice
  simp_all
 subst z;have hc:de w g (i*e.cells) c:=by
  intro q u hu;have hq:=(B5.1 hu).1;rw[Z.cellAt _ (by
   have:i*e.cells+e.cells<=xs.length*e.cells:=by
    have:=Nat.mul_le_mul_right e.cells (show i+1<=xs.length from hi)
    grind
   omega)]
  grind
 refine⟨c,hc,ml H O (by rw[J];simp[CR]) (λk hk=>?_) X hc⟩
 grind
theorem yS (hV:ay V)(hT:TOk P T)(a4:bU V o){t:TypeId}{x:Operand}(a3:o.op=.load t x)(h:act Γ T o st κ=some r):b8 P V o st κ r:=by
 simp only[act,wrU,a3,md]at h;have a7:=hT t;have X:∀ (W:Wit) (a:Act) (w:World) (g off:Nat) (cs:List Value) (ls:List Leaf) (d:Nat),ap P V W st a w->o.dst=some d->T t≠.none->a.eval x=.pointer (some ⟨g,off,none⟩)->de w g off cs ->
   cs.length=(T t).cells->aD P V W st w ls cs->mW P V o st (cn st [] d (bm (T t).agg) ls) a w:=by
  intro W a w g off cs ls d z Z hn O hc hl a0;obtain⟨v,h1,h2⟩:=oC a7 hn hc hl;exact ei hV z Z a4 (v:=v) (by simp[execOp,a3,O,Instr.loadAt,Ch,h1]) h2 a0
 cases M:decide ((T t).cells=0) with
 |true=>simp[M]at h
 |false =>
  simp only[M]at h;have M:(T t).cells≠0:=of_decide_eq_false M;have Y:T t≠.none:=by intro e;rw[e]at M;exact M rfl
  split at h
  ·rename_i p b y off J;cases u:decide (off+(T t).cells<=b.cells) with
   |false=>simp[u]at h
   |true =>
    simp only[u]at h;split at h
    ·rename_i d Z;refine⟨_,h,λW a w z=>?_⟩;obtain⟨H,_,_,_⟩:=bA z x (by rw[J];simp);rw[J]at H;obtain⟨g,og,c,O,hg,I,hc⟩:=H;refine X W a w g _ ((c.drop off).take (T t).cells) _ d z Z Y O (hc.sub off _) ?_ (((fm (λ_ h=>h) I).drop off).take _);have:=I.len
     grind
    ·grind
  ·rename_i b off J;cases u:decide ((st b).sh=.agg)&&decide (off+(T t).cells<=(st b).ls.length) with
   |false=>simp[u]at h
   |true =>
    simp only[u]at h;split at h
    ·rename_i d Z;refine⟨_,h,λW a w z=>?_⟩;obtain⟨H,_,_,_⟩:=bA z x (by rw[J];simp);rw[J]at H;obtain⟨hB,b1,O⟩:=H;rcases z.boxes b hB with ⟨h8,_⟩|⟨_,E,h8⟩
     ·grind
     ·have hc:de w (W.β b) 0 (W.cs b):=λi v O=>by
       rw[Cq,cell_of_row w (W.β b) i _ E (0,0) h8]
       simp_all
      have ad:=z.len b;have a2:=hc.sub off (T t).cells;rw[Cq]at a2;refine X W a w (W.β b) off _ _ d z Z Y O a2 ?_ (((iQ z b).drop off).take _)
      grind
    ·grind
  ·rename_i p b y J;cases u:B3 (T t).cells 1&&!(T t).agg with
   |false=>simp[u]at h
   |true =>
    simp only[u]at h;simp only[B6,CZ]at u;split at h
    ·rename_i d Z;refine⟨_,h,λW a w z=>?_⟩;obtain⟨H,_,_,_⟩:=bA z x (by rw[J];simp);rw[J]at H;obtain⟨q,oq,g,og,c,O,_,a1,hg,I,hc⟩:=H;have:=X W a w q oq [.pointer (some ⟨g,og,none⟩)] [.rp p b y 0] d z Z Y O (λi v hi=>by
      cases i with
      |zero=>simp at hi;subst hi;exact a1
      |succ i=>simp at hi) (by simp[B4 u.1]) ⟨⟨⟨g,og,c,rfl,hg,I,hc⟩,id,rfl⟩,trivial⟩
     rw[u.2]at this;exact this
    ·grind
  ·rename_i p ks ep b y off J;cases u:bw st ks ep&&decide (off+(T t).cells<=b.cells) with
   |false=>simp[u]at h
   |true =>
    simp only[u]at h;simp at u;split at h
    ·rename_i d Z;refine⟨_,h,λW a w z=>?_⟩;obtain⟨H,_,_,_⟩:=bA z x (by rw[J];simp);rw[J]at H;have h8:NpOk V W w p ks b y off _:=H.2.2 (cH u.1).1 (cH u.1).2.1 (cH u.1).2.2;obtain⟨g,og,c,O,hg,I,hc⟩:=h8.rd;refine X W a w g _ ((c.drop off).take (T t).cells) _ d z Z Y O (hc.sub off _) ?_ (((km H.1 H.2.1 I).drop off).take _);have:=I.len
     grind
    ·grind
  ·rename_i r' j v i sz off J;split at h
   ·rename_i p hh E e xs a5;cases u:B3 sz e.cells&&decide (off+(T t).cells<=e.cells) with
    |false=>simp[u]at h
    |true =>
     simp only[u]at h;simp only[B6]at u;have a9:=B4 u.1;subst a9;obtain⟨y,hy,h⟩:=CC.1 h;obtain⟨_,_,h4⟩:=gC hy;split at h
     ·rename_i d Z;refine⟨_,h,λW a w z=>?_⟩;obtain⟨H,_,_,_⟩:=bA z x (by rw[J];simp);rw[J]at H;obtain⟨h8,h9⟩:=fC a5 (by simp);obtain⟨g,b2,b0,a6,a8,O⟩:=H.2 h8;obtain⟨c,hc,a0⟩:=Aj z h8 h9 a6 a8 h4;refine X W a w g _ _ _ d z Z Y O (hc.sub off _) ?_ ((a0.drop off).take _);have:=a0.length;rw[jr]at this
      grind
     ·grind
   ·grind
  ·grind
end
section
variable {P:Program} {V:Env} {Γ:List Ctr} {T:TypeId->TI} {st:St} {o:Oper} {R:Type} {κ:Upd->Option R} {r:R}
theorem xo (hV:ay V)(hT:TOk P T)(X:bU V o){t:TypeId}{x:Operand}{f:Nat}(J:o.op=.field t x f)(h:act Γ T o st κ=some r):b8 P V o st κ r:=by
 simp only[act,wrU,J]at h;cases ht:T t with
 |struct b a2 =>
  simp only[ht]at h;split at h
  ·rename_i off n agg hf;have h1:=hT t;rw[ht]at h1;obtain⟨⟨fs,hu,_,a0⟩,_⟩:=h1;obtain⟨I,Y,h2,h3,h4,h5,h6,Z⟩:=a0 f off n agg hf;cases M:decide ((au st x).1=.agg)&&decide ((au st x).2.length=b.cells) with
   |false=>simp[M]at h
   |true =>
    simp only[M,cond_true]at h;simp only[B6,decide_eq_true_eq]at M;split at h
    ·rename_i d hd;refine⟨_,h,λW a w hr=>?_⟩;obtain⟨u,hs,hl⟩:=c8 hr x;rw[M.1]at hs;have O:=hl.length;rw[M.2]at O;have y:(isAgg Y.type).run P w=.ok agg w:=by
      unfold isAgg;cases H:P.underlying Y.type with
      |none=>simp[H]at Z
      |some dd =>
       rw[H]at Z;simp only[Cy,CA]at Z;subst Z;rw[CJ,run_underlying H w];cases dd <;> rfl
     have a1:=dE h6 w;cases agg with
     |true =>
      refine ei hV hr hd X (v:=.agg ((u.drop off).take n).toArray) ?_ rfl ((hl.drop off).take n);have e:u.toArray.extract off (off+n)=((u.drop off).take n).toArray:=by
       rw[List.extract_toArray,List.extract_eq_take_drop,Nat.add_sub_cancel_left]
      have hp:(part Y.type u.toArray off).run P w=.ok (.agg ((u.drop off).take n).toArray) w:=by
       simp only[part,CJ,y,CF,if_true,a1,CN,e]
      simp only[execOp,J,show a.eval x=_ from hs,C8,CJ,run_underlying hu,CF,h2,asAgg,CN,h3,hp]
     |false =>
      have I:=I rfl;subst I;have z:off<u.length:=by omega
      have hv:((u.drop off).take 1)=[u[off]]:=by
       rw[List.take_one,List.head?_drop,B7 z];rfl
      refine ei hV hr hd X (v:=u[off]) ?_ (show ey .one _ ((u.drop off).take 1) from hv) ((hl.drop off).take 1);have e:u.toArray[off]?=some u[off]:=by simp[z]
      have hp:(part Y.type u.toArray off).run P w=.ok u[off] w:=by
       simp only[part,CJ,y,CF,Bool.false_eq_true,if_false,e,CN]
      simp only[execOp,J,show a.eval x=_ from hs,C8,CJ,run_underlying hu,CF,h2,asAgg,CN,h3,hp]
    ·cases h
  ·cases h
 |_=>simp[ht]at h
theorem Bh {α:Type}(u y:List α)(off:Nat)(h:off+y.length<=u.length):(u.take off++y++u.drop (off+y.length)).length=u.length:=by
 simp;omega
theorem lq (cs c:List Value)(off:Nat)(h:off+c.length<=cs.length) :
  (c.zipIdx 0).foldl (λcs (x:Value×Nat)=>cs.setIfInBounds (off+x.2) x.1) cs.toArray=(cs.take off++c++cs.drop (off+c.length)).toArray:=by
 obtain⟨H,z⟩:=Great.foldl_set off c 0 cs.toArray;apply Array.ext_getElem?;intro k;rw[z k];simp only[Nat.add_zero,List.size_toArray,List.getElem?_toArray];by_cases y:off<=k/\k<off+c.length/\k<cs.length
 ·rw[if_pos y,CS,CM (by simp;omega),CX (by simp;omega)];congr 1;simp;omega
 ·rw[if_neg y];by_cases u:k<off
  ·rw[CS,CX (by simp;omega),CI,if_pos u]
  ·rw[CM (by simp;omega),CW];congr 1;simp;omega
theorem il {agg:Bool}{v:Value}{cs:List Value}(h:ey (bm agg) v cs)(y:∀ u∈cs,u.oneCell'=true):v.cells=cs.toArray:=by
 cases agg with
 |true=>rw[show v=_ from h];rfl
 |false =>
  have h:cs=[v]:=h;subst h;have:=y v (Cp.2 rfl);cases v <;> first|rfl|simp[CD]at this
theorem mm {W:Wit}{a:Act}{w:World}(hr:ap P V W st a w){z:List (Nat×Nat×Bool)}{pl:Nat->Option (Nat×Nat)}(O:∀ (i off n:Nat) (agg:Bool),z[i]?=some (off,n,agg)->pl i=some (off,n)):∀ (ps:List (Nat×Operand)) (ls u:List Leaf) (cs:List Value),
  aD P V W st w ls cs->fN st z ps ls=some u ->
  ∃ y,aD P V W st w u y/\Instr.fill pl cs.toArray (ps.map λx=>(x.1,a.eval x.2))=some y.toArray
 |[],ls,u,cs,M,h=>by
  simp[fN]at h;subst h;exact⟨cs,M,rfl⟩
 |(i,x)::ps,ls,u,cs,M,h=>by
  simp only[fN]at h;split at h
  ·rename_i off n agg hf;cases X:B3 (au st x).2.length n&&decide ((au st x).1=bm agg)&&decide (off+n<=ls.length) with
   |false=>simp[X]at h
   |true =>
    simp only[X,cond_true]at h;simp only[B6,decide_eq_true_eq]at X;obtain⟨⟨J,Z⟩,a2⟩:=X;have J:=B4 J;obtain⟨c,hs,H⟩:=c8 hr x;rw[Z]at hs;have hc:=il hs H.one';have a1:=M.length;have I:=H.length;have Y:aD P V W st w (jP ls (au st x).2 off) (cs.take off++c++cs.drop (off+c.length)):=by
     unfold jP;rw[I];exact ((M.take off).append H).append (M.drop _)
    obtain⟨y,h1,h2⟩:=mm hr O ps _ u _ Y h;refine⟨y,h1,?_⟩;simp only[C3,Instr.fill];have a0:pl i=some (off,n):=O _ _ _ _ hf;have a3:c.toArray.size=n:=by simp;omega
    simp only[a0,hc];rw[if_neg (by simp;omega)];have e:c.toArray.zipIdx.foldl (λcs (x:Value×Nat)=>cs.setIfInBounds (off+x.2) x.1) cs.toArray=(c.zipIdx 0).foldl (λcs (x:Value×Nat)=>cs.setIfInBounds (off+x.2) x.1) cs.toArray:=by
     rw[<- Array.foldl_toList];simp
    have e2:=lq cs c off (by omega);rw[<- e2,<- e]at h2;exact h2
  ·cases h
theorem lR {W:Wit}{w:World}:∀ (b:Ty),aD P V W st w (fh b) (zeroCells b)
 |.int _=>⟨⟨rfl,id,rfl⟩,trivial⟩
 |.bool=>⟨⟨rfl,id,rfl⟩,trivial⟩
 |.str=>⟨⟨rfl,id,rfl⟩,trivial⟩
 |.unit=>trivial
 |.pair a b=>(lR a).append (lR b)
 |.hdr=>⟨⟨rfl,id,rfl⟩,trivial⟩
 |.list _ _ _=>⟨⟨rfl,id,rfl⟩,trivial⟩
theorem o9 {W:Wit}{w:World}(e:Ty):∀ (n:Nat),aD P V W st w (CK n (fh e)).flatten (CK n (zeroCells e)).flatten
 |0=>trivial
 |n+1=>by
  rw[Cl,Cl,Cs,Cs];exact (lR e).append (o9 e n)
theorem xp (hV:ay V)(hT:TOk P T)(a0:bU V o){t:TypeId}{u:Array (Nat×Operand)}(J:o.op=.build t u)(h:act Γ T o st κ=some r):b8 P V o st κ r:=by
 simp only[act,wrU,J]at h;cases ht:T t with
 |struct b Z =>
  simp only[ht]at h;split at h
  ·rename_i ls M;split at h
   ·rename_i d hd;refine⟨_,h,λW a w X=>?_⟩;have Y:=hT t;rw[ht]at Y;obtain⟨⟨fs,hu,a1,_⟩,_,H,_⟩:=Y;obtain⟨z,h2,h3⟩:=mm X (pl:=((Z.map λx=>(x.1,x.2.1)).toArray[·]?)) (λi off n agg I=>by simp[I]) u.toList _ ls _ (lR b) M;refine ei hV X hd a0 (v:=.agg z.toArray) ?_ rfl h2;have y:P.built t (u.map λ (i,x)=>(i,a.eval x)).toList=some z.toArray:=by
     unfold el at H;unfold C5;cases hi:P.info? t with
     |none=>simp[hi]at H
     |some ti =>
      simp[hi]at H;simp only[hu,H,a1];rw[Ce];exact h3
    simp[execOp,J,run_build w t _ _ y]
   ·cases h
  ·cases h
 |arr e n =>
  simp only[ht]at h;split at h
  ·rename_i ls M;split at h
   ·rename_i d hd;refine⟨_,h,λW a w X=>?_⟩;have Y:=hT t;rw[ht]at Y;obtain⟨⟨E,hu,hE,_⟩,_,_,H⟩:=Y;obtain⟨z,h2,h3⟩:=mm X (pl:=λi=>some (i*e.cells,e.cells)) (λi off n agg I=>by
     rw[Cr]at I;obtain⟨j,hj,I⟩:=CH.1 I;rw[List.getElem?_range (by simpa using (B5.1 hj).1)]at hj;simp only[CA]at hj;subst hj;simp only[C0]at I;simp[<- I.1,<- I.2.1]) u.toList _ ls _ (o9 e n) M
    refine ei hV X hd a0 (v:=.agg z.toArray) ?_ rfl h2;have y:P.built t (u.map λ (i,x)=>(i,a.eval x)).toList=some z.toArray:=by
     unfold el at H;unfold bW at hE;unfold C5;cases hi:P.info? t with
     |none=>simp[hi]at H
     |some ti =>
      simp[hi]at H;cases O:P.info? E with
      |none=>simp[O]at hE
      |some ie =>
       simp[O]at hE;simp only[hu,H,O,hE];rw[Ce];exact h3
    simp[execOp,J,run_build w t _ _ y]
   ·cases h
  ·cases h
 |_=>simp[ht]at h
theorem mZ {W:Wit}{a:Act}{w:World}(z:ap P V W st a w){x:Option Operand}{u n:Int}(h:du st x u=some n) :
  (x=none/\n=u)\/∃ y k,x=some y/\a.eval y=.int k n:=by
 unfold du at h;split at h
 ·simp at h;exact .inl ⟨rfl,h.symm⟩
 ·split at h
  ·rename_i l k m H;simp at h;subst h;exact .inr ⟨_,k,rfl,bI z H⟩
  ·cases h
theorem kn (u:Bool)(len y:Nat)(Y:len<=y)(H O:Option Value)(i h:Int)(I:0<=i)(X:i<=h)(hh:h<=len)(J:(H=none/\i=0)\/∃ k,H=some (.int k i))
  (M:(O=none/\h=len)\/∃ k,O=some (.int k h)) (w:World):(Ct u len y H O none).run P w=.ok (i.toNat,h.toNat,y) w:=by
 have Z:0<=h:=by omega
 have hc:h<=(y:Int):=by omega
 have z:i<=((h.toNat:Nat):Int):=by omega
 rcases J with ⟨rfl,rfl⟩|⟨k,rfl⟩ <;> rcases M with ⟨rfl,rfl⟩|⟨k',rfl⟩ <;>
  simp[Ct,Instr.sliceBound,asIntOf,I,Z,hc,z,X,-Int.ofNat_toNat]
theorem jI (M:ay V){W:Wit}{a:Act}{w:World}(I:ap P V W st a w){x:Operand}{l:Leaf}(y:aE st (one st x)=l)(X:l≠.dead)(H:¬ ao l):aK P V W st w [] l (a.eval x):=by
 have z:one st x≠.dead:=by intro e;rw[e]at y;exact X y.symm
 obtain⟨J,O,_⟩:=bA I x z;rcases mj M I J O with ⟨_,_,_,_,u,_⟩|⟨_,u⟩
 ·rw[y]at u;exact absurd u H
 ·rw[y]at u;exact u
theorem xq (O:ay V){W:Wit}{a:Act}{w:World}(M:ap P V W st a w){x:Operand}{p:Bool}{ks:List (Nat×Nat×Nat)}{ep:Nat}{y:Option (Nat×Nat×Nat)}{E:TypeId}{e:Ty}{xs:List e.den}
  (u:aE st (one st x)=.nal p ks ep y E e xs):aK P V W st w [] (.nal p ks ep y E e xs) (a.eval x)/\bw st ks ep=true:=by
 refine⟨jI O M u (by simp) (by simp[ao]),?_⟩;generalize one st x=l at u;cases l with
 |nal p' I z J Y Z X =>
  simp only[aE]at u;cases H:bw st I z with
  |false=>simp[H]at u
  |true =>
   simp only[H,cond_true]at u;cases u;exact H
 |al r j n=>exact absurd u jf
 |_=>simp[aE]at u
theorem uB (O:ay V){W:Wit}{a:Act}{w:World}(z:ap P V W st a w){x:Operand}{p:Bool}{I:Option (Nat×Nat)}{E:TypeId}{e:Ty}{xs:List e.den}(u:aE st (one st x)=.own p I E e xs) :
  ∃ r i n,one st x=.al r i n/\(st r).ls[i]?=some (.own p I E e xs)/\OwH w (gd V W p) I E e xs (a.eval x) (W.bs r i)/\(W.cs r)[i]?=some (a.eval x)/\(st r).ver=n:=by
 have J:one st x≠.dead:=by intro e;rw[e]at u;cases u
 obtain⟨H,X,_⟩:=bA z x J;rcases mj O z H X with ⟨r,i,n,M,_,_,_⟩|⟨y,_⟩
 ·rw[M]at u H;obtain⟨y,Z,Y,h6⟩:=kG z u H;exact⟨r,i,n,M,Y,Z,y,h6⟩
 ·rw[u]at y;exact absurd trivial y
theorem goes_frz (H:ay V){W:Wit}{a:Act}{w:World}(h:ap P V W st a w){d:Nat}(z:o.dst=some d)(y:bU V o)(ks:List (Nat×Nat)){v:Value}{sh:aI}{ls:List Leaf}{cs:List Value}
  (u:(execOp a.eval o).run P w=.ok (.value v) w) (M:ey sh v cs) (J:aD P V (W.frz st ks) (ac (aF st ks) st) w ls cs):mW P V o st (cn st (aF st ks) d sh ls) a w:=by
 intro next Q I;refine eh u ?_;rw[z];refine I _ _ ?_;rw[cn,aP];exact (lP H ks h).1.putLs H d (y d z).1 (y d z).2 _ sh ls v cs (Cd _) M J
theorem de.shift {w:World}{g o:Nat}{c:List Value}{k s j:Nat}(h:de w g (o+(k+j)*s) c):de w g (o+k*s+j*s) c:=by
 rwa [Cb,<- Nat.add_mul]
theorem Rd.cut {w:World}{G:Nat->Prop}{E:TypeId}{e:Ty}{xs:List e.den}{A:Option Addr}{u:Nat}(h:Rd w G (.list false E e) xs [.slice A xs.length u])(i n:Nat)(Y:i<=n)(hn:n<=xs.length) :
  Rd w G (.list false E e) ((xs.take n).drop i) [.slice (if u=i then A else A.map (·.add (i*e.cells))) (n-i) (u-i)]:=by
 obtain⟨A',J,M,hc,Z⟩:=h;simp at M;obtain⟨rfl,rfl⟩:=M;have z:((xs.take n).drop i).length=n-i:=by simp;omega
 refine⟨_,u-i,by rw[z],by rw[z];omega,λhp=>?_⟩;rw[z]at hp;obtain⟨g,o,rfl,X,I⟩:=Z (by omega);refine⟨g,o+i*e.cells,?_,X,λj x y=>?_⟩
 ·rw[if_neg (by omega)];simp[fp]
 ·rw[CW,CI]at y;split at y
  ·obtain⟨c,O,H⟩:=I (i+j) x y;exact⟨c,O,H.shift⟩
  ·cases y
theorem vV (hV:ay V)(hT:TOk P T)(a6:bU V o){t:TypeId}{x:Operand}{lo hi:Option Operand}(a3:o.op=.slice t x lo hi none)(h:act Γ T o st κ=some r):b8 P V o st κ r:=by
 simp only[act,wrU,a3]at h;cases hd:o.dst with
 |none=>simp[hd]at h
 |some d =>
  simp only[hd]at h;split at h
  ·cases h
  ·rename_i i a7;have h1:=hT t;have X:∀ (W:Wit) (a:Act) (w:World) (y:Option Operand) (a1 n:Int),ap P V W st a w->du st y a1=some n->(y.map a.eval=none/\n=a1)\/∃ k,y.map a.eval=some (.int k n):=by
    intro W a w y a1 n O u;rcases mZ O u with ⟨rfl,rfl⟩|⟨z,k,rfl,hz⟩
    ·exact .inl ⟨rfl,rfl⟩
    ·exact .inr ⟨k,by simp[hz]⟩
   split at h
   ·rename_i s ht hx;rw[ht]at h1;split at h
    ·rename_i n a0;cases u:decide (0<=i)&&decide (i<=n)&&decide (n<=(s.size:Int)) with
     |false=>simp[u]at h
     |true =>
      simp only[u,cond_true]at h;simp only[B6,decide_eq_true_eq]at u;refine⟨_,h,λW a w O=>aO hV O hd a6 (v:=.string (s.extract i.toNat n.toNat)) ?_ rfl id rfl⟩;have I:=kn (P:=P) false s.size s.size (CB _) (lo.map a.eval) (hi.map a.eval) i n u.1.1 u.1.2 u.2 (X W a w lo 0 i O a7) (X W a w hi _ n O a0) w;have b1:a.eval x=.string s:=(jI hV O hx (by simp) (by simp[ao]));simp[execOp,a3,b1,Cc,Cj,run_underlying h1.1,I]
    ·cases h
   ·rename_i E' e' a4 p ks ep b3 E e xs ht hx;rw[ht]at h1;obtain⟨hu,_,_,_,_,ti,z,a2,a5,_⟩:=h1;split at h
    ·rename_i n a0;cases u:decide (0<=i)&&decide (i<=n)&&decide (n<=(xs.length:Int))&&B3 e'.cells e.cells with
     |false=>simp[u]at h
     |true =>
      simp only[u,cond_true]at h;simp only[B6,decide_eq_true_eq]at u;obtain⟨u,M⟩:=u;have M:=B4 M;refine⟨_,h,λW a w O=>?_⟩;obtain⟨hl,b2⟩:=xq hV O hx;have h8:=pO b2 hl;obtain⟨A,H,hv,J,Z⟩:=h8.rd;have hv:a.eval x=.slice A xs.length H:=by simpa using hv
      have I:=kn (P:=P) true xs.length H J (lo.map a.eval) (hi.map a.eval) i n u.1.1 u.1.2 u.2 (X W a w lo 0 i O a7) (X W a w hi _ n O a0) w;have hE:=dE (P:=P) (t:=E') (n:=e.cells) (by simp[bW,a2,a5,M]) w;have Y:=Rd.cut (E:=E) (⟨A,H,rfl,J,Z⟩:Rd w _ (.list false E e) xs [.slice A xs.length H]) i.toNat n.toNat (by omega) (by omega);refine aO hV O hd a6 (v:=.slice (if H=i.toNat then A else A.map (·.add (i.toNat*e.cells))) (n.toNat-i.toNat) (H-i.toNat)) ?_ ⟨hl.1,hl.2.1,λ_ _ _=>⟨Y,λi' sz off he=>by cases he⟩⟩ id rfl;simp only[execOp,a3,hv,Cc,Cj,CJ,run_underlying hu,CF,Cf,I,hE,CN]
    ·cases h
   ·rename_i E' e' a4 p E e xs ht hx;rw[ht]at h1;obtain⟨hu,_,_,_,_,ti,z,a2,a5,_⟩:=h1;split at h
    ·rename_i n a0;cases u:decide (0<=i)&&decide (i<=n)&&decide (n<=(xs.length:Int))&&B3 e'.cells e.cells with
     |false=>simp[u]at h
     |true =>
      simp only[u,cond_true]at h;simp only[B6,decide_eq_true_eq]at u;obtain⟨u,M⟩:=u;have M:=B4 M;refine⟨_,h,λW a w O=>?_⟩;have hl:=jI hV O hx (by simp) (by simp[ao]);obtain⟨A,H,hv,J,Z⟩:=hl;have hv:a.eval x=.slice A xs.length H:=by simpa using hv
      have I:=kn (P:=P) true xs.length H J (lo.map a.eval) (hi.map a.eval) i n u.1.1 u.1.2 u.2 (X W a w lo 0 i O a7) (X W a w hi _ n O a0) w;have hE:=dE (P:=P) (t:=E') (n:=e.cells) (by simp[bW,a2,a5,M]) w;have Y:=Rd.cut (E:=E) (⟨A,H,rfl,J,Z⟩:Rd w (gd V W p) (.list false E e) xs [.slice A xs.length H]) i.toNat n.toNat (by omega) (by omega);refine aO hV O hd a6 (v:=.slice (if H=i.toNat then A else A.map (·.add (i.toNat*e.cells))) (n.toNat-i.toNat) (H-i.toNat)) ?_ Y id rfl;simp only[execOp,a3,hv,Cc,Cj,CJ,run_underlying hu,CF,Cf,I,hE,CN]
    ·cases h
   ·rename_i E' e' a4 p E e xs ht hx;rw[ht]at h1;obtain⟨hu,_,_,_,_,ti,z,a2,a5,_⟩:=h1;split at h
    ·rename_i n a0;cases u:decide (0<=i)&&decide (i<=n)&&decide (n<=(xs.length:Int))&&B3 e'.cells e.cells with
     |false=>simp[u]at h
     |true =>
      simp only[u,cond_true]at h;simp only[B6,decide_eq_true_eq]at u;obtain⟨u,M⟩:=u;have M:=B4 M;split at h
      ·rename_i r' j n' e1;refine⟨_,h,λW a w O=>?_⟩;obtain⟨r1,j1,n1,a9,h2,b0,_,a8⟩:=uB hV O hx;rw[e1]at a9;obtain⟨rfl,rfl,rfl⟩:r'=r1/\j=j1/\n'=n1:=by cases a9;exact⟨rfl,rfl,rfl⟩
       obtain⟨A,H,hv,J⟩:=b0.slice;have I:=kn (P:=P) true xs.length H J (lo.map a.eval) (hi.map a.eval) i n u.1.1 u.1.2 u.2 (X W a w lo 0 i O a7) (X W a w hi _ n O a0) w;have hE:=dE (P:=P) (t:=E') (n:=e.cells) (by simp[bW,a2,a5,M]) w;have ad:=OwH.rd (m:=false) (E':=E) b0;rw[hv]at ad;have Y:=Rd.cut ad i.toNat n.toNat (by omega) (by omega);refine aO hV O hd a6 (v:=.slice (if H=i.toNat then A else A.map (·.add (i.toNat*e.cells))) (n.toNat-i.toNat) (H-i.toNat)) ?_
        ⟨CB _,λk hk=>?_,λ_ _ _=>⟨Rd.mono (λk hk=>?_) Y,λi' sz off he=>by cases he⟩⟩ id rfl
       ·simp only[execOp,a3,hv,Cc,Cj,CJ,run_underlying hu,CF,Cf,I,hE,CN]
       ·simp only[Cp]at hk;subst hk;exact Nat.le_of_eq a8.symm
       ·rcases hk with hk|hk
        ·exact .inl hk
        ·exact .inr ⟨_,CQ _,hk⟩
      ·cases h
    ·cases h
   ·cases h
theorem Ak (Z:ay V)(hT:TOk P T)(I:bU V o){c:Call}(O:o.op=.call c)(hc:c.callee=.builtin .len)(h:act Γ T o st κ=some r):b8 P V o st κ r:=by
 simp only[act,wrU,O,hc]at h;split at h
 ·cases h
 ·rename_i d hd;simp only[hd]at h;split at h
  ·rename_i x hx;split at h
   ·rename_i t ht;have u:c.args=#[x]:=by rw[<- Ck (xs:=c.args),hx]
    have J:c.argTypes=#[t]:=by rw[<- Ck (xs:=c.argTypes),ht]
    have Y:=hT t;have H:∀ (a:Act) (w:World) (n:Int),(Cu #[t] o.type #[a.eval x]).run P w=.ok (.int .i64 n) w->(execOp a.eval o).run P w=.ok (.value (.int .i64 n)) w:=by
     intro a w n M;simp[execOp,O,hc,resolve,invoke,builtin,u,J,M]
    split at h
    ·rename_i E e b y;rw[y]at Y;split at h
     ·rename_i n M;refine⟨_,h,λW a w z=>aO Z z hd I (H a w _ ?_) rfl id rfl⟩;have a1:one st x≠.dead:=by intro e;rw[e]at M;simp[aE,gp]at M
      obtain⟨h2,h3,_⟩:=bA z x a1;obtain⟨A,a0,X⟩:=xh z h2 h3 M;have X:a.eval x=.slice A n a0:=by simpa using X
      simp[Cu,run_underlying Y.1,X,goInt]
     ·cases h
    ·rename_i s y a2;rw[y]at Y;refine⟨_,h,λW a w z=>aO Z z hd I (H a w _ ?_) rfl id rfl⟩;have X:a.eval x=.string s:=jI Z z a2 (by simp) (by simp[ao]);simp[Cu,run_underlying Y.1,X,goInt]
    ·cases h
   ·cases h
  ·cases h
end
end Go.Proofs.YtadlacffdemoiaaGreatEv
