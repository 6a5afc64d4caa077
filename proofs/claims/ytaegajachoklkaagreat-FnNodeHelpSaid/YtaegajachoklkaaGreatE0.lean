/- The value evaluator, second form: what a Go function's code computes, on plain values. No proof here but definitions. -/
import Derived.Calls
import Derived.Orders
import Derived.KernelRfl
import Derived.Below
import Derived.Maps.AppendAt
import Derived.Laws.OwnMore
import Derived.Lib.ConvBytes
import Derived.WalkKit
import Derived.Great.BuildSlice
set_option linter.unusedVariables false
set_option linter.unusedSimpArgs false
open Array renaming getD_eq_getD_getElem?->CB,toList_map->CK,toArray_toList->CQ
open Bool renaming and_eq_true->BJ,not_eq_true'->CF,or_eq_false_iff->CO,not_eq_true->Cb
open ByteArray renaming empty->B4
open Go.Act renaming put->Ck
open Go.Builtin renaming len_->Ca
open Go.Instr renaming sliceAt->CI,sureAddr->CN,slice->CP,sliceBounds->CZ,index->Cd,indexAt->Ci,field->Cm
open Go.Program renaming built->Cj
open Go.Result renaming andThen_ok->BS
open Go.Sem renaming run_bind->BW,run_pure->B3
open Go.Value renaming oneCell'->BQ,ownBlock->B7
open Go.World renaming cell?->Cl
open List renaming getElem?_eq_some_iff->BI,getElem?_eq_getElem->BK,mem_append_right->BL,mem_append_left->BM,mem_append->BT,getElem?_take->BV,replicate->BX,getD_eq_getElem?_getD->BY,getElem?_append_right->BZ,mem_singleton_self->B6,append_assoc->B8,range->B9,getElem?_drop->CC,getElem?_append_left->CD,any_eq_false->CG,mem_cons_of_mem->CM,replicate_succ->CR,mem_cons->CS,length_append->CT,mem_cons_self->CU,mem_singleton->CV,getElem?_map->CX,flatten_cons->CY,cons_append->Cc,drop_drop->Cf,map_cons->Ch
open Nat renaming beq->BG,eq_of_beq_eq_true->BH,le_refl->BO,le_trans->BR,lt_of_lt_of_le->B5,blt->CA,ble->CE,add_assoc->CH,lt_succ_self->CJ,zero_add->CW
open Option renaming bind_eq_some_iff->BP,map_eq_some_iff->BU,map_none->CL,map_some->Ce
open Option.some renaming injEq->BN
open Prod.mk renaming injEq->Cg
namespace Go.Proofs.YtaegajachoklkaaGreatEv
open Go
inductive Ty where
 |int (k:IntKind)|bool|str|unit
 |hdr
 |pair (a b:Ty)
 |list (m:Bool) (E:TypeId) (e:Ty)
 deriving DecidableEq
abbrev Ty.den:Ty->Type
 |.int _=>Int
 |.bool=>Bool
 |.str=>ByteArray
 |.unit=>Unit
 |.hdr=>Nat
 |.pair a b=>a.den×b.den
 |.list _ _ e=>List e.den
def Ty.cells:Ty->Nat
 |.unit=>0
 |.pair a b=>a.cells+b.cells
 |_=>1
def Ty.zero:(a:Ty)->a.den
 |.int _=>(0:Int)
 |.bool=>false
 |.str=>B4
 |.unit=>()
 |.hdr=>(0:Nat)
 |.pair a b=>(a.zero,b.zero)
 |.list _ _ e=>([]:List e.den)
def Ty.flat:Ty->Bool
 |.list _ _ _=>false
 |.pair a b=>a.flat&&b.flat
 |_=>true
def Ty.sh:Ty->Ty
 |.pair a b=>.pair a.sh b.sh
 |.list _ E e=>.list false E e.sh
 |a=>a
def Ty.shy:Ty->Bool
 |.list m _ e=>!m||e.shy
 |.pair a b=>a.shy||b.shy
 |_=>false
theorem mK:∀ a:Ty,a.sh.den=a.den
 |.int _|.bool|.str|.unit|.hdr=>rfl
 |.pair a b=>by
  show (a.sh.den×b.sh.den)=(a.den×b.den);rw[mK a,mK b]
 |.list _ _ e=>congrArg List (mK e)
theorem jE {a b:Ty}(h:a.sh=b.sh):a.den=b.den:=(mK a).symm.trans ((congrArg Ty.den h).trans (mK b))
def Ty.eqv:(a:Ty)->a.den->a.den->Bool
 |.int _,x,y=>decide ((x:Int)=y)
 |.bool,x,y=>(x:Bool)==y
 |.str,x,y=>decide ((x:ByteArray)=y)
 |.unit,_,_=>true
 |.hdr,_,_=>false
 |.pair a b,x,y=>a.eqv x.1 y.1&&b.eqv x.2 y.2
 |.list _ _ _,_,_=>false
abbrev Tup:List Ty->Type
 |[]=>Unit
 |a::as=>a.den×Tup as
inductive Leaf where
 |int (k:IntKind) (n:Int)
 |bool (b:Bool)
 |str (s:ByteArray)
 |nil
 |hdr (n:Nat)
 |ro (p:Bool) (E:TypeId) (e:Ty) (xs:List e.den)
 |own (p:Bool) (h:Option (Nat×Nat)) (E:TypeId) (e:Ty) (xs:List e.den)
 |al (r j v:Nat)
 |nal (p:Bool) (ks:List (Nat×Nat×Nat)) (ep:Nat) (loc:Option (Nat×Nat×Nat)) (E:TypeId) (e:Ty) (xs:List e.den)
 |ep (r j v:Nat) (i sz off:Nat)
 |np (p:Bool) (ks:List (Nat×Nat×Nat)) (ep:Nat) (a:Ty) (x:a.den) (off:Nat)
 |rp (p:Bool) (a:Ty) (x:a.den) (off:Nat)
 |rpp (p:Bool) (a:Ty) (x:a.den)
 |bp (b off:Nat)
 |clo (f:FuncId) (caps:List Nat)
 |clr (f:FuncId) (caps:List (Bool×Bool×(a:Ty)×a.den))
 |fn (As:List Ty) (B:Ty) (φ:Tup As->Option B.den)
 |dead
inductive aI where
 |off|und|one|agg
 |tup (ps:List (Bool×Nat))
 deriving DecidableEq
structure bQ where
 ver:Nat
 sh:aI
 ls:List Leaf
abbrev St:=Nat->bQ
def bQ.none:bQ:=⟨0,.off,[]⟩
def GH:Nat:=99000
def TMP:Nat:=99998
def EPO:Nat:=99999
def B0:Nat:=100000
abbrev Upd:=List (Nat×bQ)
def ac (U:Upd)(st:St)(q:Nat):bQ :=
 match U with
 |[]=>st q
 |(r,c)::u=>bif BG q r then c else ac u st q
inductive TI where
 |int (k:IntKind)|bool|str
 |slice (E:TypeId) (e:Ty) (bytes:Nat)
 |struct (a:Ty) (flds:List (Nat×Nat×Bool))
 |arr (e:Ty) (n:Nat)
 |ptr|fn
 |none
def gD:List (TypeId×TI)->TypeId->TI
 |[],_=>.none
 |(t,i)::l,u=>bif BG t u then i else gD l u
def TI.cells:TI->Nat
 |.struct a _=>a.cells
 |.arr e n=>n*e.cells
 |.none=>0
 |_=>1
def TI.agg:TI->Bool
 |.struct _ _=>true
 |.arr _ _=>true
 |_=>false
def eZ:Ty->List Leaf
 |.int k=>[.int k 0]
 |.bool=>[.bool false]
 |.str=>[.str B4]
 |.unit=>[]
 |.hdr=>[.nil]
 |.pair a b=>eZ a++eZ b
 |.list _ _ _=>[.nil]
def TI.zero:TI->List Leaf
 |.int k=>[.int k 0]
 |.bool=>[.bool false]
 |.str=>[.str B4]
 |.slice _ _ _=>[.nil]
 |.struct a _=>eZ a
 |.arr e n=>(BX n (eZ e)).flatten
 |.ptr=>[.dead]
 |.fn=>[.dead]
 |.none=>[]
def aq (p:Bool):(a:Ty)->a.den->List Leaf
 |.int k,n=>[.int k n]
 |.bool,b=>[.bool b]
 |.str,s=>[.str s]
 |.unit,_=>[]
 |.hdr,n=>[.hdr n]
 |.pair a b,x=>aq p a x.1++aq p b x.2
 |.list m E e,r=>[bif m then .own (p&&e.shy) none E e r else .ro p E e r]
def cG (p:Bool):(a:Ty)->a.den->List Leaf
 |.int k,n=>[.int k n]
 |.bool,b=>[.bool b]
 |.str,s=>[.str s]
 |.unit,_=>[]
 |.hdr,n=>[.hdr n]
 |.pair a b,x=>cG p a x.1++cG p b x.2
 |.list _ E e,r=>[.ro p E e r]
def ly (p:Bool)(ks:List (Nat×Nat×Nat))(ep:Nat):(a:Ty)->a.den->List Leaf
 |.int k,n=>[.int k n]
 |.bool,b=>[.bool b]
 |.str,s=>[.str s]
 |.unit,_=>[]
 |.hdr,n=>[.hdr n]
 |.pair a b,x=>ly p ks ep a x.1++ly p ks ep b x.2
 |.list _ E e,r=>[.nal p ks ep none E e r]
def gE (p:Bool)(r j v ep i u:Nat)(h:Option Nat):(a:Ty)->Nat->a.den->List Leaf
 |.int k,_,n=>[.int k n]
 |.bool,_,b=>[.bool b]
 |.str,_,s=>[.str s]
 |.unit,_,_=>[]
 |.hdr,_,n=>[.hdr n]
 |.pair a b,off,x=>gE p r j v ep i u h a off x.1++gE p r j v ep i u h b (off+a.cells) x.2
 |.list m E e,off,y=>[bif decide (h=some off) then .dead else bif m then .nal (p&&e.shy) [(r,j,v)] ep (some (i,u,off)) E e y else .ro p E e y]
def lz (p:Bool)(r j v ep i u:Nat)(h:Option (Bool×Nat)):(a:Ty)->Nat->a.den->List Leaf
 |.int k,_,n=>[.int k n]
 |.bool,_,b=>[.bool b]
 |.str,_,s=>[.str s]
 |.unit,_,_=>[]
 |.hdr,_,n=>[.hdr n]
 |.pair a b,off,x=>lz p r j v ep i u h a off x.1++lz p r j v ep i u h b (off+a.cells) x.2
 |.list m E e,off,y=>[bif (match h with|some (b,o)=>BG o off&&b|Option.none=>false) then .dead else bif m then .nal (p&&e.shy) [(r,j,v)] ep (some (i,u,off)) E e y else .ro p E e y]
def bh (agg:Bool):aI:=bif agg then .agg else .one
def lA:Leaf->Bool
 |.own _ _ _ _ _=>true
 |_=>false
def bq (st:St)(ks:List (Nat×Nat×Nat))(ep:Nat):Bool:=BG (st EPO).ver ep&&ks.all λk=>BG (st k.1).ver k.2.2&&lA ((st k.1).ls.getD k.2.1 .dead)
def pu:Leaf->Leaf
 |.nal _ _ _ _ _ _ _=>.dead
 |l=>l
def aC (st:St):Leaf->Leaf
 |.al r j v=>bif BG (st r).ver v then pu ((st r).ls.getD j .dead) else .dead
 |.nal p y ep u E e z=>bif bq st y ep then .nal p y ep u E e z else .dead
 |l=>l
def lT (t j r:Nat):Leaf->Leaf
 |.own _ _ _ _ _=>.al t j r
 |l=>l
def bF (t r:Nat):Nat->List Leaf->List Leaf
 |_,[]=>[]
 |j,l::u=>lT t j r l::bF t r (j+1) u
def iu:Value->Option Leaf
 |.int k n=>some (.int k n)
 |.bool b=>some (.bool b)
 |.string s=>some (.str s)
 |.slice Option.none 0 0=>some .nil
 |_=>Option.none
def au (st:St):Operand->aI×List Leaf
 |.tmp t=>bif CA t GH then ((st t).sh,bF t (st t).ver 0 (st t).ls) else (.off,[])
 |.const v=>match iu v with
  |some l=>(.one,[l])
  |Option.none=>(.off,[])
 |.func f=>(.one,[.clo f []])
 |.global _=>(.off,[])
def one (st:St)(x:Operand):Leaf :=
 match au st x with
 |(.one,[l])=>l
 |_=>.dead
def castSh (e e':Ty)(xs:List e'.den):Option (List e.den) :=
 if h:e'.sh=e.sh then some (cast (congrArg List (jE h)) xs) else Option.none
def lU (E:TypeId)(e:Ty)(E':TypeId)(e':Ty)(xs:List e'.den):Option (List e.den) :=
 if h:E'=E/\e'=e then some (h.2 ▸ xs) else Option.none
def dg (e:Ty):Leaf->Option (Bool×List e.den)
 |.ro p _ u r=>(castSh e u r).map (p,·)
 |.own p none _ u r=>(castSh e u r).map (p,·)
 |.nal p _ _ _ _ u r=>(castSh e u r).map (p,·)
 |.nil=>some (false,[])
 |_=>Option.none
def f9:Leaf->Option Nat
 |.ro _ _ _ r=>some r.length
 |.own _ _ _ _ r=>some r.length
 |.nal _ _ _ _ _ _ r=>some r.length
 |.nil=>some 0
 |.hdr n=>some n
 |_=>Option.none
def a8 (st:St):(a:Ty)->List Leaf->Option (Bool×a.den×List Leaf)
 |.int k,r=>match r with
  |.int z n::r=>if k=z then some (false,(n:Int),r) else Option.none
  |_=>Option.none
 |.bool,r=>match r with
  |.bool b::r=>some (false,b,r)
  |_=>Option.none
 |.str,r=>match r with
  |.str s::r=>some (false,s,r)
  |_=>Option.none
 |.unit,r=>some (false,(),r)
 |.hdr,r=>match r with
  |l::r=>match f9 (aC st l) with
   |some n=>some (false,(n:Nat),r)
   |Option.none=>Option.none
  |_=>Option.none
 |.pair a b,r=>match a8 st a r with
  |some (p,x,r)=>match a8 st b r with
   |some (q,y,r)=>some (p||q,(x,y),r)
   |Option.none=>Option.none
  |Option.none=>Option.none
 |.list _ _ e,r=>match r with
  |l::r=>match dg e (aC st l) with
   |some (p,u)=>some (p,u,r)
   |Option.none=>Option.none
  |_=>Option.none
def cO (st:St)(a:Ty)(ls:List Leaf):Option (Bool×a.den) :=
 match a8 st a ls with
 |some (p,x,[])=>some (p,x)
 |_=>Option.none
structure cH (α:Type) where
 p:Bool
 val:α
 frz:List (Nat×Nat)
 kill:List (Nat×Nat)
 rest:List Leaf
def bz (st:St):List Leaf->List (Nat×Nat)
 |[]=>[]
 |.al r j v::u=>(match aC st (.al r j v) with|.own _ _ _ _ _=>[(r,j)]|_=>[])++bz st u
 |.nal p z ep y E e H::u=>(match aC st (.nal p z ep y E e H) with|.nal _ _ _ _ _ _ _=>z.map (λk=>(k.1,k.2.1))|_=>[])++bz st u
 |_::u=>bz st u
def b6 (st:St):List Leaf->List (Nat×Nat)
 |[]=>[]
 |.al r j v::u=>(match aC st (.al r j v) with|.own _ _ _ _ _=>[(r,j)]|_=>[])++b6 st u
 |_::u=>b6 st u
def take (st : St) : (a : Ty) -> List Leaf -> Option (cH a.den)
  |.int k,u=>(a8 st (.int k) u).map λx=>⟨false,x.2.1,[],[],x.2.2⟩
  |.bool,u=>(a8 st .bool u).map λx=>⟨false,x.2.1,[],[],x.2.2⟩
  |.str,u=>(a8 st .str u).map λx=>⟨false,x.2.1,[],[],x.2.2⟩
  |.unit,u=>some ⟨false,(),[],[],u⟩
  |.hdr,u=>(a8 st .hdr u).map λx=>⟨false,x.2.1,[],[],x.2.2⟩
  |.pair a b,u=>match take st a u with
    |some x=>match take st b x.rest with
      |some y=>some ⟨x.p||y.p,(x.val,y.val),x.frz++y.frz,x.kill++y.kill,y.rest⟩
      |Option.none=>Option.none
    |Option.none=>Option.none
  |.list m E e,u=>match u with
    |[]=>Option.none
    |l::u=>bif m then (match l with
        |.al r j v=>match aC st (.al r j v) with
          |.own p none H I z=>(lU E e H I z).map λz=>⟨p,z,[],[(r,j)],u⟩
          |_=>Option.none
        |.nil=>some ⟨false,([]:List e.den),[],[],u⟩
        |_=>Option.none)
      else match dg e (aC st l) with
        |some (p,z)=>some ⟨p,z,bz st [l],[],u⟩
        |Option.none=>Option.none
def cg (st:St)(a:Ty)(ls:List Leaf):Option (cH a.den) :=
 match take st a ls with
 |some ⟨p,x,f,k,[]⟩=>some ⟨p,x,f,k,[]⟩
 |_=>Option.none
def c9 (st:St)(off n:Nat):(a:Ty)->Nat->a.den->List Leaf->Option (cH a.den)
 |.pair a b,pos,x,r=>match c9 st off n a pos x.1 r with
  |some u=>match c9 st off n b (pos+a.cells) x.2 u.rest with
   |some v=>some ⟨u.p||v.p,(u.val,v.val),u.frz++v.frz,u.kill++v.kill,v.rest⟩
   |Option.none=>Option.none
  |Option.none=>Option.none
 |.int k,pos,x,r=>bif CE off pos&&CA pos (off+n) then take st (.int k) r else some ⟨false,x,[],[],r⟩
 |.bool,pos,x,r=>bif CE off pos&&CA pos (off+n) then take st .bool r else some ⟨false,x,[],[],r⟩
 |.str,pos,x,r=>bif CE off pos&&CA pos (off+n) then take st .str r else some ⟨false,x,[],[],r⟩
 |.unit,_,x,r=>some ⟨false,x,[],[],r⟩
 |.hdr,_,_,_=>Option.none
 |.list m E e,pos,x,r=>bif CE off pos&&CA pos (off+n) then take st (.list m E e) r else some ⟨false,x,[],[],r⟩
def bL (off:Nat)(E:TypeId)(e:Ty)(r:List e.den):(a:Ty)->Nat->a.den->Option a.den
 |.pair a b,pos,x=>match bL off E e r a pos x.1 with
  |some u=>some (u,x.2)
  |Option.none=>(bL off E e r b (pos+a.cells) x.2).map λv=>(x.1,v)
 |.list m y z,pos,_=>bif m&&BG pos off then lU y z E e r else Option.none
 |.int _,_,_|.bool,_,_|.str,_,_|.unit,_,_|.hdr,_,_=>Option.none
def aw:List Leaf->List Nat
 |[]=>[]
 |.al r _ _::u=>r::aw u
 |.ep r _ _ _ _ _::u=>r::aw u
 |.nal _ y _ _ _ _ _::u=>EPO::y.map (·.1)++aw u
 |.np _ y _ _ _ _::u=>EPO::y.map (·.1)++aw u
 |_::u=>aw u
def aT (ls:List Leaf)(j:Nat)(l:Leaf):List Leaf:=ls.set j l
def gb (c:bQ)(j:Nat):bQ:=⟨c.ver,c.sh,aT c.ls j .dead⟩
def aN (st:St):List (Nat×Nat)->Upd
 |[]=>[]
 |(r,j)::u=>let U:=aN st u;let c:=ac U st r;(r,gb c j)::U
def uK:Leaf->Leaf
 |.own p none E e r=>.ro p E e r
 |.own _ (some _) _ _ _=>.dead
 |l=>l
def fX (c:bQ)(j:Nat):bQ:=⟨c.ver,c.sh,aT c.ls j (uK (c.ls.getD j .dead))⟩
def aD (st:St):List (Nat×Nat)->Upd
 |[]=>[]
 |(r,j)::u=>let U:=aD st u;let c:=ac U st r;(r,fX c j)::U
def bU (c:bQ):bQ:=⟨c.ver+1,c.sh,c.ls⟩
def epoU (st:St):Upd:=[(EPO,bU (st EPO))]
def du (st:St):List Leaf->List (Nat×Nat)
 |[]=>[]
 |.nal p u ep none E e y::r=>(match aC st (.nal p u ep none E e y) with|.nal _ _ _ _ _ _ _=>u.map (λk=>(k.1,k.2.1))|_=>[])++du st r
 |_::r=>du st r
def gi (st:St)(l:Leaf):Leaf:=match aC st l with
 |.nal p _ _ none E e r=>.ro p E e r
 |l=>l
def dH (st:St)(ls:List Leaf):List Leaf:=ls.map (gi st)
def mvU (st:St)(ls:List Leaf):Upd:=let U:=aD st (du st ls);aN (ac U st) (b6 st ls)++U
def aY:List (Nat×Nat)->Bool
 |[]=>true
 |x::r=>!(r.any λy=>BG x.1 y.1&&BG x.2 y.2)&&aY r
def iv (a b:Nat×Nat):Bool:=BG a.1 b.1&&BG a.2 b.2
def dz (a b:List (Nat×Nat)):Bool:=!(a.any λk=>b.any (iv k))
def ic (st:St)(ls:List Leaf):Bool:=aY (b6 st ls)&&dz (du st ls) (b6 st ls)
def sr (st:St):Operand->Bool
 |.tmp q=>BG (st q).ver 7
 |_=>false
def idx {α:Type}(xs:List α)(i:Int):Option α:=if i<0 then Option.none else xs[i.toNat]?
def jF (r u:List Leaf)(off:Nat):List Leaf:=r.take off++u++r.drop (off+u.length)
def su (r:BinOp)(k:IntKind)(x y:Int):Option Leaf :=
 match r with
 |.add=>some (.int k (k.wrap (x+y)))
 |.sub=>some (.int k (k.wrap (x-y)))
 |.mul=>some (.int k (k.wrap (x*y)))
 |.eql=>some (.bool (x==y))
 |.neq=>some (.bool (x != y))
 |.lss=>some (.bool (decide (x<y)))
 |.leq=>some (.bool (decide (x<=y)))
 |.gtr=>some (.bool (decide (x>y)))
 |.geq=>some (.bool (decide (x>=y)))
 |_=>Option.none
def bd (off:Nat):(a:Ty)->Nat->a.den->Option ((E:TypeId)×(e:Ty)×List e.den)
 |.pair a b,pos,x=>match bd off a pos x.1 with
  |some u=>some u
  |Option.none=>bd off b (pos+a.cells) x.2
 |.list m E e,pos,r=>bif m&&BG pos off then some ⟨E,e,r⟩ else Option.none
 |.int _,_,_|.bool,_,_|.str,_,_|.unit,_,_|.hdr,_,_=>Option.none
def ck (st:St):Leaf->Option (Upd×Leaf)
  |.nal p J ep H E e X=>bif bq st J ep then (match J,H with
      | [(r, j, _)], some (i, R, off) => (match (st r).ls.getD j .dead with
        |.own I none O z u=>bif !BG r TMP&&!BG r EPO&&BG R z.cells then
            (match u[i]? with
            |some y=>match bd off z 0 y with
              |some ⟨E,e,M⟩=>some ([(r,⟨(st r).ver,(st r).sh,aT (st r).ls j (.own I (some (i,off)) O z u)⟩),(TMP,⟨(st TMP).ver+1,.one,[.own (I&&z.shy) none E e M]⟩),(EPO,bU (st EPO))],.al TMP 0 ((st TMP).ver+1))
              |Option.none=>Option.none
            |Option.none=>Option.none)
          else Option.none
        |_=>Option.none)
      |_,_=>Option.none)
    else Option.none
  |_=>Option.none
def jt:Leaf->Bool
 |.nal _ _ _ _ _ _ _=>true
 |_=>false
inductive PK where
 |rd (a:Ty)
 |own (a:Ty)
 |io (a:Ty)
 |rref (a:Ty)
 |rref2 (a:Ty)
 |iop (a:Ty)
 |fn (As:List Ty) (B:Ty)
 |clo (f:FuncId) (cs:List (Bool×Ty))
 |hol (a:Ty) (c off:Nat)
 deriving DecidableEq
inductive RK where
 |v (a:Ty)
 |bv (a:Ty)
 |box (a:Ty)
 deriving DecidableEq
abbrev lV:List (Bool×Ty)->Type
 |[]=>Unit
 |c::r=>c.2.den×lV r
abbrev PK.den:PK->Type
 |.rd a|.own a|.io a|.rref a|.rref2 a|.iop a=>a.den
 |.fn r B=>Tup r->Option B.den
 |.clo _ u=>lV u
 |.hol a _ _=>a.den×Nat
abbrev ab:List PK->Type
 |[]=>Unit
 |p::r=>p.den×ab r
abbrev ah:List PK->Type
 |[]=>Unit
 |.io a::r=>a.den×ah r
 |.iop a::r=>a.den×ah r
 |_::r=>ah r
abbrev RK.den:RK->Type
 |.v a|.bv a|.box a=>a.den
abbrev ai:List RK->Type
 |[]=>Unit
 |r::u=>r.den×ai u
structure Ctr where
 f:FuncId
 ps:List PK
 rs:List RK
 fresh:Bool
 den:ab ps->Option (ai rs×ah ps)
def Ty.isAgg:Ty->Bool
 |.pair _ _|.unit=>true
 |_=>false
def target (st:St):Leaf->Option (List Leaf)
 |.bp b 0=>bif decide ((st b).sh=.agg) then some (bF b (st b).ver 0 (st b).ls) else none
 |.rp p a x 0=>some (cG p a x)
 |.rpp p a x=>some [.rp p a x 0]
 |_=>none
structure Got (α:Type) where
 p:Bool
 val:α
 frz:List (Nat×Nat)
 kill:List (Nat×Nat)
 see:List Nat
 lend:List Nat
def Got.ofRd {α:Type}(r:List Nat)(x:Bool×α)(frz:List (Nat×Nat)):Got α:=⟨x.1,x.2,frz,[],r,[]⟩
def lW (Γ:List Ctr)(f:FuncId):Option Ctr:=match Γ with
 |[]=>none
 |c::r=>bif BG c.f f then some c else lW r f
def cl (x:aI×List Leaf):Leaf :=
 match x with
 |(.one,[l])=>l
 |_=>.dead
def ft:List Leaf->List Nat
 |[]=>[]
 |.bp b _::r=>b::ft r
 |_::r=>ft r
def fu (st:St)(c:Bool×Ty)(l:Leaf):Option (Got c.2.den) :=
 bif c.1 then (match target st l with
  |some [u]=>match target st u with
   |some r=>(cO st c.2 r).map λy=>.ofRd (ft [l,u]) y (bz st r)
   |none=>none
  |_=>none)
 else match target st l with
  |some r=>(cO st c.2 r).map λy=>.ofRd (ft [l]) y (bz st r)
  |none=>none
def cr (st:St):(cs:List (Bool×Ty))->List Leaf->Option (Got (lV cs))
 |[],[]=>some ⟨false,(),[],[],[],[]⟩
 |c::cs,l::r=>match fu st c l with
  |some g=>match cr st cs r with
   |some h=>some ⟨g.p||h.p,(g.val,h.val),g.frz++h.frz,[],g.see++h.see,[]⟩
   |none=>none
  |none=>none
 |_,_=>none
def eT (c:Bool×Bool×(a:Ty)×a.den):Leaf:=bif c.2.1 then .rpp c.1 c.2.2.1 c.2.2.2 else .rp c.1 c.2.2.1 c.2.2.2 0
def bf (st : St) : (pk : PK) -> aI × List Leaf -> Option (Got pk.den)
  |.rd a,x=>bif decide (x.1=bh a.isAgg) then (cO st a x.2).map λy=>.ofRd [] y (bz st x.2) else none
  |.own a,x=>bif decide (x.1=bh a.isAgg) then (cg st a x.2).map λt=>⟨t.p,t.val,t.frz,t.kill,[],[]⟩ else none
  |.io a,x=>bif decide (x.1=bh a.isAgg) then (cg st a x.2).map λt=>⟨t.p,t.val,t.frz,t.kill,[],[]⟩ else none
  |.rref a,x=>fu st (false,a) (cl x)
  |.rref2 a,x=>fu st (true,a) (cl x)
  |.iop a,x=>match cl x with
    |.bp b 0=>bif decide ((st b).sh=.agg) then (cg st a (bF b (st b).ver 0 (st b).ls)).map λt=>⟨t.p,t.val,t.frz,t.kill,[],[b]⟩ else none
    |_=>none
  |.fn I B,x=>match cl x with
    |.fn H R O=>if h:H=I/\R=B then some ⟨false,(h.1 ▸ h.2 ▸ O:Tup I->Option B.den),[],[],[],[]⟩ else none
    |_=>none
  |.clo f J,x=>match cl x with
    |.clo z u=>bif BG z f then cr st J (u.map λb=>.bp b 0) else none
    |.clr z u=>bif BG z f then cr st J (u.map eT) else none
    |_=>none
  |.hol a c off,x=>bif decide (x.1=bh a.isAgg) then (match x.2.getD c .dead with
      |.al r j v=>(match aC st (.al r j v) with
        |.own p (some (i,o)) E e M=>bif BG o off then (match cg st a (aT x.2 c .nil) with
            |some t=>(match bL c E e M a 0 t.val with
              |some y=>some ⟨p||t.p,(y,i),t.frz,(r,j)::t.kill,[],[]⟩
              |none=>none)
            |none=>none) else none
        |_=>none)
      |_=>none) else none
def bc (ga:(pk:PK)->aI×List Leaf->Option (Got pk.den)):(ps:List PK)->List (aI×List Leaf)->Option (Got (ab ps))
 |[],[]=>some ⟨false,(),[],[],[],[]⟩
 |p::ps,x::r=>match ga p x with
  |some g=>match bc ga ps r with
   |some h=>some ⟨g.p||h.p,(g.val,h.val),g.frz++h.frz,g.kill++h.kill,g.see++h.see,g.lend++h.lend⟩
   |none=>none
  |none=>none
 |_,_=>none
def uL (st:St):(ps:List PK)->List (aI×List Leaf)->Option (Got (ab ps)):=bc (bf st)
def b7 (st:St):List Leaf->List Leaf->Upd
 |.al r j _::u,l::y=>let U:=b7 st u y;(match l with|.own p h E e ys=>let c:=ac U st r;[(r,⟨c.ver,c.sh,aT c.ls j (.own p h E e ys)⟩),(EPO,bU (ac U st EPO))]|_=>[])++U
 |_::u,_::y=>b7 st u y
 |_,_=>[]
def aF (st:St)(p:Bool):(ps:List PK)->List (aI×List Leaf)->ah ps->Upd
 |[],_,_=>[]
 |.io a::ps,x::r,o=>let U:=aF st p ps r o.2;b7 (ac U st) x.2 (aq p a o.1)++U
 |.iop a::ps,x::r,o=>let U:=aF st p ps r o.2;(match cl x with
  |.bp b _=>let c:=ac U st b;[(b,⟨c.ver+2,.agg,aq p a o.1⟩)]
  |_=>[])++U
 |.rd _::ps,_::r,o=>aF st p ps r o
 |.own _::ps,_::r,o=>aF st p ps r o
 |.rref _::ps,_::r,o=>aF st p ps r o
 |.rref2 _::ps,_::r,o=>aF st p ps r o
 |.fn _ _::ps,_::r,o=>aF st p ps r o
 |.clo _ _::ps,_::r,o=>aF st p ps r o
 |.hol _ _ _::ps,_::r,o=>aF st p ps r o
 |_::_,[],_=>[]
def pv (d v:Nat)(p q:Bool)(ks:List (Nat×Nat×Nat))(ep:Nat):(r:RK)->r.den->(Bool×List Leaf)×Upd
 |.v a,y=>((a.isAgg,aq p a y),[])
 |.bv a,y=>((a.isAgg,ly q ks ep a y),[])
 |.box a,y=>((false,[.bp (B0+d) 0]),[(B0+d,⟨v+1,.agg,aq p a y⟩)])
def bD (d v:Nat)(p q:Bool)(ks:List (Nat×Nat×Nat))(ep:Nat):(u:List RK)->ai u->List (Bool×List Leaf)×Upd
 |[],_=>([],[])
 |r::u,y=>let a:=pv d v p q ks ep r y.1;let b:=bD d v p q ks ep u y.2;(a.1::b.1,a.2++b.2)
def eU (r:Nat)(l:List (Bool×List Leaf)):bQ :=
 match l with
 |[(agg,u)]=>⟨r,bh agg,u⟩
 |l=>⟨r,.tup (l.map λx=>(x.1,x.2.length)),(l.map (·.2)).flatten⟩
def cf (st:St)(U:Upd)(d:Nat)(sh:aI)(ls:List Leaf):Upd:=(d,⟨(ac U st d).ver+1,sh,ls⟩)::U
def PK.reads:PK->Bool
 |.rd _|.rref _|.rref2 _=>true
 |_=>false
def nK (caps:List PK)(z:ab caps):(r:List Ty)->Tup r->ab (r.map .rd++caps)
 |[],_=>z
 |_::as,x=>(x.1,nK caps z as x.2)
def sa (st:St)(u:List Ty)(B:Ty)(ls:List Leaf)(ps:List PK)(H:List RK)(r:Bool)(z:ab ps->Option (ai H×ah ps))(q:List PK):Option (Got (Tup u->Option B.den)) :=
 if h:ps=u.map .rd++q/\H=[.v B] then
  bif q.all PK.reads&&B.flat&&r then
   match uL st q (ls.map λl=>(.one,[l])) with
   |some g=>some ⟨g.p,λx=>(z (h.1 ▸ nK _ g.val u x)).map λy=>(h.2 ▸ y.1:ai [.v B]).1,g.frz,[],g.see,[]⟩
   |none=>none
  else none
 else none
def kM (Γ:List Ctr)(st:St)(r:List Ty)(B:Ty)(f:FuncId)(ls:List Leaf):Option (Got (Tup r->Option B.den)) :=
 match lW Γ f with
 |some c=>sa st r B ls c.ps c.rs c.fresh c.den (c.ps.drop r.length)
 |none=>none
def vA:Leaf->Option (FuncId×List Leaf)
 |.clo f r=>some (f,r.map λb=>.bp b 0)
 |.clr f r=>some (f,r.map eT)
 |_=>none
def ca (Γ:List Ctr)(st:St):(pk:PK)->aI×List Leaf->Option (Got pk.den)
 |.fn r B,x=>match vA (cl x) with
  |some u=>kM Γ st r B u.1 u.2
  |none=>bf st (.fn r B) x
 |.rd a,x=>bf st (.rd a) x
 |.own a,x=>bf st (.own a) x
 |.io a,x=>bf st (.io a) x
 |.rref a,x=>bf st (.rref a) x
 |.rref2 a,x=>bf st (.rref2 a) x
 |.iop a,x=>bf st (.iop a) x
 |.clo f y,x=>bf st (.clo f y) x
 |.hol a c off,x=>bf st (.hol a c off) x
def oL (Γ:List Ctr)(st:St):(ps:List PK)->List (aI×List Leaf)->Option (Got (ab ps)):=bc (ca Γ st)
def PK.takes:PK->Bool
 |.own _|.io _=>true
 |_=>false
def PK.isIo:PK->Bool
 |.io _=>true
 |_=>false
def pw:Ty->Nat->Bool
 |.pair a b,j=>bif CA j a.cells then pw a j else pw b (j-a.cells)
 |.list m _ _,j=>m&&BG j 0
 |_,_=>false
def lB (a:Ty):Nat->List Leaf->Option Nat
 |_,[]=>none
 |j,l::r=>bif jt l&&pw a j then some j else lB a (j+1) r
def PK.nest:PK->List Leaf->Option Nat
 |.own a,r=>lB a 0 r
 |.io a,r=>lB a 0 r
 |_,_=>none
def kk:Leaf->Nat×Nat
 |.nal _ ((r,j,_)::_) _ _ _ _ _=>(r,j)
 |_=>(0,0)
def cX (st:St):List PK->List (aI×List Leaf)->Option (Upd×List (aI×List Leaf)×Option (Bool×Nat×Nat))
 |p::y,x::r=>match p.nest x.2 with
  |some k=>(ck st (x.2.getD k .dead)).map λu=>(u.1,(x.1,aT x.2 k u.2)::r,some (p.isIo,kk (x.2.getD k .dead)))
  |none=>(cX st y r).map λu=>(u.1,x::u.2.1,u.2.2)
 |_,r=>some ([],r,none)
section
variable {R:Type}
def lX (st : St) (l : Leaf) (X : Upd -> Leaf -> Option R) : Option R :=
  match l with
  |.nal _ J ep H _ _ _=>bif bq st J ep then (match J,H with
      | [(r, j, _)], some (i, Y, off) => (match (st r).ls.getD j .dead with
        |.own I none O z u=>bif !BG r TMP&&!BG r EPO&&BG Y z.cells then
            (idx u (i:Int)).bind λy=>match bd off z 0 y with
              |some ⟨E,e,M⟩=>X [(r,⟨(st r).ver,(st r).sh,aT (st r).ls j (.own I (some (i,off)) O z u)⟩),(TMP,⟨(st TMP).ver+1,.one,[.own (I&&z.shy) none E e M]⟩),(EPO,bU (st EPO))] (.al TMP 0 ((st TMP).ver+1))
              |Option.none=>Option.none
          else Option.none
        |_=>Option.none)
      |_,_=>Option.none)
    else Option.none
  |_=>Option.none
def kN (st:St):List PK->List (aI×List Leaf)->(Upd->List (aI×List Leaf)->Option (Bool×Nat×Nat)->Option R)->Option R
 |p::z,x::r,u=>match p.nest x.2 with
  |some k=>lX st (x.2.getD k .dead) λU l=>u U ((x.1,aT x.2 k l)::r) (some (p.isIo,kk (x.2.getD k .dead)))
  |none=>kN st z r λU y b=>u U (x::y) b
 |_,r,u=>u [] r none
def iN (st:St):(u:List Ty)->List (aI×List Leaf)->Option (Tup u)
 |[],[]=>some ()
 |a::as,x::r=>bif decide (x.1=bh a.isAgg) then match cO st a x.2 with
   |some (_,y)=>(iN st as r).map (y,·)
   |none=>none
  else none
 |_,_=>none
def RK.isV:RK->Bool
 |.v _|.bv _=>true
 |.box _=>false
def RK.isBv:RK->Bool
 |.bv _=>true
 |_=>false
def gF (st:St)(d:Nat):List RK->Bool
 |[.box _]=>decide ((st (B0+d)).sh=.off)
 |rs=>rs.all RK.isV
def oM (b:Option (Bool×Nat×Nat))(frz kill:List (Nat×Nat))(d:Nat):Bool :=
 match b with
 |some (true,r,j)=>!(kill.any (iv (r,j)))&&!(frz.any (iv (r,j)))&&!BG r d&&!BG r (B0+d)
 |_=>true
def j8 (st:St)(b:Option (Bool×Nat×Nat))(U:Upd)(I:Upd->Option R):Option R :=
 match b with
 |some (true,r,j) =>
  match (ac U st r).ls.getD j .dead,(ac U st TMP).ls with
  |.own p (some (i,off)) M H u,[.own q none E e J]=>(idx u (i:Int)).bind λy=>match bL off E e J H 0 y with
   |some z=>I ((r,⟨(ac U st r).ver,(ac U st r).sh,aT (ac U st r).ls j (.own (p||q) none M H (u.set i z))⟩)::(TMP,⟨(ac U st TMP).ver+1,.off,[]⟩)::(EPO,bU (ac U st EPO))::U)
   |none=>none
  |_,_=>none
 |_=>I U
def ju (Γ:List Ctr)(st:St)(d:Nat)(f:FuncId)(xs:List (aI×List Leaf))(J:Upd->Option R):Option R :=
 match lW Γ f with
 |some c=>kN st c.ps xs λu xs b =>
  match oL Γ (ac u st) c.ps xs with
  |some g=>bif aY g.kill&&dz g.frz g.kill&&gF st d c.rs&&!(g.see.any λq=>g.lend.any (BG q))&&CE g.lend.length 1&&(g.lend.isEmpty||!(c.ps.any PK.isIo))&&((c.fresh&&g.lend.isEmpty)||!(c.rs.any RK.isBv))&&(g.kill.all λk=>!BG k.1 EPO)&&oM b g.frz g.kill d then
   (c.den g.val).bind λy =>
    let H:=(let U:=(bif c.fresh then [] else aD (ac u st) g.frz);aN (ac U (ac u st)) g.kill++U)++u;let z:=aF (ac H st) (g.p&&!c.fresh) c.ps xs y.2++H;let r:=bD d (ac z st (B0+d)).ver (g.p&&!c.fresh) g.p (g.frz.map λk=>(k.1,k.2,(ac z st k.1).ver)) (ac z st EPO).ver c.rs y.1;let I:=r.2++z
    j8 st b ((d,eU ((ac I st d).ver+1) r.1)::I) J
   else none
  |none=>none
 |none=>none
def ak:Nat:=140737488355328
def fT (st:St)(E:TypeId)(e:Ty)(y:Leaf):Option (cH (List e.den)) :=
 bif e.flat then (dg e (aC st y)).map λx=>⟨false,x.2,[],[],[]⟩
 else bif decide (e.sh=e) then (dg e (aC st y)).map λx=>⟨x.1,x.2,bz st [y],[],[]⟩
 else (cg st (.list true E e) [y]).map λt=>⟨t.p,t.val,t.frz,t.kill,[]⟩
def dU (st u:St)(z:Upd)(d:Nat)(E:TypeId)(e:Ty)(r:Nat)(p:Bool)(xs:List e.den)(ks:List (Nat×Nat))(y:Leaf)(H:Upd->Option R):Option R :=
 match fT u E e y with
 |some t=>bif aY (t.kill++ks)&&dz t.frz (t.kill++ks)&&decide ((xs.length+t.val.length)*r<=ak) then
   let U:=aD u t.frz
   H (cf st (aN (ac U u) (t.kill++ks)++U++z) d .one [.own (p||t.p) none E e (xs++t.val)])
  else none
 |none=>none
def eq (st:St)(z:Upd)(d:Nat)(E:TypeId)(e:Ty)(u:Nat)(x y:Leaf)(J:Upd->Option R):Option R :=
 match x with
 |.al r j v=>match aC (ac z st) (.al r j v) with
  |.own p none H I M=>bif BG H E&&decide (I.sh=e.sh) then dU st (ac z st) z d H I u p M [(r,j)] y J else none
  |_=>none
 |.nil=>dU st (ac z st) z d E e u false [] [] y J
 |_=>none
def iw (st:St)(d:Nat)(E:TypeId)(e:Ty)(r:Nat)(x y:Leaf)(u:Upd->Option R):Option R :=
 bif jt x then lX st x λz x=>eq st z d E e r x y u else eq st [] d E e r x y u
def dh (st:St)(x:Option Operand)(r:Int):Option Int :=
 match x with
 |none=>some r
 |some l=>match one st l with
  |.int _ n=>some n
  |_=>none
def fw (st:St)(r:List (Nat×Nat×Bool)):List (Nat×Operand)->List Leaf->Option (List Leaf)
 |[],u=>some u
 |(i,x)::y,u=>match r[i]? with
  |some (off,n,agg)=>bif BG (au st x).2.length n&&decide ((au st x).1=bh agg)&&decide (off+n<=u.length) then fw st r y (jF u (au st x).2 off) else none
  |none=>none
def eC (st:St)(e:Ty):Nat->List (Nat×Operand)->Option (cH (List e.den))
  |_,[]=>some ⟨false,[],[],[],[]⟩
  |k,(i,x)::r=>bif BG i k&&decide ((au st x).1=bh e.isAgg) then
      match cg st e (au st x).2,eC st e (k+1) r with
      |some t,some u=>some ⟨t.p||u.p,t.val::u.val,t.frz++u.frz,t.kill++u.kill,[]⟩
      |_,_=>none
    else none
def fH (st:St)(e:Ty):Nat->List Leaf->Option (List e.den)
 |0,_=>some []
 |n+1,r=>match cO st e (r.take e.cells),fH st e n (r.drop e.cells) with
  |some (_,x),some u=>some (x::u)
  |_,_=>none
def sv (st:St)(xs:List Operand):Option (List Nat) :=
 xs.foldl (λ (r:Option (List Nat)) x=>r.bind λl=>match one st x with
  |.bp b 0=>some (l++[b])
  |_=>none) (some [])
def wrU (o:Oper)(st:St)(r:Upd->Option R)(sh:aI)(ls:List Leaf):Option R:=match o.dst with
 |some d=>r (cf st [] d sh ls)
 |none=>none
def cI (h:Option (Nat×Nat))(i:Nat):Option Nat:=match h with
 |some (u,r)=>bif BG u i then some r else none
 |none=>none
def holB (h:Option (Nat×Nat))(i:Nat):Option (Bool×Nat):=match h with
 |some (u,r)=>some (BG u i,r)
 |none=>none
theorem lY (p:Bool)(r j v ep i u:Nat)(h:Option (Nat×Nat))(n:Nat):∀ (a:Ty) (off:Nat) (x:a.den),lz p r j v ep i u (holB h n) a off x=gE p r j v ep i u (cI h n) a off x
 |.int _,_,_|.bool,_,_|.str,_,_|.unit,_,_|.hdr,_,_=>rfl
 |.pair a b,off,x=>by
  show _++_=_++_;rw[lY p r j v ep i u h n a,lY p r j v ep i u h n b]
 |.list m E e,off,H=>by
  simp only[lz,gE];congr 2;cases h with
  |none=>rfl
  |some q =>
   obtain⟨z,I⟩:=q;simp only[holB,cI];by_cases y:BG z n=true
   ·simp only[y,Bool.and_true,cond_true,BN];rw[Bool.eq_iff_iff,Nat.beq_eq,decide_eq_true_eq]
   ·simp only[Cb]at y;simp[y]
def gG (st:St)(r j i off:Nat)(n:Nat)(p:Bool)(E:TypeId)(e:Ty)(xs:List e.den)(h:Option (Nat×Nat))(ls:List Leaf)(M:Upd->Option R):Option R :=
 (idx xs (i:Int)).bind λz =>
  match c9 st off n e 0 z ls with
  |some t=>bif t.rest.isEmpty&&aY t.kill&&dz t.frz t.kill&&!((t.kill++t.frz).any λk=>BG k.1 r) then
    let I:=aD st t.frz;let J:=aN (ac I st) t.kill++I;let u (l:Leaf):Option R:=M ((r,⟨(st r).ver,(st r).sh,aT (st r).ls j l⟩)::(EPO,bU (ac J st EPO))::J)
    match h with
    |none=>u (.own (p||t.p) none E e (xs.set i t.val))
    |some (H,y)=>bif CE off y&&CA y (off+n) then (bif BG i H then u (.own (p||t.p) none E e (xs.set i t.val)) else u (.own (p||t.p) (some (H,y)) E e (xs.set i t.val)))
     else u (.own (p||t.p) (some (H,y)) E e (xs.set i t.val))
   else none
  |none=>none
def sb (r:Nat):Bool:=!BG r TMP&&!BG r EPO
def er (s:ByteArray):List Int:=s.data.toList.map λb=>(b.toNat:Int)
def gH (xs:List Int):ByteArray:=ByteArray.mk (xs.map λn=>UInt8.ofNat n.toNat).toArray
def act (Γ:List Ctr)(T:TypeId->TI)(o:Oper)(st:St)(O:Upd->Option R):Option R :=
 let w (sh:aI) (ls:List Leaf):Option R:=wrU o st O sh ls;let w1 (l:Leaf):Option R:=w .one [l]
 match o.op with
 |.move x=>let v:=au st x;w v.1 v.2
 |.assign x=>match o.dst with
  |some d=>let v:=au st x;bif ic st v.2 then O (cf st (mvU st v.2) d v.1 (dH st v.2)) else none
  |none=>none
 |.pick c a b=>match one st c with
  |.bool t=>bif t then (let v:=au st a;w v.1 v.2) else (let v:=au st b;w v.1 v.2)
  |_=>none
 |.alloc t=>match o.dst with
  |some d=>bif decide ((st (B0+d)).sh=.off)&&!decide ((T t).cells=0) then O ((B0+d,⟨(st (B0+d)).ver+1,.agg,(T t).zero⟩)::cf st [] d .one [.bp (B0+d) 0]) else none
  |none=>none
 |.box t x=>match o.dst with
  |some d=>let v:=au st x
   bif decide ((st (B0+d)).sh=.off)&&decide (v.2.length=(T t).cells)&&decide (v.1=bh (T t).agg)&&ic st v.2 then
    (bif sr st x then O ((B0+d,⟨(st (B0+d)).ver+1,.agg,v.2⟩)::cf st [] d .one [.bp (B0+d) 0])
    else (let U:=mvU st v.2
     O ((B0+d,⟨(ac U st (B0+d)).ver+1,.agg,dH st v.2⟩)::cf st U d .one [.bp (B0+d) 0])))
   else none
  |none=>none
 |.build t H=>match T t with
  |.struct a I=>match fw st I H.toList (eZ a) with
   |some ls=>w .agg ls
   |none=>none
  |.arr e n=>match fw st ((B9 n).map λi=>(i*e.cells,e.cells,e.isAgg)) H.toList (BX n (eZ e)).flatten with
   |some ls=>w .agg ls
   |none=>none
  |_=>none
 |.buildSlice t n H=>match T t with
  |.slice E e _=>match eC st e 0 H.toList with
   |some u=>bif BG u.val.length n&&decide (n*e.cells<=16777216)&&aY u.kill&&dz u.frz u.kill then (match o.dst with
     |some d=>let U:=aD st u.frz;O (cf st (aN (ac U st) u.kill++U) d .one [.own u.p none E e u.val])
     |none=>none) else none
   |none=>none
  |_=>none
 |.load t x =>
  bif decide ((T t).cells=0) then none else
  match one st x with
  |.rp p a y off=>bif decide (off+(T t).cells<=a.cells) then w (bh (T t).agg) (((cG p a y).drop off).take (T t).cells) else none
  |.bp b off=>bif decide ((st b).sh=.agg)&&decide (off+(T t).cells<=(st b).ls.length) then w (bh (T t).agg) (((bF b (st b).ver 0 (st b).ls).drop off).take (T t).cells) else none
  |.rpp p a y=>bif BG (T t).cells 1&&!(T t).agg then w1 (.rp p a y 0) else none
  |.np p Y ep a y off=>bif bq st Y ep&&decide (off+(T t).cells<=a.cells) then w (bh (T t).agg) (((ly p Y ep a y).drop off).take (T t).cells) else none
  |.ep r j v i sz off=>match aC st (.al r j v) with
   |.own p h _ e z=>bif BG sz e.cells&&decide (off+(T t).cells<=e.cells) then (idx z (i:Int)).bind λy=>w (bh (T t).agg) (((lz p r j v (st EPO).ver i sz (holB h i) e 0 y).drop off).take (T t).cells) else none
   |_=>none
  |_=>none
 |.store t x y=>match o.dst with
  |some _=>none
  |none =>
  let v:=(au st y).2
  bif BG v.length (T t).cells&&decide ((au st y).1=bh (T t).agg)&&!decide ((T t).cells=0) then
   match one st x with
   |.bp b off=>bif decide ((st b).sh=.agg)&&decide (off+v.length<=(st b).ls.length)&&ic st v then
     let U:=mvU st v;let c:=ac U st b
     O ((b,⟨c.ver+1,.agg,jF c.ls (dH st v) off⟩)::U)
    else none
   |.ep r j a0 i sz off=>match aC st (.al r j a0) with
    |.own p h E e z=>bif BG sz e.cells&&decide (off+v.length<=e.cells)&&sb r then gG st r j i off v.length p E e z h v O else none
    |_=>none
   |_=>none
  else none
 |.nilCheck x=>match one st x with
  |.rp p a y off=>w1 (.rp p a y off)
  |.bp b off=>w1 (.bp b off)
  |.ep r j v i sz off=>bif BG (st r).ver v then w1 (.ep r j v i sz off) else none
  |.rpp p a y=>w1 (.rpp p a y)
  |.np p Y ep a y off=>bif bq st Y ep then w1 (.np p Y ep a y off) else none
  |_=>none
 |.binOp op t x y _=>match one st x,one st y with
  |.int k a,.int k' b =>
   match op with
   |.shl=>bif decide (b<0) then none else w1 (.int k (k.wrap (a*2 ^ (min b.toNat k.bits))))
   |.shr=>bif decide (b<0) then none else w1 (.int k (a.fdiv (2 ^ (min b.toNat k.bits))))
   |.quo=>bif decide (b=0) then none else bif decide (k=k') then w1 (.int k (k.wrap (a.tdiv b))) else none
   |.rem=>bif decide (b=0) then none else bif decide (k=k') then w1 (.int k (a.tmod b)) else none
   |.and=>bif decide (k=k') then w1 (.int k (k.wrap ((BitVec.ofInt k.bits a &&& BitVec.ofInt k.bits b).toNat))) else none
   |.xor=>bif decide (k=k') then w1 (.int k (k.wrap ((BitVec.ofInt k.bits a ^^^ BitVec.ofInt k.bits b).toNat))) else none
   |_=>bif decide (k=k') then (match su op k a b with|some l=>w1 l|none=>none) else none
  |.bool a,.bool b=>match T t with
   |.bool=>match op with
    |.eql=>w1 (.bool (a==b))
    |.neq=>w1 (.bool (a != b))
    |_=>none
   |_=>none
  |.str a,.str b=>match op with
   |.eql=>w1 (.bool (a.toList==b.toList))
   |.neq=>w1 (.bool (a.toList != b.toList))
   |.add=>bif decide (a.size+b.size<=9223372036854775807) then w1 (.str (a++b)) else none
   |_=>none
  |_,_=>match T t with
   |.struct a _=>bif a.flat&&decide ((au st x).1=.agg)&&decide ((au st y).1=.agg) then
     match cO st a (au st x).2,cO st a (au st y).2 with
     |some (_,u),some (_,v)=>match op with
      |.eql=>w1 (.bool (a.eqv u v))
      |.neq=>w1 (.bool (!a.eqv u v))
      |_=>none
     |_,_=>none
    else none
   |_=>none
 |.unOp op _ x=>match op,one st x with
  |.not,.bool b=>w1 (.bool (!b))
  |.neg,.int k n=>w1 (.int k (k.wrap (0-n)))
  |_,_=>none
 |.convert s t x=>match T s,T t,one st x with
  |.int _,.int k,.int _ n=>w1 (.int k (k.wrap n))
  |.slice _ (.int .u8) _,.str,l=>match dg (.int .u8) (aC st l) with
   |some (_,z)=>w1 (.str (gH z))
   |none=>none
  |.str,.slice E (.int .u8) _,.str s=>w1 (.own false none E (.int .u8) (er s))
  |_,_,_=>none
 |.makeSlice t n c=>match T t,one st n,one st c with
  |.slice E e X,.int _ a,.int _ b =>
   bif decide (0<=a)&&decide (a=b)&&decide (a*X<=ak) then w1 (.own false none E e (BX a.toNat e.zero)) else none
  |_,_,_=>none
 |.slice t x lo hi mx=>match mx,o.dst with
  |none,some d=>match dh st lo 0 with
   |none=>none
   |some i=>match T t,aC st (one st x) with
    |.str,.str s=>(match dh st hi s.size with
     |some h=>bif decide (0<=i)&&decide (i<=h)&&decide (h<=(s.size:Int)) then O (cf st [] d .one [.str (s.extract i.toNat h.toNat)]) else none
     |none=>none)
    |.slice _ M _,.nal p Y ep _ E e z=>(match dh st hi z.length with
     |some h=>bif decide (0<=i)&&decide (i<=h)&&decide (h<=(z.length:Int))&&BG M.cells e.cells then
       O (cf st [] d .one [.nal p Y ep none E e ((z.take h.toNat).drop i.toNat)]) else none
     |none=>none)
    |.slice _ M _,.ro p E e z=>(match dh st hi z.length with
     |some h=>bif decide (0<=i)&&decide (i<=h)&&decide (h<=(z.length:Int))&&BG M.cells e.cells then
       O (cf st [] d .one [.ro p E e ((z.take h.toNat).drop i.toNat)]) else none
     |none=>none)
    |.slice _ M _,.own p none E e z=>(match dh st hi z.length with
     |some h=>bif decide (0<=i)&&decide (i<=h)&&decide (h<=(z.length:Int))&&BG M.cells e.cells then
       (match one st x with
       |.al r j v=>O (cf st [] d .one [.nal p [(r,j,v)] (st EPO).ver none E e ((z.take h.toNat).drop i.toNat)])
       |_=>none) else none
     |none=>none)
    |_,_=>none
  |some m,some d=>match lo,T t,one st x with
   |none,.slice _ M _,.al r j v=>(match aC st (.al r j v) with
    |.own p none E e z=>(match dh st hi z.length,dh st (some m) 0 with
     |some h,some k=>bif hi.isSome&&decide (h=(z.length:Int))&&decide (k=(z.length:Int))&&BG M.cells e.cells then O (cf st (aN st [(r,j)]) d .one [.own p none E e z]) else none
     |_,_=>none)
    |_=>none)
   |_,_,_=>none
  |_,_=>none
 |.fieldAddr t x f=>match T t with
  |.struct _ I=>match I[f]? with
   |some (off,_,_)=>match one st x with
    |.rp p a y o'=>w1 (.rp p a y (o'+off))
    |.bp b o'=>w1 (.bp b (o'+off))
    |.ep r j v i sz o'=>bif BG (st r).ver v then w1 (.ep r j v i sz (o'+off)) else none
    |.np p Y ep a y o'=>bif bq st Y ep then w1 (.np p Y ep a y (o'+off)) else none
    |_=>none
   |none=>none
  |_=>none
 |.field t x f=>match T t with
  |.struct a I=>match I[f]? with
   |some (off,n,agg)=>bif decide ((au st x).1=.agg)&&decide ((au st x).2.length=a.cells) then w (bh agg) (((au st x).2.drop off).take n) else none
   |none=>none
  |_=>none
 |.indexAddr t x i=>match one st i with
  |.int _ n=>match T t with
   |.arr e Z=>match one st x with
    |.bp b off=>bif decide (0<=n)&&decide (n<(Z:Int)) then w1 (.bp b (off+n.toNat*e.cells)) else none
    |_=>none
   |.slice _ e _=>match one st x with
    |.al r j v=>match aC st (.al r j v) with
     |.own _ _ _ M z=>bif BG M.cells e.cells then (idx z n).bind λ_=>w1 (.ep r j v n.toNat M.cells 0) else none
     |_=>none
    |.ro p _ M z=>bif BG M.cells e.cells then (idx z n).bind λy=>w1 (.rp p M y 0) else none
    |.nal p Y ep _ _ M z=>bif BG M.cells e.cells&&bq st Y ep then (idx z n).bind λy=>w1 (.np p Y ep M y 0) else none
    |_=>none
   |_=>none
  |_=>none
 |.index t x i=>match one st i with
  |.int _ n=>match T t with
   |.str=>match one st x with
    |.str s=>(idx s.data.toList n).bind λy=>w1 (.int .u8 y.toNat)
    |_=>none
   |.arr e Z=>bif e.flat&&decide ((au st x).1=.agg)&&BG (au st x).2.length (Z*e.cells)&&!BG e.cells 0 then (match fH st e Z (au st x).2 with
     |some vs=>(idx vs n).bind λy=>w (bh e.isAgg) (cG false e y)
     |none=>none) else none
   |_=>none
  |_=>none
 |.extract x i=>match au st x with
  |(.tup ps,ls)=>match ps[i]? with
   |some (agg,n)=>w (bh agg) ((ls.drop ((ps.take i).foldl (λa b=>a+b.2) 0)).take n)
   |none=>none
  |_=>none
 |.makeFunc (.func f) first J=>bif BG first.size 0 then
   match sv st J.toList with
   |some l=>w1 (.clo f l)
   |none=>none
  else none
 |.call c=>match o.dst with
  |none=>none
  |some d=>match c.callee with
   |.value f =>
    let z:=c.args.toList.map (au st)
    match one st f with
    |.clo g J=>ju Γ st d g (z++J.map λb=>(.one,[.bp b 0])) O
    |.clr g J=>ju Γ st d g (z++J.map λc=>(.one,[eT c])) O
    |.fn As B φ=>bif B.flat then match iN st As z with
      |some x=>(φ x).bind λy=>w (bh B.isAgg) (aq false B y)
      |none=>none
     else none
    |_=>none
   |.builtin .len=>match c.args.toList with
    |[x]=>match c.argTypes.toList with
     |[t]=>match T t,aC st (one st x) with
      |.slice _ _ _,l=>(match f9 l with
       |some n=>w1 (.int .i64 n)
       |none=>none)
      |.str,.str s=>w1 (.int .i64 s.size)
      |_,_=>none
     |_=>none
    |_=>none
   |.builtin .append=>match c.args.toList,c.argTypes.toList with
    |[x,y],[t,u]=>match T t with
     |.slice E e X=>bif BG t u then iw st d E e X (one st x) (one st y) O else none
     |_=>none
    |_,_=>none
   |.builtin .min=>match c.args.toList with
    |[x,y]=>match one st x,one st y with
     |.int k a,.int _ b=>w1 (.int k (bif decide (b<a) then b else a))
     |_,_=>none
    |_=>none
   |.builtin .max=>match c.args.toList with
    |[x,y]=>match one st x,one st y with
     |.int k a,.int _ b=>w1 (.int k (bif decide (a<b) then b else a))
     |_,_=>none
    |_=>none
   |_=>none
 |_=>none
def az:List Leaf->List Nat
 |[]=>[]
 |.al r _ _::u=>r::az u
 |.ep r _ _ _ _ _::u=>EPO::r::az u
 |.nal _ z _ _ _ _ _::u=>EPO::z.map (·.1)++az u
 |.np _ z _ _ _ _::u=>EPO::z.map (·.1)++az u
 |.bp b _::u=>b::az u
 |.clo _ y::u=>y++az u
 |_::u=>az u
def iy (xs:List Operand):List Nat :=
 match xs with
 |[]=>[]
 |.tmp t::xs=>t::iy xs
 |_::xs=>iy xs
def kO (st:St)(r:List Nat):List Nat :=
 let a:=r.flatMap λt=>az (st t).ls
 let b:=a.flatMap λt=>az (st t).ls
 let c:=b.flatMap λt=>az (st t).ls
 r++a++b++c
def cm (st:St)(u:Op):List Nat :=
 let r:=iy u.operands.toList
 match u with
 |.move _|.pick _ _ _|.build _ _|.field _ _ _|.extract _ _|.makeFunc _ _ _|.unOp _ _ _|.makeSlice _ _ _|.alloc _=>r
 |.slice _ _ _ _ _=>EPO::(r++r.flatMap λt=>aw (st t).ls)
 |.assign _|.box _ _|.buildSlice _ _ _|.indexAddr _ _ _|.nilCheck _|.fieldAddr _ _ _|.convert _ _ _|.binOp _ _ _ _ _|.index _ _ _=>r++r.flatMap λt=>aw (st t).ls
 |.load _ _|.store _ _ _=>r++r.flatMap λt=>az (st t).ls
 |.call c=>match c.callee with
  |.builtin _=>TMP::(r++r.flatMap λt=>aw (st t).ls)
  |_=>TMP::EPO::kO st r
 |_=>kO st r
def zF (o:Oper):List Nat:=match o.dst with
 |some d=>[d,B0+d]
 |none=>[]
def e8 (st:St)(u:Op):List Nat :=
 let r:=iy u.operands.toList
 match u with
 |.move _=>r
 |.indexAddr _ _ _=>r++r.flatMap λt=>aw (st t).ls
 |_=>[]
def fy (st:St)(o:Oper):List Nat:=(match o.op with|.move _|.indexAddr _ _ _=>[]|op=>cm st op)++zF o
def d4 (st:St)(o:Oper):List Nat:=match o.op with
 |.store _ x _=>match one st x with
  |.ep r _ _ _ _ _=>[r]
  |_=>[]
 |_=>[]
structure cJ where
 rd:List Nat
 hd:List Nat
 wr:List Nat
 cw:List Nat
def lZ (a b:List Nat):Bool:=a.any λx=>b.any λy=>BG x y
def cJ.apart (x y:cJ):Bool:=!lZ (x.wr++x.cw) (y.wr++y.cw)&&!lZ (x.wr++x.cw) y.rd&&!lZ x.rd (y.wr++y.cw)&&!lZ x.wr y.hd&&!lZ x.hd y.wr
def jR:List Oper->List Nat->List Nat
 |[],r=>r
 |o::u,r=>jR u (r++[o.after.toList.foldl (λs e=>bif Region.binds .any e then s ||| 2 ^ e.on ||| r.getD e.on 0 else s) 0])
def pz (r:List Nat)(u:List cJ):Bool :=
 (B9 u.length).all λj=>(B9 j).all λi =>
  (r.getD j 0).testBit i||(match u[i]?,u[j]? with
   |some x,some y=>x.apart y
   |_,_=>false)
def lit (st:St)(t:Nat)(b:Bool):St:=ac [(t,⟨(st t).ver,.one,[.bool b]⟩)] st
def eO (st:St)(o:Oper):Upd :=
 match o.dst with
 |some d=>[(d,⟨(st d).ver+1,.und,[]⟩)]
 |none=>[]
def opK (Γ:List Ctr)(T:TypeId->TI)(z:Array Oper)(o:Oper)(st:St)(H:St->cJ->Option R):Option R :=
 let y (st:St) (r:List Nat):Option R:=act Γ T o st (λU=>H (ac U st) ⟨r++fy st o,e8 st o.op,(U.map (·.1)).filter (λq=>!((d4 st o).any (BG q))),d4 st o⟩);let no (st:St) (r:List Nat):Option R:=H (ac (eO st o) st) ⟨r,[],o.dst.toList,[]⟩
 match o.guard with
 |none=>y st []
 |some (j,u)=>match (z[j]?).bind (·.dst) with
  |some t=>match (st t).sh,(st t).ls with
   |.one,[.bool b]=>bif b then (bif u then y (lit st t true) [t] else no (lit st t true) [t]) else (bif u then no (lit st t false) [t] else y (lit st t false) [t])
   |.und,_=>no st [t]
   |_,_=>none
  |none=>none
def qo (Γ:List Ctr)(T:TypeId->TI)(r:Array Oper):List Oper->St->List cJ->(St->List cJ->Option R)->Option R
 |[],I,y,z=>z I y
 |o::u,I,y,z=>opK Γ T r o I (λH t=>qo Γ T r u H (y++[t]) z)
def nL (ops:Array Oper):Bool:=(B9 ops.size).all λi=>match ops[i]? with
 |some o=>o.after.toList.all λe=>!Region.binds .any e||decide (e.on<i)
 |none=>true
def regK (Γ:List Ctr)(T:TypeId->TI)(ops:Array Oper)(u:Bool)(st:St)(y:St->Option R):Option R :=
 bif u then
  qo Γ T ops ops.toList st [] (λr z=>bif nL ops&&pz (jR ops.toList []) z then y r else none)
 else qo Γ T ops ops.toList st [] (λr _=>y r)
inductive Ex where
 |normal|exit (id:Nat)|ret
def oN (y:St->(Ex->St->Option R)->Option R)(u:Ex->St->Option R):Ex->St->Option R
 |.normal,r=>y r u
 |e,r=>u e r
def sw (id:Nat)(y:Ex->St->Option R):Ex->St->Option R
 |.exit r,u=>bif BG r id then y .normal u else y (.exit r) u
 |e,u=>y e u
def av (L:List (Nat×bQ)):St:=λq=>ac L (λ_=>bQ.none) q
inductive Coe where
 |keep|kill
 |own (p:Bool) (E:TypeId) (e:Ty)|ro (p:Bool) (E:TypeId) (e:Ty)|rp (p:Bool)
def bw (st:St)(live:List Nat):Coe->Leaf->Leaf
 |.kill,_=>.dead
 |.own p E e,.nil=>.own p none E e []
 |.own p _ _,.own q none E e y=>bif !q||p then .own p none E e y else .dead
 |.ro p E e,.nil=>.ro p E e []
 |.ro p E e,.ro q _ H y=>bif !q||p then (match castSh e H y with | some z=>.ro p E e z | none=>.dead) else .dead
 |.ro p E e,.own q none _ H y=>bif !q||p then (match castSh e H y with | some z=>.ro p E e z | none=>.dead) else .dead
 |.rp p,.rpp q a x=>bif !q||p then .rpp p a x else .dead
 |.rp p,.rp q a x off=>bif !q||p then .rp p a x off else .dead
 |.keep,.int k n=>.int k n
 |.keep,.bool b=>.bool b
 |.keep,.str s=>.str s
 |.keep,.nil=>.nil
 |.keep,.hdr n=>.hdr n
 |.keep,.fn I B J=>.fn I B J
 |.keep,.clr f M=>.clr f M
 |.keep,.bp b off=>bif live.any (BG b) then .bp b off else .dead
 |.keep,.clo f u=>bif u.all (λb=>live.any (BG b)) then .clo f u else .dead
 |.keep,.al r j v=>bif live.any (BG r)&&BG (st r).ver v then .al r j 0 else .dead
 |_,_=>.dead
def cZ (st:St)(live:List Nat):List Coe->List Leaf->List Leaf
 |c::u,l::r=>bw st live c l::cZ st live u r
 |[],_::r=>.dead::cZ st live [] r
 |_,[]=>[]
def l6 (live:List (Nat×List Coe))(st:St):St:=av (live.map λr=>(r.1,⟨0,(st r.1).sh,cZ st (live.map (·.1)) r.2 (st r.1).ls⟩))
def hY (live:List (Nat×List Coe))(rec:St->Option R)(u:Ex->St->Option R):Ex->St->Option R
 |.normal,r=>rec (l6 live r)
 |e,r=>u e r
def aX (live:List (Nat×List Coe))(y:St->(Ex->St->Option R)->Option R):Nat->St->(Ex->St->Option R)->Option R
 |0,_,_=>none
 |k+1,z,u=>y z (hY live (λr=>aX live y k r u) u)
def eV:Code->Nat
 |.region id _ _=>id+1
 |.seq a b=>match eV a with
  |0=>eV b
  |n=>n
 |.cond _ a b=>match eV a with
  |0=>eV b
  |n=>n
 |.block _ c=>eV c
 |.loop c=>eV c
 |.scope c=>eV c
 |_=>0
def lC (L:List (Nat×List (Nat×List Coe)))(k:Nat):List (Nat×List Coe):=match L with
 |[]=>[]
 |(n,l)::r=>bif BG n k then l else lC r k
def zG (st:St)(c:Operand)(r no:St->Option R):Option R :=
 match c with
 |.tmp t=>match (st t).sh,(st t).ls with
  |.one,[.bool b]=>bif b then r (lit st t true) else no (lit st t false)
  |_,_=>none
 |.const (.bool b)=>bif b then r st else no st
 |_=>none
def evK (Γ:List Ctr)(T:TypeId->TI)(L:List (Nat×List (Nat×List Coe)))(r:Nat):Code->St->(Ex->St->Option R)->Option R
 |.skip,u,z=>z .normal u
 |.region _ I H,u,z=>regK Γ T I H u (z .normal)
 |.seq a b,u,z=>evK Γ T L r a u (oN (evK Γ T L r b) z)
 |.cond c x y,u,z=>zG u c (λu=>evK Γ T L r x u z) (λu=>evK Γ T L r y u z)
 |.block id c,u,z=>evK Γ T L r c u (sw id z)
 |.loop c,u,z=>aX (lC L (eV c)) (evK Γ T L r c) r (l6 (lC L (eV c)) u) z
 |.exit id,u,z=>z (.exit id) u
 |.ret,u,z=>z .ret u
 |_,_,_=>none
def sub:Code->List Nat->Code
 |.seq a _,0::p=>sub a p
 |.seq _ b,1::p=>sub b p
 |.cond _ x _,0::p=>sub x p
 |.cond _ _ y,1::p=>sub y p
 |.block _ c,0::p=>sub c p
 |.loop c,0::p=>sub c p
 |c,_=>c
def kAt (u:Code->St->(Ex->St->Option R)->Option R):Code->List Nat->(Ex->St->Option R)->Ex->St->Option R
 |.seq a b,0::p,r=>kAt u a p (oN (u b) r)
 |.seq _ b,1::p,r=>kAt u b p r
 |.cond _ x _,0::p,r=>kAt u x p r
 |.cond _ _ y,1::p,r=>kAt u y p r
 |.block id c,0::p,r=>kAt u c p (sw id r)
 |_,_,r=>r
def cK (fn:Func):Code:=match fn.body with
 |some c=>c
 |none=>.skip
def ae {A:Type}(step:(A->Option R)->A->Option R):Nat->A->Option R
 |0,_=>none
 |k+1,a=>step (ae step k) a
theorem la {A:Type}(live:List (Nat×List Coe))(u:St->(Ex->St->Option R)->Option R)(r:Ex->St->Option R)(S:A->St)
  (step:(A->Option R)->A->Option R) (h:∀ (rec:St->Option R) (a:A),u (S a) (hY live rec r)=step (λa=>rec (S a)) a) :
  ∀ (k:Nat) (a:A),aX live u k (S a) r=ae step k a
 |0,_=>rfl
 |k+1,a=>by
  have y:=la live u r S step h k;simp only[aX,ae];rw[h];exact congrArg (λg=>step g a) (funext y)
abbrev wr (k:IntKind)(n:Int):Int:=k.wrap n
def aP (k:IntKind)(a b:Int):Int:=k.wrap ((BitVec.ofInt k.bits a &&& BitVec.ofInt k.bits b).toNat)
def qp (k:IntKind)(a b:Int):Int:=k.wrap ((BitVec.ofInt k.bits a ^^^ BitVec.ofInt k.bits b).toNat)
def j9 (p:Bool):(cs:List (Bool×Ty))->lV cs->List (Bool×Bool×(a:Ty)×a.den)
 |[],_=>[]
 |c::cs,x=>(p,c.1,⟨c.2,x.1⟩)::j9 p cs x.2
def uM (i off:Nat):Leaf->Leaf
 |.own p _ E e r=>.own p (some (i,off)) E e r
 |l=>l
def c5 (t:Nat):(ps:List PK)->ab ps->Upd
 |[],_=>[]
 |.rd a::ps,x=>(t,⟨0,bh a.isAgg,cG true a x.1⟩)::c5 (t+1) ps x.2
 |.own a::ps,x=>(t,⟨0,bh a.isAgg,aq true a x.1⟩)::c5 (t+1) ps x.2
 |.io a::ps,x=>(t,⟨7,bh a.isAgg,aq true a x.1⟩)::c5 (t+1) ps x.2
 |.rref a::ps,x=>(t,⟨0,.one,[.rp true a x.1 0]⟩)::c5 (t+1) ps x.2
 |.rref2 a::ps,x=>(t,⟨0,.one,[.rpp true a x.1]⟩)::c5 (t+1) ps x.2
 |.iop a::ps,x=>(t,⟨0,.one,[.bp (B0+t) 0]⟩)::(B0+t,⟨0,.agg,aq true a x.1⟩)::c5 (t+1) ps x.2
 |.fn r B::ps,x=>(t,⟨0,.one,[.fn r B x.1]⟩)::c5 (t+1) ps x.2
 |.clo f u::ps,x=>(t,⟨0,.one,[.clr f (j9 true u x.1)]⟩)::c5 (t+1) ps x.2
 |.hol a c off::ps,x=>(t,⟨0,bh a.isAgg,aT (aq true a x.1.1) c (uM x.1.2 off ((aq true a x.1.1).getD c .dead))⟩)::c5 (t+1) ps x.2
def ig (st:St)(t:Nat):(ps:List PK)->Option (cH (ah ps))
 |[]=>some ⟨false,(),[],[],[]⟩
 |.io a::ps=>match (bif decide ((au st (.tmp t)).1=bh a.isAgg) then cg st a (au st (.tmp t)).2 else none),ig st (t+1) ps with
  |some x,some y=>some ⟨x.p||y.p,(x.val,y.val),x.frz++y.frz,x.kill++y.kill,[]⟩
  |_,_=>none
 |.iop a::ps=>match cg st a (bF (B0+t) (st (B0+t)).ver 0 (st (B0+t)).ls),ig st (t+1) ps with
  |some x,some y=>some ⟨x.p||y.p,(x.val,y.val),x.frz++y.frz,x.kill++y.kill,[]⟩
  |_,_=>none
 |.rd _::ps=>ig st (t+1) ps
 |.own _::ps=>ig st (t+1) ps
 |.rref _::ps=>ig st (t+1) ps
 |.rref2 _::ps=>ig st (t+1) ps
 |.fn _ _::ps=>ig st (t+1) ps
 |.clo _ _::ps=>ig st (t+1) ps
 |.hol _ _ _::ps=>ig st (t+1) ps
def vB (st:St)(T:TypeId->TI):ResultVar->List Leaf
 |.tmp t=>(au st (.tmp t)).2
 |.cell t r=>match one st (.tmp t) with
  |.bp b off=>((bF b (st b).ver 0 (st b).ls).drop off).take (T r).cells
  |_=>[]
def pA (st:St)(T:TypeId->TI):ResultVar->aI
 |.tmp t=>(au st (.tmp t)).1
 |.cell t r=>match one st (.tmp t) with
  |.bp b off=>bif decide ((st b).sh=.agg)&&CE (off+(T r).cells) (st b).ls.length&&!BG (T r).cells 0 then bh (T r).agg else .off
  |_=>.off
def RK.sh:RK->aI
 |.v a=>bh a.isAgg
 |.bv a=>bh a.isAgg
 |.box _=>.one
def bG (t:Nat):List PK->List Nat
 |[]=>[]
 |.iop _::r=>(B0+t)::bG (t+1) r
 |_::r=>bG (t+1) r
def gj (t:Nat):List PK->List Nat
 |[]=>[]
 |.io _::r=>t::gj (t+1) r
 |.iop _::r=>t::gj (t+1) r
 |_::r=>gj (t+1) r
def sd (st:St)(z:List Nat):(r:RK)->List Leaf->Option (cH r.den)
 |.v a,u=>cg st a u
 |.bv a,u=>(cO st a u).map λy=>⟨false,y.2,bz st u,[],[]⟩
 |.box a,u=>match u with
  |[.bp b 0]=>bif !(z.any (BG b)) then cg st a (bF b (st b).ver 0 (st b).ls) else none
  |_=>none
def kq (st:St)(T:TypeId->TI)(H:List Nat):(u:List RK)->List ResultVar->Option (cH (ai u))
 |[],[]=>some ⟨false,(),[],[],[]⟩
 |r::u,x::I=>bif decide (pA st T x=r.sh) then match sd st H r (vB st T x),kq st T H u I with
  |some y,some z=>some ⟨y.p||z.p,(y.val,z.val),y.frz++z.frz,y.kill++z.kill,[]⟩
  |_,_=>none else none
 |_,_=>none
def finR (T:TypeId->TI)(ps:List PK)(z:List RK)(r:Bool)(u:List ResultVar)(st:St):Option (ai z×ah ps) :=
 match kq st T (bG 0 ps) z u,ig st 0 ps with
 |some y,some o=>bif aY (y.kill++o.kill)&&dz (y.frz++o.frz) (y.kill++o.kill)&&(!r||!(y.p||o.p)) then some (y.val,o.val) else none
 |_,_=>none
def cY (T:TypeId->TI)(ps:List PK)(y:List RK)(r:Bool)(u:List ResultVar):Ex->St->Option (ai y×ah ps)
 |.exit _,_=>none
 |_,z=>finR T ps y r u z
def lD (nt:Nat)(fix:List Nat)(r:Array Oper)(o:Oper):Bool :=
 (match o.dst with
  |some d=>CA d nt&&!(fix.any (BG d))
  |none=>true) &&
 (match o.guard with
  |some (j,_)=>match (r[j]?).bind (·.dst) with
   |some s=>CA s nt
   |none=>true
  |none=>true)
def wN (nt:Nat):Operand->Bool
 |.tmp t=>CA t nt
 |_=>true
def dP (nt:Nat)(fix:List Nat):Code->Bool
 |.region _ r _=>r.toList.all (lD nt fix r)
 |.seq a b=>dP nt fix a&&dP nt fix b
 |.cond c a b=>wN nt c&&dP nt fix a&&dP nt fix b
 |.block _ c=>dP nt fix c
 |.loop c=>dP nt fix c
 |_=>true
def qq:List RK->Bool
 |[.box _]=>true
 |rs=>rs.all RK.isV
def dl (L:List (Nat×List (Nat×List Coe)))(u:List Nat):Code->Bool
 |.seq a b=>dl L u a&&dl L u b
 |.cond _ a b=>dl L u a&&dl L u b
 |.block _ c=>dl L u c
 |.loop c=>(u.all λb=>(lC L (eV c)).any λr=>BG r.1 b)&&dl L u c
 |_=>true
def evF (Γ:List Ctr)(T:TypeId->TI)(L:List (Nat×List (Nat×List Coe)))(u:Nat)(fn:Func)(ps:List PK)(y:List RK)(r:Bool)(x:ab ps):Option (ai y×ah ps) :=
 match fn.body with
 |some c=>bif dP fn.ntmps (gj 0 ps) c&&CE ps.length fn.ntmps&&CE fn.ntmps GH&&qq y&&dl L (bG 0 ps) c then
  evK Γ T L u c (av (c5 0 ps x)) (cY T ps y r fn.results.toList) else none
 |none=>none
end
def e9 (e:Ty)(r:Nat)(xs:List e.den):Option ((List e.den×Unit)×Unit):=bif decide ((0+xs.length)*r<=ak) then some ((xs,()),()) else none
theorem ka (e:Ty)(r:Nat):e9 e r []=some (([],()),()):=by
 unfold e9;simp[ak]
def jS:Code->Nat->Oper
 |.region _ r _,i=>(r[i]?).getD ⟨none,.move (.tmp 0),0,"",#[],none⟩
 |_,_=>⟨none,.move (.tmp 0),0,"",#[],none⟩
def iz (e:Ty)(r:Nat)(xs:List e.den)(i:Int)(u:List e.den):Option ((List e.den×Unit)×Unit) :=
 if 0<=i/\i<=(xs.length:Int)/\0<u.length/\(xs.length+u.length)*r<=ak then some ((xs.take i.toNat++u++xs.drop i.toNat,()),()) else none
def l7 {α:Type}(r:α×Unit->Option Bool):List α->Option (List α)
 |[]=>some []
 |x::y=>(r (x,())).bind λb=>(l7 r y).map λu=>bif b then u else x::u
def gI (e:Ty)(xs:List e.den)(u:e.den×Unit->Option Bool):Option ((List e.den×Unit)×Unit):=if xs.length<=1048576 then (l7 u xs).map λr=>((r,()),()) else none
abbrev Ty.hd:Ty->Ty
 |.pair a b=>.pair a.hd b.hd
 |.list _ _ _=>.hdr
 |a=>a
abbrev hdD:(a:Ty)->a.den->a.hd.den
 |.pair a b,x=>(hdD a x.1,hdD b x.2)
 |.list _ _ e,r=>List.length (α:=e.den) r
 |.int _,x=>x
 |.bool,x=>x
 |.str,x=>x
 |.unit,x=>x
 |.hdr,x=>x
noncomputable def qr (e:Ty)(r:Nat)(xs:List e.den):Option ((List e.hd.den×Unit)×Unit):=(e9 e r xs).map λy=>((y.1.1.map (hdD e),()),())
def insI (n:Int):List Int->List Int
 |[]=>[n]
 |m::r=>if n<=m then n::m::r else m::insI n r
def zH:List Int->List Int
 |[]=>[]
 |n::r=>insI n (zH r)
def medianM (xs:List Int):Option ((Int×Unit)×Unit) :=
 let l:=zH (xs.drop (xs.length-3))
 some ((l.getD ((l.length-1) / 2) 0,()),())
def aV {R:Type}(x y:ByteArray)(k:ByteArray->Option R):Option R:=bif decide (x.size+y.size<=9223372036854775807) then k (x++y) else none
open Go.RowKit
def cV (w:World)(g off:Nat)(cs:List Value):Prop:=∀ i v,cs[i]?=some v->w.cell? ⟨g,off+i,none⟩=some v
theorem cV.same {w w':World}{g off:Nat}{cs:List Value}(h:cV w g off cs)(r:w'.heap[g]?=w.heap[g]?):cV w' g off cs:=by
 intro i v u;have:=h i v u;simpa[Cl,r]using this
def Rd (w:World)(G:Nat->Prop):(a:Ty)->a.den->List Value->Prop
 |.int k,n,r=>r=[.int k n]
 |.bool,b,r=>r=[.bool b]
 |.str,s,r=>r=[.string s]
 |.unit,_,r=>r=[]
 |.hdr,n,r=>∃ A u,r=[.slice A n u]
 |.pair a b,x,r=>∃ z H,r=z++H/\Rd w G a x.1 z/\Rd w G b x.2 H
 |.list _ _ e,y,r=>∃ A u,r=[.slice A y.length u]/\y.length<=u /\
  (0<y.length->∃ g o,A=some ⟨g,o,none⟩/\G g/\∀ j (x:e.den),y[j]?=some x->∃ c,Rd w G e x c/\cV w g (o+j*e.cells) c)
theorem Rd.carry {w w':World}{G G':Nat->Prop}(u:∀ k,G k->G' k)(r:∀ k,G k->w'.heap[k]?=w.heap[k]?) :
  ∀ {a:Ty} {x:a.den} {cs:List Value},Rd w G a x cs->Rd w' G' a x cs
 |.int _,_,_,h=>h
 |.bool,_,_,h=>h
 |.str,_,_,h=>h
 |.unit,_,_,h=>h
 |.hdr,_,_,h=>h
 |.pair _ _,_,_,⟨J,Y,e,Z,O⟩=>⟨J,Y,e,Rd.carry u r Z,Rd.carry u r O⟩
 |.list _ _ _,_,_,⟨A,z,e,hc,h⟩=>⟨A,z,e,hc,λM=>by
   obtain⟨g,o,I,H,hx⟩:=h M;exact⟨g,o,I,u g H,λj x X=>by
    obtain⟨c,R,y⟩:=hx j x X;exact⟨c,Rd.carry u r R,y.same (r g H)⟩⟩⟩
theorem Rd.mono {w:World}{G G':Nat->Prop}(r:∀ k,G k->G' k){a:Ty}{x:a.den}{cs:List Value}(h:Rd w G a x cs):Rd w G' a x cs :=
 Rd.carry r (λ_ _=>rfl) h
theorem Rd.len {w:World}{G:Nat->Prop}:∀ {a:Ty} {x:a.den} {cs:List Value},Rd w G a x cs->cs.length=a.cells
 |.int _,_,_,h=>by rw[show _=_ from h];rfl
 |.bool,_,_,h=>by rw[show _=_ from h];rfl
 |.str,_,_,h=>by rw[show _=_ from h];rfl
 |.unit,_,_,h=>by rw[show _=_ from h];rfl
 |.hdr,_,_,⟨A,r,e⟩=>by rw[e];rfl
 |.pair _ _,_,_,⟨z,H,e,y,u⟩=>by rw[e,CT,Rd.len y,Rd.len u];rfl
 |.list _ _ _,_,_,⟨A,r,e,_,_⟩=>by rw[e];rfl
theorem Rd.one {w:World}{G:Nat->Prop}:∀ {a:Ty} {x:a.den} {cs:List Value},Rd w G a x cs->∀ v∈cs,v.oneCell'=true
 |.int _,_,_,h=>by rw[show _=_ from h];simp[BQ]
 |.bool,_,_,h=>by rw[show _=_ from h];simp[BQ]
 |.str,_,_,h=>by rw[show _=_ from h];simp[BQ]
 |.unit,_,_,h=>by rw[show _=_ from h];simp
 |.hdr,_,_,⟨A,u,e⟩=>by rw[e];simp[BQ]
 |.pair _ _,_,_,⟨H,I,e,z,y⟩=>by
  rw[e];intro v r;rcases BT.1 r with r|r
  ·exact Rd.one z v r
  ·exact Rd.one y v r
 |.list _ _ _,_,_,⟨A,u,e,_,_⟩=>by rw[e];simp[BQ]
theorem Rd.flat {w w':World}{G G':Nat->Prop}:∀ {a:Ty} {x:a.den} {cs:List Value},a.flat=true->Rd w G a x cs->Rd w' G' a x cs
 |.int _,_,_,_,h=>h
 |.bool,_,_,_,h=>h
 |.str,_,_,_,h=>h
 |.unit,_,_,_,h=>h
 |.hdr,_,_,_,h=>h
 |.pair _ _,_,_,r,⟨y,z,e,H,u⟩=>by
  simp only[Ty.flat,BJ]at r;exact⟨y,z,e,Rd.flat r.1 H,Rd.flat r.2 u⟩
theorem ii:∀ {a b:Ty},a.sh=b.sh->a.cells=b.cells
 |.pair a b,.pair c d,h=>by
  simp only[Ty.sh,Ty.pair.injEq]at h;simp only[Ty.cells,ii h.1,ii h.2]
 |.int _,.int _,_|.int _,.bool,_|.int _,.str,_|.int _,.hdr,_|.int _,.list _ _ _,_=>rfl
 |.bool,.int _,_|.bool,.bool,_|.bool,.str,_|.bool,.hdr,_|.bool,.list _ _ _,_=>rfl
 |.str,.int _,_|.str,.bool,_|.str,.str,_|.str,.hdr,_|.str,.list _ _ _,_=>rfl
 |.hdr,.int _,_|.hdr,.bool,_|.hdr,.str,_|.hdr,.hdr,_|.hdr,.list _ _ _,_=>rfl
 |.list _ _ _,.int _,_|.list _ _ _,.bool,_|.list _ _ _,.str,_|.list _ _ _,.hdr,_|.list _ _ _,.list _ _ _,_=>rfl
 |.unit,.unit,_=>rfl
theorem sx {A r B u:Type}(H:A=r)(z:B=u){x:A×B}{y:r×u}(h:HEq x y):HEq x.1 y.1/\HEq x.2 y.2:=by
 subst H;subst z;cases h;exact⟨HEq.rfl,HEq.rfl⟩
theorem sy {A r:Type}(H:A=r){xs:List A}{u:List r}(h:HEq xs u):xs.length=u.length/\∀ (j:Nat) (y:r),u[j]?=some y->∃ x:A,xs[j]?=some x/\HEq x y:=by
 subst H;cases h;exact⟨rfl,λj y z=>⟨y,z,HEq.rfl⟩⟩
theorem Rd.flags {w:World}{G:Nat->Prop}:∀ {a b:Ty} {x:a.den} {y:b.den} {cs:List Value},a.sh=b.sh->HEq x y->Rd w G a x cs->Rd w G b y cs
 |.pair a b,.pair c d,x,y,cs,h,r,⟨R,c2,e,u,I⟩=>by
  simp only[Ty.sh,Ty.pair.injEq]at h;obtain⟨H,z⟩:=sx (jE h.1) (jE h.2) r;exact⟨R,c2,e,Rd.flags h.1 H u,Rd.flags h.2 z I⟩
 |.list _ _ e,.list _ _ e',xs,ys,cs,h,r,⟨A,J,u,I,H⟩=>by
  simp only[Ty.sh,Ty.list.injEq,true_and]at h;obtain⟨z,h5⟩:=sy (jE h.2) r;refine⟨A,J,by rw[<- z];exact u,by rw[<- z];exact I,λX=>?_⟩;obtain⟨g,o,M,O,hx⟩:=H (by rw[z];exact X);refine⟨g,o,M,O,λj y hj=>?_⟩;obtain⟨x,h6,Y⟩:=h5 j y hj;obtain⟨c,Z,h9⟩:=hx j x h6;rw[<- ii h.2];exact⟨c,Rd.flags h.2 Y Z,h9⟩
 |.int k,.int k',x,y,cs,h,r,u=>by
  simp only[Ty.sh]at h
  grind
 |.bool,.bool,x,y,cs,h,r,u=>by cases r;exact u
 |.str,.str,x,y,cs,h,r,u=>by cases r;exact u
 |.unit,.unit,x,y,cs,h,r,u=>u
 |.hdr,.hdr,x,y,cs,h,r,u=>by cases r;exact u
def Row (w:World)(E:TypeId)(s:Nat)(v:Value)(n:Nat)(flat:List Value):Prop :=
 flat.length=n*s/\((v=.slice none 0 0/\n=0) \/
  ∃ g u r mk,v=.slice (some ⟨g,0,none⟩) n u/\w.heap[g]?=some (.cells r E mk)/\n<=u/\(mk=(0,0)/\u<=maxLen\/s=1/\r.size<=mk.1)/\u*s<=r.size/\r.toList.take (n*s)=flat)
theorem Row.of {w:World}{b:Nat}{E:TypeId}{s n:Nat}{v:Value}{flat:List Value}(h:w.ownsRow b E s v n flat):Row w E s v n flat:=by
 refine⟨h.1,h.2.imp id ?_⟩
 grind
theorem Row.same {w w':World}{E:TypeId}{s n:Nat}{v:Value}{flat:List Value}(h:Row w E s v n flat)(H:∀ k∈v.ownBlock.toList,w'.heap[k]?=w.heap[k]?):Row w' E s v n flat:=by
 refine⟨h.1,?_⟩;rcases h.2 with I|⟨g,y,u,mk,rfl,z,r⟩
 ·grind
 ·exact .inr ⟨g,y,u,mk,rfl,by rw[H g (by simp[B7])];exact z,r⟩
theorem Row.lt {w:World}{E:TypeId}{s n:Nat}{v:Value}{flat:List Value}(h:Row w E s v n flat):∀ k∈v.ownBlock.toList,k<w.heap.size:=by
 intro k r;rcases h.2 with ⟨rfl,_⟩|⟨g,y,u,_,rfl,z,_⟩
 ·simp[B7]at r
 ·simp[B7]at r
  grind
theorem Row.slice {w:World}{E:TypeId}{s n:Nat}{v:Value}{flat:List Value}(h:Row w E s v n flat):∃ A r,v=.slice A n r/\n<=r:=by
 rcases h.2 with ⟨rfl,z⟩|⟨g,r,u,_,rfl,_,y,_⟩
 ·grind
 ·grind
theorem Row.nil (w:World)(E:TypeId)(s:Nat):Row w E s (.slice none 0 0) 0 []:=⟨by simp,.inl ⟨rfl,rfl⟩⟩
theorem Row.cellAt {w:World}{E:TypeId}{s n g y:Nat}{flat:List Value}(h:Row w E s (.slice (some ⟨g,0,none⟩) n y) n flat)(j:Nat)(J:j<n*s):w.cell? ⟨g,j,none⟩=flat[j]?:=by
 rcases h.2 with ⟨z,_⟩|⟨M,H,u,mk,z,I,_,_,_,r⟩
 ·grind
 ·simp at z;obtain⟨rfl,rfl⟩:=z;rw[cell_of_row w g j u E mk I,<- r,BV,if_pos J];simp
theorem zI {mk:Nat×Nat}{s z c:Nat}(h:mk=(0,0)/\c<=maxLen\/s=1/\z<=mk.1):mk.2=0\/z<=mk.1:=h.imp (λh=>by rw[h.1]) (·.2)
theorem qZ {w:World}{g j:Nat}{cs:Array Value}{E:TypeId}{mk:Nat×Nat}(r:w.heap[g]?=some (.cells cs E mk))(u:mk.2=0\/cs.size<=mk.1)(y:j<cs.size):w.frozen? ⟨g,j,none⟩=false:=by
 simp only[World.frozen?,r,Bool.and_eq_false_iff,decide_eq_false_iff_not];omega
def Mx (w:World)(G:Nat->Prop):(a:Ty)->Option Nat->Nat->a.den->List Value->List Nat->Prop
 |.int k,_,_,n,y,r=>y=[.int k n]/\r=[]
 |.bool,_,_,b,y,r=>y=[.bool b]/\r=[]
 |.str,_,_,s,y,r=>y=[.string s]/\r=[]
 |.unit,_,_,_,y,r=>y=[]/\r=[]
 |.hdr,_,_,n,y,r=>(∃ A J,y=[.slice A n J])/\r=[]
 |.pair a b,h,pos,x,y,r=>∃ O X R M,y=O++X/\r=R++M/\Mx w G a h pos x.1 O R/\Mx w G b h (pos+a.cells) x.2 X M
 |.list m E e,h,pos,I,y,r=>∃ v,y=[v]/\v.oneCell'=true /\
  (if m=true then (if h=some pos then r=[] else ∃ z H,Row w E e.cells v I.length z/\r=v.ownBlock.toList++(B9 I.length).flatMap H /\
    ∀ j (x:e.den),I[j]?=some x->∃ c,Mx w G e none 0 x c (H j)/\∀ i u,c[i]?=some u->z[j*e.cells+i]?=some u)
   else r=[]/\Rd w G (.list m E e) I [v])
def OwB (w:World)(G:Nat->Prop)(h:Option (Nat×Nat))(E:TypeId)(e:Ty)(xs:List e.den)(v:Value)(bs:List Nat):Prop :=
 ∃ r y,Row w E e.cells v xs.length r/\bs=v.ownBlock.toList++(B9 xs.length).flatMap y /\
  ∀ j (x:e.den),xs[j]?=some x->∃ c,Mx w G e (cI h j) 0 x c (y j)/\∀ i u,c[i]?=some u->r[j*e.cells+i]?=some u
def OwH (w:World)(G:Nat->Prop)(h:Option (Nat×Nat))(E:TypeId)(e:Ty)(xs:List e.den)(v:Value)(bs:List Nat):Prop:=bs.Nodup/\OwB w G h E e xs v bs
abbrev Ow (w:World)(G:Nat->Prop)(E:TypeId)(e:Ty)(xs:List e.den)(v:Value)(bs:List Nat):Prop:=OwH w G none E e xs v bs
theorem OwB.one {w:World}{G:Nat->Prop}{h:Option (Nat×Nat)}{E:TypeId}{e:Ty}{xs:List e.den}{v:Value}{bs:List Nat}(H:OwB w G h E e xs v bs):v.oneCell'=true:=by
 obtain⟨r,u,z,_⟩:=H;obtain⟨A,y,rfl,_⟩:=z.slice;rfl
theorem bI {w:World}{G:Nat->Prop}{h:Option Nat}{E:TypeId}{e:Ty}{pos:Nat}{xs:List e.den}{cs:List Value}{bs:List Nat}(r:h≠some pos) :
  Mx w G (.list true E e) h pos xs cs bs<->∃ v,cs=[v]/\OwB w G none E e xs v bs:=by
 simp only[Mx,if_neg r];constructor
 ·rintro⟨v,h1,h2,h3⟩;exact⟨v,h1,h3⟩
 ·rintro⟨v,h1,h3⟩;exact⟨v,h1,h3.one,h3⟩
theorem jf {w:World}{G:Nat->Prop}{E:TypeId}{e:Ty}{pos:Nat}{xs:List e.den}{cs:List Value}{bs:List Nat} :
  Mx w G (.list true E e) (some pos) pos xs cs bs<->∃ v,cs=[v]/\v.oneCell'=true/\bs=[]:=by
 simp only[Mx,if_true]
theorem cn {w:World}{G:Nat->Prop}{h:Option Nat}{E:TypeId}{e:Ty}{pos:Nat}{xs:List e.den}{cs:List Value}{bs:List Nat} :
  Mx w G (.list false E e) h pos xs cs bs<->bs=[]/\Rd w G (.list false E e) xs cs:=by
 simp only[Mx];constructor
 ·grind
 ·rintro⟨h1,h2⟩;obtain⟨A,r,u,y⟩:=h2;exact⟨_,u,rfl,h1,A,r,rfl,y⟩
theorem dV {n:Nat}{r:Nat->List Nat}{k:Nat}:k∈(B9 n).flatMap r<->∃ j,j<n/\k∈r j:=by simp
theorem Mx.carry {w w':World}{G G':Nat->Prop}(J:∀ k,G k->G' k)(I:∀ k,G k->w'.heap[k]?=w.heap[k]?) :
  ∀ {a:Ty} {h:Option Nat} {pos:Nat} {x:a.den} {cs:List Value} {bs:List Nat},(∀ k∈bs,w'.heap[k]?=w.heap[k]?)->Mx w G a h pos x cs bs->Mx w' G' a h pos x cs bs
 |.int _,_,_,_,_,_,_,h=>h
 |.bool,_,_,_,_,_,_,h=>h
 |.str,_,_,_,_,_,_,h=>h
 |.unit,_,_,_,_,_,_,h=>h
 |.hdr,_,_,_,_,_,_,h=>h
 |.pair _ _,_,_,_,_,_,u,⟨c1,c2,b1,b2,X,M,O,y⟩=>⟨c1,c2,b1,b2,X,M,Mx.carry J I (λk r=>u k (by rw[M];exact BM _ r)) O,Mx.carry J I (λk r=>u k (by rw[M];exact BL _ r)) y⟩
 |.list m E e,h,pos,xs,cs,bs,u,H=>by
  cases m with
  |false =>
   rw[cn]at H ⊢;exact⟨H.1,H.2.carry J I⟩
  |true =>
   by_cases Y:h=some pos
   ·subst Y;rw[jf]at H ⊢;exact H
   ·rw[bI Y]at H ⊢;obtain⟨v,X,z,R,O,y,h3⟩:=H;refine⟨v,X,z,R,O.same (λk r=>u k (by rw[y];exact BM _ r)),y,λj x Z=>?_⟩;obtain⟨c,h4,h5⟩:=h3 j x Z;refine⟨c,?_,h5⟩;exact Mx.carry J I (λk r=>u k (by rw[y];exact BL _ (dV.2 ⟨j,(BI.1 Z).1,r⟩))) h4
theorem Mx.mono {w:World}{G G':Nat->Prop}(r:∀ k,G k->G' k){a:Ty}{h:Option Nat}{pos:Nat}{x:a.den}{cs:List Value}{bs:List Nat}(H:Mx w G a h pos x cs bs):Mx w G' a h pos x cs bs :=
 Mx.carry r (λ_ _=>rfl) (λ_ _=>rfl) H
theorem OwB.carry {w w':World}{G G':Nat->Prop}{h:Option (Nat×Nat)}{E:TypeId}{e:Ty}{xs:List e.den}{v:Value}{bs:List Nat}(H:OwB w G h E e xs v bs)
  (X:∀ k,G k->G' k) (M:∀ k,G k->w'.heap[k]?=w.heap[k]?) (I:∀ k∈bs,w'.heap[k]?=w.heap[k]?):OwB w' G' h E e xs v bs:=by
 obtain⟨r,z,Y,y,O⟩:=H;refine⟨r,z,Y.same (λk u=>I k (by rw[y];exact BM _ u)),y,λj x J=>?_⟩;obtain⟨c,R,Z⟩:=O j x J;exact⟨c,Mx.carry X M (λk u=>I k (by rw[y];exact BL _ (dV.2 ⟨j,(BI.1 J).1,u⟩))) R,Z⟩
theorem OwH.carry {w w':World}{G G':Nat->Prop}{h:Option (Nat×Nat)}{E:TypeId}{e:Ty}{xs:List e.den}{v:Value}{bs:List Nat}(H:OwH w G h E e xs v bs)
 (r:∀ k,G k->G' k) (u:∀ k,G k->w'.heap[k]?=w.heap[k]?) (y:∀ k∈bs,w'.heap[k]?=w.heap[k]?):OwH w' G' h E e xs v bs:=⟨H.1,H.2.carry r u y⟩
theorem Mx.len {w:World}{G:Nat->Prop}:∀ {a:Ty} {h:Option Nat} {pos:Nat} {x:a.den} {cs:List Value} {bs:List Nat},Mx w G a h pos x cs bs->cs.length=a.cells
 |.int _,_,_,_,_,_,h=>by rw[h.1];rfl
 |.bool,_,_,_,_,_,h=>by rw[h.1];rfl
 |.str,_,_,_,_,_,h=>by rw[h.1];rfl
 |.unit,_,_,_,_,_,h=>by rw[h.1];rfl
 |.hdr,_,_,_,_,_,⟨⟨A,u,e⟩,_⟩=>by rw[e];rfl
 |.pair _ _,_,_,_,_,_,⟨I,O,J,H,z,M,y,r⟩=>by rw[z,CT,y.len,r.len];rfl
 |.list _ _ _,_,_,_,_,_,⟨v,e,_⟩=>by rw[e];rfl
theorem Mx.one {w:World}{G:Nat->Prop}:∀ {a:Ty} {h:Option Nat} {pos:Nat} {x:a.den} {cs:List Value} {bs:List Nat},Mx w G a h pos x cs bs->∀ v∈cs,v.oneCell'=true
 |.int _,_,_,_,_,_,h=>by rw[h.1];simp[BQ]
 |.bool,_,_,_,_,_,h=>by rw[h.1];simp[BQ]
 |.str,_,_,_,_,_,h=>by rw[h.1];simp[BQ]
 |.unit,_,_,_,_,_,h=>by rw[h.1];simp
 |.hdr,_,_,_,_,_,⟨⟨A,z,e⟩,_⟩=>by rw[e];simp[BQ]
 |.pair _ _,_,_,_,_,_,⟨J,O,M,I,H,R,u,y⟩=>by
  rw[H];intro v r;rcases BT.1 r with r|r
  ·exact u.one v r
  ·exact y.one v r
 |.list _ _ _,_,_,_,_,_,⟨v,e,u,_⟩=>by rw[e];simpa using u
theorem Mx.lt {w:World}{G:Nat->Prop}:∀ {a:Ty} {h:Option Nat} {pos:Nat} {x:a.den} {cs:List Value} {bs:List Nat},Mx w G a h pos x cs bs->∀ k∈bs,k<w.heap.size
 |.int _,_,_,_,_,_,h=>by rw[h.2];simp
 |.bool,_,_,_,_,_,h=>by rw[h.2];simp
 |.str,_,_,_,_,_,h=>by rw[h.2];simp
 |.unit,_,_,_,_,_,h=>by rw[h.2];simp
 |.hdr,_,_,_,_,_,h=>by rw[h.2];simp
 |.pair _ _,_,_,_,_,_,⟨c1,c2,b1,b2,Y,R,y,u⟩=>by
  rw[R];intro k r;rcases BT.1 r with r|r
  ·exact y.lt k r
  ·exact u.lt k r
 |.list m E e,h,pos,Z,cs,bs,H=>by
  cases m with
  |false=>rw[cn]at H;rw[H.1];simp
  |true =>
   by_cases z:h=some pos
   ·subst z;rw[jf]at H
    grind
   ·rw[bI z]at H;obtain⟨v,Y,I,X,y,u,J⟩:=H;rw[u];intro k r;rcases BT.1 r with r|r
    ·exact y.lt k r
    ·obtain⟨j,O,r⟩:=dV.1 r;obtain⟨c,M,_⟩:=J j _ (BK O);exact M.lt k r
theorem OwB.lt {w:World}{G:Nat->Prop}{h:Option (Nat×Nat)}{E:TypeId}{e:Ty}{xs:List e.den}{v:Value}{bs:List Nat}(H:OwB w G h E e xs v bs):∀ k∈bs,k<w.heap.size:=by
 obtain⟨u,O,M,I,y⟩:=H;rw[I];intro k r;rcases BT.1 r with r|r
 ·exact M.lt k r
 ·obtain⟨j,J,r⟩:=dV.1 r;obtain⟨c,z,_⟩:=y j _ (BK J);exact z.lt k r
theorem OwH.lt {w:World}{G:Nat->Prop}{h:Option (Nat×Nat)}{E:TypeId}{e:Ty}{xs:List e.den}{v:Value}{bs:List Nat}(H:OwH w G h E e xs v bs):∀ k∈bs,k<w.heap.size:=H.2.lt
theorem OwH.nodup {w:World}{G:Nat->Prop}{h:Option (Nat×Nat)}{E:TypeId}{e:Ty}{xs:List e.den}{v:Value}{bs:List Nat}(H:OwH w G h E e xs v bs):bs.Nodup:=H.1
theorem OwH.slice {w:World}{G:Nat->Prop}{h:Option (Nat×Nat)}{E:TypeId}{e:Ty}{xs:List e.den}{v:Value}{bs:List Nat}(H:OwH w G h E e xs v bs) :
  ∃ A r,v=.slice A xs.length r/\xs.length<=r:=by
 obtain⟨_,u,y,z,_⟩:=H;exact z.slice
theorem OwH.one {w:World}{G:Nat->Prop}{h:Option (Nat×Nat)}{E:TypeId}{e:Ty}{xs:List e.den}{v:Value}{bs:List Nat}(H:OwH w G h E e xs v bs):v.oneCell'=true:=H.2.one
theorem sA {w:World}{m:Bool}{E E':TypeId}{e:Ty}{xs:List e.den}{v:Value}{flat:List Value}{S:Nat->Prop}(Y:Row w E e.cells v xs.length flat)(O:∀ k∈v.ownBlock.toList,S k)
  (J:∀ j (x:e.den),xs[j]?=some x->∃ c,Rd w S e x c/\∀ i u,c[i]?=some u->flat[j*e.cells+i]?=some u):Rd w S (.list m E' e) xs [v]:=by
 rcases Y.2 with ⟨rfl,Z⟩|⟨g,z,r,mk,rfl,H,hc,hm,hs,I⟩
 ·exact⟨none,0,by rw[Z],by omega,λhp=>by omega⟩
 ·refine⟨some ⟨g,0,none⟩,z,rfl,hc,λ_=>⟨g,0,rfl,O g (by simp[B7]),λj x X=>?_⟩⟩;obtain⟨c,R,y⟩:=J j x X;refine⟨c,R,λi u M=>?_⟩;have:=y i u M;rw[<- I,BV]at this;split at this
  ·rw[CW,cell_of_row w g _ r E mk H]
   simp_all
  ·grind
theorem Mx.rd {w:World}{G S:Nat->Prop}(z:∀ k,G k->S k):∀ {a:Ty} {pos:Nat} {x:a.den} {cs:List Value} {bs:List Nat},(∀ k∈bs,S k)->Mx w G a none pos x cs bs->Rd w S a x cs
 |.int _,_,_,_,_,_,h=>h.1
 |.bool,_,_,_,_,_,h=>h.1
 |.str,_,_,_,_,_,h=>h.1
 |.unit,_,_,_,_,_,h=>h.1
 |.hdr,_,_,_,_,_,h=>h.1
 |.pair _ _,_,_,_,_,u,⟨c1,c2,b1,b2,O,X,J,y⟩=>⟨c1,c2,O,Mx.rd z (λk r=>u k (by rw[X];exact BM _ r)) J,Mx.rd z (λk r=>u k (by rw[X];exact BL _ r)) y⟩
 |.list m E e,pos,xs,cs,bs,u,H=>by
  cases m with
  |false=>rw[cn]at H;exact H.2.mono z
  |true =>
   rw[bI (by simp)]at H;obtain⟨v,O,Y,M,J,y,Z⟩:=H;rw[O];refine sA J (λk r=>u k (by rw[y];exact BM _ r)) λj x R=>?_
   obtain⟨c,h4,h5⟩:=Z j x R;have I:Mx w G e none 0 x c (M j):=h4;exact⟨c,Mx.rd z (λk r=>u k (by rw[y];exact BL _ (dV.2 ⟨j,(BI.1 R).1,r⟩))) I,h5⟩
theorem OwH.rd {w:World}{G:Nat->Prop}{m:Bool}{E E':TypeId}{e:Ty}{xs:List e.den}{v:Value}{bs:List Nat}(H:Ow w G E e xs v bs) :
  Rd w (λk=>G k\/k∈bs) (.list m E' e) xs [v]:=by
 obtain⟨_,J,y,R,z,M⟩:=H;refine sA R (λk r=>.inr (by rw[z];exact BM _ r)) λj x I=>?_
 obtain⟨c,O,X⟩:=M j x I;have u:Mx w G e none 0 x c (y j):=O;exact⟨c,u.rd (λk r=>.inl r) (λk r=>.inr (by rw[z];exact BL _ (dV.2 ⟨j,(BI.1 I).1,r⟩))),X⟩
theorem OwH.nil (w:World)(G:Nat->Prop)(E:TypeId)(e:Ty):Ow w G E e [] (.slice none 0 0) [] :=
 ⟨List.nodup_nil,[],λ_=>[],Row.nil w E e.cells,rfl,λj x r=>by simp at r⟩
theorem Rd.nil (w:World)(G:Nat->Prop)(m:Bool)(E:TypeId)(e:Ty):Rd w G (.list m E e) [] [.slice none 0 0] :=
 ⟨none,0,rfl,BO _,λh=>by simp at h⟩
theorem Mx.flat {w w':World}{G G':Nat->Prop}:∀ {a:Ty} {h:Option Nat} {pos:Nat} {x:a.den} {cs:List Value},a.flat=true->Rd w G a x cs->Mx w' G' a h pos x cs []
 |.int _,_,_,_,_,_,h=>⟨h,rfl⟩
 |.bool,_,_,_,_,_,h=>⟨h,rfl⟩
 |.str,_,_,_,_,_,h=>⟨h,rfl⟩
 |.unit,_,_,_,_,_,h=>⟨h,rfl⟩
 |.hdr,_,_,_,_,_,h=>⟨h,rfl⟩
 |.pair _ _,_,_,_,_,r,⟨y,z,e,H,u⟩=>by
  simp only[Ty.flat,BJ]at r;exact⟨y,z,[],[],e,rfl,Mx.flat r.1 H,Mx.flat r.2 u⟩
theorem Mx.shared {w:World}{G:Nat->Prop}:∀ {a:Ty} {h:Option Nat} {pos:Nat} {x:a.den} {cs:List Value},a.sh=a->Rd w G a x cs->Mx w G a h pos x cs []
 |.int _,_,_,_,_,_,h=>⟨h,rfl⟩
 |.bool,_,_,_,_,_,h=>⟨h,rfl⟩
 |.str,_,_,_,_,_,h=>⟨h,rfl⟩
 |.unit,_,_,_,_,_,h=>⟨h,rfl⟩
 |.hdr,_,_,_,_,_,h=>⟨h,rfl⟩
 |.pair _ _,_,_,_,_,r,⟨y,z,e,H,u⟩=>by
  simp only[Ty.sh,Ty.pair.injEq]at r;exact⟨y,z,[],[],e,rfl,Mx.shared r.1 H,Mx.shared r.2 u⟩
 |.list m E e,_,_,_,_,r,h=>by
  simp only[Ty.sh,Ty.list.injEq]at r;obtain⟨rfl,_⟩:=r;exact cn.2 ⟨rfl,h⟩
def da (agg:Bool)(v:Value)(cs:List Value):Prop:=if agg then v=.agg cs.toArray else cs=[v]
def se (w:World)(G:Nat->Prop):(y:List Ty)->Tup y->List Value->Prop
 |[],_,u=>u=[]
 |a::as,x,u=>∃ v c r,u=v::r/\da a.isAgg v c/\Rd w G a x.1 c/\se w G as x.2 r
def fU (P:Program)(f:FuncId):Prop:=∀ (r:Array Value) (w:World),(callFunc f r).run P w=.ok (.enter f r) w
def ij (P:Program)(w0:World)(S:Nat->Prop)(H:List Ty)(B:Ty)(I:Tup H->Option B.den)(v:Value):Prop :=
 ∃ f r,v=.func (.func f) #[] r/\fU P f /\
  ∀ w1:World,w0.heap.size<=w1.heap.size->(∀ k,S k->w1.heap[k]?=w0.heap[k]?) ->
   ∀ (x:Tup H) (z:List Value) (y:B.den),se w1 (λk=>k<w1.heap.size) H x z->I x=some y ->
    Calls P f (z.toArray++r) w1 (λe w2=>∃ u c,e=.returned u/\da B.isAgg u c/\Rd w2 (λ_=>False) B y c/\Below w1.heap.size w1 w2)
structure Env where
 w0:World
 ro0:Nat->Prop
 own0:List Nat
 nt:Nat
 fixb:List (Nat×Nat)
 fixt:List (Nat×Value)
def Env.prot (V:Env)(k:Nat):Prop:=k<V.w0.heap.size/\k∉V.own0
structure Wit where
 β:Nat->Nat
 cs:Nat->List Value
 bs:Nat->Nat->List Nat
 nw:Nat->Prop
def gd (V:Env)(W:Wit)(p:Bool)(k:Nat):Prop:=W.nw k\/(p=true/\V.ro0 k)
def am:Leaf->Prop
 |.own _ _ _ _ _=>True
 |_=>False
def RpOk (V:Env)(W:Wit)(w:World)(p:Bool)(a:Ty)(x:a.den)(off:Nat)(v:Value):Prop :=
 ∃ g o c,v=.pointer (some ⟨g,o+off,none⟩)/\(W.nw g\/V.prot g)/\Rd w (gd V W p) a x c/\cV w g o c
def sf (V:Env)(W:Wit)(w:World)(p:Bool)(a:Ty)(x:a.den)(v:Value):Prop :=
 ∃ b r g o c,v=.pointer (some ⟨b,r,none⟩)/\(W.nw b\/V.prot b)/\w.cell? ⟨b,r,none⟩=some (.pointer (some ⟨g,o,none⟩)) /\
  (W.nw g\/V.prot g)/\Rd w (gd V W p) a x c/\cV w g o c
def iO (V:Env)(W:Wit)(w:World)(c:Bool×Bool×(a:Ty)×a.den)(v:Value):Prop :=
 if c.2.1=true then sf V W w c.1 c.2.2.1 c.2.2.2 v else RpOk V W w c.1 c.2.2.1 c.2.2.2 0 v
def sg (st:St)(ks:List (Nat×Nat×Nat)):Prop:=∀ k∈ks,∃ l,(st k.1).ls[k.2.1]?=some l/\am l
structure si (V:Env) (W:Wit) (w:World) (p:Bool) (ks:List (Nat×Nat×Nat)) (loc:Option (Nat×Nat×Nat)) (E:TypeId) (e:Ty) (xs:List e.den) (v:Value):Prop where
 rd:Rd w (λb=>gd V W p b\/∃ k∈ks,b∈W.bs k.1 k.2.1) (.list false E e) xs [v]
 at_:∀ i sz off,loc=some (i,sz,off)->∃ r j n,ks=[(r,j,n)]/\∃ g len cap,(W.cs r)[j]?=some (.slice (some ⟨g,0,none⟩) len cap)/\i<len/\g∈W.bs r j/\w.cell? ⟨g,i*sz+off,none⟩=some v
structure NpOk (V:Env) (W:Wit) (w:World) (p:Bool) (ks:List (Nat×Nat×Nat)) (a:Ty) (x:a.den) (off:Nat) (v:Value):Prop where
 rd:∃ g o c,v=.pointer (some ⟨g,o+off,none⟩)/\(gd V W p g\/∃ k∈ks,g∈W.bs k.1 k.2.1)/\Rd w (λb=>gd V W p b\/∃ k∈ks,b∈W.bs k.1 k.2.1) a x c/\cV w g o c
def aK (P:Program)(V:Env)(W:Wit)(st:St)(w:World)(bs:List Nat):Leaf->Value->Prop
 |.int k n,v=>v=.int k n
 |.bool b,v=>v=.bool b
 |.str s,v=>v=.string s
 |.nil,v=>v=.slice none 0 0
 |.hdr n,v=>∃ A H,v=.slice A n H
 |.ro p E e J,v=>Rd w (gd V W p) (.list false E e) J [v]
 |.own p h E e J,v=>OwH w (gd V W p) h E e J v bs
 |.al r j n,v=>n<=(st r).ver/\((st r).ver=n->(W.cs r)[j]?=some v)
 |.nal p z ep O E e J,v=>ep<=(st EPO).ver/\(∀ k∈z,k.2.2<=(st k.1).ver)/\((st EPO).ver=ep->(∀ k∈z,(st k.1).ver=k.2.2)->sg st z->si V W w p z O E e J v)
 |.ep r j n i Y off,v=>n<=(st r).ver/\((st r).ver=n->∃ g I H,(W.cs r)[j]?=some (.slice (some ⟨g,0,none⟩) I H)/\i<I/\v=.pointer (some ⟨g,i*Y+off,none⟩))
 |.np p z ep a x off,v=>ep<=(st EPO).ver/\(∀ k∈z,k.2.2<=(st k.1).ver)/\((st EPO).ver=ep->(∀ k∈z,(st k.1).ver=k.2.2)->sg st z->NpOk V W w p z a x off v)
 |.rp p a x off,v=>RpOk V W w p a x off v
 |.rpp p a x,v=>sf V W w p a x v
 |.bp b off,v=>B0<=b/\(st b).sh=.agg/\v=.pointer (some ⟨W.β b,off,none⟩)
 |.clo f y,v=>v=.func (.func f) #[] (y.map λb=>Value.pointer (some ⟨W.β b,0,none⟩)).toArray/\∀ b∈y,B0<=b/\(st b).sh=.agg
 |.clr f y,v=>∃ M:List Value,v=.func (.func f) #[] M.toArray/\M.length=y.length/\∀ (i:Nat) (c:Bool×Bool×(a:Ty)×a.den) (u:Value),y[i]?=some c->M[i]?=some u->iO V W w c u
 |.fn R B X,v=>ij P V.w0 V.prot R B X v
 |.dead,_=>True
def pB:List (Bool×Nat)->List Value->List Value->Prop
 |[],z,y=>z=[]/\y=[]
 |(agg,n)::H,z,y=>∃ v r c u,z=v::r/\y=c++u/\c.length=n/\da agg v c/\pB H r u
def ee:aI->Value->List Value->Prop
 |.off,_,r=>r=[]
 |.und,v,r=>v=undef/\r=[]
 |.one,v,r=>r=[v]
 |.agg,v,r=>v=.agg r.toArray
 |.tup y,v,r=>∃ u,v=.tuple u.toArray/\pB y u r
def live (st:St)(b:Nat):Prop:=B0<=b/\(st b).sh=.agg
structure an (P:Program) (V:Env) (W:Wit) (st:St) (a:Act) (w:World):Prop where
 nt:a.tmps.size=V.nt
 df:a.defers=[]
 slots:∀ t,t<GH->ee (st t).sh (a.tmps.getD t undef) (W.cs t)
 boxes:∀ b,B0<=b->((st b).sh=.off/\(st b).ls=[])\/((st b).sh=.agg/\∃ E,w.heap[W.β b]?=some (.cells (W.cs b).toArray E (0,0)))
 len:∀ r,(st r).ls.length=(W.cs r).length
 one:∀ r,∀ v∈W.cs r,v.oneCell'=true
 leaf:∀ r j l v,(st r).ls[j]?=some l->(W.cs r)[j]?=some v->aK P V W st w (W.bs r j) l v
 ownb:∀ r j l,(st r).ls[j]?=some l->am l->∀ k∈W.bs r j,¬ W.nw k/\¬ V.prot k/\∀ b,live st b->W.β b≠k
 sep:∀ r j l r' j' l',(st r).ls[j]?=some l->am l->(st r').ls[j']?=some l'->am l'->∀ k,k∈W.bs r j->k∈W.bs r' j'->r=r'/\j=j'
 box:∀ b,live st b->¬ W.nw (W.β b)/\¬ V.prot (W.β b)
 inj:∀ b b',live st b->live st b'->W.β b=W.β b'->b=b'
 nwlt:∀ k,W.nw k->k<w.heap.size/\¬ V.prot k
 os:w.os=V.w0.os
 tape:w.tape=V.w0.tape
 output:w.output=V.w0.output
 size:V.w0.heap.size<=w.heap.size
 keep:∀ k,V.prot k->w.heap[k]?=V.w0.heap[k]?
 fixb:∀ x∈V.fixb,live st x.1/\W.β x.1=x.2
 fixt:∀ x∈V.fixt,a.tmps.getD x.1 undef=x.2
def Rel (P:Program)(V:Env)(st:St)(a:Act)(w:World):Prop:=∃ W,an P V W st a w
structure ay (V:Env):Prop where
 ro:∀ k,V.ro0 k->V.prot k
 nt:V.nt<=GH
theorem ay.ntB {V:Env}(h:ay V):V.nt<=B0:=BR h.nt (by decide)
section
variable {P:Program} {V:Env} {W W':Wit} {st st':St} {w w':World}
theorem bT {p q:Bool}(y:p=true->q=true)(u:∀ k,W.nw k->W'.nw k):∀ k,gd V W p k->gd V W' q k:=by
 intro k r;rcases r with r|⟨z,r⟩
 ·exact .inl (u k r)
 ·exact .inr ⟨y z,r⟩
structure cA (V:Env) (W W':Wit) (st st':St) (w w':World):Prop where
 ver:∀ r,(st r).ver<=(st' r).ver/\((st' r).ver=(st r).ver->W'.cs r=W.cs r)
 box:∀ b,live st b->live st' b/\W'.β b=W.β b
 nw:∀ k,W.nw k->W'.nw k
 heap:∀ k,(W.nw k\/V.prot k)->w'.heap[k]?=w.heap[k]?
 epo:(st' EPO).ver=(st EPO).ver->∀ (r j:Nat) (l:Leaf),(st' r).ls[j]?=some l->am l->(st' r).ver=(st r).ver ->
  (∃ l',(st r).ls[j]?=some l'/\am l')/\W'.bs r j=W.bs r j/\∀ k∈W.bs r j,w'.heap[k]?=w.heap[k]?
theorem cA.refl (V:Env)(W:Wit)(st:St)(w:World):cA V W W st st w w :=
 ⟨λ_=>⟨BO _,λ_=>rfl⟩,λ_ u=>⟨u,rfl⟩,λ_ h=>h,λ_ _=>rfl,λ_ _ _ l y r _=>⟨⟨l,y,r⟩,rfl,λ_ _=>rfl⟩⟩
theorem kP {w w':World}{a:Addr}(h:w'.heap[a.block]?=w.heap[a.block]?):w'.cell? a=w.cell? a:=by simp[Cl,h]
theorem cA.gdheap (u:∀ k,V.ro0 k->V.prot k)(h:cA V W W' st st' w w')(p:Bool):∀ k,gd V W p k->w'.heap[k]?=w.heap[k]?:=by
 intro k r;rcases r with r|⟨_,r⟩
 ·exact h.heap k (.inl r)
 ·exact h.heap k (.inr (u k r))
theorem wO {ks:List (Nat×Nat×Nat)}{ep:Nat}(u:cA V W W' st st' w w')(I:ep<=(st EPO).ver)(y:∀ k∈ks,k.2.2<=(st k.1).ver)(H:(st' EPO).ver=ep)(z:∀ k∈ks,(st' k.1).ver=k.2.2) :
  (st EPO).ver=ep/\∀ k∈ks,(st k.1).ver=k.2.2 :=
 ⟨by have:=(u.ver EPO).1;omega,λk r=>by have:=(u.ver k.1).1;have:=y k r;have:=z k r;omega⟩
theorem cA.places {ks:List (Nat×Nat×Nat)}{ep:Nat}(H:cA V W W' st st' w w')(I:sg st' ks)(R:(st EPO).ver=ep)(J:∀ k∈ks,(st k.1).ver=k.2.2)
  (O:(st' EPO).ver=ep) (y:∀ k∈ks,(st' k.1).ver=k.2.2) :
  ∀ k∈ks,(∃ u,(st k.1).ls[k.2.1]?=some u/\am u)/\W'.bs k.1 k.2.1=W.bs k.1 k.2.1/\∀ b∈W.bs k.1 k.2.1,w'.heap[b]?=w.heap[b]?:=λk r=>by
 obtain⟨l,M,z⟩:=I k r;exact H.epo (by omega) k.1 k.2.1 l M z (by rw[y k r,J k r])
theorem aK.carry (J:∀ k,V.ro0 k->V.prot k){bs bs':List Nat}{l:Leaf}{v:Value}(h:aK P V W st w bs l v)(y:cA V W W' st st' w w')
  (a1:am l->bs'=bs/\∀ k∈bs,w'.heap[k]?=w.heap[k]?):aK P V W' st' w' bs' l v:=by
 have hG:∀ p k,gd V W p k->gd V W' p k:=λp=>bT (λh=>h) y.nw
 have hP:∀ k,(W.nw k\/V.prot k)->(W'.nw k\/V.prot k):=λk M=>M.imp (y.nw k) id
 have hR:∀ {p:Bool} {a:Ty} {x:a.den} {off:Nat} {v:Value},RpOk V W w p a x off v->RpOk V W' w' p a x off v:=by
  rintro p a x off v ⟨g,o,c,hv,Y,hr,hc⟩;exact⟨g,o,c,hv,hP g Y,Rd.carry (hG p) (y.gdheap J p) hr,hc.same (y.heap g Y)⟩
 have a3:∀ {p:Bool} {a:Ty} {x:a.den} {v:Value},sf V W w p a x v->sf V W' w' p a x v:=by
  rintro p a x v ⟨b,ob,g,o,c,hv,H,Z,Y,hr,hc⟩;exact⟨b,ob,g,o,c,hv,hP b H,by rw[kP (y.heap b H)];exact Z,hP g Y,Rd.carry (hG p) (y.gdheap J p) hr,hc.same (y.heap g Y)⟩
 cases l with
 |int k n=>exact h
 |bool b=>exact h
 |str s=>exact h
 |nil=>exact h
 |hdr n=>exact h
 |ro p E e xs=>exact Rd.carry (hG p) (y.gdheap J p) h
 |own p hh E e xs =>
  obtain⟨rfl,H⟩:=a1 trivial;exact OwH.carry h (hG p) (y.gdheap J p) H
 |nal p ks ep a6 E e xs =>
  obtain⟨z,I,O⟩:=h;refine⟨BR z (y.ver EPO).1,λk M=>BR (I k M) (y.ver k.1).1,λhe M ho=>?_⟩;obtain⟨e1,e2⟩:=wO y z I he M;have h5:=y.places ho e1 e2 he M;have R:=O e1 e2 (λk X=>(h5 k X).1);refine⟨Rd.carry ?_ ?_ R.rd,λi sz off hl=>?_⟩
  ·grind
  ·rintro b (H|⟨k,X,H⟩)
   ·exact y.gdheap J p b H
   ·grind
  ·obtain⟨r,j,n,rfl,g,a2,a5,h6,h7,h8,h9⟩:=R.at_ i sz off hl;have X:(r,j,n)∈[(r,j,n)]:=CU ..;have a4:(st' r).ver=(st r).ver:=(M _ X).trans (e2 _ X).symm;refine⟨r,j,n,rfl,g,a2,a5,by rw[(y.ver r).2 a4];exact h6,h7,by rw[(h5 _ X).2.1];exact h8,?_⟩;rw[kP ((h5 _ X).2.2 g h8)];exact h9
 |np p ks ep a x off =>
  obtain⟨z,I,O⟩:=h;refine⟨BR z (y.ver EPO).1,λk M=>BR (I k M) (y.ver k.1).1,λhe M ho=>?_⟩;obtain⟨e1,e2⟩:=wO y z I he M;have h5:=y.places ho e1 e2 he M;have R:=O e1 e2 (λk X=>(h5 k X).1);have hS:∀ b,(gd V W p b\/∃ k∈ks,b∈W.bs k.1 k.2.1)->(gd V W' p b\/∃ k∈ks,b∈W'.bs k.1 k.2.1):=by
   grind
  have hW:∀ b,(gd V W p b\/∃ k∈ks,b∈W.bs k.1 k.2.1)->w'.heap[b]?=w.heap[b]?:=by
   rintro b (H|⟨k,X,H⟩)
   ·exact y.gdheap J p b H
   ·grind
  obtain⟨g,o,c,hv,Y,hr,hc⟩:=R.rd;exact⟨g,o,c,hv,hS g Y,Rd.carry hS hW hr,hc.same (hW g Y)⟩
 |al r j n =>
  obtain⟨z,I⟩:=h;obtain⟨O,R⟩:=y.ver r;refine⟨BR z O,λhv=>?_⟩
  grind
 |ep r j n i sz off =>
  obtain⟨z,I⟩:=h;obtain⟨O,R⟩:=y.ver r;refine⟨BR z O,λhv=>?_⟩
  grind
 |rp p a x off=>exact hR h
 |rpp p a x=>exact a3 h
 |clr f a0 =>
  obtain⟨us,z,I,O⟩:=h;refine⟨us,z,I,λi c u hc hu=>?_⟩;have R:=O i c u hc hu;unfold iO at R ⊢
  grind
 |bp b off =>
  obtain⟨z,I,O⟩:=h;obtain⟨R,h5⟩:=y.box b ⟨z,I⟩;exact⟨z,R.2,by rw[h5];exact O⟩
 |clo f a0 =>
  obtain⟨z,I⟩:=h;refine⟨?_,λb H=>(y.box b (I b H)).1⟩;rw[z];congr 2;refine List.map_congr_left λb H=>?_
  rw[(y.box b (I b H)).2]
 |fn As B φ=>exact h
 |dead=>trivial
def aB (P:Program)(V:Env)(W:Wit)(st:St)(w:World):List Leaf->List Value->Prop
 |[],[]=>True
 |l::r,v::u=>(aK P V W st w [] l v/\¬ am l/\v.oneCell'=true)/\aB P V W st w r u
 |_,_=>False
theorem aB.length:∀ {ls:List Leaf} {cs:List Value},aB P V W st w ls cs->ls.length=cs.length
 |[],[],_=>rfl
 |_::_,_::_,h=>by simp[aB.length h.2]
theorem aB.at_:∀ {ls:List Leaf} {cs:List Value},aB P V W st w ls cs->∀ (j:Nat) (l:Leaf) (v:Value),ls[j]?=some l->cs[j]?=some v->aK P V W st w [] l v/\¬ am l/\v.oneCell'=true
 |_::_,_::_,h,0,l,v,u,r=>by
  simp at u r;subst u;subst r;exact h.1
 |_::_,_::_,h,j+1,l,v,u,r=>aB.at_ h.2 j l v (by simpa using u) (by simpa using r)
theorem aB.one':∀ {ls:List Leaf} {cs:List Value},aB P V W st w ls cs->∀ v∈cs,v.oneCell'=true
 |[],[],_,_,r=>by simp at r
 |_::_,_::_,h,v,r=>by
  rcases CS.1 r with rfl|r
  ·exact h.1.2.2
  ·exact aB.one' h.2 v r
theorem aB.mk:∀ {ls:List Leaf} {cs:List Value},ls.length=cs.length->(∀ (j:Nat) (l:Leaf) (v:Value),ls[j]?=some l->cs[j]?=some v->aK P V W st w [] l v/\¬ am l/\v.oneCell'=true)->aB P V W st w ls cs
 |[],[],_,_=>trivial
 |_::_,_::_,h,H=>⟨H 0 _ _ rfl rfl,aB.mk (by simpa using h) λj l v u r=>H (j+1) l v (by simpa using u) (by simpa using r)⟩
theorem aB.drop {ls:List Leaf}{cs:List Value}(h:aB P V W st w ls cs)(n:Nat):aB P V W st w (ls.drop n) (cs.drop n) :=
 aB.mk (by simp[h.length]) λj l v u r=>h.at_ (n+j) l v (by simpa using u) (by simpa using r)
theorem aB.take {ls:List Leaf}{cs:List Value}(h:aB P V W st w ls cs)(n:Nat):aB P V W st w (ls.take n) (cs.take n) :=
 aB.mk (by simp[h.length]) λj l v y r=>by
  rw[BV]at y r;split at y
  ·rename_i u;rw[if_pos u]at r;exact h.at_ j l v y r
  ·grind
theorem aB.append {y z:List Leaf}{r H:List Value}(u:aB P V W st w y r)(I:aB P V W st w z H):aB P V W st w (y++z) (r++H):=by
 induction y generalizing r with
 |nil =>
  cases r with
  |nil=>simpa using I
  |cons=>simp[aB]at u
 |cons l M J =>
  cases r with
  |nil=>simp[aB]at u
  |cons v O=>exact⟨u.1,J u.2⟩
theorem aB.carry (r:∀ k,V.ro0 k->V.prot k)(u:cA V W W' st st' w w'):∀ {ls:List Leaf} {cs:List Value},aB P V W st w ls cs->aB P V W' st' w' ls cs
 |[],[],_=>trivial
 |_::_,_::_,h=>⟨⟨h.1.1.carry r u (λy=>absurd y h.1.2.1),h.1.2⟩,aB.carry r u h.2⟩
theorem fa {G:Nat->Prop}{p:Bool}(y:∀ k,G k->gd V W p k):∀ {a:Ty} {x:a.den} {cs:List Value},Rd w G a x cs->aB P V W st w (cG p a x) cs
 |.int _,_,_,h=>by rw[show _=_ from h];exact⟨⟨rfl,id,rfl⟩,trivial⟩
 |.bool,_,_,h=>by rw[show _=_ from h];exact⟨⟨rfl,id,rfl⟩,trivial⟩
 |.str,_,_,h=>by rw[show _=_ from h];exact⟨⟨rfl,id,rfl⟩,trivial⟩
 |.unit,_,_,h=>by rw[show _=_ from h];trivial
 |.hdr,_,_,⟨A,r,e⟩=>by rw[e];exact⟨⟨⟨A,r,rfl⟩,id,rfl⟩,trivial⟩
 |.pair _ _,_,_,⟨J,M,e,I,u⟩=>by rw[e];exact (fa y I).append (fa y u)
 |.list m E e,z,_,h=>by
  obtain⟨A,r,rfl,u,H⟩:=h;exact⟨⟨Rd.mono y (⟨A,r,rfl,u,H⟩:Rd w _ (.list false E e) z _),id,rfl⟩,trivial⟩
theorem gJ (p:Bool):∀ (a:Ty) (x:a.den),(cG p a x).length=a.cells
 |.int _,_=>rfl
 |.bool,_=>rfl
 |.str,_=>rfl
 |.unit,_=>rfl
 |.hdr,_=>rfl
 |.pair a b,x=>by simp[cG,Ty.cells,gJ p a,gJ p b]
 |.list _ _ _,_=>rfl
theorem cF (p:Bool):∀ (a:Ty) (x:a.den),(aq p a x).length=a.cells
 |.int _,_=>rfl
 |.bool,_=>rfl
 |.str,_=>rfl
 |.unit,_=>rfl
 |.hdr,_=>rfl
 |.pair a b,x=>by simp[aq,Ty.cells,cF p a,cF p b]
 |.list _ _ _,_=>rfl
theorem iP (t n:Nat):∀ (j:Nat) (ls:List Leaf),(bF t n j ls).length=ls.length
 |_,[]=>rfl
 |j,_::ls=>by simp[bF,iP t n (j+1) ls]
theorem oa (t n:Nat):∀ (j:Nat) (ls:List Leaf) (i:Nat) (l:Leaf),ls[i]?=some l->(bF t n j ls)[i]?=some (lT t (j+i) n l)
 |j,r::ls,0,l,h=>by
  simp at h;subst h;simp[bF]
 |j,r::ls,i+1,l,h=>by
  have:=oa t n (j+1) ls i l (by simpa using h);simp only[bF]
  grind
theorem iA {a:Act}(h:an P V W st a w)(r:Nat):aB P V W st w (bF r (st r).ver 0 (st r).ls) (W.cs r):=by
 refine aB.mk (by rw[iP,h.len]) λj l v u y=>?_
 have J:j<(st r).ls.length:=by
  have:=(BI.1 u).1;simpa[iP]using this
 have z:(st r).ls[j]?=some (st r).ls[j]:=BK J;have M:=oa r (st r).ver 0 (st r).ls j _ z;rw[M]at u;have I:=h.leaf r j _ v z y;have H:=h.one r v (List.mem_of_getElem? y);simp at u;subst u;generalize R:(st r).ls[j]=q at I;cases q with
 |own p X E e O=>exact⟨⟨BO _,λ_=>by simpa using y⟩,id,H⟩
 |_=>exact⟨I,id,H⟩
theorem sC {v:Value}{l:Leaf}(h:iu v=some l):aK P V W st w [] l v/\¬ am l/\v.oneCell'=true:=by
 unfold iu at h;split at h <;> simp at h <;> subst h <;> exact⟨rfl,id,rfl⟩
theorem cR {a:Act}(h:an P V W st a w)(x:Operand) :
  ∃ r,ee (au st x).1 (a.eval x) r/\aB P V W st w (au st x).2 r:=by
 cases x with
 |tmp t =>
  simp only[au];cases u:CA t GH with
  |false=>exact⟨[],rfl,trivial⟩
  |true=>exact⟨W.cs t,h.slots t (by simpa using u),iA h t⟩
 |const v =>
  simp only[au];cases z:iu v with
  |none=>exact⟨[],rfl,trivial⟩
  |some l=>exact⟨[v],rfl,⟨sC z,trivial⟩⟩
 |func f=>exact⟨[.func (.func f) #[] #[]],rfl,⟨⟨⟨rfl,λb y=>by simp at y⟩,id,rfl⟩,trivial⟩⟩
 |global g=>exact⟨[],rfl,trivial⟩
theorem bt {a:Act}(h:an P V W st a w)(x:Operand)(y:one st x≠.dead) :
  aK P V W st w [] (one st x) (a.eval x)/\¬ am (one st x)/\(a.eval x).oneCell'=true/\(au st x).1=.one/\(au st x).2=[one st x]:=by
 obtain⟨I,z,r⟩:=cR h x;unfold one at y ⊢;split at y
 ·rename_i l H;simp only[H]at z r ⊢;have u:I=[a.eval x]:=z;subst u;exact⟨r.1.1,r.1.2.1,r.1.2.2,by simp,by simp⟩
 ·grind
theorem fh {r j n:Nat}{l:Leaf}(u:aC st (.al r j n)=l)(z:l≠.dead):(st r).ver=n/\(st r).ls[j]?=some l:=by
 simp only[aC]at u;cases y:BG (st r).ver n with
 |false=>simp only[y]at u;exact absurd u.symm z
 |true =>
  simp only[y,cond_true]at u;refine⟨BH y,?_⟩;rw[BY]at u;cases H:(st r).ls[j]? with
  |none=>simp only[H]at u;exact absurd u.symm z
  |some I =>
   simp only[H,Option.getD_some]at u;cases I with
   |nal=>simp only[pu]at u;exact absurd u.symm z
   |_=>simp only[pu]at u;rw[u]
theorem iQ {r j n:Nat}{p:Bool}{ks:List (Nat×Nat×Nat)}{ep:Nat}{u:Option (Nat×Nat×Nat)}{E:TypeId}{e:Ty}{xs:List e.den}:aC st (.al r j n)≠.nal p ks ep u E e xs:=by
 simp only[aC];cases BG (st r).ver n with
 |false=>simp
 |true =>
  cases (st r).ls.getD j .dead <;> simp[pu]
theorem kr {a:Act}(h:an P V W st a w){r j n:Nat}{p:Bool}{u:Option (Nat×Nat)}{E:TypeId}{e:Ty}{xs:List e.den}{v:Value}(J:aC st (.al r j n)=.own p u E e xs)
  (I:aK P V W st w [] (.al r j n) v):(W.cs r)[j]?=some v/\OwH w (gd V W p) u E e xs v (W.bs r j)/\(st r).ls[j]?=some (.own p u E e xs)/\(st r).ver=n:=by
 obtain⟨H,y⟩:=fh J (by simp);have z:=I.2 H;exact⟨z,h.leaf r j _ v y z,y,H⟩
theorem vC {ls:List Leaf}{j:Nat}(h:lA (ls.getD j .dead)=true):∃ l,ls[j]?=some l/\am l:=by
 rw[BY]at h;cases r:ls[j]? with
 |none=>rw[r]at h;simp[lA]at h
 |some l =>
  rw[r]at h;refine⟨l,rfl,?_⟩;cases l <;> simp[lA]at h;trivial
theorem ct {ks:List (Nat×Nat×Nat)}{ep:Nat}(h:bq st ks ep=true):(st EPO).ver=ep/\(∀ k∈ks,(st k.1).ver=k.2.2)/\sg st ks:=by
 simp only[bq,BJ,List.all_eq_true]at h;exact⟨BH h.1,λk r=>BH (h.2 k r).1,λk r=>vC (h.2 k r).2⟩
theorem pC {p:Bool}{ks:List (Nat×Nat×Nat)}{ep:Nat}{r:Option (Nat×Nat×Nat)}{E:TypeId}{e:Ty}{xs:List e.den}{v:Value}(u:bq st ks ep=true)
 (y:aK P V W st w [] (.nal p ks ep r E e xs) v):si V W w p ks r E e xs v:=y.2.2 (ct u).1 (ct u).2.1 (ct u).2.2
def bm (V:Env)(W:Wit)(p:Bool)(ks:List (Nat×Nat))(k:Nat):Prop:=gd V W p k\/∃ x∈ks,k∈W.bs x.1 x.2
theorem jT {E:TypeId}{e:Ty}{E':TypeId}{e':Ty}{xs:List e'.den}{r:List e.den}(h:lU E e E' e' xs=some r) :
  ∃ (y:E'=E) (u:e'=e),u ▸ xs=r:=by
 unfold lU at h
 grind
theorem ue {e e':Ty}{xs:List e'.den}{r:List e.den}(h:castSh e e' xs=some r):e'.sh=e.sh/\HEq xs r:=by
 unfold castSh at h
 grind
theorem Rd.castSh {G:Nat->Prop}{m m':Bool}{E E':TypeId}{e e':Ty}{xs:List e'.den}{u:List e.den}{cs:List Value}(h:castSh e e' xs=some u)(M:Rd w G (.list m E' e') xs cs):Rd w G (.list m' E e) u cs:=by
 obtain⟨O,J⟩:=ue h;have I:Rd w G (.list m E e) u cs:=by
  refine Rd.flags (a:=.list m E e') (x:=xs) (by simp only[Ty.sh,O]) J ?_;obtain⟨A,r,H,y,z⟩:=M;exact⟨A,r,H,y,z⟩
 obtain⟨A,r,H,y,z⟩:=I;exact⟨A,r,H,y,z⟩
theorem kt (st:St):∀ (u r:List Leaf),bz st (u++r)=bz st u++bz st r
 |[],_=>rfl
 |l::u,r=>by
  have:=kt st u r;cases l <;> simp[bz,this]
theorem sD (st:St):∀ (u r:List Leaf),b6 st (u++r)=b6 st u++b6 st r
 |[],_=>rfl
 |l::u,r=>by
  have:=sD st u r;cases l <;> simp[b6,this]
theorem kQ {a:Act}(h:an P V W st a w){m:Bool}{E:TypeId}{e:Ty}{l:Leaf}{v:Value}{p:Bool}{xs:List e.den}
  (hl:aK P V W st w [] l v) (a0:¬ am l) (u:dg e (aC st l)=some (p,xs)):Rd w (bm V W p (bz st [l])) (.list m E e) xs [v]:=by
 have I:∀ (q:Leaf) (bs:List Nat) (S:Nat->Prop),aK P V W st w bs q v->dg e q=some (p,xs)->(∀ k,gd V W p k->S k)->(am q->∀ k∈bs,S k) ->
   (∀ q' J ep z E' H R,q=.nal q' J ep z E' H R->bq st J ep=true/\∀ k∈J,∀ b∈W.bs k.1 k.2.1,S b)->Rd w S (.list m E e) xs [v]:=by
  intro q bs S O u hS hb hn;cases q with
  |ro q E' H Y =>
   simp only[dg,BU]at u;obtain⟨zs,Z,rfl,rfl⟩:=u;exact Rd.castSh Z (Rd.mono hS O)
  |nil =>
   obtain⟨rfl,rfl⟩:=u;rw[show v=_ from O];exact Rd.nil w _ m E e
  |own q hh E' H Y =>
   cases hh with
   |some _=>simp[dg]at u
   |none =>
    simp only[dg,BU]at u;obtain⟨zs,Z,rfl,rfl⟩:=u;refine Rd.castSh Z (Rd.mono (λk y=>?_) (OwH.rd (m:=false) (E':=E') O));exact y.elim (hS k) (hb trivial k)
  |nal q J ep z E' H Y =>
   simp only[dg,BU,Cg]at u;obtain⟨zs,Z,rfl,rfl⟩:=u;obtain⟨X,hn⟩:=hn _ _ _ _ _ _ _ rfl;have h1:si V W w q J z E' H Y v:=O.2.2 (ct X).1 (ct X).2.1 (ct X).2.2;refine Rd.castSh Z (Rd.mono (λk y=>?_) h1.rd);rcases y with y|⟨x,hx,y⟩
   ·grind
   ·grind
  |_=>simp[dg]at u
 cases l with
 |al r j n =>
  by_cases hd:aC st (.al r j n)=.dead
  ·rw[hd]at u;simp[dg]at u
  ·obtain⟨h1,h2⟩:=fh rfl hd;have h3:=h.leaf r j _ v h2 (hl.2 h1);generalize O:aC st (.al r j n)=q at u h2 h3;refine I q (W.bs r j) _ h3 u (λk y=>.inl y) (λM k y=>.inr ⟨(r,j),?_,y⟩) ?_
   ·cases q <;> first|exact M.elim|simp[bz,O]
   ·rintro q' J ep z E' H R rfl;exact absurd O iQ
 |own q hh E' H Y=>exact absurd trivial a0
 |nal q J ep z E' H Y =>
  simp only[aC]at u;cases X:bq st J ep with
  |false=>simp[X,dg]at u
  |true =>
   simp only[X]at u;refine I _ [] _ hl u (λk y=>.inl y) (λM=>M.elim) ?_;intro q' a5 a4 a2 a3 a6 R a1;cases a1;refine⟨X,λk y b hb=>.inr ⟨(k.1,k.2.1),?_,hb⟩⟩;simp only[bz,aC]
   grind
 |ro q E' H Y=>exact I _ [] _ hl u (λk y=>.inl y) (λM=>M.elim) (λ_ _ _ _ _ _ _ h=>by cases h)
 |nil=>exact I _ [] _ hl u (λk y=>.inl y) (λM=>M.elim) (λ_ _ _ _ _ _ _ h=>by cases h)
 |_=>simp[aC,dg]at u
theorem wP {a:Act}(h:an P V W st a w){l:Leaf}{v:Value}{n:Nat}(X:aK P V W st w [] l v)(Y:¬ am l)(u:f9 (aC st l)=some n):Rd w (λ_=>False) .hdr n [v]:=by
 have H:∀ (q:Leaf) (Z:List Nat),aK P V W st w Z q v->f9 q=some n->(∀ p J ep z E e O,q=.nal p J ep z E e O->bq st J ep=true)->Rd w (λ_=>False) .hdr n [v]:=by
  intro q Z I u hn;cases q with
  |ro p E e O =>
   simp only[f9,BN]at u;subst u;obtain⟨A,y,M,_⟩:=I;exact⟨A,y,M⟩
  |own p hh E e O =>
   simp only[f9,BN]at u;subst u;obtain⟨A,y,M,_⟩:=OwH.slice I;exact⟨A,y,by rw[M]⟩
  |nal p J ep z E e O =>
   simp only[f9,BN]at u;subst u;have R:=hn _ _ _ _ _ _ _ rfl;obtain⟨A,y,M,_⟩:=(I.2.2 (ct R).1 (ct R).2.1 (ct R).2.2:si V W w p J z E e O v).rd;exact⟨A,y,M⟩
  |nil =>
   simp only[f9,BN]at u;subst u;exact⟨none,0,by rw[show v=_ from I]⟩
  |hdr m =>
   simp only[f9,BN]at u;subst u;obtain⟨A,y,M⟩:=I;exact⟨A,y,by rw[M]⟩
  |_=>simp[f9]at u
 cases l with
 |al r j m =>
  by_cases hd:aC st (.al r j m)=.dead
  ·rw[hd]at u;simp[f9]at u
  ·obtain⟨h1,h2⟩:=fh rfl hd;have h3:=h.leaf r j _ v h2 (X.2 h1);refine H _ _ h3 u λp J ep z E e O I=>absurd I iQ
 |own q hh E' e' ys=>exact absurd trivial Y
 |nal q J ep z E' e' ys =>
  simp only[aC]at u;cases R:bq st J ep with
  |false=>simp[R,f9]at u
  |true =>
   grind
 |ro q E' e' ys=>exact H _ [] X u (λ_ _ _ _ _ _ _ h=>by cases h)
 |nil=>exact H _ [] X u (λ_ _ _ _ _ _ _ h=>by cases h)
 |hdr m=>exact H _ [] X u (λ_ _ _ _ _ _ _ h=>by cases h)
 |_=>simp[aC,f9]at u
theorem kR {a:Act}(h:an P V W st a w):∀ (b:Ty) (ls:List Leaf) (cs:List Value) (p:Bool) (x:b.den) (u:List Leaf),aB P V W st w ls cs ->
  a8 st b ls=some (p,x,u)->∃ M R O,cs=M++R/\ls=O++u/\aB P V W st w O M/\aB P V W st w u R/\Rd w (bm V W p (bz st O)) b x M
 |.int k,ls,cs,p,x,u,H,r=>by
  simp only[a8]at r;split at r
  ·rename_i k' n ls;split at r
   ·rename_i I;obtain⟨rfl,rfl,rfl⟩:=r;cases cs with
    |nil=>exact H.elim
    |cons v cs=>exact⟨[v],cs,[_],rfl,rfl,⟨H.1,trivial⟩,H.2,by rw[show v=_ from H.1.1,I];rfl⟩
   ·grind
  ·grind
 |.bool,ls,cs,p,x,u,H,r=>by
  simp only[a8]at r;split at r
  ·simp at r;obtain⟨rfl,rfl,rfl⟩:=r;cases cs with
   |nil=>exact H.elim
   |cons v cs=>exact⟨[v],cs,[_],rfl,rfl,⟨H.1,trivial⟩,H.2,by rw[show v=_ from H.1.1];rfl⟩
  ·grind
 |.str,ls,cs,p,x,u,H,r=>by
  simp only[a8]at r;split at r
  ·simp at r;obtain⟨rfl,rfl,rfl⟩:=r;cases cs with
   |nil=>exact H.elim
   |cons v cs=>exact⟨[v],cs,[_],rfl,rfl,⟨H.1,trivial⟩,H.2,by rw[show v=_ from H.1.1];rfl⟩
  ·grind
 |.unit,ls,cs,p,x,u,H,r=>by
  obtain⟨rfl,_,rfl⟩:=r;exact⟨[],cs,[],rfl,rfl,trivial,H,rfl⟩
 |.hdr,ls,cs,p,x,u,H,r=>by
  simp only[a8]at r;split at r
  ·rename_i l J;split at r
   ·rename_i n hn;obtain⟨rfl,rfl,rfl⟩:=r;cases cs with
    |nil=>exact H.elim
    |cons v cs=>exact⟨[v],cs,[l],rfl,rfl,⟨H.1,trivial⟩,H.2,wP h H.1.1 H.1.2.1 hn⟩
   ·grind
  ·grind
 |.pair b c,ls,cs,p,x,u,H,r=>by
  simp only[a8]at r;split at r
  ·rename_i q y J hb;split at r
   ·rename_i q' z X hc;simp at r;obtain⟨rfl,rfl,rfl⟩:=r;obtain⟨M,R,O,e1,e2,h1,h2,h3⟩:=kR h b ls cs q y J H hb;obtain⟨Z,c4,l2,e3,e4,h4,h5,h6⟩:=kR h c J R q' z X h2 hc;refine⟨M++Z,c4,O++l2,by rw[e1,e3,B8],by rw[e2,e4,B8],h1.append h4,h5,M,Z,rfl,?_,?_⟩
    ·refine Rd.mono (λk I=>?_) h3;rcases I with I|⟨y,Y,I⟩
     ·exact .inl (bT (by simp_all) (λ_ h=>h) k I)
     ·exact .inr ⟨y,by rw[kt];exact BM _ Y,I⟩
    ·refine Rd.mono (λk I=>?_) h6;rcases I with I|⟨y,Y,I⟩
     ·exact .inl (bT (by simp_all) (λ_ h=>h) k I)
     ·exact .inr ⟨y,by rw[kt];exact BL _ Y,I⟩
   ·grind
  ·grind
 |.list m E e,ls,cs,p,x,u,H,r=>by
  simp only[a8]at r;split at r
  ·rename_i l J;split at r
   ·rename_i q ys ha;obtain⟨rfl,rfl,rfl⟩:=r;cases cs with
    |nil=>exact H.elim
    |cons v cs=>exact⟨[v],cs,[l],rfl,rfl,⟨H.1,trivial⟩,H.2,kQ h H.1.1 H.1.2.1 ha⟩
   ·grind
  ·grind
theorem eE {a:Act}(h:an P V W st a w){b:Ty}{ls:List Leaf}{cs:List Value}{p:Bool}{x:b.den}(H:aB P V W st w ls cs)
  (r:cO st b ls=some (p,x)):Rd w (bm V W p (bz st ls)) b x cs:=by
 unfold cO at r;split at r
 ·rename_i q y z;obtain⟨M,u,O,Y,R,X,I,J⟩:=kR h b ls cs _ _ _ H z;have:u=[]:=by
   cases u with
   |nil=>rfl
   |cons=>exact I.elim
  simp_all
 ·grind
end
section
variable {P:Program} {V:Env} {W W':Wit} {st st':St} {w w':World} {a:Act}
theorem bC (A B:Upd)(st:St):ac (A++B) st=ac A (ac B st):=by
 funext q;induction A with
 |nil=>rfl
 |cons x A u=>obtain⟨r,c⟩:=x;simp only[Cc,ac,u]
theorem aQ (r:Nat)(c:bQ)(U:Upd)(st:St):ac ((r,c)::U) st=ac [(r,c)] (ac U st):=bC [(r,c)] U st
theorem bj (r:Nat)(c:bQ)(st:St):ac [(r,c)] st r=c:=by simp[ac]
theorem aJ {r q:Nat}(h:q≠r)(c:bQ)(st:St):ac [(r,c)] st q=st q:=by
 have:BG q r=false:=by
  cases u:BG q r with
  |false=>rfl
  |true=>exact absurd (BH u) h
 simp[ac,this]
theorem aj (r q:Nat)(c:bQ)(st:St):(q=r/\ac [(r,c)] st q=c)\/(q≠r/\ac [(r,c)] st q=st q):=by
 by_cases h:q=r
 ·subst h;exact .inl ⟨rfl,bj q c st⟩
 ·exact .inr ⟨h,aJ h c st⟩
def cd (V:Env)(W:Wit)(st:St)(k:Nat):Prop :=
 W.nw k\/V.prot k\/(∃ b,live st b/\W.β b=k)\/∃ r j l,(st r).ls[j]?=some l/\am l/\k∈W.bs r j
theorem an.own_lt (h:an P V W st a w){r j:Nat}{l:Leaf}(u:(st r).ls[j]?=some l)(z:am l):∀ k∈W.bs r j,k<w.heap.size:=by
 have y:j<(W.cs r).length:=by rw[<- h.len];exact (BI.1 u).1
 have:=h.leaf r j l _ u (BK y);cases l <;> simp only[am]at z;exact OwH.lt this
theorem an.box_lt (h:an P V W st a w){b:Nat}(r:live st b):W.β b<w.heap.size:=by
 rcases h.boxes b r.1 with ⟨u,_⟩|⟨_,E,y⟩
 ·exact absurd (u.symm.trans r.2) (by simp)
 ·grind
theorem an.used_lt (h:an P V W st a w):∀ k,cd V W st k->k<w.heap.size:=by
 intro k u;rcases u with u|u|⟨b,H,rfl⟩|⟨r,j,l,I,y,z⟩
 ·exact (h.nwlt k u).1
 ·exact B5 u.1 h.size
 ·exact h.box_lt H
 ·exact h.own_lt I y k z
theorem an.world (Y:ay V)(h:an P V W st a w)(R:w.heap.size<=w'.heap.size)(M:w'.os=w.os)(Z:w'.tape=w.tape)(O:w'.output=w.output)
  (u:∀ k,cd V W st k->w'.heap[k]?=w.heap[k]?):an P V W st a w':=by
 have H:cA V W W st st w w':=⟨λr=>⟨BO _,λ_=>rfl⟩,λb J=>⟨J,rfl⟩,λ_ h=>h,λk h=>u k (h.elim .inl (λh=>.inr (.inl h))),
  λ_ r j l y I _=>⟨⟨l,y,I⟩,rfl,λk z=>u k (.inr (.inr (.inr ⟨r,j,l,y,I,z⟩)))⟩⟩
 exact {
  nt:=h.nt,df:=h.df,slots:=h.slots,
  boxes:=λb J=>(h.boxes b J).imp id λ⟨y,E,I⟩=>⟨y,E,by rw[u _ (.inr (.inr (.inl ⟨b,⟨J,y⟩,rfl⟩)))];exact I⟩
  len:=h.len,one:=h.one,
  leaf:=λr j l v y I=>(h.leaf r j l v y I).carry Y.ro H (λO=>⟨rfl,λk z=>u k (.inr (.inr (.inr ⟨r,j,l,y,O,z⟩)))⟩)
  ownb:=h.ownb,sep:=h.sep,box:=h.box,inj:=h.inj,
  nwlt:=λk u=>⟨B5 (h.nwlt k u).1 R,(h.nwlt k u).2⟩
  os:=M.trans h.os,tape:=Z.trans h.tape,output:=O.trans h.output,size:=BR h.size R,
  keep:=λk X=>(u k (.inr (.inl X))).trans (h.keep k X)
  fixb:=h.fixb,fixt:=h.fixt }
theorem an.below (y:ay V)(h:an P V W st a w)(r:Below w.heap.size w w'):an P V W st a w' :=
 h.world y r.size r.os r.tape r.output λk u=>r.block k (h.used_lt k u)
theorem an.relabel (hV:ay V)(h:an P V W st a w)(r:Nat)(c:bQ)(nw':Nat->Prop)(a3:(st r).ver<=c.ver)(R:c.sh=(st r).sh)
    (Y:c.ls.length=(st r).ls.length) (a1:∀ k,W.nw k->nw' k) (M:∀ k,nw' k->k<w.heap.size/\¬ V.prot k)
    (a2:∀ (j:Nat) (l:Leaf) (v:Value),c.ls[j]?=some l->(W.cs r)[j]?=some v->aK P V { W with nw:=nw' } (ac [(r,c)] st) w (W.bs r j) l v)
    (a4:∀ (j:Nat) (l:Leaf),c.ls[j]?=some l->am l->(st r).ls[j]?=some l)
    (J:∀ (q j:Nat) (l:Leaf),(ac [(r,c)] st q).ls[j]?=some l->am l->∀ k∈W.bs q j,¬ nw' k)
    (I:∀ b,live st b->¬ nw' (W.β b)):an P V { W with nw:=nw' } (ac [(r,c)] st) a w:=by
  have O:∀ b,live (ac [(r,c)] st) b<->live st b:=by
    intro b;rcases aj r b c st with ⟨rfl,e⟩|⟨_,e⟩
    · simp[live,e,R]
    · simp[live,e]
  have u:∀ (q j:Nat) (l:Leaf),(ac [(r,c)] st q).ls[j]?=some l->am l->(st q).ls[j]?=some l:=by
    intro q j l z y;rcases aj r q c st with ⟨rfl,e⟩|⟨_,e⟩
    · grind
    · grind
  have X:cA V W { W with nw:=nw' } st (ac [(r,c)] st) w w :=
    ⟨λq=>by
      rcases aj r q c st with ⟨rfl,e⟩|⟨_,e⟩
      · grind
      · rw[e];exact⟨BO _,λ_=>rfl⟩,
     λb H=>⟨(O b).2 H,rfl⟩,a1,λ_ _=>rfl,λ_ q j l z y h3=>⟨⟨l,u q j l z y,y⟩,rfl,λ_ _=>rfl⟩⟩
  exact {
    nt:=h.nt,df:=h.df,
    slots:=λt ht=>by
      rcases aj r t c st with ⟨rfl,e⟩|⟨_,e⟩
      · rw[e,R];exact h.slots t ht
      · rw[e];exact h.slots t ht
    boxes:=λb H=>by
      rcases aj r b c st with ⟨rfl,e⟩|⟨_,e⟩
      · rw[e,R]
        rcases h.boxes b H with ⟨z,y⟩|z
        · grind
        · grind
      · rw[e];exact h.boxes b H
    len:=λq=>by
      rcases aj r q c st with ⟨rfl,e⟩|⟨_,e⟩
      · rw[e,Y];exact h.len q
      · rw[e];exact h.len q
    one:=h.one
    leaf:=λq j l v z y=>by
      rcases aj r q c st with ⟨rfl,e⟩|⟨_,e⟩
      · grind
      · rw[e]at z
        exact (h.leaf q j l v z y).carry hV.ro X (λ_=>⟨rfl,λ_ _=>rfl⟩)
    ownb:=λq j l z y k Z=>⟨J q j l z y k Z,(h.ownb q j l (u q j l z y) y k Z).2.1,λb H=>(h.ownb q j l (u q j l z y) y k Z).2.2 b ((O b).1 H)⟩
    sep:=λq j l q' j' l' z y h3 h4=>h.sep q j l q' j' l' (u q j l z y) y (u q' j' l' h3 h4) h4
    box:=λb H=>⟨I b ((O b).1 H),(h.box b ((O b).1 H)).2⟩
    inj:=λb b' H a0=>h.inj b b' ((O b).1 H) ((O b').1 a0)
    nwlt:=M
    os:=h.os,tape:=h.tape,output:=h.output,size:=h.size,keep:=h.keep,
    fixb:=λx hx=>⟨(O _).2 (h.fixb x hx).1,(h.fixb x hx).2⟩,fixt:=h.fixt }
theorem aS {α:Type}(ls:List α)(j i:Nat)(x y:α)(h:(ls.set j x)[i]?=some y):(i=j/\y=x/\j<ls.length)\/(i≠j/\ls[i]?=some y):=by
 grind
theorem an.kill1 (J:ay V)(h:an P V W st a w)(r j:Nat):an P V W (ac [(r,gb (st r) j)] st) a w:=by
 refine h.relabel J r _ W.nw (BO _) rfl (by simp[gb,aT]) (λ_ h=>h) h.nwlt ?_ ?_ ?_ λb H=>(h.box b H).1
 ·intro i l v u y;rcases aS _ _ _ _ _ u with ⟨_,rfl,_⟩|⟨z,u⟩
  ·trivial
  ·refine (h.leaf r i l v u y).carry J.ro ⟨λq=>?_,λb H=>?_,λ_ h=>h,λ_ _=>rfl,λ_ q R X I O Y=>?_⟩ (λ_=>⟨rfl,λ_ _=>rfl⟩)
   ·rcases aj r q (gb (st r) j) st with ⟨rfl,e⟩|⟨_,e⟩
    ·rw[e];exact⟨BO _,λ_=>rfl⟩
    ·grind
   ·refine⟨⟨H.1,?_⟩,rfl⟩;rcases aj r b (gb (st r) j) st with ⟨rfl,e⟩|⟨_,e⟩
    ·rw[e];exact H.2
    ·rw[e];exact H.2
   ·rcases aj r q (gb (st r) j) st with ⟨rfl,e⟩|⟨_,e⟩
    ·rw[e]at I;rcases aS _ _ _ _ _ I with ⟨_,rfl,_⟩|⟨_,I⟩
     ·exact O.elim
     ·grind
    ·grind
 ·intro i l u y;rcases aS _ _ _ _ _ u with ⟨_,rfl,_⟩|⟨z,u⟩
  ·exact y.elim
  ·omega
 ·intro q i l u y;have:(st q).ls[i]?=some l:=by
   rcases aj r q (gb (st r) j) st with ⟨rfl,e⟩|⟨_,e⟩
   ·rw[e]at u;rcases aS _ _ _ _ _ u with ⟨_,rfl,_⟩|⟨z,u⟩
    ·exact y.elim
    ·omega
   ·grind
  exact λk M=>(h.ownb q i l this y k M).1
theorem an.frz1 (hV:ay V)(h:an P V W st a w)(r j:Nat) :
  an P V { W with nw:=λk=>W.nw k\/((∃ l,(st r).ls[j]?=some l/\am l)/\k∈W.bs r j) } (ac [(r,fX (st r) j)] st) a w:=by
 have O:∀ l,(st r).ls[j]?=some l->(st r).ls.getD j .dead=l:=λl hl=>by rw[BY,hl];rfl
 have u:∀ (i:Nat) (l:Leaf),(aT (st r).ls j (uK ((st r).ls.getD j .dead)))[i]?=some l->am l->(st r).ls[i]?=some l/\i≠j:=by
  intro i l z y;rcases aS _ _ _ _ _ z with ⟨rfl,rfl,hj⟩|⟨Z,z⟩
  ·rw[O _ (BK hj)]at y;generalize (st r).ls[i]=l at y;cases l with
   |own p hh E e xs=>cases hh <;> exact y.elim
   |_=>exact y.elim
  ·grind
 have I:cA V W { W with nw:=λk=>W.nw k\/((∃ l,(st r).ls[j]?=some l/\am l)/\k∈W.bs r j) } st (ac [(r,fX (st r) j)] st) w w:=by
  refine⟨λq=>?_,λb X=>?_,λ_ h=>.inl h,λ_ _=>rfl,λ_ q j' Y J M h5=>?_⟩
  ·rcases aj r q (fX (st r) j) st with ⟨rfl,e⟩|⟨_,e⟩
   ·rw[e];exact⟨BO _,λ_=>rfl⟩
   ·grind
  ·refine⟨⟨X.1,?_⟩,rfl⟩;rcases aj r b (fX (st r) j) st with ⟨rfl,e⟩|⟨_,e⟩
   ·rw[e];exact X.2
   ·rw[e];exact X.2
  ·rcases aj r q (fX (st r) j) st with ⟨rfl,e⟩|⟨_,e⟩
   ·rw[e]at J;exact⟨⟨Y,(u j' Y J M).1,M⟩,rfl,λ_ _=>rfl⟩
   ·grind
 refine h.relabel hV r _ _ (BO _) rfl (by simp[fX,aT]) (λ_ h=>.inl h) ?_ ?_ (λi l z y=>(u i l z y).1) ?_ ?_
 ·rintro k (H|⟨⟨l,z,y⟩,H⟩)
  ·exact h.nwlt k H
  ·exact⟨h.own_lt z y k H,(h.ownb r j l z y k H).2.1⟩
 ·intro i l v z y;rcases aS _ _ _ _ _ z with ⟨rfl,rfl,hj⟩|⟨Z,z⟩
  ·have J:(st r).ls[i]?=some (st r).ls[i]:=BK hj;have M:=h.leaf r i _ v J y;rw[O _ J];generalize hq:(st r).ls[i]=q at J M;cases q with
   |own p hh E e xs =>
    cases hh with
    |some _=>trivial
    |none =>
     refine Rd.mono (λk H=>?_) (OwH.rd (m:=false) (E':=E) M);rcases H with H|H
     ·exact bT (W':={ W with nw:=_ }) (λh=>h) (λ_ h=>.inl h) k H
     ·exact .inl (.inr ⟨⟨_,J,trivial⟩,H⟩)
   |_=>exact M.carry hV.ro I (λho=>ho.elim)
  ·exact (h.leaf r i l v z y).carry hV.ro I (λ_=>⟨rfl,λ_ _=>rfl⟩)
 ·intro q i l z y k H;have J:(st q).ls[i]?=some l/\(q,i)≠(r,j):=by
   rcases aj r q (fX (st r) j) st with ⟨rfl,e⟩|⟨Z,e⟩
   ·rw[e]at z;have:=u i l z y
    simp_all
   ·grind
  rintro (R|⟨⟨Y,M,h5⟩,R⟩)
  ·exact (h.ownb q i l J.1 y k H).1 R
  ·obtain⟨rfl,rfl⟩:=h.sep q i l r j Y J.1 y M h5 k H R
   simp_all
 ·rintro b X (R|⟨⟨Y,M,h5⟩,R⟩)
  ·exact (h.box b X).1 R
  ·exact (h.ownb r j Y M h5 _ R).2.2 b X rfl
theorem l8 (I:ay V):∀ (ks:List (Nat×Nat)),an P V W st a w->an P V W (ac (aN st ks) st) a w /\
  (∀ (q i:Nat) (l:Leaf),(ac (aN st ks) st q).ls[i]?=some l->am l->(st q).ls[i]?=some l/\(q,i)∉ks) /\
  (∀ q,(ac (aN st ks) st q).sh=(st q).sh/\(st q).ver<=(ac (aN st ks) st q).ver)
 |[],h=>⟨h,λ_ _ _ z _=>⟨z,by simp⟩,λ_=>⟨rfl,BO _⟩⟩
 |(r,j)::ks,h=>by
  obtain⟨z,M,H⟩:=l8 I ks h;have e:ac (aN st ((r,j)::ks)) st=ac [(r,gb (ac (aN st ks) st r) j)] (ac (aN st ks) st):=aQ _ _ _ _;rw[e];refine⟨z.kill1 I r j,λq i l y J=>?_,λq=>?_⟩
  ·have O:(ac (aN st ks) st q).ls[i]?=some l/\(q,i)≠(r,j):=by
    rcases aj r q (gb (ac (aN st ks) st r) j) (ac (aN st ks) st) with ⟨rfl,e⟩|⟨u,e⟩
    ·rw[e]at y;rcases aS _ _ _ _ _ y with ⟨_,rfl,_⟩|⟨u,y⟩
     ·exact J.elim
     ·grind
    ·grind
   simp_all
  ·rcases aj r q (gb (ac (aN st ks) st r) j) (ac (aN st ks) st) with ⟨rfl,e⟩|⟨u,e⟩
   ·rw[e];exact⟨(H q).1,(H q).2⟩
   ·grind
def Wit.frz (W:Wit)(st:St)(ks:List (Nat×Nat)):Wit :=
 { W with nw:=λk=>W.nw k\/∃ x∈ks,(∃ l,(st x.1).ls[x.2]?=some l/\am l)/\k∈W.bs x.1 x.2 }
theorem an.nw_congr (h:an P V W st a w){nw':Nat->Prop}(e:∀ k,W.nw k<->nw' k):an P V { W with nw:=nw' } st a w:=by
 have:nw'=W.nw:=funext λk=>propext (e k).symm
 subst this;exact h
theorem lE (X:ay V):∀ (ks:List (Nat×Nat)),an P V W st a w->an P V (W.frz st ks) (ac (aD st ks) st) a w /\
  (∀ (q i:Nat) (l:Leaf),(ac (aD st ks) st q).ls[i]?=some l->am l->(st q).ls[i]?=some l/\(q,i)∉ks) /\
  (∀ q,(ac (aD st ks) st q).sh=(st q).sh/\(st q).ver<=(ac (aD st ks) st q).ver)
 |[],h=>⟨h.nw_congr (λk=>by simp),λ_ _ _ J _=>⟨J,by simp⟩,λ_=>⟨rfl,BO _⟩⟩
 |(r,j)::ks,h=>by
  obtain⟨J,h2,Y⟩:=lE X ks h;have e:ac (aD st ((r,j)::ks)) st=ac [(r,fX (ac (aD st ks) st r) j)] (ac (aD st ks) st):=aQ _ _ _ _;rw[e];refine⟨?_,λq i l M O=>?_,λq=>?_⟩
  ·have h7:=J.frz1 X r j;have h8:=h7.nw_congr (nw':=(W.frz st ((r,j)::ks)).nw) (λk=>?_)
   ·exact h8
   ·simp only[Wit.frz];constructor
    ·rintro ((y|⟨x,R,y⟩)|⟨⟨l,u,H⟩,y⟩)
     ·grind
     ·grind
     ·exact .inr ⟨(r,j),CU ..,⟨l,(h2 r j l u H).1,H⟩,y⟩
    ·rintro (y|⟨x,R,⟨l,u,H⟩,y⟩)
     ·grind
     ·rcases CS.1 R with rfl|R
      ·by_cases I:(r,j)∈ks
       ·exact .inl (.inr ⟨(r,j),I,⟨l,u,H⟩,y⟩)
       ·refine .inr ⟨⟨l,?_,H⟩,y⟩;exact iM ks I u
      ·grind
  ·have h6:(ac (aD st ks) st q).ls[i]?=some l/\(q,i)≠(r,j):=by
    rcases aj r q (fX (ac (aD st ks) st r) j) (ac (aD st ks) st) with ⟨rfl,e⟩|⟨z,e⟩
    ·rw[e]at M;rcases aS _ _ _ _ _ M with ⟨rfl,rfl,hj⟩|⟨z,M⟩
     ·exfalso;generalize (ac (aD st ks) st q).ls.getD i .dead=Z at O;cases Z with
      |own p hh E e xs=>cases hh <;> exact O.elim
      |_=>exact O.elim
     ·grind
    ·grind
   simp_all
  ·rcases aj r q (fX (ac (aD st ks) st r) j) (ac (aD st ks) st) with ⟨rfl,e⟩|⟨z,e⟩
   ·rw[e];exact⟨(Y q).1,(Y q).2⟩
   ·grind
where
 iM:∀ (ks:List (Nat×Nat)) {r j:Nat} {l:Leaf},(r,j)∉ks->(st r).ls[j]?=some l->(ac (aD st ks) st r).ls[j]?=some l
  |[],_,_,_,_,u=>u
  |(q,i)::ks,r,j,l,hn,u=>by
   have J:=iM ks (λI=>hn (CM _ I)) u;have e:ac (aD st ((q,i)::ks)) st=ac [(q,fX (ac (aD st ks) st q) i)] (ac (aD st ks) st):=aQ _ _ _ _;rw[e];rcases aj q r (fX (ac (aD st ks) st q) i) (ac (aD st ks) st) with ⟨rfl,e⟩|⟨z,e⟩
   ·rw[e];simp only[fX,aT]
    grind
   ·grind
theorem an.put (hV:ay V)(h:an P V W st a w)(d:Nat)(hd:d<V.nt)(a3:∀ x∈V.fixt,x.1≠d)(n:Nat)(sh:aI)(ls:List Leaf)(v:Value)
  (J:List Value) (I:Nat->List Nat) (hn:(st d).ver<n) (hs:ee sh v J) (hl:ls.length=J.length) (h1:∀ u∈J,u.oneCell'=true)
  (a2:∀ (j:Nat) (l:Leaf) (u:Value),ls[j]?=some l->J[j]?=some u->aK P V W st w (I j) l u)
  (a1:∀ (j:Nat) (l:Leaf),ls[j]?=some l->am l->∀ k∈I j,¬ W.nw k/\¬ V.prot k/\(∀ b,live st b->W.β b≠k) /\
   ∀ (r1 j1:Nat) (l1:Leaf),r1≠d->(st r1).ls[j1]?=some l1->am l1->k∉W.bs r1 j1)
  (a4:∀ (j Z:Nat) (l l':Leaf),ls[j]?=some l->am l->ls[Z]?=some l'->am l'->∀ k,k∈I j->k∈I Z->j=Z) :
  an P V { W with cs:=λr=>if r=d then J else W.cs r,bs:=λr j=>if r=d then I j else W.bs r j } (ac [(d,⟨n,sh,ls⟩)] st) (a.put (some d) v) w:=by
 have a6:d<B0:=B5 hd hV.ntB;have X:∀ b,live (ac [(d,⟨n,sh,ls⟩)] st) b<->live st b:=by
  intro b;by_cases hb:B0<=b
  ·rw[live,live,aJ (by omega)]
  ·simp[live,hb]
 have Y:cA V W { W with cs:=λr=>if r=d then J else W.cs r,bs:=λr j=>if r=d then I j else W.bs r j } st (ac [(d,⟨n,sh,ls⟩)] st) w w:=by
  refine⟨λq=>?_,λb hb=>⟨(X b).2 hb,rfl⟩,λ_ h=>h,λ_ _=>rfl,λ_ q Z l' M h4 h5=>?_⟩;rcases aj d q ⟨n,sh,ls⟩ st with ⟨rfl,e⟩|⟨y,e⟩
  ·grind
  ·grind
  rcases aj d q ⟨n,sh,ls⟩ st with ⟨rfl,e⟩|⟨y,e⟩
  ·grind
  ·grind
 have a0:∀ t,(a.put (some d) v).tmps.getD t undef=if t=d then v else a.tmps.getD t undef:=by
  intro t;by_cases ht:t=d
  ·subst ht;have:t<a.tmps.size:=by rw[h.nt];exact hd
   simp[Ck,this]
  ·simp only[Ck,if_neg ht];rw[CB,CB,Array.getElem?_setIfInBounds_ne (λe=>ht e.symm)]
 exact {
  nt:=by simp[Ck,h.nt],df:=by simp[Ck,h.df]
  slots:=λt ht=>by
   rw[a0];rcases aj d t ⟨n,sh,ls⟩ st with ⟨rfl,e⟩|⟨y,e⟩
   ·grind
   ·rw[e];simpa[y]using h.slots t ht
  boxes:=λb hb=>by
   have:b≠d:=by omega
   rw[aJ this];simpa[this]using h.boxes b hb
  len:=λq=>by
   rcases aj d q ⟨n,sh,ls⟩ st with ⟨rfl,e⟩|⟨y,e⟩
   ·grind
   ·rw[e];simpa[y]using h.len q
  one:=λq u hu=>by
   by_cases hq:q=d
   ·grind
   ·simp only[hq]at hu;exact h.one q u hu
  leaf:=λq j l u H M=>by
   rcases aj d q ⟨n,sh,ls⟩ st with ⟨rfl,e⟩|⟨y,e⟩
   ·rw[e]at H;simp at M;exact (a2 j l u H M).carry hV.ro Y (λ_=>⟨by simp,λ_ _=>rfl⟩)
   ·rw[e]at H;simp only[y]at M;exact (h.leaf q j l u H M).carry hV.ro Y (λ_=>⟨by simp[y],λ_ _=>rfl⟩)
  ownb:=λq j l H M k O=>by
   rcases aj d q ⟨n,sh,ls⟩ st with ⟨rfl,e⟩|⟨y,e⟩
   ·grind
   ·rw[e]at H;simp only[y]at O;have:=h.ownb q j l H M k O
    grind
  sep:=λq j l q' Z l' H M h4 h5 k O z=>by
   rcases aj d q ⟨n,sh,ls⟩ st with ⟨e0,e⟩|⟨y,e⟩ <;> rcases aj d q' ⟨n,sh,ls⟩ st with ⟨e1,e'⟩|⟨R,e'⟩
   ·rw[e]at H;rw[e']at h4;simp only[e0]at O;simp only[e1]at z;exact⟨e0.trans e1.symm,a4 j Z l l' H M h4 h5 k O z⟩
   ·rw[e]at H;rw[e']at h4;simp only[e0]at O;simp only[R]at z;exact absurd z ((a1 j l H M k O).2.2.2 q' Z l' R h4 h5)
   ·rw[e]at H;rw[e']at h4;simp only[y]at O;simp only[e1]at z;exact absurd O ((a1 Z l' h4 h5 k z).2.2.2 q j l y H M)
   ·rw[e]at H;rw[e']at h4;simp only[y]at O;simp only[R]at z;exact h.sep q j l q' Z l' H M h4 h5 k O z
  box:=λb hb=>h.box b ((X b).1 hb)
  inj:=λb b' hb a5=>h.inj b b' ((X b).1 hb) ((X b').1 a5)
  nwlt:=h.nwlt
  os:=h.os,tape:=h.tape,output:=h.output,size:=h.size,keep:=h.keep
  fixb:=λx hx=>⟨(X _).2 (h.fixb x hx).1,(h.fixb x hx).2⟩
  fixt:=λx hx=>by rw[a0,if_neg (a3 x hx)];exact h.fixt x hx }
theorem an.putLs (I:ay V)(h:an P V W st a w)(d:Nat)(X:d<V.nt)(y:∀ x∈V.fixt,x.1≠d)(n:Nat)(sh:aI)(ls:List Leaf)(v:Value)
  (r:List Value) (R:(st d).ver<n) (J:ee sh v r) (H:aB P V W st w ls r) :
  Rel P V (ac [(d,⟨n,sh,ls⟩)] st) (a.put (some d) v) w :=
 ⟨_,h.put I d X y n sh ls v r (λ_=>[]) R J H.length H.one' (λj l u O M=>(H.at_ j l u O M).1) (λ_ _ _ _ k z=>by simp at z)
  (λ_ _ _ _ _ _ _ _ k z=>by simp at z)⟩
end
def zeroCells:Ty->List Value
 |.int k=>[.int k 0]
 |.bool=>[.bool false]
 |.str=>[.string B4]
 |.unit=>[]
 |.pair a b=>zeroCells a++zeroCells b
 |.hdr=>[.slice none 0 0]
 |.list _ _ _=>[.slice none 0 0]
def bP (P:Program)(t:TypeId)(n:Nat):Prop:=(P.info? t).map (·.size)=some n
def d5 (P:Program)(t:TypeId)(z:Value):Prop:=(P.info? t).map (·.zero)=some (some z)
def EqAt (P:Program)(t:TypeId)(a:Ty):Prop:=a.flat=true->∀ (w:World) (G:Nat->Prop) (x y:a.den) (u r:List Value),Rd w G a x u->Rd w G a y r ->
 (Op.equal t (.agg u.toArray) (.agg r.toArray)).run P w=.ok (a.eqv x y) w
def oO (P:Program)(t:TypeId):TI->Prop
 |.int k=>P.underlying t=some (.int k)/\bP P t 1/\d5 P t (.int k 0)
 |.bool=>P.underlying t=some .bool/\bP P t 1/\d5 P t (.bool false)
 |.str=>P.underlying t=some .string/\bP P t 1/\d5 P t (.string B4)
 |.slice E e r=>P.underlying t=some (.slice E)/\bP P t 1/\d5 P t (.slice none 0 0)/\0<e.cells/\(0<r/\(e=.int .u8->P.underlying E=some (.int .u8))) /\
  ∃ i z,P.info? E=some i/\i.size=e.cells/\i.bytes=r/\i.zero=some z/\z.cells.toList=zeroCells e
 |.struct a u=>(∃ H,P.underlying t=some (.struct H)/\H.toList.mapM (λf=>(P.info? f.type).map λi=>(f.offset,i.size))=some (u.map λx=>(x.1,x.2.1)) /\
  ∀ (i off n:Nat) (agg:Bool),u[i]?=some (off,n,agg)->(agg=false->n=1)/\∃ f:Field,H[i]?=some f/\f.offset=off/\0<n/\off+n<=a.cells/\bP P f.type n /\
   (P.underlying f.type).map (λd=>match d with|.struct _|.array _ _=>true|_=>false)=some agg) /\
  bP P t a.cells/\d5 P t (.agg (zeroCells a).toArray)/\EqAt P t a/\P.eqGuardType P.depth t=false
 |.arr e n=>(∃ E,P.underlying t=some (.array n E)/\bP P E e.cells/\(P.underlying E).map (λd=>match d with|.struct _|.array _ _=>true|_=>false)=some e.isAgg)/\0<e.cells /\
  bP P t (n*e.cells)/\d5 P t (.agg ((BX n (zeroCells e)).flatten).toArray)
 |.ptr=>(∃ e,P.underlying t=some (.pointer e))/\bP P t 1/\d5 P t (.pointer none)
 |.fn=>(∃ x y z,P.underlying t=some (.func x y z))/\bP P t 1/\d5 P t .nilFunc
 |.none=>True
def TOk (P:Program)(T:TypeId->TI):Prop:=∀ t,oO P t (T t)
theorem sE {P:Program}:∀ {l:List (TypeId×TI)},(∀ x∈l,oO P x.1 x.2)->TOk P (gD l)
 |[],_,_=>trivial
 |(t,i)::l,h,u=>by
  simp only[gD];cases y:BG t u with
  |false=>exact sE (λx r=>h x (CM _ r)) u
  |true =>
   simp_all
section
variable {P:Program} {V:Env} {W:Wit} {st:St} {w:World} {a:Act} {o:Oper}
def mL (P:Program)(V:Env)(o:Oper)(st:St)(U:Upd)(a:Act)(w:World):Prop :=
 ∀ (next:Act->World->Prop) (Q:Exit->Act->World->Prop),(∀ u r,Rel P V (ac U st) u r->next u r)->o.wp P a w next Q
theorem dW {v:Value}{w':World}{next:Act->World->Prop}{Q:Exit->Act->World->Prop}(h:(execOp a.eval o).run P w=.ok (.value v) w')(r:next (a.put o.dst v) w'):o.wp P a w next Q:=by
 unfold Oper.wp;rw[h];exact r
theorem pD {w':World}{next:Act->World->Prop}{Q:Exit->Act->World->Prop}(h:(execOp a.eval o).run P w=.ok .skip w')(r:next (a.put o.dst undef) w'):o.wp P a w next Q:=by
 unfold Oper.wp;rw[h];exact r
def bM (V:Env)(o:Oper):Prop:=∀ d,o.dst=some d->d<V.nt/\∀ x∈V.fixt,x.1≠d
theorem dX (I:ay V)(h:an P V W st a w){d:Nat}(y:o.dst=some d)(r:bM V o){v:Value}{sh:aI}{ls:List Leaf}{cs:List Value}
  (u:(execOp a.eval o).run P w=.ok (.value v) w) (z:ee sh v cs) (H:aB P V W st w ls cs):mL P V o st (cf st [] d sh ls) a w:=by
 intro next Q J;refine dW u ?_;rw[y];exact J _ _ (h.putLs I d (r d y).1 (r d y).2 _ sh ls v cs (CJ _) z H)
theorem aO (I:ay V)(h:an P V W st a w){d:Nat}(z:o.dst=some d)(y:bM V o){v:Value}{l:Leaf}
  (r:(execOp a.eval o).run P w=.ok (.value v) w) (H:aK P V W st w [] l v) (u:¬ am l) (J:v.oneCell'=true):mL P V o st (cf st [] d .one [l]) a w :=
 dX I h z y r (cs:=[v]) rfl ⟨⟨H,u,J⟩,trivial⟩
theorem kl {agg:Bool}{v:Value}{cs:List Value}(h:da agg v cs):ee (bh agg) v cs:=by
 cases agg <;> exact h
theorem bE (h:an P V W st a w){x:Operand}{k:IntKind}{n:Int}(r:one st x=.int k n):a.eval x=.int k n:=by
 have:=(bt h x (by rw[r];simp)).1;rw[r]at this;exact this
theorem ik (h:an P V W st a w){x:Operand}{b:Bool}(r:one st x=.bool b):a.eval x=.bool b:=by
 have:=(bt h x (by rw[r];simp)).1;rw[r]at this;exact this
theorem iB (h:an P V W st a w){x:Operand}{b:ByteArray}(r:one st x=.str b):a.eval x=.string b:=by
 have:=(bt h x (by rw[r];simp)).1;rw[r]at this;exact this
theorem vD (r:BinOp)(k:IntKind)(t t':TypeId)(x y:Operand)(m n:Int)(l:Leaf)(u:su r k m n=some l)(I:a.eval x=.int k m)(z:a.eval y=.int k n)(H:o.op=.binOp r t x y t') :
  ∃ v,(execOp a.eval o).run P w=.ok (.value v) w/\aK P V W st w [] l v/\¬ am l/\v.oneCell'=true:=by
 cases r <;> simp only[su,BN,reduceCtorEq]at u <;> subst u <;>
  exact⟨_,by simp[execOp,H,I,z,eqGuard,Go.binOp,Op.intArith,Op.intCmp],rfl,id,rfl⟩
theorem BE (I:ay V)(h:an P V W st a w)(ks:List (Nat×Nat)):cA V W W st (ac (aN st ks) st) w w:=by
 obtain⟨_,z,r⟩:=l8 I ks h;exact⟨λq=>⟨(r q).2,λ_=>rfl⟩,λb y=>⟨⟨y.1,by rw[(r b).1];exact y.2⟩,rfl⟩,λ_ h=>h,λ_ _=>rfl,λ_ q j l H u _=>⟨⟨l,(z q j l H u).1,u⟩,rfl,λ_ _=>rfl⟩⟩
theorem step_frz (I:ay V)(h:an P V W st a w)(ks:List (Nat×Nat)):cA V W (W.frz st ks) st (ac (aD st ks) st) w w:=by
 obtain⟨_,z,r⟩:=lE I ks h;exact⟨λq=>⟨(r q).2,λ_=>rfl⟩,λb y=>⟨⟨y.1,by rw[(r b).1];exact y.2⟩,rfl⟩,λ_ h=>.inl h,λ_ _=>rfl,λ_ q j l H u _=>⟨⟨l,(z q j l H u).1,u⟩,rfl,λ_ _=>rfl⟩⟩
def dm (W:Wit)(ls:List Leaf)(j:Nat):List Nat :=
 match ls[j]? with
 |some (.al r i _)=>W.bs r i
 |_=>[]
theorem wQ:∀ {ls:List Leaf} {j r i n:Nat},ls[j]?=some (.al r i n)->am (aC st (.al r i n))->(r,i)∈bz st ls
 |l::ls,0,r,i,n,h,u=>by
  simp at h;subst h;generalize y:aC st (.al r i n)=q at u;cases q <;> first|exact u.elim|simp[bz,y]
 |l::ls,j+1,r,i,n,h,u=>by
  have:=wQ (ls:=ls) (by simpa using h) u;cases l <;> simp[bz,this]
theorem mM:∀ {ls:List Leaf} {j r i n:Nat},ls[j]?=some (.al r i n)->am (aC st (.al r i n))->(r,i)∈b6 st ls
 |l::ls,0,r,i,n,h,u=>by
  simp at h;subst h;generalize y:aC st (.al r i n)=q at u;cases q <;> first|exact u.elim|simp[b6,y]
 |l::ls,j+1,r,i,n,h,u=>by
  have:=mM (ls:=ls) (by simpa using h) u;cases l <;> simp[b6,this]
theorem oc:∀ {ls:List Leaf} {j u r i n I:Nat},aY (b6 st ls)=true->ls[j]?=some (.al r i n)->am (aC st (.al r i n)) ->
    ls[u]?=some (.al r i I)->am (aC st (.al r i I))->j=u
  |l::ls,j,u,r,i,n,I,y,h1,X,O,R=>by
    have a0:∀ (m:Nat) (k:Nat),l=.al r i m->am (aC st (.al r i m))->(∃ z,ls[k]?=some (.al r i z)/\am (aC st (.al r i z)))->False:=by
      rintro m k rfl J ⟨z,h5,h6⟩;have Y:=mM h5 h6;have Z:b6 st (.al r i m::ls)=(r,i)::b6 st ls:=by
        generalize M:aC st (.al r i m)=q at J;cases q <;> first|exact J.elim|simp[b6,M]
      rw[Z]at y;simp only[aY,BJ,CF]at y;have:=y.1;rw[CG]at this;have:=this _ Y;simp at this
    have H:aY (b6 st ls)=true:=by
      cases l <;> first
        |exact y
        | (rename_i r' u v'
           simp only[b6]at y;split at y
           · simp only[Cc,aY]at y
             grind
           · simpa using y)
    cases j with
    |zero =>
      cases u with
      |zero=>rfl
      |succ u =>
        grind
    |succ j =>
      cases u with
      |zero =>
        grind
      |succ u =>
        have:=oc (ls:=ls) H (by simpa using h1) X (by simpa using O) R;omega
theorem l9 (J:ay V)(h:an P V W st a w){l:Leaf}{v:Value}(u:aK P V W st w [] l v)(y:¬ am l) :
  (∃ r i n,l=.al r i n/\am (aC st l)/\aK P V W st w (W.bs r i) (aC st l) v/\(st r).ls[i]?=some (aC st l)) \/
  (¬ am (aC st l)/\aK P V W st w [] (aC st l) v):=by
 cases l with
 |al r j n =>
  by_cases H:aC st (.al r j n)=.dead
  ·rw[H];exact .inr ⟨id,trivial⟩
  ·obtain⟨X,O⟩:=fh rfl H;have Z:=u.2 X;have M:=h.leaf r j _ v O Z;by_cases z:am (aC st (.al r j n))
   ·grind
   ·exact .inr ⟨z,M.carry J.ro (cA.refl V W st w) (λh=>absurd h z)⟩
 |own p hh E e I=>exact absurd trivial y
 |nal p Y ep R E e I =>
  simp only[aC];cases bq st Y ep with
  |false=>exact .inr ⟨id,trivial⟩
  |true=>exact .inr ⟨id,u⟩
 |_=>exact .inr ⟨id,u⟩
end
section
variable {P:Program} {V:Env} {W:Wit} {st:St} {w w':World} {a:Act} {o:Oper} {ls:List Leaf} {cs:List Value}
theorem iC {st st':St}(h:∀ q,(st' q).sh=(st q).sh)(b:Nat):live st' b<->live st b:=by simp[live,h]
def aA (st:St)(x:Nat×Nat):Prop:=∃ l,(st x.1).ls[x.2]?=some l/\am l
def aW (W:Wit)(ks:List (Nat×Nat)):List Nat:=ks.flatMap λx=>W.bs x.1 x.2
theorem dI (W:Wit)(a b:List (Nat×Nat)):aW W (a++b)=aW W a++aW W b:=List.flatMap_append
theorem gl {W:Wit}{ks:List (Nat×Nat)}{k:Nat}:k∈aW W ks<->∃ x∈ks,k∈W.bs x.1 x.2:=List.mem_flatMap
theorem ku {W:Wit}{p:Bool}{ks:List (Nat×Nat)}(u:∀ x∈ks,aA st x):∀ k,bm V W p ks k->gd V (W.frz st ks) p k:=by
 rintro k (r|⟨x,y,r⟩)
 ·exact bT (W':=W.frz st ks) (λh=>h) (λ_ h=>Or.inl h) k r
 ·exact .inl (.inr ⟨x,y,u x y,r⟩)
theorem nM {a b:List (Nat×Nat)}(h:dz a b=true):∀ x∈a,x∉b:=by
 intro x u r;simp only[dz,CF,CG]at h;have:=h x u;simp only[Cb,CG]at this;have:=this x r;simp[iv]at this
theorem fK (hV:ay V){W:Wit}{a:Act}{w:World}(h:an P V W st a w){frz kill:List (Nat×Nat)}(Y:dz frz kill=true)(X:∀ x∈kill,aA st x) :
  an P V (W.frz st frz) (ac (aN (ac (aD st frz) st) kill++aD st frz) st) a w /\
  (∀ (q i:Nat) (l:Leaf),(ac (aN (ac (aD st frz) st) kill++aD st frz) st q).ls[i]?=some l->am l->(st q).ls[i]?=some l/\(q,i)∉frz/\(q,i)∉kill) /\
  (∀ q,(ac (aN (ac (aD st frz) st) kill++aD st frz) st q).sh=(st q).sh/\(st q).ver<=(ac (aN (ac (aD st frz) st) kill++aD st frz) st q).ver) /\
  (∀ k∈aW W kill,¬ (W.frz st frz).nw k/\¬ V.prot k/\k<w.heap.size/\(∀ b,live (ac (aN (ac (aD st frz) st) kill++aD st frz) st) b->W.β b≠k) /\
   ∀ (H i:Nat) (l:Leaf),(ac (aN (ac (aD st frz) st) kill++aD st frz) st H).ls[i]?=some l->am l->k∉W.bs H i):=by
 obtain⟨h1,h2,h3⟩:=lE hV frz h;obtain⟨h4,h5,h6⟩:=l8 hV kill h1;rw[<- bC]at h4 h5 h6;have J:∀ q,(ac (aN (ac (aD st frz) st) kill++aD st frz) st q).sh=(st q).sh:=λq=>(h6 q).1.trans (h3 q).1
 have u:∀ (q i:Nat) (l:Leaf),(ac (aN (ac (aD st frz) st) kill++aD st frz) st q).ls[i]?=some l->am l->(st q).ls[i]?=some l/\(q,i)∉frz/\(q,i)∉kill:=by
  simp_all
 refine⟨h4,u,λq=>⟨J q,BR (h3 q).2 (h6 q).2⟩,λk z=>?_⟩;obtain⟨x,hx,z⟩:=gl.1 z;obtain⟨l,M,r⟩:=X x hx;have h7:=h.ownb x.1 x.2 l M r k z;refine⟨?_,h7.2.1,h.own_lt M r k z,λb hb=>h7.2.2 b ((iC J b).1 hb),λH i l1 h8 h9 R=>?_⟩
 ·rintro (hn|⟨y,hy,⟨l2,a0,I⟩,O⟩)
  ·grind
  ·obtain⟨e1,e2⟩:=h.sep y.1 y.2 l2 x.1 x.2 l a0 I M r k O z;exact nM Y y hy (by rw[show y=x from Prod.ext e1 e2];exact hx)
 ·obtain⟨Z,_,a1⟩:=u H i l1 h8 h9;obtain⟨e1,e2⟩:=h.sep x.1 x.2 l H i l1 M r Z h9 k z R
  simp_all
theorem zU (I:ay V)(h:an P V W st a w)(frz kill:List (Nat×Nat)):cA V W (W.frz st frz) st (ac (aN (ac (aD st frz) st) kill++aD st frz) st) w w:=by
 obtain⟨O,J,y⟩:=lE I frz h;obtain⟨_,z,u⟩:=l8 I kill O;rw[<- bC]at z u;exact⟨λq=>⟨BR (y q).2 (u q).2,λ_=>rfl⟩,λb H=>⟨⟨H.1,by rw[(u b).1,(y b).1];exact H.2⟩,rfl⟩,λ_ h=>.inl h,λ_ _=>rfl,
  λ_ q j l M r _=>⟨⟨l,(J q j l (z q j l M r).1 r).1,r⟩,rfl,λ_ _=>rfl⟩⟩
theorem sG:∀ {ls:List Leaf} {j:Nat} {p:Bool} {ks:List (Nat×Nat×Nat)} {ep:Nat} {E:TypeId} {e:Ty} {xs:List e.den},ls[j]?=some (.nal p ks ep none E e xs)->bq st ks ep=true->∀ k∈ks,(k.1,k.2.1)∈du st ls
 |l::ls,0,p,ks,ep,E,e,xs,h,y,k,u=>by
  simp at h;subst h;simp only[du,aC]
  grind
 |l::ls,j+1,p,ks,ep,E,e,xs,h,y,k,u=>by
  have:=sG (ls:=ls) (by simpa using h) y k u;cases l with
  |nal J I H r M O z=>cases r <;> simp[du,this]
  |_=>simp[du,this]
theorem sH {ls:List Leaf}(h:ic st ls=true):aY (b6 st ls)=true/\dz (du st ls) (b6 st ls)=true:=by
 simpa[ic]using h
theorem od (y:aB P V W st w ls cs){x:Nat×Nat}(u:x∈b6 st ls):aA st x:=by
 induction ls generalizing cs with
 |nil=>simp[b6]at u
 |cons l ls z =>
  cases cs with
  |nil=>exact y.elim
  |cons v cs =>
   cases l with
   |al r j n =>
    simp only[b6,BT]at u;rcases u with u|u
    ·split at u
     ·rename_i p J E e I H;simp at u;subst u;exact⟨_,(fh H (by simp)).2,trivial⟩
     ·grind
    ·exact z y.2 u
   |_=>exact z y.2 u
theorem AT {l:Leaf}(h:am (gi st l)):am (aC st l)/\gi st l=aC st l:=by
 unfold gi at h ⊢;split at h
 ·exact h.elim
 ·exact⟨h,rfl⟩
theorem oP (hV:ay V)(h:an P V W st a w){ls:List Leaf}{cs:List Value}(hl:aB P V W st w ls cs)(a6:ic st ls=true) :
    an P V (W.frz st (du st ls)) (ac (mvU st ls) st) a w/\(dH st ls).length=cs.length /\
    (∀ (j:Nat) (l:Leaf) (u:Value),(dH st ls)[j]?=some l->cs[j]?=some u->aK P V (W.frz st (du st ls)) (ac (mvU st ls) st) w (dm W ls j) l u) /\
    (∀ (j:Nat) (l:Leaf),(dH st ls)[j]?=some l->am l->∀ k∈dm W ls j,¬ (W.frz st (du st ls)).nw k/\¬ V.prot k/\k<w.heap.size /\
      (∀ b,live (ac (mvU st ls) st) b->W.β b≠k) /\
      ∀ (r1 j1:Nat) (l1:Leaf),(ac (mvU st ls) st r1).ls[j1]?=some l1->am l1->k∉W.bs r1 j1) /\
    (∀ (j j':Nat) (l l':Leaf),(dH st ls)[j]?=some l->am l->(dH st ls)[j']?=some l'->am l'->∀ k,k∈dm W ls j->k∈dm W ls j'->j=j'):=by
  obtain⟨hd,b0⟩:=sH a6;obtain⟨h1,h2,h3,b2⟩:=fK hV h b0 (λx hx=>od hl hx);have J:=zU hV h (du st ls) (b6 st ls);show an P V (W.frz st (du st ls)) (ac (aN (ac (aD st (du st ls)) st) (b6 st ls)++aD st (du st ls)) st) a w/\_;have R:∀ (j:Nat) (l:Leaf),(dH st ls)[j]?=some l->∃ z u,ls[j]?=some z/\cs[j]?=some u/\gi st z=l/\aK P V W st w [] z u/\¬ am z:=by
    intro j l M;simp only[dH,CX,BU]at M;obtain⟨z,H,Z⟩:=M;have a4:j<cs.length:=by rw[<- hl.length];exact (BI.1 H).1
    have O:=BK a4;have h7:=hl.at_ j z _ H O
    simp_all
  have y:∀ (j:Nat) (l:Leaf),(dH st ls)[j]?=some l->am l->∃ r i n,ls[j]?=some (.al r i n)/\am (aC st (.al r i n))/\(st r).ls[i]?=some l:=by
    intro j l M ho;obtain⟨z,u,H,Z,rfl,O,h7⟩:=R j l M;obtain⟨Y,e0⟩:=AT ho;rcases l9 hV h O h7 with ⟨r,i,n,rfl,h8,_,h9⟩|⟨h8,_⟩
    · grind
    · grind
  refine⟨h1,by simp[dH,hl.length],λj l u M hu=>?_,λj l M ho k I=>?_,λj j' l l' M ho b3 Y k I a3=>?_⟩
  · obtain ⟨z, u', H, Z, rfl, O, h7⟩ := R j l M
    obtain rfl:u=u':=Option.some.inj (hu.symm.trans Z);have a0:gi st z=aC st z->aK P V (W.frz st (du st ls)) (ac (mvU st ls) st) w (dm W ls j) (gi st z) u:=by
      intro e0;rw[e0];rcases l9 hV h O h7 with ⟨r,i,n,rfl,h8,h9,_⟩|⟨h8,h9⟩
      · have:dm W ls j=W.bs r i:=by simp[dm,H]
        rw[this];exact h9.carry hV.ro J (λ_=>⟨rfl,λ_ _=>rfl⟩)
      · exact h9.carry hV.ro J (λh=>absurd h h8)
    by_cases X:∃ p ks ep E e xs,aC st z=.nal p ks ep none E e xs
    · obtain⟨p,ks,ep,E,e,xs,X⟩:=X
      have e0:gi st z=.ro p E e xs:=by unfold gi;rw[X]
      rw[e0];have a1:z=.nal p ks ep none E e xs/\bq st ks ep=true:=by
        cases z with
        |al r i n=>exact absurd X iQ
        |nal p' b1 ad b4 E' e' b5 =>
          simp only[aC]at X;cases hv:bq st b1 ad with
          |false=>simp[hv]at X
          |true =>
            simp_all
        |_=>simp[aC]at X
      obtain⟨rfl,hv⟩:=a1;refine Rd.mono (λk I=>?_) (pC hv O).rd;rcases I with I|⟨x,hx,I⟩
      · exact bT (W':=W.frz st (du st ls)) (λh=>h) (λ_ h=>Or.inl h) k I
      · exact .inl (.inr ⟨(x.1,x.2.1),sG H hv x hx,(ct hv).2.2 x hx,I⟩)
    · refine a0 ?_
      unfold gi
      grind
  · obtain⟨r,i,n,H,Z,O⟩:=y j l M ho
    have e:dm W ls j=W.bs r i:=by simp[dm,H]
    rw[e]at I;exact b2 k (gl.2 ⟨(r,i),mM H Z,I⟩)
  · obtain⟨r,i,n,H,Z,O⟩:=y j l M ho
    obtain⟨r',i',n',a2,a9,a5⟩:=y j' l' b3 Y;have e:dm W ls j=W.bs r i:=by simp[dm,H]
    have e':dm W ls j'=W.bs r' i':=by simp[dm,a2]
    rw[e]at I;rw[e']at a3;obtain⟨rfl,rfl⟩:=h.sep r i l r' i' l' O ho a5 Y k I a3;exact oc hd H Z a2 a9
theorem zJ (y:ay V)(h:an P V W st a w)(u:aB P V W st w ls cs)(r:ic st ls=true):∀ q,(ac (mvU st ls) st q).sh=(st q).sh/\(st q).ver<=(ac (mvU st ls) st q).ver :=
 (fK y h (sH r).2 (λ_ z=>od u z)).2.2.1
theorem an.putMoved (J:ay V)(h:an P V W st a w){ls:List Leaf}{cs:List Value}(M:aB P V W st w ls cs)(hd:ic st ls=true)
  (d:Nat) (I:d<V.nt) (r:∀ x∈V.fixt,x.1≠d) {sh:aI} {v:Value} (Y:ee sh v cs) :
  Rel P V (ac (cf st (mvU st ls) d sh (dH st ls)) st) (a.put (some d) v) w:=by
 obtain⟨h1,h2,X,z,h5⟩:=oP J h M hd;exact⟨_,h1.put J d I r _ sh (dH st ls) v cs (dm W ls) (CJ _) Y h2 M.one' X
  (λj l H y k u=>⟨(z j l H y k u).1,(z j l H y k u).2.1,(z j l H y k u).2.2.2.1,λR O Z _=>(z j l H y k u).2.2.2.2 R O Z⟩) h5⟩
theorem an.setBoxG (hV:ay V)(h:an P V W st a w)(b:Nat)(hb:B0<=b)(n:Nat)(ls:List Leaf)(a3:List Value)(X:Nat->List Nat)(g:Nat)(E:TypeId)
    (hn:(st b).ver<n) (hg:(live st b/\W.β b=g)\/(¬ live st b/\¬ cd V W st g/\∀ (j:Nat) (l:Leaf),ls[j]?=some l->am l->∀ k∈X j,k≠g)) (bl:w'.heap[g]?=some (.cells a3.toArray E (0,0)))
    (b1:∀ k,cd V W st k->k≠g->w'.heap[k]?=w.heap[k]?) (a6:∀ (j:Nat) (l:Leaf),ls[j]?=some l->am l->∀ k∈X j,k≠g->w'.heap[k]?=w.heap[k]?) (b5:w.heap.size<=w'.heap.size) (ba:w'.os=w.os) (ht:w'.tape=w.tape) (ho:w'.output=w.output)
    (hl:ls.length=a3.length) (h1:∀ u∈a3,u.oneCell'=true)
    (b0:∀ (j:Nat) (l:Leaf) (u:Value),ls[j]?=some l->a3[j]?=some u->aK P V W st w (X j) l u)
    (ad:∀ (j:Nat) (l:Leaf),ls[j]?=some l->am l->∀ k∈X j,¬ W.nw k/\¬ V.prot k/\(∀ b,live st b->W.β b≠k) /\
      ∀ (r1 j1:Nat) (l1:Leaf),r1≠b->(st r1).ls[j1]?=some l1->am l1->k∉W.bs r1 j1)
    (b3:∀ (j j':Nat) (l l':Leaf),ls[j]?=some l->am l->ls[j']?=some l'->am l'->∀ k,k∈X j->k∈X j'->j=j') :
    an P V { W with β:=λr=>if r=b then g else W.β r,cs:=λr=>if r=b then a3 else W.cs r,bs:=λr j=>if r=b then X j else W.bs r j }
      (ac [(b,⟨n,.agg,ls⟩)] st) a w':=by
  have Y:¬ W.nw g/\¬ V.prot g/\(∀ q,q≠b->live st q->W.β q≠g)/\∀ (r1 j1:Nat) (l1:Leaf),(st r1).ls[j1]?=some l1->am l1->g∉W.bs r1 j1:=by
    rcases hg with ⟨a0,rfl⟩|⟨a0,hg⟩
    · exact⟨(h.box b a0).1,(h.box b a0).2,λq hq b9 e=>hq (h.inj q b b9 a0 e),λr1 j1 l1 y J H=>(h.ownb r1 j1 l1 y J _ H).2.2 b a0 rfl⟩
    · have hu:=hg.1
      simp only[cd,not_or,not_exists,not_and]at hu
      grind
  have b2:∀ (j:Nat) (l:Leaf),ls[j]?=some l->am l->∀ k∈X j,k≠g:=by
    grind
  have I:∀ q,live (ac [(b,⟨n,.agg,ls⟩)] st) q<->(q=b\/live st q):=by
    intro q;rcases aj b q ⟨n,.agg,ls⟩ st with ⟨e0,e⟩|⟨z,e⟩
    · subst e0
      simp[live,e,hb]
    · simp[live,e,z]
  have M:∀ k,cd V W st k->k≠g->w'.heap[k]?=w.heap[k]?:=b1;have a5:cA V W { W with β:=λr=>if r=b then g else W.β r,cs:=λr=>if r=b then a3 else W.cs r,bs:=λr j=>if r=b then X j else W.bs r j } st (ac [(b,⟨n,.agg,ls⟩)] st) w w':=by
    refine⟨λq=>?_,λq hq=>⟨(I q).2 (.inr hq),?_⟩,λ_ h=>h,λk H=>M k (H.elim .inl (λh=>.inr (.inl h))) ?_,λ_ q j l y J Z=>?_⟩
    · rcases aj b q ⟨n,.agg,ls⟩ st with ⟨rfl,e⟩|⟨z,e⟩
      · grind
      · grind
    · grind
    · grind
    · rcases aj b q ⟨n,.agg,ls⟩ st with ⟨rfl,e⟩|⟨z,e⟩
      · grind
      · rw[e]at y
        refine⟨⟨l,y,J⟩,by simp[z],λk H=>M k (.inr (.inr (.inr ⟨q,j,l,y,J,H⟩))) ?_⟩
        grind
  exact {
    nt:=h.nt,df:=h.df
    slots:=λt bb=>by
      have : t ≠ b := by have : GH <= B0 := by decide
                         omega
      rw[aJ this];simpa[this]using h.slots t bb
    boxes:=λq hq=>by
      rcases aj b q ⟨n,.agg,ls⟩ st with ⟨rfl,e⟩|⟨z,e⟩
      · grind
      · rw[e]
        refine (h.boxes q hq).imp id λ⟨y,E',J⟩=>⟨y,E',?_⟩
        simp only[z,if_false];rw[M _ (.inr (.inr (.inl ⟨q,⟨hq,y⟩,rfl⟩))) (Y.2.2.1 q z ⟨hq,y⟩)];exact J
    len:=λq=>by
      rcases aj b q ⟨n,.agg,ls⟩ st with ⟨rfl,e⟩|⟨z,e⟩
      · rw[e];simpa using hl
      · rw[e];simpa[z]using h.len q
    one:=λq u hu=>by
      by_cases hq:q=b
      · grind
      · simp only[hq]at hu;exact h.one q u hu
    leaf:=λq j l u y J=>by
      rcases aj b q ⟨n,.agg,ls⟩ st with ⟨rfl,e⟩|⟨z,e⟩
      · rw[e]at y
        simp only at J;exact (b0 j l u y J).carry hV.ro a5 (λho=>⟨by simp,λk H=>a6 j l y ho k H (b2 j l y ho k H)⟩)
      · rw[e]at y
        simp only[z]at J;refine (h.leaf q j l u y J).carry hV.ro a5 (λho=>⟨by simp[z],λk H=>M k (.inr (.inr (.inr ⟨q,j,l,y,ho,H⟩))) ?_⟩);rintro rfl;exact Y.2.2.2 q j l y ho H
    ownb:=λq j l y J k H=>by
      rcases aj b q ⟨n,.agg,ls⟩ st with ⟨rfl,e⟩|⟨z,e⟩
      · rw[e]at y
        simp only[if_true]at H;have Z:=ad j l y J k H;refine⟨Z.1,Z.2.1,λp hp=>?_⟩;by_cases a1:p=q
        · simp only[a1,if_true];exact λe=>b2 j l y J k H e.symm
        · simp only[a1,if_false];exact Z.2.2.1 p (((I p).1 hp).resolve_left a1)
      · rw[e]at y
        simp only[z,if_false]at H;have Z:=h.ownb q j l y J k H;refine⟨Z.1,Z.2.1,λp hp=>?_⟩;by_cases a1:p=b
        · simp only[a1,if_true];rintro rfl;exact Y.2.2.2 q j l y J H
        · simp only[a1,if_false];exact Z.2.2 p (((I p).1 hp).resolve_left a1)
    sep:=λq j l q' j' l' y J Z h5 k H a2=>by
      rcases aj b q ⟨n,.agg,ls⟩ st with ⟨e0,e⟩|⟨z,e⟩ <;> rcases aj b q' ⟨n,.agg,ls⟩ st with ⟨e1,e'⟩|⟨a4,e'⟩
      · rw[e]at y;rw[e']at Z
        simp only[e0,if_true]at H;simp only[e1,if_true]at a2;exact⟨e0.trans e1.symm,b3 j j' l l' y J Z h5 k H a2⟩
      · rw[e]at y;rw[e']at Z
        simp only[e0,if_true]at H;simp only[a4,if_false]at a2;exact absurd a2 ((ad j l y J k H).2.2.2 q' j' l' a4 Z h5)
      · rw[e]at y;rw[e']at Z
        simp only[z,if_false]at H;simp only[e1,if_true]at a2
        grind
      · rw[e]at y;rw[e']at Z
        simp only[z]at H;simp only[a4,if_false]at a2;exact h.sep q j l q' j' l' y J Z h5 k H a2
    box:=λq hq=>by
      by_cases O:q=b
      · simp only[O,if_true];exact⟨Y.1,Y.2.1⟩
      · simp only[O,if_false];exact h.box q (((I q).1 hq).resolve_left O)
    inj:=λq q' hq b4 e=>by
      by_cases O:q=b <;> by_cases R:q'=b
      · omega
      · simp only[O,if_true,R,if_false]at e
        exact absurd e.symm (Y.2.2.1 q' R (((I q').1 b4).resolve_left R))
      · simp only[O,if_false,R,if_true]at e
        exact absurd e (Y.2.2.1 q O (((I q).1 hq).resolve_left O))
      · simp only[O,if_false,R,if_false]at e
        exact h.inj q q' (((I q).1 hq).resolve_left O) (((I q').1 b4).resolve_left R) e
    nwlt:=λk H=>⟨B5 (h.nwlt k H).1 b5,(h.nwlt k H).2⟩
    os:=ba.trans h.os,tape:=ht.trans h.tape,output:=ho.trans h.output,size:=BR h.size b5
    keep:=λk hp=>by
      rw[M k (.inr (.inl hp)) (by rintro rfl;exact Y.2.1 hp)];exact h.keep k hp
    fixb:=λx hx=>by
      obtain⟨y,J⟩:=h.fixb x hx;refine⟨(I _).2 (.inr y),?_⟩;by_cases a9:x.1=b
      · simp only[a9,if_true]
        rcases hg with ⟨_,e⟩|⟨a0,_⟩
        · rw[<- e,<- a9];exact J
        · exact absurd (a9 ▸ y) a0
      · simpa only[a9,if_false]using J
    fixt:=h.fixt }
theorem an.setBox (hV:ay V)(h:an P V W st a w)(b:Nat)(hb:B0<=b)(n:Nat)(ls:List Leaf)(H:List Value)(z:Nat->List Nat)(g:Nat)(E:TypeId)
  (hn:(st b).ver<n) (hg:(live st b/\W.β b=g)\/(¬ live st b/\w.heap.size<=g)) (Y:w'.heap[g]?=some (.cells H.toArray E (0,0)))
  (I:∀ k,k<w.heap.size->k≠g->w'.heap[k]?=w.heap[k]?) (a1:w.heap.size<=w'.heap.size) (a0:w'.os=w.os) (ht:w'.tape=w.tape) (ho:w'.output=w.output)
  (hl:ls.length=H.length) (h1:∀ u∈H,u.oneCell'=true)
  (X:∀ (j:Nat) (l:Leaf) (u:Value),ls[j]?=some l->H[j]?=some u->aK P V W st w (z j) l u)
  (y:∀ (j:Nat) (l:Leaf),ls[j]?=some l->am l->∀ k∈z j,¬ W.nw k/\¬ V.prot k/\k<w.heap.size/\(∀ b,live st b->W.β b≠k) /\
   ∀ (r1 j1:Nat) (l1:Leaf),r1≠b->(st r1).ls[j1]?=some l1->am l1->k∉W.bs r1 j1)
  (Z:∀ (j j':Nat) (l l':Leaf),ls[j]?=some l->am l->ls[j']?=some l'->am l'->∀ k,k∈z j->k∈z j'->j=j') :
  an P V { W with β:=λr=>if r=b then g else W.β r,cs:=λr=>if r=b then H else W.cs r,bs:=λr j=>if r=b then z j else W.bs r j }
   (ac [(b,⟨n,.agg,ls⟩)] st) a w' :=
 h.setBoxG hV b hb n ls H z g E hn (hg.imp id λ⟨h2,h3⟩=>⟨h2,λhu=>by have:=h.used_lt g hu;omega,λj l M O k J=>by have:=(y j l M O k J).2.2.1;omega⟩) Y
  (λk J R=>I k (h.used_lt k J) R) (λj l M O k J R=>I k (y j l M O k J).2.2.1 R) a1 a0 ht ho hl h1 X
  (λj l M O k J=>⟨(y j l M O k J).1,(y j l M O k J).2.1,(y j l M O k J).2.2.2.1,(y j l M O k J).2.2.2.2⟩) Z
theorem ek (y:aB P V W st w ls cs){x:Nat×Nat}(u:x∈bz st ls):aA st x:=by
 induction ls generalizing cs with
 |nil=>simp[bz]at u
 |cons l ls H =>
  cases cs with
  |nil=>exact y.elim
  |cons v cs =>
   cases l with
   |al r j n =>
    simp only[bz,BT]at u;rcases u with u|u
    ·split at u
     ·rename_i p X E e M z;simp at u;subst u;exact⟨_,(fh z (by simp)).2,trivial⟩
     ·grind
    ·exact H y.2 u
   |nal p R ep O E e M =>
    simp only[bz,BT]at u;rcases u with u|u
    ·split at u
     ·rename_i z;simp only[aC]at z;cases I:bq st R ep with
      |false=>simp[I]at z
      |true =>
       obtain⟨k,J,rfl⟩:=List.mem_map.1 u;exact (ct I).2.2 k J
     ·grind
    ·exact H y.2 u
   |_=>exact H y.2 u
theorem BF (z:aB P V W st w ls cs){ks:List (Nat×Nat)}(u:∀ x∈bz st ls,x∈ks)(p:Bool):∀ k,bm V W p (bz st ls) k->gd V (W.frz st ks) p k:=by
 intro k r;rcases r with r|⟨x,y,r⟩
 ·exact bT (W':=W.frz st ks) (λh=>h) (λ_ h=>Or.inl h) k r
 ·exact .inl (.inr ⟨x,u x y,ek z y,r⟩)
end
section
variable {P:Program} {V:Env} {Γ:List Ctr} {T:TypeId->TI} {st:St} {o:Oper} {R:Type} {κ:Upd->Option R} {r:R}
def bV (P:Program)(V:Env)(o:Oper)(st:St)(κ:Upd->Option R)(r:R):Prop :=
 ∃ U,κ U=some r/\∀ W a w,an P V W st a w->mL P V o st U a w
theorem yq (M:ay V)(y:bM V o){x:Operand}(u:o.op=.move x)(h:act Γ T o st κ=some r):bV P V o st κ r:=by
 simp only[act,wrU,u]at h;split at h
 ·rename_i d H;refine⟨_,h,λW a w z=>?_⟩;obtain⟨O,I,J⟩:=cR z x;exact dX M z H y (by simp[execOp,u]) I J
 ·grind
theorem vE (O:ay V)(y:bM V o){x:Operand}(z:o.op=.assign x)(h:act Γ T o st κ=some r):bV P V o st κ r:=by
 simp only[act,z]at h;split at h
 ·rename_i d H;cases u:ic st (au st x).2 with
  |false=>simp[u]at h
  |true =>
   simp only[u]at h;refine⟨_,h,λW a w I=>?_⟩;obtain⟨Y,J,M⟩:=cR I x;intro next Q X;refine dW (v:=a.eval x) (w':=w) (by simp[execOp,z]) ?_;rw[H];exact X _ _ (I.putMoved O M u d (y d H).1 (y d H).2 J)
 ·grind
theorem yt (X:ay V)(H:bM V o){c x y:Operand}(u:o.op=.pick c x y)(h:act Γ T o st κ=some r):bV P V o st κ r:=by
 simp only[act,wrU,u]at h;split at h
 ·rename_i t O;cases t with
  |true =>
   split at h
   ·rename_i d I;refine⟨_,h,λW a w z=>?_⟩;obtain⟨Y,J,M⟩:=cR z x;exact dX X z I H (v:=a.eval x) (by simp[execOp,u,ik z O,asBool]) J M
   ·grind
  |false =>
   split at h
   ·rename_i d I;refine⟨_,h,λW a w z=>?_⟩;obtain⟨Y,J,M⟩:=cR z y;exact dX X z I H (v:=a.eval y) (by simp[execOp,u,ik z O,asBool]) J M
   ·grind
 ·grind
theorem sI (hV:ay V)(Y:bM V o){x:Operand}(X:o.op=.nilCheck x)(h:act Γ T o st κ=some r):bV P V o st κ r:=by
 simp only[act,wrU,X]at h;have I:∀ {l:Leaf} {d:Nat},one st x=l->l≠.dead->(∀ W a w,an P V W st a w->aK P V W st w [] l (a.eval x)->∃ ad,a.eval x=.pointer (some ad))->o.dst=some d ->
   ∀ W a w,an P V W st a w->mL P V o st (cf st [] d .one [l]) a w:=by
  intro l d z Z hp H W a w M;obtain⟨h1,h2,h3,_⟩:=bt M x (by rw[z];exact Z);rw[z]at h1 h2;obtain⟨ad,O⟩:=hp W a w M h1;exact aO hV M H Y (v:=a.eval x) (by simp[execOp,X,O]) h1 h2 h3
 split at h
 ·split at h
  ·rename_i z _ d H;exact⟨_,h,I z (by simp) (λW a w M u=>by obtain⟨g,o',c,O,_⟩:=u;exact⟨_,O⟩) H⟩
  ·grind
 ·split at h
  ·rename_i z _ d H;exact⟨_,h,I z (by simp) (λW a w M u=>⟨_,u.2.2⟩) H⟩
  ·grind
 ·rename_i r' j v i sz off z;cases J:BG (st r').ver v with
  |false=>simp[J]at h
  |true =>
   simp only[J]at h;split at h
   ·rename_i d H;refine⟨_,h,I z (by simp) (λW a w M u=>?_) H⟩;obtain⟨g,a0,a1,_,_,O⟩:=u.2 (BH J)
    simp_all
   ·grind
 ·split at h
  ·rename_i z _ d H;exact⟨_,h,I z (by simp) (λW a w M u=>by obtain⟨b,ob,g,o',c,O,_⟩:=u;exact⟨_,O⟩) H⟩
  ·grind
 ·rename_i p ks ep b y off z;cases J:bq st ks ep with
  |false=>simp[J]at h
  |true =>
   simp only[J]at h;split at h
   ·rename_i d H;refine⟨_,h,I z (by simp) (λW a w M u=>?_) H⟩;obtain⟨g,o',c,O,_⟩:=(u.2.2 (ct J).1 (ct J).2.1 (ct J).2.2:NpOk V W w p ks b y off _).rd
    simp_all
   ·grind
 ·grind
theorem yu (J:ay V)(z:bM V o){M:UnOp}{t:TypeId}{x:Operand}(u:o.op=.unOp M t x)(h:act Γ T o st κ=some r):bV P V o st κ r:=by
 simp only[act,wrU,u]at h;split at h
 ·rename_i b H;split at h
  ·rename_i d I;exact⟨_,h,λW a w y=>aO J y I z (v:=.bool (!b)) (by simp[execOp,u,ik y H,Op.unary]) rfl id rfl⟩
  ·grind
 ·rename_i k n H;split at h
  ·rename_i d I;exact⟨_,h,λW a w y=>aO J y I z (v:=.int k (k.wrap (0-n))) (by simp[execOp,u,bE y H,Op.unary,Op.intArith]) rfl id rfl⟩
  ·grind
 ·grind
theorem uf (hV:ay V)(M:bM V o){x:Operand}{i:Nat}(H:o.op=.extract x i)(h:act Γ T o st κ=some r):bV P V o st κ r:=by
 simp only[act,wrU,H]at h;split at h
 ·rename_i u ls he;split at h
  ·rename_i agg n hp;split at h
   ·rename_i d hd;refine⟨_,h,λW a w hr=>?_⟩;obtain⟨z,hs,hl⟩:=cR hr x;rw[he]at hs hl;obtain⟨y,hv,I⟩:=hs;have a0:∀ (u:List (Bool×Nat)) (y z:List Value) (i:Nat) (off:Nat),pB u y z->u[i]?=some (agg,n) ->
      ∃ v,y[i]?=some v/\da agg v ((z.drop ((u.take i).foldl (λa b=>a+b.2) off-off)).take n)/\off<=(u.take i).foldl (λa b=>a+b.2) off:=by
     intro u;induction u with
     |nil=>intro y z i off _ Z;simp at Z
     |cons p u ih =>
      rintro y z i off ⟨v,O,c,J,rfl,rfl,hc,a1,I⟩ Z;cases i with
      |zero =>
       simp_all
      |succ i =>
       obtain⟨v',Y,X,h3⟩:=ih O J i (off+p.2) I (by simpa using Z);refine⟨v',by simpa using Y,?_,by simp;omega⟩;simp;have e:(u.take i).foldl (λa b=>a+b.2) (off+p.2)-off=c.length+((u.take i).foldl (λa b=>a+b.2) (off+p.2)-(off+p.2)):=by omega
       rw[e,<- Cf,List.drop_left];exact X
    obtain⟨v,Y,X,_⟩:=a0 u y z i 0 I hp;refine dX hV hr hd M (v:=v) ?_ (kl X) ((hl.drop _).take n);simp[execOp,H,hv,Instr.extract,Y]
   ·grind
  ·grind
 ·grind
theorem uN {W:Wit}{a:Act}{w:World}(J:an P V W st a w):∀ (xs:List Operand) (u l:List Nat),
  xs.foldl (λ (u:Option (List Nat)) x=>u.bind λl=>match one st x with|.bp b 0=>some (l++[b])|_=>none) (some u)=some l ->
  ∃ y,l=u++y/\xs.map a.eval=y.map (λb=>Value.pointer (some ⟨W.β b,0,none⟩))/\∀ b∈y,B0<=b/\(st b).sh=.agg
 |[],u,l,h=>⟨[],by simpa using h.symm,rfl,by simp⟩
 |x::xs,u,l,h=>by
  simp at h;have H:∀ (xs:List Operand),xs.foldl (λ (u:Option (List Nat)) x=>u.bind λl=>match one st x with|.bp b 0=>some (l++[b])|_=>none) none=none:=by
   intro xs;induction xs with
   |nil=>rfl
   |cons x xs Y=>simpa using Y
  split at h
  ·rename_i b M;obtain⟨y,X,O,Z⟩:=uN J xs (u++[b]) l h;have z:=(bt J x (by rw[M];simp)).1;rw[M]at z;refine⟨b::y,by simp[X],?_,?_⟩
   ·simp only[Ch,O];rw[show a.eval x=_ from z.2.2]
   ·intro q I;rcases CS.1 I with rfl|I
    ·exact⟨z.1,z.2.1⟩
    ·grind
  ·grind
theorem sJ (I:ay V)(y:bM V o){fn:Fn}{first caps:Array Operand}(u:o.op=.makeFunc fn first caps)(h:act Γ T o st κ=some r):bV P V o st κ r:=by
 cases fn with
 |func f =>
  simp only[act,wrU,u]at h;cases z:BG first.size 0 with
  |false=>simp[z]at h
  |true =>
   simp only[z]at h;split at h
   ·rename_i l O;split at h
    ·rename_i d Z;refine⟨_,h,λW a w H=>?_⟩;obtain⟨l',Y,X,J⟩:=uN H caps.toList [] l O;subst Y;have M:first=#[]:=Array.eq_empty_of_size_eq_zero (BH z)
     refine aO I H Z y (v:=.func (.func f) #[] (l.map λb=>Value.pointer (some ⟨W.β b,0,none⟩)).toArray) ?_ ⟨rfl,J⟩ id rfl;rw[<- X];simp[execOp,u,Instr.makeFunc,M,<- CK]
    ·grind
   ·grind
 |_=>simp[act,u]at h
theorem gm {α:Type}{xs:List α}{i:Int}{x:α}(h:idx xs i=some x):0<=i/\i<xs.length/\xs[i.toNat]?=some x:=by
 unfold idx at h
 grind
end
section
variable {P:Program} {V:Env} {Γ:List Ctr} {T:TypeId->TI} {st:St} {o:Oper} {R:Type} {κ:Upd->Option R} {r:R}
theorem wR {W:Wit}{a:Act}{w:World}(H:an P V W st a w){x:Operand}{b:Ty}{p:Bool}{u:b.den}(z:(au st x).1=.agg)(J:cO st b (au st x).2=some (p,u)) :
  ∃ y G,a.eval x=.agg y.toArray/\Rd w G b u y:=by
 obtain⟨y,I,M⟩:=cR H x;rw[z]at I;exact⟨y,_,I,eE H M J⟩
theorem lF {t:TypeId}(y:P.underlying t=some .bool)(b u:Bool)(w:World):(Op.equal t (.bool b) (.bool u)).run P w=.ok (b==u) w:=by
 have e:Op.maxDepth=9999+1:=rfl;unfold Op.equal;rw[e];generalize 9999=m;unfold Op.equalIn;rw[BW,run_underlying y];rfl
theorem wS (Z:ay V)(hT:TOk P T)(J:bM V o){op:BinOp}{t t':TypeId}{x y:Operand}(H:o.op=.binOp op t x y t')(h:act Γ T o st κ=some r):bV P V o st κ r:=by
  simp only[act,wrU,H]at h;split at h
  · rename_i k m k' n O X
    cases op
    case shl =>
      simp only at h;cases Y:decide (n<0) with
      |true=>simp[Y]at h
      |false =>
        simp only[Y,cond_false]at h;split at h
        · rename_i d M
          refine⟨_,h,λW a w z=>aO Z z M J (v:=.int k (k.wrap (m*2 ^ (min n.toNat k.bits)))) ?_ rfl id rfl⟩;have:¬ n<0:=of_decide_eq_false Y;simp[execOp,H,bE z O,bE z X,eqGuard,Go.binOp,Op.shift,this]
        · cases h
    case shr =>
      simp only at h;cases Y:decide (n<0) with
      |true=>simp[Y]at h
      |false =>
        simp only[Y,cond_false]at h;split at h
        · rename_i d M
          refine⟨_,h,λW a w z=>aO Z z M J (v:=.int k (m.fdiv (2 ^ (min n.toNat k.bits)))) ?_ rfl id rfl⟩;have:¬ n<0:=of_decide_eq_false Y;simp[execOp,H,bE z O,bE z X,eqGuard,Go.binOp,Op.shift,this]
        · cases h
    case quo =>
      simp only at h;cases Y:decide (n=0) with
      |true=>simp[Y]at h
      |false =>
        simp only[Y,cond_false]at h;cases I:decide (k=k') with
        |false=>simp[I]at h
        |true =>
          simp only[I,cond_true]at h;have I:=of_decide_eq_true I;subst I;split at h
          · rename_i d M
            refine⟨_,h,λW a w z=>aO Z z M J (v:=.int k (k.wrap (m.tdiv n))) ?_ rfl id rfl⟩;have:¬ n=0:=of_decide_eq_false Y;simp[execOp,H,bE z O,bE z X,eqGuard,Go.binOp,Op.intDiv,this]
          · cases h
    case rem =>
      simp only at h;cases Y:decide (n=0) with
      |true=>simp[Y]at h
      |false =>
        simp only[Y,cond_false]at h;cases I:decide (k=k') with
        |false=>simp[I]at h
        |true =>
          simp only[I,cond_true]at h;have I:=of_decide_eq_true I;subst I;split at h
          · rename_i d M
            refine⟨_,h,λW a w z=>aO Z z M J (v:=.int k (m.tmod n)) ?_ rfl id rfl⟩;have:¬ n=0:=of_decide_eq_false Y;simp[execOp,H,bE z O,bE z X,eqGuard,Go.binOp,Op.intDiv,this]
          · cases h
    case and =>
      simp only at h;cases I:decide (k=k') with
      |false=>simp[I]at h
      |true =>
        simp only[I,cond_true]at h;have I:=of_decide_eq_true I;subst I;split at h
        · rename_i d M
          refine⟨_,h,λW a w z=>aO Z z M J (v:=.int k (k.wrap ((BitVec.ofInt k.bits m &&& BitVec.ofInt k.bits n).toNat))) ?_ rfl id rfl⟩;simp[execOp,H,bE z O,bE z X,eqGuard,Go.binOp,Op.intBits]
        · cases h
    case xor =>
      simp only at h;cases I:decide (k=k') with
      |false=>simp[I]at h
      |true =>
        simp only[I,cond_true]at h;have I:=of_decide_eq_true I;subst I;split at h
        · rename_i d M
          refine⟨_,h,λW a w z=>aO Z z M J (v:=.int k (k.wrap ((BitVec.ofInt k.bits m ^^^ BitVec.ofInt k.bits n).toNat))) ?_ rfl id rfl⟩;simp[execOp,H,bE z O,bE z X,eqGuard,Go.binOp,Op.intBits]
        · cases h
    all_goals
      simp only at h;cases I:decide (k=k') with
      |false=>simp[I]at h
      |true =>
        simp only[I,cond_true]at h;have I:=of_decide_eq_true I;subst I;split at h
        · rename_i l hl
          split at h
          · rename_i d M
            refine⟨_,h,λW a w z=>?_⟩;obtain⟨v,h1,h2,h3,h4⟩:=vD (P:=P) (V:=V) (W:=W) (st:=st) (w:=w) _ k t t' x y m n l hl (bE z O) (bE z X) H;exact aO Z z M J h1 h2 h3 h4
          · cases h
        · cases h
  · rename_i b b' O X
    cases ht:T t with
    |bool =>
      have h1:=hT t;rw[ht]at h1;simp only[ht]at h;cases op <;> simp only at h <;> first
        |cases h;done
        | (split at h
           · rename_i d M
             first
               |exact⟨_,h,λW a w z=>aO Z z M J (v:=.bool (b==b')) (by simp[execOp,H,ik z O,ik z X,eqGuard,Go.binOp,lF h1.1]) rfl id rfl⟩
               |exact⟨_,h,λW a w z=>aO Z z M J (v:=.bool (b != b')) (by simp[execOp,H,ik z O,ik z X,eqGuard,Go.binOp,lF h1.1,bne]) rfl id rfl⟩
           · cases h)
    |_=>simp[ht]at h
  · rename_i b b' O X
    cases op <;> simp only at h <;> first
      |cases h;done
      | (cases a0 : decide (b.size + b'.size <= 9223372036854775807) with
         |false=>rw[a0]at h;cases h
         |true =>
           rw[a0]at h;simp only[cond_true]at h;split at h
           · rename_i d M
             refine⟨_,h,λW a w z=>aO Z z M J (v:=.string (b++b')) ?_ rfl id rfl⟩;have:(b.size:Int)+b'.size<=9223372036854775807:=by have:=of_decide_eq_true a0;omega
             simp[execOp,H,iB z O,iB z X,eqGuard,Go.binOp,Op.stringOp,this]
           · cases h)
      | (split at h
         · rename_i d M
           first
             |exact⟨_,h,λW a w z=>aO Z z M J (v:=.bool (b.toList==b'.toList)) (by simp[execOp,H,iB z O,iB z X,eqGuard,Go.binOp,Op.stringOp]) rfl id rfl⟩
             |exact⟨_,h,λW a w z=>aO Z z M J (v:=.bool (b.toList != b'.toList)) (by simp[execOp,H,iB z O,iB z X,eqGuard,Go.binOp,Op.stringOp,bne]) rfl id rfl⟩
         · cases h)
  · cases ht:T t with
    |struct b b1 =>
      have h1:=hT t;rw[ht]at h1;obtain⟨_,_,_,a9,a2⟩:=h1;simp only[ht]at h;cases hf:b.flat&&decide ((au st x).1=.agg)&&decide ((au st y).1=.agg) with
      |false=>simp[hf]at h
      |true =>
        simp only[hf,cond_true]at h;simp only[BJ,decide_eq_true_eq]at hf;obtain⟨⟨hf,a5⟩,a6⟩:=hf;split at h
        · rename_i p u q v a3 ad
          have a1:∀ (W:Wit) (a:Act) (w:World),an P V W st a w->(Op.equal t (a.eval x) (a.eval y)).run P w=.ok (b.eqv u v) w/\(∃ cx cy:Array Value,a.eval x=.agg cx/\a.eval y=.agg cy):=by
            intro W a w z;obtain⟨cx,G,O,b0⟩:=wR z a5 a3;obtain⟨cy,G',X,a4⟩:=wR z a6 ad;rw[O,X];exact⟨a9 hf w G u v cx cy b0 (Rd.flat hf a4),_,_,rfl,rfl⟩
          cases op <;> simp only at h <;> first
            |cases h;done
            | (split at h
               · rename_i d M
                 first
                   | (refine ⟨_, h, λW a w z => aO Z z M J (v := .bool (b.eqv u v)) ?_ rfl id rfl⟩
                      obtain⟨h2,cx,cy,O,X⟩:=a1 W a w z;rw[O,X]at h2;simp[execOp,H,O,X,eqGuard,Go.binOp,a2,h2];done)
                   | (refine ⟨_, h, λW a w z => aO Z z M J (v := .bool (!b.eqv u v)) ?_ rfl id rfl⟩
                      obtain⟨h2,cx,cy,O,X⟩:=a1 W a w z;rw[O,X]at h2;simp[execOp,H,O,X,eqGuard,Go.binOp,a2,h2])
               · cases h)
        · cases h
    |_=>simp[ht]at h
end
section
variable {P:Program} {V:Env} {Γ:List Ctr} {T:TypeId->TI} {st:St} {o:Oper} {R:Type} {κ:Upd->Option R} {r:R}
theorem fb (g off n:Nat):(⟨g,off,none⟩:Addr).add n=⟨g,off+n,none⟩:=by
 unfold Addr.add;split <;> simp_all
theorem dq {t:TypeId}{n:Nat}(h:bP P t n)(w:World):(sizeOf t).run P w=.ok n w:=by
 unfold bP at h;cases u:P.info? t with
 |none=>simp[u]at h
 |some i =>
  simp[u]at h;simp[sizeOf,typeInfo,u,h]
theorem gn {t:TypeId}{z:Value}(h:d5 P t z)(w:World):(zeroValue t).run P w=.ok z w:=by
 unfold d5 at h;cases u:P.info? t with
 |none=>simp[u]at h
 |some i =>
  simp[u]at h;simp[zeroValue,typeInfo,u,h]
theorem rW (hV:ay V)(hT:TOk P T)(J:bM V o){t:TypeId}{x:Operand}{f:Nat}(a0:o.op=.fieldAddr t x f)(h:act Γ T o st κ=some r):bV P V o st κ r:=by
 simp only[act,wrU,a0]at h;cases ht:T t with
 |struct b a5 =>
  simp only[ht]at h;split at h
  ·rename_i off n agg hf;have h1:=hT t;rw[ht]at h1;obtain⟨⟨fs,hu,_,a3⟩,_⟩:=h1;obtain⟨_,fd,h2,h3,h4,h5,h6,_⟩:=a3 f off n agg hf;have I:∀ (a:Act) (w:World) (g O:Nat),a.eval x=.pointer (some ⟨g,O,none⟩)->(execOp a.eval o).run P w=.ok (.value (.pointer (some ⟨g,O+off,none⟩))) w:=by
    intro a w g O Y;have u:=dq h6 w;have h8:n≠0:=by omega
    simp[execOp,a0,Y,Instr.fieldAt,run_underlying hu,h2,CN,fieldPlace,u,h8,fb]
   split at h
   ·rename_i p b' y O z;split at h
    ·rename_i d Z;refine⟨_,h,λW a w H=>?_⟩;obtain⟨u,_,_,_⟩:=bt H x (by rw[z];simp);rw[z]at u;obtain⟨g,og,c,Y,hg,X,hc⟩:=u;exact aO hV H Z J (I a w g _ Y) ⟨g,og,c,by rw[CH],hg,X,hc⟩ id rfl
    ·grind
   ·rename_i b' O z;split at h
    ·rename_i d Z;refine⟨_,h,λW a w H=>?_⟩;obtain⟨u,_,_,_⟩:=bt H x (by rw[z];simp);rw[z]at u;exact aO hV H Z J (I a w _ _ u.2.2) ⟨u.1,u.2.1,rfl⟩ id rfl
    ·grind
   ·rename_i r' j v i sz O z;cases M:BG (st r').ver v with
    |false=>simp[M]at h
    |true =>
     simp only[M]at h;split at h
     ·rename_i d Z;refine⟨_,h,λW a w H=>?_⟩;obtain⟨u,_,_,_⟩:=bt H x (by rw[z];simp);rw[z]at u;obtain⟨g,a1,a4,hh,a2,Y⟩:=u.2 (BH M);exact aO hV H Z J (I a w g _ Y) ⟨u.1,λ_=>⟨g,a1,a4,hh,a2,by rw[CH]⟩⟩ id rfl
     ·grind
   ·rename_i p ks ep b' y O z;cases M:bq st ks ep with
    |false=>simp[M]at h
    |true =>
     simp only[M]at h;split at h
     ·rename_i d Z;refine⟨_,h,λW a w H=>?_⟩;obtain⟨u,_,_,_⟩:=bt H x (by rw[z];simp);rw[z]at u;have h8:NpOk V W w p ks b' y O _:=u.2.2 (ct M).1 (ct M).2.1 (ct M).2.2;obtain⟨g,og,c,Y,hg,X,hc⟩:=h8.rd;exact aO hV H Z J (I a w g _ Y) ⟨u.1,u.2.1,λ_ _ _=>⟨g,og,c,by rw[CH],hg,X,hc⟩⟩ id rfl
     ·grind
   ·grind
  ·grind
 |_=>simp[ht]at h
theorem rX (hV:ay V)(hT:TOk P T)(a0:bM V o){t:TypeId}{x i:Operand}(a5:o.op=.indexAddr t x i)(h:act Γ T o st κ=some r):bV P V o st κ r:=by
 simp only[act,wrU,a5]at h;split at h
 ·rename_i k n hi;cases ht:T t with
  |slice E e b1 =>
   simp only[ht]at h;have h1:=hT t;rw[ht]at h1;obtain⟨hu,_,_,bx,_,ti,z,b2,b3,_⟩:=h1;have hE:bP P E e.cells:=by simp[bP,b2,b3]
   have a3:∀ (W:Wit) (a:Act) (w:World) (g Y O I:Nat),an P V W st a w->0<=n->n<O->a.eval x=.slice (some ⟨g,Y,none⟩) O I ->
     (execOp a.eval o).run P w=.ok (.value (.pointer (some ⟨g,Y+n.toNat*e.cells,none⟩))) w:=by
    intro W a w g Y O I H h0 h1 M;have Z:=dq hE w;simp[execOp,a5,M,bE H hi,Ci,asIntOf,run_underlying hu,h0,h1,Z,fb]
   split at h
   ·rename_i r' j v X;split at h
    ·rename_i p hh E' e' xs ad;cases u:BG e'.cells e.cells with
     |false=>simp[u]at h
     |true =>
      simp only[u]at h;have u:=BH u;obtain⟨y,hy,h⟩:=BP.1 h;obtain⟨Z,h3,h4⟩:=gm hy;split at h
      ·rename_i d hd;refine⟨_,h,λW a w H=>?_⟩;obtain⟨J,_,_,_⟩:=bt H x (by rw[X];simp);rw[X]at J;obtain⟨h8,h9,b5,bn⟩:=kr H ad J;obtain⟨_,b4,b9,ho,bl,_⟩:=h9;rcases ho.2 with ⟨hn,h0⟩|⟨g,a1,ba,_,M,_,_,_⟩
       ·omega
       ·refine aO hV H hd a0 (a3 W a w g 0 xs.length a1 H Z h3 M) ⟨by omega,λ_=>⟨g,xs.length,a1,by rw[h8,M],by omega,by simp[u]⟩⟩ id rfl
      ·grind
    ·grind
   ·rename_i p E' e' xs X;cases u:BG e'.cells e.cells with
    |false=>simp[u]at h
    |true =>
     simp only[u]at h;have u:=BH u;obtain⟨y,hy,h⟩:=BP.1 h;obtain⟨Z,h3,h4⟩:=gm hy;split at h
     ·rename_i d hd;refine⟨_,h,λW a w H=>?_⟩;obtain⟨J,_,_,_⟩:=bt H x (by rw[X];simp);rw[X]at J;obtain⟨A,I,M,a9,a4⟩:=J;have M:a.eval x=.slice A xs.length I:=by simpa using M
      obtain⟨g,Y,rfl,hg,a2⟩:=a4 (by omega);obtain⟨c,hc,a6⟩:=a2 n.toNat y h4;refine aO hV H hd a0 (a3 W a w g Y xs.length I H Z h3 M) ⟨g,Y+n.toNat*e'.cells,c,by rw[u];rfl,?_,hc,a6⟩ id rfl;rcases hg with hg|⟨_,hg⟩
      ·grind
      ·exact .inr (hV.ro g hg)
     ·grind
   ·rename_i p ks ep bb E' e' xs X;cases u:BG e'.cells e.cells&&bq st ks ep with
    |false=>simp[u]at h
    |true =>
     simp only[u]at h;simp only[BJ]at u;obtain⟨u,b0⟩:=u;have u:=BH u;obtain⟨y,hy,h⟩:=BP.1 h;obtain⟨Z,h3,h4⟩:=gm hy;split at h
     ·rename_i d hd;refine⟨_,h,λW a w H=>?_⟩;obtain⟨J,_,_,_⟩:=bt H x (by rw[X];simp);rw[X]at J;have h8:=pC b0 J;obtain⟨A,I,M,a9,a4⟩:=h8.rd;have M:a.eval x=.slice A xs.length I:=by simpa using M
      obtain⟨g,Y,rfl,hg,a2⟩:=a4 (by omega);obtain⟨c,hc,a6⟩:=a2 n.toNat y h4;exact aO hV H hd a0 (a3 W a w g Y xs.length I H Z h3 M) ⟨J.1,J.2.1,λ_ _ _=>⟨g,Y+n.toNat*e'.cells,c,by rw[u];rfl,hg,hc,a6⟩⟩ id rfl
     ·grind
   ·grind
  |arr e O =>
   simp only[ht]at h;have h1:=hT t;rw[ht]at h1;obtain⟨⟨E,hu,hE,_⟩,_⟩:=h1;split at h
   ·rename_i b off X;cases u:decide (0<=n)&&decide (n<(O:Int)) with
    |false=>simp[u]at h
    |true =>
     simp only[u]at h;simp at u;split at h
     ·rename_i d hd;refine⟨_,h,λW a w H=>?_⟩;obtain⟨J,_,_,_⟩:=bt H x (by rw[X];simp);rw[X]at J;refine aO hV H hd a0 (v:=.pointer (some ⟨W.β b,off+n.toNat*e.cells,none⟩)) ?_ ⟨J.1,J.2.1,rfl⟩ id rfl;have Z:=dq hE w;simp[execOp,a5,J.2.2,bE H hi,Ci,CN,asIntOf,run_underlying hu,u.1,u.2,Z,fb]
     ·grind
   ·grind
  |_=>simp[ht]at h
 ·grind
theorem wT {t:TypeId}{i:TI}(u:oO P t i)(J:i.cells≠0\/i≠.none)(w:World):(isAgg t).run P w=.ok i.agg w:=by
 cases i with
 |none=>simp[TI.cells]at J
 |struct a I =>
  obtain⟨⟨M,H,_⟩,_⟩:=u;simp[isAgg,run_underlying H,TI.agg]
 |arr e n=>obtain⟨⟨E,H,_⟩,_⟩:=u;simp[isAgg,run_underlying H,TI.agg]
 |ptr=>obtain⟨⟨e,H⟩,_⟩:=u;simp[isAgg,run_underlying H,TI.agg]
 |fn=>obtain⟨⟨x,y,z,H⟩,_⟩:=u;simp[isAgg,run_underlying H,TI.agg]
 |int k=>simp[isAgg,run_underlying u.1,TI.agg]
 |bool=>simp[isAgg,run_underlying u.1,TI.agg]
 |str=>simp[isAgg,run_underlying u.1,TI.agg]
 |slice E e b=>simp[isAgg,run_underlying u.1,TI.agg]
theorem oQ {t:TypeId}{i:TI}(u:oO P t i)(z:i≠.none):bP P t i.cells:=by
 cases i with
 |none=>exact absurd rfl z
 |struct a y=>exact u.2.1
 |arr e n=>exact u.2.2.1
 |ptr=>exact u.2.1
 |fn=>exact u.2.1
 |int k=>exact u.2.1
 |bool=>exact u.2.1
 |str=>exact u.2.1
 |slice E e b=>exact u.2.1
theorem mN {W:Wit}{a:Act}{w:World}(H:an P V W st a w){e:Ty}:∀ (n:Nat) (ls:List Leaf) (cs:List Value) (xs:List e.den),aB P V W st w ls cs->fH st e n ls=some xs ->
  xs.length=n/\∀ (i:Nat) (x:e.den),xs[i]?=some x->∃ G,Rd w G e x ((cs.drop (i*e.cells)).take e.cells)
 |0,ls,cs,xs,_,h=>by
  simp only[fH]at h
  simp_all
 |n+1,ls,cs,xs,z,h=>by
  simp only[fH]at h;split at h
  ·rename_i p x Y O M;simp at h;subst h;obtain⟨I,J⟩:=mN H n _ _ _ (z.drop e.cells) M;refine⟨by simp[I],λi y u=>?_⟩;cases i with
   |zero =>
    simp at u;subst u;exact⟨_,by simpa using eE H (z.take e.cells) O⟩
   |succ i =>
    obtain⟨G,X⟩:=J i y (by simpa using u);rw[Cf]at X
    grind
  ·cases h
theorem wU (hV:ay V)(hT:TOk P T)(Z:bM V o){t:TypeId}{x i:Operand}(J:o.op=.index t x i)(h:act Γ T o st κ=some r):bV P V o st κ r:=by
 simp only[act,wrU,J]at h;split at h
 ·rename_i k n hi;cases hs:T t with
  |str =>
   simp only[hs]at h;split at h
   ·rename_i s hx;obtain⟨y,hy,h⟩:=BP.1 h;split at h
    ·rename_i d hd;refine⟨_,h,λW a w I=>aO hV I hd Z (v:=.int .u8 (y.toNat:Int)) ?_ rfl id rfl⟩;have h1:=hT t;rw[hs]at h1;obtain⟨h2,h3,h4⟩:=gm hy;have h5:s[n.toNat]?=some y:=by
      have h6:=(BI.1 h4);obtain⟨h7,h8⟩:=h6;have h9:n.toNat<s.size:=by rw[Array.length_toList]at h7;exact h7
      rw[getElem?_pos s n.toNat h9];congr 1
     simp[execOp,J,bE I hi,iB I hx,Cd,asIntOf,run_underlying h1.1,h2,h5]
    ·grind
   ·grind
  |arr e O =>
   simp only[hs]at h;have h1:=hT t;rw[hs]at h1;obtain⟨⟨E,hu,hE,Y⟩,a3,_⟩:=h1;cases hb:e.flat&&decide ((au st x).1=.agg)&&BG (au st x).2.length (O*e.cells)&&!BG e.cells 0 with
   |false=>simp[hb]at h
   |true =>
    simp only[hb]at h;simp only[BJ,decide_eq_true_eq]at hb;obtain⟨⟨⟨hf,a2⟩,a4⟩,_⟩:=hb;split at h
    ·rename_i vs hg;obtain⟨y,hy,h⟩:=BP.1 h;split at h
     ·rename_i d hd;refine⟨_,h,λW a w I=>?_⟩;obtain⟨cs,H,hl⟩:=cR I x;rw[a2]at H;have H:a.eval x=.agg cs.toArray:=H;obtain⟨h2,h3,h4⟩:=gm hy;obtain⟨h5,h6⟩:=mN I O _ _ _ hl hg;obtain⟨G,h7⟩:=h6 n.toNat y h4;have h8:Rd w (λ_=>False) e y ((cs.drop (n.toNat*e.cells)).take e.cells):=Rd.flat hf h7;have h9:=h8.len;have M:(isAgg E).run P w=.ok e.isAgg w:=by
       cases X:P.underlying E with
       |none=>simp[X]at Y
       |some u =>
        simp only[X,Ce,BN]at Y;rw[<- Y];cases u <;> simp[isAgg,run_underlying X]
      have a0:=dq hE w;have hn:n<(O:Int):=by omega
      cases z:e.isAgg with
      |true =>
       have:=dX hV I hd Z (v:=.agg ((cs.drop (n.toNat*e.cells)).take e.cells).toArray) (sh:=.agg) (ls:=cG false e y) ?_ rfl (fa (λ_ h=>h.elim) h8)
       ·exact this
       ·rw[z]at M;simp[execOp,J,bE I hi,H,Cd,asIntOf,run_underlying hu,h2,hn,part,M,a0]
      |false =>
       have a1:e.cells=1:=by cases e <;> first|rfl|simp[Ty.isAgg]at z
       rw[a1]at h8 h9
       match hc:(cs.drop (n.toNat*1)).take 1,h9 with
       |[v],_ =>
        rw[hc]at h8;have:=dX hV I hd Z (v:=v) (sh:=.one) (ls:=cG false e y) (cs:=[v]) ?_ rfl (fa (λ_ h=>h.elim) h8)
        ·exact this
        ·rw[z]at M;have hv:cs[n.toNat]?=some v:=by
          have:((cs.drop (n.toNat*1)).take 1)[0]?=some v:=by rw[hc];rfl
          grind
         simp[execOp,J,bE I hi,H,Cd,asIntOf,run_underlying hu,h2,hn,part,M,a0,a1,hv]
     ·grind
    ·grind
  |_=>simp[hs]at h
 ·grind
theorem oe {t:TypeId}{i:TI}(J:oO P t i)(I:i≠.none){w:World}{g off:Nat}{cs:List Value}(O:cV w g off cs)(y:cs.length=i.cells) :
  ∃ v,(loadVar t ⟨g,off,none⟩).run P w=.ok v w/\ee (bh i.agg) v cs:=by
 have H:=wT J (.inr I) w;cases M:i.agg with
 |true =>
  refine⟨.agg cs.toArray,?_,rfl⟩;have X:=dq (oQ J I) w;have z:=run_loadCells_list (P:=P) w ⟨g,off,none⟩ cs (λj v Y=>by rw[fb];exact O j v Y);rw[y]at z;simp[loadVar,H,M,X,z]
 |false =>
  have u:i.cells=1:=by cases i <;> simp_all [TI.agg,TI.cells]
  rw[u]at y
  match cs,y with
  |[v],_ =>
   have:=O 0 v rfl;rw[Nat.add_zero]at this;exact⟨v,by simp[loadVar,H,M,this],rfl⟩
theorem cV.sub {w:World}{g off:Nat}{cs:List Value}(h:cV w g off cs)(k n:Nat):cV w g (off+k) ((cs.drop k).take n):=by
 intro i v u;rw[BV]at u;split at u
 ·rw[CC]at u;have:=h (k+i) v u
  grind
 ·cases u
theorem Mx.deep {w:World}{G G':Nat->Prop}:∀ {a:Ty} {h:Option Nat} {pos:Nat} {x:a.den} {cs:List Value} {bs:List Nat},a.shy=false->Mx w G a h pos x cs bs->Mx w G' a h pos x cs bs
 |.int _,_,_,_,_,_,_,h=>h
 |.bool,_,_,_,_,_,_,h=>h
 |.str,_,_,_,_,_,_,h=>h
 |.unit,_,_,_,_,_,_,h=>h
 |.hdr,_,_,_,_,_,_,h=>h
 |.pair _ _,_,_,_,_,_,u,⟨Z,c2,b1,Y,M,e2,I,z⟩=>by
  simp only[Ty.shy,CO]at u;exact⟨Z,c2,b1,Y,M,e2,Mx.deep u.1 I,Mx.deep u.2 z⟩
 |.list m E e,h,pos,xs,cs,bs,u,H=>by
  simp only[Ty.shy,CO,Bool.not_eq_false']at u;obtain⟨rfl,u⟩:=u;by_cases O:h=some pos
  ·subst O;rw[jf]at H ⊢;exact H
  ·rw[bI O]at H ⊢;obtain⟨v,M,y,J,I,z,X⟩:=H;refine⟨v,M,y,J,I,z,λj x hj=>?_⟩;obtain⟨c,h4,h5⟩:=X j x hj;exact⟨c,Mx.deep u h4,h5⟩
theorem OwB.shy {W:Wit}{w:World}{p:Bool}{h:Option (Nat×Nat)}{E:TypeId}{e:Ty}{xs:List e.den}{v:Value}{bs:List Nat}(H:OwB w (gd V W p) h E e xs v bs):OwB w (gd V W (p&&e.shy)) h E e xs v bs:=by
 cases I:e.shy with
 |true=>simpa using H
 |false =>
  obtain⟨u,y,X,M,z⟩:=H;refine⟨u,y,X,M,λj x O=>?_⟩;obtain⟨c,J,Y⟩:=z j x O;exact⟨c,Mx.deep I J,Y⟩
theorem jg (p:Bool)(r j v ep i u:Nat)(h:Option Nat):∀ (a:Ty) (off:Nat) (x:a.den),(gE p r j v ep i u h a off x).length=a.cells
 |.int _,_,_=>rfl
 |.bool,_,_=>rfl
 |.str,_,_=>rfl
 |.unit,_,_=>rfl
 |.hdr,_,_=>rfl
 |.pair a b,off,x=>by simp[gE,Ty.cells,jg p r j v ep i u h a,jg p r j v ep i u h b]
 |.list _ _ _,_,_=>rfl
theorem ma {W:Wit}{w:World}{p:Bool}{r j g len y i sz:Nat}(O:(W.cs r)[j]?=some (.slice (some ⟨g,0,none⟩) len y))(M:i<len)(hg:g∈W.bs r j){hol:Option Nat} :
  ∀ {a:Ty} {pos:Nat} {x:a.den} {cs:List Value} {bs:List Nat},(∀ k∈bs,k∈W.bs r j)->Mx w (gd V W p) a hol pos x cs bs->cV w g (i*sz+pos) cs->aB P V W st w (gE p r j (st r).ver (st EPO).ver i sz hol a pos x) cs
 |.int _,_,_,_,_,_,h,_=>by rw[h.1];exact⟨⟨rfl,id,rfl⟩,trivial⟩
 |.bool,_,_,_,_,_,h,_=>by rw[h.1];exact⟨⟨rfl,id,rfl⟩,trivial⟩
 |.str,_,_,_,_,_,h,_=>by rw[h.1];exact⟨⟨rfl,id,rfl⟩,trivial⟩
 |.unit,_,_,_,_,_,h,_=>by rw[h.1];trivial
 |.hdr,_,_,_,_,_,⟨⟨A,y,e⟩,_⟩,_=>by rw[e];exact⟨⟨⟨A,y,rfl⟩,id,rfl⟩,trivial⟩
 |.pair a b,pos,x,cs,bs,J,⟨c1,c2,b1,b2,e1,e2,h1,h2⟩,X=>by
  subst e1;have hl:=h1.len;refine aB.append (ma O M hg (λk z=>J k (by rw[e2];exact BM _ z)) h1 λq u hu=>X q u ?_)
   (ma O M hg (λk z=>J k (by rw[e2];exact BL _ z)) h2 λq u hu=>?_)
  ·grind
  ·have:=X (a.cells+q) u (by rw[<- hl,BZ (by omega)];simpa using hu)
   grind
 |.list m E e,pos,xs,cs,bs,J,H,X=>by
  have I:=H.one;simp only[gE];by_cases Z:hol=some pos
  ·have Y:decide (hol=some pos)=true:=decide_eq_true Z;rw[Y];obtain⟨v,rfl,_⟩:=H;exact⟨⟨trivial,id,I v (by simp)⟩,trivial⟩
  ·have Y:decide (hol=some pos)=false:=decide_eq_false Z;rw[Y];cases m with
   |false =>
    rw[cn]at H;obtain⟨A,y,rfl,h2,h3⟩:=H.2;exact⟨⟨⟨A,y,rfl,h2,h3⟩,id,rfl⟩,trivial⟩
   |true =>
    rw[bI Z]at H;obtain⟨v,rfl,hO⟩:=H;have h1:=X 0 v rfl;refine⟨⟨⟨BO _,λk z=>?_,λ_ _ _=>⟨?_,λi' a2 a1 he=>?_⟩⟩,id,I v (by simp)⟩,trivial⟩
    ·grind
    ·obtain⟨a0,a3,h4,h5,h6⟩:=OwB.shy hO;refine sA h4 (λk z=>.inr ⟨_,B6 _,J k (by rw[h5];exact BM _ z)⟩) λq x hq=>?_
     obtain⟨c,h7,h8⟩:=h6 q x hq;exact⟨c,h7.rd (λk z=>.inl z) (λk z=>.inr ⟨_,B6 _,J k (by rw[h5];exact BL _ (dV.2 ⟨q,(BI.1 hq).1,z⟩))⟩),h8⟩
    ·grind
theorem kb {W:Wit}{w:World}{p:Bool}{ks:List (Nat×Nat×Nat)}{ep:Nat}(u:ep<=(st EPO).ver)(y:∀ k∈ks,k.2.2<=(st k.1).ver) :
  ∀ {a:Ty} {x:a.den} {cs:List Value},Rd w (λb=>gd V W p b\/∃ k∈ks,b∈W.bs k.1 k.2.1) a x cs->aB P V W st w (ly p ks ep a x) cs
 |.int _,_,_,h=>by rw[show _=_ from h];exact⟨⟨rfl,id,rfl⟩,trivial⟩
 |.bool,_,_,h=>by rw[show _=_ from h];exact⟨⟨rfl,id,rfl⟩,trivial⟩
 |.str,_,_,h=>by rw[show _=_ from h];exact⟨⟨rfl,id,rfl⟩,trivial⟩
 |.unit,_,_,h=>by rw[show _=_ from h];trivial
 |.hdr,_,_,⟨A,z,e⟩=>by rw[e];exact⟨⟨⟨A,z,rfl⟩,id,rfl⟩,trivial⟩
 |.pair _ _,_,_,⟨X,Y,e,M,H⟩=>by rw[e];exact (kb u y M).append (kb u y H)
 |.list m E e,O,_,h=>by
  obtain⟨A,z,rfl,H,I⟩:=h;exact⟨⟨⟨u,y,λ_ _ _=>⟨⟨A,z,rfl,H,I⟩,λi Z off J=>by cases J⟩⟩,id,rfl⟩,trivial⟩
theorem zV {W:Wit}{a:Act}{w:World}(hr:an P V W st a w){r j n g len O i:Nat}{p:Bool}{hh:Option (Nat×Nat)}{E:TypeId}{e:Ty}{xs:List e.den}{y:e.den}(h8:(st r).ver=n)(h9:(st r).ls[j]?=some (.own p hh E e xs))
  (H:(W.cs r)[j]?=some (.slice (some ⟨g,0,none⟩) len O)) (J:i<len) (Y:xs[i]?=some y) :
  ∃ c,cV w g (i*e.cells) c/\aB P V W st w (gE p r j n (st EPO).ver i e.cells (cI hh i) e 0 y) c:=by
 subst h8;obtain⟨_,a1,a2,X,I,M⟩:=hr.leaf r j _ _ h9 H;obtain⟨c,h1,h2⟩:=M i y Y;have Z:=h1.len;have hi:i<xs.length:=(BI.1 Y).1;have z:len=xs.length:=by
  obtain⟨A,a0,e0,_⟩:=X.slice
  simp_all
 subst z;have hc:cV w g (i*e.cells) c:=by
  intro q u hu;have hq:=(BI.1 hu).1;rw[X.cellAt _ (by
   have:i*e.cells+e.cells<=xs.length*e.cells:=by
    have:=Nat.mul_le_mul_right e.cells (show i+1<=xs.length from hi)
    grind
   omega)]
  grind
 refine⟨c,hc,ma H J (by rw[I];simp[B7]) (λk hk=>?_) h1 hc⟩
 grind
theorem yw (hV:ay V)(hT:TOk P T)(a5:bM V o){t:TypeId}{x:Operand}(a3:o.op=.load t x)(h:act Γ T o st κ=some r):bV P V o st κ r:=by
 simp only[act,wrU,a3,lY]at h;have a9:=hT t;have X:∀ (W:Wit) (a:Act) (w:World) (g off:Nat) (cs:List Value) (ls:List Leaf) (d:Nat),an P V W st a w->o.dst=some d->T t≠.none->a.eval x=.pointer (some ⟨g,off,none⟩)->cV w g off cs ->
   cs.length=(T t).cells->aB P V W st w ls cs->mL P V o st (cf st [] d (bh (T t).agg) ls) a w:=by
  intro W a w g off cs ls d z hd hn O Z hl a0;obtain⟨v,h1,h2⟩:=oe a9 hn Z hl;exact dX hV z hd a5 (v:=v) (by simp[execOp,a3,O,Instr.loadAt,CN,h1]) h2 a0
 cases M:decide ((T t).cells=0) with
 |true=>simp[M]at h
 |false =>
  simp only[M]at h;have M:(T t).cells≠0:=of_decide_eq_false M;have Y:T t≠.none:=by intro e;rw[e]at M;exact M rfl
  split at h
  ·rename_i p b y off J;cases u:decide (off+(T t).cells<=b.cells) with
   |false=>simp[u]at h
   |true =>
    simp only[u]at h;split at h
    ·rename_i d hd;refine⟨_,h,λW a w z=>?_⟩;obtain⟨H,_,_,_⟩:=bt z x (by rw[J];simp);rw[J]at H;obtain⟨g,og,c,O,hg,I,Z⟩:=H;refine X W a w g _ ((c.drop off).take (T t).cells) _ d z hd Y O (Z.sub off _) ?_ (((fa (λ_ h=>h) I).drop off).take _);have:=I.len
     grind
    ·grind
  ·rename_i b off J;cases u:decide ((st b).sh=.agg)&&decide (off+(T t).cells<=(st b).ls.length) with
   |false=>simp[u]at h
   |true =>
    simp only[u]at h;split at h
    ·rename_i d hd;refine⟨_,h,λW a w z=>?_⟩;obtain⟨H,_,_,_⟩:=bt z x (by rw[J];simp);rw[J]at H;obtain⟨hB,b3,O⟩:=H;rcases z.boxes b hB with ⟨h8,_⟩|⟨_,E,h8⟩
     ·grind
     ·have Z:cV w (W.β b) 0 (W.cs b):=λi v O=>by
       rw[CW,cell_of_row w (W.β b) i _ E (0,0) h8]
       simp_all
      have b1:=z.len b;have a2:=Z.sub off (T t).cells;rw[CW]at a2;refine X W a w (W.β b) off _ _ d z hd Y O a2 ?_ (((iA z b).drop off).take _)
      grind
    ·grind
  ·rename_i p b y J;cases u:BG (T t).cells 1&&!(T t).agg with
   |false=>simp[u]at h
   |true =>
    simp only[u]at h;simp only[BJ,CF]at u;split at h
    ·rename_i d hd;refine⟨_,h,λW a w z=>?_⟩;obtain⟨H,_,_,_⟩:=bt z x (by rw[J];simp);rw[J]at H;obtain⟨q,oq,g,og,c,O,_,a1,hg,I,Z⟩:=H;have:=X W a w q oq [.pointer (some ⟨g,og,none⟩)] [.rp p b y 0] d z hd Y O (λi v hi=>by
      cases i with
      |zero=>simp at hi;subst hi;exact a1
      |succ i=>simp at hi) (by simp[BH u.1]) ⟨⟨⟨g,og,c,rfl,hg,I,Z⟩,id,rfl⟩,trivial⟩
     rw[u.2]at this;exact this
    ·grind
  ·rename_i p ks ep b y off J;cases u:bq st ks ep&&decide (off+(T t).cells<=b.cells) with
   |false=>simp[u]at h
   |true =>
    simp only[u]at h;simp at u;split at h
    ·rename_i d hd;refine⟨_,h,λW a w z=>?_⟩;obtain⟨H,_,_,_⟩:=bt z x (by rw[J];simp);rw[J]at H;have h8:NpOk V W w p ks b y off _:=H.2.2 (ct u.1).1 (ct u.1).2.1 (ct u.1).2.2;obtain⟨g,og,c,O,hg,I,Z⟩:=h8.rd;refine X W a w g _ ((c.drop off).take (T t).cells) _ d z hd Y O (Z.sub off _) ?_ (((kb H.1 H.2.1 I).drop off).take _);have:=I.len
     grind
    ·grind
  ·rename_i r' j v i sz off J;split at h
   ·rename_i p hh E e xs a4;cases u:BG sz e.cells&&decide (off+(T t).cells<=e.cells) with
    |false=>simp[u]at h
    |true =>
     simp only[u]at h;simp only[BJ]at u;have ad:=BH u.1;subst ad;obtain⟨y,hy,h⟩:=BP.1 h;obtain⟨_,_,h4⟩:=gm hy;split at h
     ·rename_i d hd;refine⟨_,h,λW a w z=>?_⟩;obtain⟨H,_,_,_⟩:=bt z x (by rw[J];simp);rw[J]at H;obtain⟨h8,h9⟩:=fh a4 (by simp);obtain⟨g,b2,b4,b0,a6,O⟩:=H.2 h8;obtain⟨c,Z,a0⟩:=zV z h8 h9 b0 a6 h4;refine X W a w g _ _ _ d z hd Y O (Z.sub off _) ?_ ((a0.drop off).take _);have:=a0.length;rw[jg]at this
      grind
     ·grind
   ·grind
  ·grind
end
section
variable {P:Program} {V:Env} {Γ:List Ctr} {T:TypeId->TI} {st:St} {o:Oper} {R:Type} {κ:Upd->Option R} {r:R}
theorem wV (hV:ay V)(hT:TOk P T)(M:bM V o){t:TypeId}{x:Operand}{f:Nat}(J:o.op=.field t x f)(h:act Γ T o st κ=some r):bV P V o st κ r:=by
 simp only[act,wrU,J]at h;cases ht:T t with
 |struct b a2 =>
  simp only[ht]at h;split at h
  ·rename_i off n agg hf;have h1:=hT t;rw[ht]at h1;obtain⟨⟨fs,hu,_,a0⟩,_⟩:=h1;obtain⟨I,Z,h2,h3,h4,h5,h6,Y⟩:=a0 f off n agg hf;cases O:decide ((au st x).1=.agg)&&decide ((au st x).2.length=b.cells) with
   |false=>simp[O]at h
   |true =>
    simp only[O,cond_true]at h;simp only[BJ,decide_eq_true_eq]at O;split at h
    ·rename_i d hd;refine⟨_,h,λW a w hr=>?_⟩;obtain⟨u,hs,hl⟩:=cR hr x;rw[O.1]at hs;have X:=hl.length;rw[O.2]at X;have y:(isAgg Z.type).run P w=.ok agg w:=by
      unfold isAgg;cases H:P.underlying Z.type with
      |none=>simp[H]at Y
      |some dd =>
       rw[H]at Y;simp only[Ce,BN]at Y;subst Y;rw[BW,run_underlying H w];cases dd <;> rfl
     have a1:=dq h6 w;cases agg with
     |true =>
      refine dX hV hr hd M (v:=.agg ((u.drop off).take n).toArray) ?_ rfl ((hl.drop off).take n);have e:u.toArray.extract off (off+n)=((u.drop off).take n).toArray:=by
       rw[List.extract_toArray,List.extract_eq_take_drop,Nat.add_sub_cancel_left]
      have hp:(part Z.type u.toArray off).run P w=.ok (.agg ((u.drop off).take n).toArray) w:=by
       simp only[part,BW,y,BS,if_true,a1,B3,e]
      simp only[execOp,J,show a.eval x=_ from hs,Cm,BW,run_underlying hu,BS,h2,asAgg,B3,h3,hp]
     |false =>
      have I:=I rfl;subst I;have z:off<u.length:=by omega
      have hv:((u.drop off).take 1)=[u[off]]:=by
       rw[List.take_one,List.head?_drop,BK z];rfl
      refine dX hV hr hd M (v:=u[off]) ?_ (show ee .one _ ((u.drop off).take 1) from hv) ((hl.drop off).take 1);have e:u.toArray[off]?=some u[off]:=by simp[z]
      have hp:(part Z.type u.toArray off).run P w=.ok u[off] w:=by
       simp only[part,BW,y,BS,Bool.false_eq_true,if_false,e,B3]
      simp only[execOp,J,show a.eval x=_ from hs,Cm,BW,run_underlying hu,BS,h2,asAgg,B3,h3,hp]
    ·cases h
  ·cases h
 |_=>simp[ht]at h
theorem AS {α:Type}(u y:List α)(off:Nat)(h:off+y.length<=u.length):(u.take off++y++u.drop (off+y.length)).length=u.length:=by
 simp;omega
theorem lf (cs c:List Value)(off:Nat)(h:off+c.length<=cs.length) :
  (c.zipIdx 0).foldl (λcs (x:Value×Nat)=>cs.setIfInBounds (off+x.2) x.1) cs.toArray=(cs.take off++c++cs.drop (off+c.length)).toArray:=by
 obtain⟨H,z⟩:=Great.foldl_set off c 0 cs.toArray;apply Array.ext_getElem?;intro k;rw[z k];simp only[Nat.add_zero,List.size_toArray,List.getElem?_toArray];by_cases y:off<=k/\k<off+c.length/\k<cs.length
 ·rw[if_pos y,B8,BZ (by simp;omega),CD (by simp;omega)];congr 1;simp;omega
 ·rw[if_neg y];by_cases u:k<off
  ·rw[B8,CD (by simp;omega),BV,if_pos u]
  ·rw[BZ (by simp;omega),CC];congr 1;simp;omega
theorem gX {agg:Bool}{v:Value}{cs:List Value}(h:ee (bh agg) v cs)(y:∀ u∈cs,u.oneCell'=true):v.cells=cs.toArray:=by
 cases agg with
 |true=>rw[show v=_ from h];rfl
 |false =>
  have h:cs=[v]:=h;subst h;have:=y v (CV.2 rfl);cases v <;> first|rfl|simp[BQ]at this
theorem mb {W:Wit}{a:Act}{w:World}(hr:an P V W st a w){z:List (Nat×Nat×Bool)}{pl:Nat->Option (Nat×Nat)}(J:∀ (i off n:Nat) (agg:Bool),z[i]?=some (off,n,agg)->pl i=some (off,n)):∀ (ps:List (Nat×Operand)) (ls u:List Leaf) (cs:List Value),
  aB P V W st w ls cs->fw st z ps ls=some u ->
  ∃ y,aB P V W st w u y/\Instr.fill pl cs.toArray (ps.map λx=>(x.1,a.eval x.2))=some y.toArray
 |[],ls,u,cs,O,h=>by
  simp[fw]at h;subst h;exact⟨cs,O,rfl⟩
 |(i,x)::ps,ls,u,cs,O,h=>by
  simp only[fw]at h;split at h
  ·rename_i off n agg hf;cases X:BG (au st x).2.length n&&decide ((au st x).1=bh agg)&&decide (off+n<=ls.length) with
   |false=>simp[X]at h
   |true =>
    simp only[X,cond_true]at h;simp only[BJ,decide_eq_true_eq]at X;obtain⟨⟨M,Z⟩,a2⟩:=X;have M:=BH M;obtain⟨c,hs,H⟩:=cR hr x;rw[Z]at hs;have hc:=gX hs H.one';have a1:=O.length;have I:=H.length;have a0:aB P V W st w (jF ls (au st x).2 off) (cs.take off++c++cs.drop (off+c.length)):=by
     unfold jF;rw[I];exact ((O.take off).append H).append (O.drop _)
    obtain⟨y,h1,h2⟩:=mb hr J ps _ u _ a0 h;refine⟨y,h1,?_⟩;simp only[Ch,Instr.fill];have Y:pl i=some (off,n):=J _ _ _ _ hf;have a3:c.toArray.size=n:=by simp;omega
    simp only[Y,hc];rw[if_neg (by simp;omega)];have e:c.toArray.zipIdx.foldl (λcs (x:Value×Nat)=>cs.setIfInBounds (off+x.2) x.1) cs.toArray=(c.zipIdx 0).foldl (λcs (x:Value×Nat)=>cs.setIfInBounds (off+x.2) x.1) cs.toArray:=by
     rw[<- Array.foldl_toList];simp
    have e2:=lf cs c off (by omega);rw[<- e2,<- e]at h2;exact h2
  ·cases h
theorem lG {W:Wit}{w:World}:∀ (b:Ty),aB P V W st w (eZ b) (zeroCells b)
 |.int _=>⟨⟨rfl,id,rfl⟩,trivial⟩
 |.bool=>⟨⟨rfl,id,rfl⟩,trivial⟩
 |.str=>⟨⟨rfl,id,rfl⟩,trivial⟩
 |.unit=>trivial
 |.pair a b=>(lG a).append (lG b)
 |.hdr=>⟨⟨rfl,id,rfl⟩,trivial⟩
 |.list _ _ _=>⟨⟨rfl,id,rfl⟩,trivial⟩
theorem oR {W:Wit}{w:World}(e:Ty):∀ (n:Nat),aB P V W st w (BX n (eZ e)).flatten (BX n (zeroCells e)).flatten
 |0=>trivial
 |n+1=>by
  rw[CR,CR,CY,CY];exact (lG e).append (oR e n)
theorem wW (hV:ay V)(hT:TOk P T)(Z:bM V o){t:TypeId}{u:Array (Nat×Operand)}(O:o.op=.build t u)(h:act Γ T o st κ=some r):bV P V o st κ r:=by
 simp only[act,wrU,O]at h;cases X:T t with
 |struct b Y =>
  simp only[X]at h;split at h
  ·rename_i ls J;split at h
   ·rename_i d hd;refine⟨_,h,λW a w hr=>?_⟩;have h1:=hT t;rw[X]at h1;obtain⟨⟨fs,hu,a0,_⟩,_,H,_⟩:=h1;obtain⟨z,h2,h3⟩:=mb hr (pl:=((Y.map λx=>(x.1,x.2.1)).toArray[·]?)) (λi off n agg I=>by simp[I]) u.toList _ ls _ (lG b) J;refine dX hV hr hd Z (v:=.agg z.toArray) ?_ rfl h2;have y:P.built t (u.map λ (i,x)=>(i,a.eval x)).toList=some z.toArray:=by
     unfold d5 at H;unfold Cj;cases hi:P.info? t with
     |none=>simp[hi]at H
     |some ti =>
      simp[hi]at H;simp only[hu,H,a0];rw[CK];exact h3
    simp[execOp,O,run_build w t _ _ y]
   ·cases h
  ·cases h
 |arr e n =>
  simp only[X]at h;split at h
  ·rename_i ls J;split at h
   ·rename_i d hd;refine⟨_,h,λW a w hr=>?_⟩;have h1:=hT t;rw[X]at h1;obtain⟨⟨E,hu,hE,_⟩,_,_,H⟩:=h1;obtain⟨z,h2,h3⟩:=mb hr (pl:=λi=>some (i*e.cells,e.cells)) (λi off n agg I=>by
     rw[CX]at I;obtain⟨j,hj,I⟩:=BU.1 I;rw[List.getElem?_range (by simpa using (BI.1 hj).1)]at hj;simp only[BN]at hj;subst hj;simp only[Cg]at I;simp[<- I.1,<- I.2.1]) u.toList _ ls _ (oR e n) J
    refine dX hV hr hd Z (v:=.agg z.toArray) ?_ rfl h2;have y:P.built t (u.map λ (i,x)=>(i,a.eval x)).toList=some z.toArray:=by
     unfold d5 at H;unfold bP at hE;unfold Cj;cases hi:P.info? t with
     |none=>simp[hi]at H
     |some ti =>
      simp[hi]at H;cases M:P.info? E with
      |none=>simp[M]at hE
      |some ie =>
       simp[M]at hE;simp only[hu,H,M,hE];rw[CK];exact h3
    simp[execOp,O,run_build w t _ _ y]
   ·cases h
  ·cases h
 |_=>simp[X]at h
theorem mO {W:Wit}{a:Act}{w:World}(z:an P V W st a w){x:Option Operand}{u n:Int}(h:dh st x u=some n) :
  (x=none/\n=u)\/∃ y k,x=some y/\a.eval y=.int k n:=by
 unfold dh at h;split at h
 ·simp at h;exact .inl ⟨rfl,h.symm⟩
 ·split at h
  ·rename_i l k m H;simp at h;subst h;exact .inr ⟨_,k,rfl,bE z H⟩
  ·cases h
theorem kc (u:Bool)(len y:Nat)(a0:len<=y)(I M:Option Value)(i h:Int)(J:0<=i)(H:i<=h)(hh:h<=len)(X:(I=none/\i=0)\/∃ k,I=some (.int k i))
  (O:(M=none/\h=len)\/∃ k,M=some (.int k h)) (w:World):(CZ u len y I M none).run P w=.ok (i.toNat,h.toNat,y) w:=by
 have Y:0<=h:=by omega
 have Z:h<=(y:Int):=by omega
 have z:i<=((h.toNat:Nat):Int):=by omega
 rcases X with ⟨rfl,rfl⟩|⟨k,rfl⟩ <;> rcases O with ⟨rfl,rfl⟩|⟨k',rfl⟩ <;>
  simp[CZ,Instr.sliceBound,asIntOf,J,Y,Z,z,H,-Int.ofNat_toNat]
theorem jv (O:ay V){W:Wit}{a:Act}{w:World}(I:an P V W st a w){x:Operand}{l:Leaf}(y:aC st (one st x)=l)(M:l≠.dead)(z:¬ am l):aK P V W st w [] l (a.eval x):=by
 have H:one st x≠.dead:=by intro e;rw[e]at y;exact M y.symm
 obtain⟨X,J,_⟩:=bt I x H;rcases l9 O I X J with ⟨_,_,_,_,u,_⟩|⟨_,u⟩
 ·rw[y]at u;exact absurd u z
 ·rw[y]at u;exact u
theorem wX (M:ay V){W:Wit}{a:Act}{w:World}(X:an P V W st a w){x:Operand}{p:Bool}{ks:List (Nat×Nat×Nat)}{ep:Nat}{y:Option (Nat×Nat×Nat)}{E:TypeId}{e:Ty}{xs:List e.den}
  (u:aC st (one st x)=.nal p ks ep y E e xs):aK P V W st w [] (.nal p ks ep y E e xs) (a.eval x)/\bq st ks ep=true:=by
 refine⟨jv M X u (by simp) (by simp[am]),?_⟩;generalize one st x=l at u;cases l with
 |nal Y H z J Z e' O =>
  simp only[aC]at u;cases I:bq st H z with
  |false=>simp[I]at u
  |true =>
   simp only[I,cond_true]at u;cases u;exact I
 |al r j n=>exact absurd u iQ
 |_=>simp[aC]at u
theorem ug (O:ay V){W:Wit}{a:Act}{w:World}(H:an P V W st a w){x:Operand}{p:Bool}{I:Option (Nat×Nat)}{E:TypeId}{e:Ty}{xs:List e.den}(u:aC st (one st x)=.own p I E e xs) :
  ∃ r i n,one st x=.al r i n/\(st r).ls[i]?=some (.own p I E e xs)/\OwH w (gd V W p) I E e xs (a.eval x) (W.bs r i)/\(W.cs r)[i]?=some (a.eval x)/\(st r).ver=n:=by
 have z:one st x≠.dead:=by intro e;rw[e]at u;cases u
 obtain⟨J,Y,_⟩:=bt H x z;rcases l9 O H J Y with ⟨r,i,n,M,_,_,_⟩|⟨y,_⟩
 ·rw[M]at u J;obtain⟨y,X,h5,Z⟩:=kr H u J;exact⟨r,i,n,M,h5,X,y,Z⟩
 ·rw[u]at y;exact absurd trivial y
theorem goes_frz (H:ay V){W:Wit}{a:Act}{w:World}(h:an P V W st a w){d:Nat}(z:o.dst=some d)(u:bM V o)(ks:List (Nat×Nat)){v:Value}{sh:aI}{ls:List Leaf}{cs:List Value}
  (y:(execOp a.eval o).run P w=.ok (.value v) w) (I:ee sh v cs) (J:aB P V (W.frz st ks) (ac (aD st ks) st) w ls cs):mL P V o st (cf st (aD st ks) d sh ls) a w:=by
 intro next Q M;refine dW y ?_;rw[z];refine M _ _ ?_;rw[cf,aQ];exact (lE H ks h).1.putLs H d (u d z).1 (u d z).2 _ sh ls v cs (CJ _) I J
theorem cV.shift {w:World}{g o:Nat}{c:List Value}{k s j:Nat}(h:cV w g (o+(k+j)*s) c):cV w g (o+k*s+j*s) c:=by
 rwa [CH,<- Nat.add_mul]
theorem Rd.cut {w:World}{G:Nat->Prop}{E:TypeId}{e:Ty}{xs:List e.den}{A:Option Addr}{u:Nat}(h:Rd w G (.list false E e) xs [.slice A xs.length u])(i n:Nat)(O:i<=n)(hn:n<=xs.length) :
  Rd w G (.list false E e) ((xs.take n).drop i) [.slice (if u=i then A else A.map (·.add (i*e.cells))) (n-i) (u-i)]:=by
 obtain⟨A',M,J,hc,hx⟩:=h;simp at J;obtain⟨rfl,rfl⟩:=J;have z:((xs.take n).drop i).length=n-i:=by simp;omega
 refine⟨_,u-i,by rw[z],by rw[z];omega,λY=>?_⟩;rw[z]at Y;obtain⟨g,o,rfl,X,H⟩:=hx (by omega);refine⟨g,o+i*e.cells,?_,X,λj x y=>?_⟩
 ·rw[if_neg (by omega)];simp[fb]
 ·rw[CC,BV]at y;split at y
  ·obtain⟨c,Z,I⟩:=H (i+j) x y;exact⟨c,Z,I.shift⟩
  ·cases y
theorem vF (hV:ay V)(hT:TOk P T)(a6:bM V o){t:TypeId}{x:Operand}{lo hi:Option Operand}(a5:o.op=.slice t x lo hi none)(h:act Γ T o st κ=some r):bV P V o st κ r:=by
 simp only[act,wrU,a5]at h;cases hd:o.dst with
 |none=>simp[hd]at h
 |some d =>
  simp only[hd]at h;split at h
  ·cases h
  ·rename_i i a9;have h1:=hT t;have Y:∀ (W:Wit) (a:Act) (w:World) (y:Option Operand) (a3 n:Int),an P V W st a w->dh st y a3=some n->(y.map a.eval=none/\n=a3)\/∃ k,y.map a.eval=some (.int k n):=by
    intro W a w y a3 n O u;rcases mO O u with ⟨rfl,rfl⟩|⟨z,k,rfl,hz⟩
    ·exact .inl ⟨rfl,rfl⟩
    ·exact .inr ⟨k,by simp[hz]⟩
   split at h
   ·rename_i s ht hx;rw[ht]at h1;split at h
    ·rename_i n Z;cases u:decide (0<=i)&&decide (i<=n)&&decide (n<=(s.size:Int)) with
     |false=>simp[u]at h
     |true =>
      simp only[u,cond_true]at h;simp only[BJ,decide_eq_true_eq]at u;refine⟨_,h,λW a w O=>aO hV O hd a6 (v:=.string (s.extract i.toNat n.toNat)) ?_ rfl id rfl⟩;have J:=kc (P:=P) false s.size s.size (BO _) (lo.map a.eval) (hi.map a.eval) i n u.1.1 u.1.2 u.2 (Y W a w lo 0 i O a9) (Y W a w hi _ n O Z) w;have b4:a.eval x=.string s:=(jv hV O hx (by simp) (by simp[am]));simp[execOp,a5,b4,CI,CP,run_underlying h1.1,J]
    ·cases h
   ·rename_i E' e' a4 p ks ep b5 E e xs ht hx;rw[ht]at h1;obtain⟨hu,_,_,_,_,ti,z,a1,a2,_⟩:=h1;split at h
    ·rename_i n Z;cases u:decide (0<=i)&&decide (i<=n)&&decide (n<=(xs.length:Int))&&BG e'.cells e.cells with
     |false=>simp[u]at h
     |true =>
      simp only[u,cond_true]at h;simp only[BJ,decide_eq_true_eq]at u;obtain⟨u,I⟩:=u;have I:=BH I;refine⟨_,h,λW a w O=>?_⟩;obtain⟨hl,b3⟩:=wX hV O hx;have h8:=pC b3 hl;obtain⟨A,H,hv,M,a0⟩:=h8.rd;have hv:a.eval x=.slice A xs.length H:=by simpa using hv
      have J:=kc (P:=P) true xs.length H M (lo.map a.eval) (hi.map a.eval) i n u.1.1 u.1.2 u.2 (Y W a w lo 0 i O a9) (Y W a w hi _ n O Z) w;have hE:=dq (P:=P) (t:=E') (n:=e.cells) (by simp[bP,a1,a2,I]) w;have X:=Rd.cut (E:=E) (⟨A,H,rfl,M,a0⟩:Rd w _ (.list false E e) xs [.slice A xs.length H]) i.toNat n.toNat (by omega) (by omega);refine aO hV O hd a6 (v:=.slice (if H=i.toNat then A else A.map (·.add (i.toNat*e.cells))) (n.toNat-i.toNat) (H-i.toNat)) ?_ ⟨hl.1,hl.2.1,λ_ _ _=>⟨X,λi' sz off he=>by cases he⟩⟩ id rfl;simp only[execOp,a5,hv,CI,CP,BW,run_underlying hu,BS,CL,J,hE,B3]
    ·cases h
   ·rename_i E' e' a4 p E e xs ht hx;rw[ht]at h1;obtain⟨hu,_,_,_,_,ti,z,a1,a2,_⟩:=h1;split at h
    ·rename_i n Z;cases u:decide (0<=i)&&decide (i<=n)&&decide (n<=(xs.length:Int))&&BG e'.cells e.cells with
     |false=>simp[u]at h
     |true =>
      simp only[u,cond_true]at h;simp only[BJ,decide_eq_true_eq]at u;obtain⟨u,I⟩:=u;have I:=BH I;refine⟨_,h,λW a w O=>?_⟩;have hl:=jv hV O hx (by simp) (by simp[am]);obtain⟨A,H,hv,M,a0⟩:=hl;have hv:a.eval x=.slice A xs.length H:=by simpa using hv
      have J:=kc (P:=P) true xs.length H M (lo.map a.eval) (hi.map a.eval) i n u.1.1 u.1.2 u.2 (Y W a w lo 0 i O a9) (Y W a w hi _ n O Z) w;have hE:=dq (P:=P) (t:=E') (n:=e.cells) (by simp[bP,a1,a2,I]) w;have X:=Rd.cut (E:=E) (⟨A,H,rfl,M,a0⟩:Rd w (gd V W p) (.list false E e) xs [.slice A xs.length H]) i.toNat n.toNat (by omega) (by omega);refine aO hV O hd a6 (v:=.slice (if H=i.toNat then A else A.map (·.add (i.toNat*e.cells))) (n.toNat-i.toNat) (H-i.toNat)) ?_ X id rfl;simp only[execOp,a5,hv,CI,CP,BW,run_underlying hu,BS,CL,J,hE,B3]
    ·cases h
   ·rename_i E' e' a4 p E e xs ht hx;rw[ht]at h1;obtain⟨hu,_,_,_,_,ti,z,a1,a2,_⟩:=h1;split at h
    ·rename_i n Z;cases u:decide (0<=i)&&decide (i<=n)&&decide (n<=(xs.length:Int))&&BG e'.cells e.cells with
     |false=>simp[u]at h
     |true =>
      simp only[u,cond_true]at h;simp only[BJ,decide_eq_true_eq]at u;obtain⟨u,I⟩:=u;have I:=BH I;split at h
      ·rename_i r' j n' e1;refine⟨_,h,λW a w O=>?_⟩;obtain⟨r1,j1,n1,b2,h2,ad,_,b0⟩:=ug hV O hx;rw[e1]at b2;obtain⟨rfl,rfl,rfl⟩:r'=r1/\j=j1/\n'=n1:=by cases b2;exact⟨rfl,rfl,rfl⟩
       obtain⟨A,H,hv,M⟩:=ad.slice;have J:=kc (P:=P) true xs.length H M (lo.map a.eval) (hi.map a.eval) i n u.1.1 u.1.2 u.2 (Y W a w lo 0 i O a9) (Y W a w hi _ n O Z) w;have hE:=dq (P:=P) (t:=E') (n:=e.cells) (by simp[bP,a1,a2,I]) w;have b1:=OwH.rd (m:=false) (E':=E) ad;rw[hv]at b1;have X:=Rd.cut b1 i.toNat n.toNat (by omega) (by omega);refine aO hV O hd a6 (v:=.slice (if H=i.toNat then A else A.map (·.add (i.toNat*e.cells))) (n.toNat-i.toNat) (H-i.toNat)) ?_
        ⟨BO _,λk hk=>?_,λ_ _ _=>⟨Rd.mono (λk hk=>?_) X,λi' sz off he=>by cases he⟩⟩ id rfl
       ·simp only[execOp,a5,hv,CI,CP,BW,run_underlying hu,BS,CL,J,hE,B3]
       ·simp only[CV]at hk;subst hk;exact Nat.le_of_eq b0.symm
       ·rcases hk with hk|hk
        ·exact .inl hk
        ·exact .inr ⟨_,B6 _,hk⟩
      ·cases h
    ·cases h
   ·cases h
theorem zW (hV:ay V)(hT:TOk P T)(I:bM V o){c:Call}(J:o.op=.call c)(hc:c.callee=.builtin .len)(h:act Γ T o st κ=some r):bV P V o st κ r:=by
 simp only[act,wrU,J,hc]at h;split at h
 ·cases h
 ·rename_i d hd;simp only[hd]at h;split at h
  ·rename_i x hx;split at h
   ·rename_i t ht;have y:c.args=#[x]:=by rw[<- CQ (xs:=c.args),hx]
    have X:c.argTypes=#[t]:=by rw[<- CQ (xs:=c.argTypes),ht]
    have Y:=hT t;have H:∀ (a:Act) (w:World) (n:Int),(Ca #[t] o.type #[a.eval x]).run P w=.ok (.int .i64 n) w->(execOp a.eval o).run P w=.ok (.value (.int .i64 n)) w:=by
     intro a w n M;simp[execOp,J,hc,resolve,invoke,builtin,y,X,M]
    split at h
    ·rename_i E e b u;rw[u]at Y;split at h
     ·rename_i n M;refine⟨_,h,λW a w z=>aO hV z hd I (H a w _ ?_) rfl id rfl⟩;have Z:one st x≠.dead:=by intro e;rw[e]at M;simp[aC,f9]at M
      obtain⟨h2,h3,_⟩:=bt z x Z;obtain⟨A,a0,O⟩:=wP z h2 h3 M;have O:a.eval x=.slice A n a0:=by simpa using O
      simp[Ca,run_underlying Y.1,O,goInt]
     ·cases h
    ·rename_i s u a1;rw[u]at Y;refine⟨_,h,λW a w z=>aO hV z hd I (H a w _ ?_) rfl id rfl⟩;have O:a.eval x=.string s:=jv hV z a1 (by simp) (by simp[am]);simp[Ca,run_underlying Y.1,O,goInt]
    ·cases h
   ·cases h
  ·cases h
end
end Go.Proofs.YtaegajachoklkaaGreatEv
